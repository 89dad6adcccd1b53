/- What functions of this seat compute, in plain Lean. -/
import Derived.Test.YtkhdeldobekciaaGreatDoorMH
import Derived.Test.YtkhdeldobekciaaGreatDoorMVcF
set_option linter.unusedVariables false
set_option linter.unusedSimpArgs false
set_option maxRecDepth 100000
namespace Go.Proofs.YtkhdeldobekciaaGreatDoor
open Go.Vc
abbrev ak0 (a b : Int) : Done := ⟨[], .tup [one (.int .u64 a), one (.int .u64 b)], [], []⟩
namespace U
def fG : List Int := [2, 3, 5, 7, 11, 13, 17, 19, 23, 29, 31, 37, 41, 43, 47, 53, 59, 61, 67, 71, 73, 79, 83, 89, 97, 101, 103, 107, 109, 113, 127, 131, 137, 139, 149, 151, 157, 163, 167, 173, 179, 181, 191, 193, 197, 199, 211, 223, 227, 229, 233, 239, 241, 251, 257, 263, 269, 271, 277, 281, 283, 293, 307, 311]
def adp (x : Int) : Int := T.Ah .u64 x 4294967295
abbrev w64 := IntKind.wrap .u64
def ng (x y : Int) : Int :=
 let t := w64 (Int.add (w64 (Int.mul (shr .u64 x 32) (adp y))) (shr .u64 (w64 (Int.mul (adp x) (adp y))) 32))
 w64 (Int.add (w64 (Int.add (w64 (Int.mul (shr .u64 x 32) (shr .u64 y 32))) (shr .u64 t 32))) (shr .u64 (w64 (Int.add (adp t) (w64 (Int.mul (adp x) (shr .u64 y 32))))) 32))
def qm (x y : Int) : Int := w64 (Int.mul x y)
def prime (n : Int) : Bool := ((List.range 21).all fun d => decide (d < 2 ∨ n < d * d ∨ n % d ≠ 0)) && decide (n >= 2)
def uV (x bit : Int) : Int := w64 (Int.add x (shl .u64 1 (w64 bit).toNat))
def agU (p y : Int) : Bool := decide (ng y y < p) || (decide (ng y y = p) && decide (qm y y = 0))
def sqN (p : Int) : Nat -> Int
 | 0 => 0
 | k + 1 => let x := sqN p k; let y := uV x (36 - (k : Int)); cond (agU p y) y x
def square (p : Int) : Int := IntKind.wrap .u32 (sqN p 37)
def agV (p y : Int) : Bool :=
 let hi := ng y y; let lo := qm y y
 let s := ng lo y + qm hi y + 0
 let want := shl .u64 p 32
 decide (w64 (Int.add (ng hi y) (s / 18446744073709551616)) = 0) && (decide (s % 18446744073709551616 < want) || (decide (s % 18446744073709551616 = want) && decide (qm lo y = 0)))
def cbN (p : Int) : Nat -> Int
 | 0 => 0
 | k + 1 => let x := cbN p k; let y := uV x (36 - (k : Int)); cond (agV p y) y x
def cube (p : Int) : Int := IntKind.wrap .u32 (cbN p 37)
@[irreducible] def consts : List Int := fG.map cube
@[irreducible] def Dk : List Int := (fG.take 8).map square
def wp (b : List Int) (t : Nat) : Nat -> Int
 | 0 => 0
 | i + 1 => add32 (IntKind.wrap .u32 (Int.mul (wp b t i) 256)) (IntKind.wrap .u32 (b.getD (4 * t + i) 0))
def vG (b : List Int) (t : Nat) : List Int := (List.range t).map fun t => wp b t 4
def RH (l : List Int) : Int :=
 let x := l.getD (l.length - 15) 0; let y := l.getD (l.length - 2) 0
 add32 (add32 (add32 (dB (dB (rot y 17) (rot y 19)) (shr .u32 y 10)) (l.getD (l.length - 7) 0)) (dB (dB (rot x 7) (rot x 18)) (shr .u32 x 3))) (l.getD (l.length - 16) 0)
def jK (b : List Int) : Nat -> List Int
 | 0 => vG b 16
 | k + 1 => jK b k ++ [RH (jK b k)]
@[irreducible] def ni (b : List Int) : List Int := jK b 48
def rt1 (k w : Int) (v : List Int) : Int :=
 let e := v.getD 4 0
 add32 (add32 (add32 (add32 (v.getD 7 0) (dB (dB (rot e 6) (rot e 11)) (rot e 25))) (dB (eY e (v.getD 5 0)) (eY (agO e) (v.getD 6 0)))) k) w
def rt2 (v : List Int) : Int :=
 let a := v.getD 0 0; let b := v.getD 1 0; let c := v.getD 2 0
 add32 (dB (dB (rot a 2) (rot a 13)) (rot a 22)) (dB (dB (eY a b) (eY a c)) (eY b c))
def akq (k w : Int) (v : List Int) : List Int := [add32 (rt1 k w v) (rt2 v), v.getD 0 0, v.getD 1 0, v.getD 2 0, add32 (v.getD 3 0) (rt1 k w v), v.getD 4 0, v.getD 5 0, v.getD 6 0]
def uX (k w : List Int) : Nat -> List Int -> List Int
 | 0, v => v
 | t + 1, v => akq (k.getD t 0) (w.getD t 0) (uX k w t v)
def Bz (h b k : List Int) : List Int := List.zipWith add32 (uX k (ni b) 64 h) h
@[irreducible] def wQ (b : List Int) : List Int := (chunks 64 (pad b)).foldl (fun h c => Bz h c consts) Dk
end U
namespace U
def ny (n : Int) (d : Int) : St2 := ⟨⟨[sK .u64 n] ++ U.n 2 ++ [sK .u64 d] ++ U.n 13, [], []⟩, 0, []⟩
def oL (n : Int)  (d : Int) : Prop := 2 <= d /\ d <= 21 /\ ∀ e : Int, 2 <= e -> e < d -> n % e ≠ 0
def iD (n : Int) (o : List Int) (p : Int) : St2 := ⟨⟨[sI n] ++ U.n 2 ++ [own 0] ++ [sK .u64 p] ++ U.n 13, [], [(0, .row 67 (.int .u64) true true o)]⟩, 1, []⟩
def jL (n : Int)  (o : List Int) (p : Int) : Prop := 2 <= p /\ p <= 312 /\ o = fG.filter (fun q => decide (q < p)) /\ o.length <= n
def iE (p : Int) (z : Int) (bit : Int) : St2 := ⟨⟨[sK .u64 p] ++ U.n 2 ++ [sK .u64 z] ++ [sI bit] ++ U.n 33, [], []⟩, 0, []⟩
def jM (p : Int)  (z : Int) (bit : Int) : Prop := -1 <= bit /\ bit <= 36 /\ z = sqN p (36 - bit).toNat
def jk (p : Int) (z : Int) (bit : Int) : St2 := ⟨⟨[sK .u64 p] ++ U.n 2 ++ [sK .u64 z] ++ [sI bit] ++ U.n 68, [], []⟩, 0, []⟩
def lU (p : Int)  (z : Int) (bit : Int) : Prop := -1 <= bit /\ bit <= 36 /\ z = cbN p (36 - bit).toNat
def jd  (w : List Int) (i : Int) : St2 := ⟨⟨[sP 0 0] ++ [sP 1 0] ++ [sL true (.int .u64) (fG.take 64)] ++ [sI i] ++ U.n 13, [], [(0, .obj [.arr 64 true (.int .u32) (List.replicate 64 0)]), (1, .obj [.arr 64 true (.int .u32) w])]⟩, 2, []⟩
def jF   (w : List Int) (i : Int) : Prop := 0 <= i /\ i <= 64 /\ w = fA 64 ((fG.take i.toNat).map cube)
def nC  (w : List Int) (i : Int) : St2 := ⟨⟨[sP 0 0] ++ [sP 1 0] ++ [sL true (.int .u64) (fG.take 8)] ++ [sI i] ++ U.n 13, [], [(0, .obj [.arr 8 true (.int .u32) (List.replicate 8 0)]), (1, .obj [.arr 8 true (.int .u32) w])]⟩, 2, []⟩
def oM   (w : List Int) (i : Int) : Prop := 0 <= i /\ i <= 8 /\ w = fA 8 ((fG.take i.toNat).map square)
def oN (h bl kk : List Int) (w : List Int) (t : Int) : St2 := ⟨⟨U.n 1 ++ [sL false (.int .u8) bl] ++ U.n 1 ++ [sP 0 0] ++ U.n 1 ++ [sP 1 0] ++ [sP 2 0] ++ [sP 3 0] ++ [sI t] ++ U.n 172, [], [(0, .obj [.arr 8 true (.int .u32) h]), (1, .obj [.arr 64 true (.int .u32) kk]), (2, .obj [.arr 8 true (.int .u32) (List.replicate 8 0)]), (3, .obj [.arr 64 true (.int .u32) w])]⟩, 4, []⟩
def qJ (h bl kk : List Int)  (w : List Int) (t : Int) : Prop := 0 <= t /\ t <= 16 /\ w = fA 64 (vG bl t.toNat)
def oO (h bl kk : List Int) (w : List Int) (t : Int) (i : Int) : St2 := ⟨⟨U.n 1 ++ [sL false (.int .u8) bl] ++ U.n 1 ++ [sP 0 0] ++ U.n 1 ++ [sP 1 0] ++ [sP 2 0] ++ [sP 3 0] ++ [sI t] ++ [sI i] ++ U.n 171, [], [(0, .obj [.arr 8 true (.int .u32) h]), (1, .obj [.arr 64 true (.int .u32) kk]), (2, .obj [.arr 8 true (.int .u32) (List.replicate 8 0)]), (3, .obj [.arr 64 true (.int .u32) w])]⟩, 4, []⟩
def qK (h bl kk : List Int) (w' : List Int) (t' : Int) (i' : Int) (w : List Int) (t : Int) (i : Int) : Prop :=  t = t' /\ 0 <= t /\ t < 16 /\ 0 <= i /\ i <= 4 /\ w = fA 64 (vG bl t.toNat ++ [wp bl t.toNat i.toNat])
def nD (h bl kk : List Int) (w : List Int) (t : Int) : St2 := ⟨⟨U.n 3 ++ [sP 0 0] ++ U.n 1 ++ [sP 1 0] ++ [sP 2 0] ++ [sP 3 0] ++ U.n 2 ++ [sI t] ++ U.n 170, [], [(0, .obj [.arr 8 true (.int .u32) h]), (1, .obj [.arr 64 true (.int .u32) kk]), (2, .obj [.arr 8 true (.int .u32) (List.replicate 8 0)]), (3, .obj [.arr 64 true (.int .u32) w])]⟩, 4, []⟩
def oP (h bl kk : List Int)  (w : List Int) (t : Int) : Prop := 16 <= t /\ t <= 64 /\ w = fA 64 (jK bl (t.toNat - 16))
def nG (h bl kk : List Int) (w : List Int) (v : List Int) (t : Int) : St2 := ⟨⟨U.n 3 ++ [sP 0 0] ++ U.n 1 ++ [sP 1 0] ++ [sP 2 0] ++ [sP 3 0] ++ U.n 5 ++ [sP 4 0] ++ [sI t] ++ U.n 166, [], [(0, .obj [.arr 8 true (.int .u32) h]), (1, .obj [.arr 64 true (.int .u32) kk]), (2, .obj [.arr 8 true (.int .u32) (List.replicate 8 0)]), (3, .obj [.arr 64 true (.int .u32) w]), (4, .obj [.arr 8 true (.int .u32) v])]⟩, 5, []⟩
def oQ (h bl kk : List Int)  (w : List Int) (v : List Int) (t : Int) : Prop := w = ni bl /\ 0 <= t /\ t <= 64 /\ v = uX kk (ni bl) t.toNat h
def nH (h bl kk : List Int) (v : List Int) (i : Int) : St2 := ⟨⟨U.n 3 ++ [sP 0 0] ++ U.n 2 ++ [sP 1 0] ++ U.n 6 ++ [sP 2 0] ++ U.n 9 ++ [sI i] ++ U.n 157, [], [(0, .obj [.arr 8 true (.int .u32) h]), (1, .obj [.arr 8 true (.int .u32) (List.replicate 8 0)]), (2, .obj [.arr 8 true (.int .u32) v])]⟩, 3, []⟩
def oU (h bl kk : List Int)  (v : List Int) (i : Int) : Prop := 0 <= i /\ i <= 8 /\ v = List.zipWith add32 ((uX kk (ni bl) 64 h).take i.toNat) h ++ (uX kk (ni bl) 64 h).drop i.toNat
def qL (b : List Int) (o : List Int) : St2 := ⟨⟨[sL false (.int .u8) b] ++ U.n 2 ++ [own 0] ++ U.n 32, [], [(0, .row 5 (.int .u8) true true o)]⟩, 1, []⟩
def uf (b : List Int)  (o : List Int) : Prop := ∃ m, m <= zeros b.length /\ o = b ++ (128 :: List.replicate m 0)
def qM (b : List Int) (o : List Int) (n : Int) (i : Int) : St2 := ⟨⟨U.n 3 ++ [own 0] ++ [sK .u64 n] ++ [sI i] ++ U.n 30, [], [(0, .row 5 (.int .u8) true true o)]⟩, 1, []⟩
def ug (b : List Int)  (o : List Int) (n : Int) (i : Int) : Prop := n = (b.length : Int) * 8 /\ -1 <= i /\ i <= 7 /\ o = b ++ (128 :: (List.replicate (zeros b.length) 0 ++ (be8 8 (b.length * 8)).take (7 - i).toNat))
def qN (b : List Int) (h : List Int) (i : Int) : St2 := ⟨⟨U.n 2 ++ [sP 0 0] ++ [sP 1 0] ++ [sP 2 0] ++ [sL true (.int .u8) (pad b)] ++ [sI i] ++ U.n 38, [], [(0, .obj [.arr 32 true (.int .u8) (List.replicate 32 0)]), (1, .obj [.arr 8 true (.int .u32) h]), (2, .obj [.arr 64 true (.int .u32) consts])]⟩, 3, []⟩
def uh (b : List Int)  (h : List Int) (i : Int) : Prop := 0 <= i /\ i <= (pad b).length /\ ∃ k : Nat, i = 64 * (k : Int) /\ h = ((chunks 64 (pad b)).take k).foldl (fun h c => Bz h c consts) Dk
def qO (b : List Int) (h : List Int) (s : List Int) (i : Int) : St2 := ⟨⟨U.n 2 ++ [sP 0 0] ++ [sP 1 0] ++ U.n 3 ++ [sP 2 0] ++ [sI i] ++ U.n 36, [], [(0, .obj [.arr 32 true (.int .u8) (List.replicate 32 0)]), (1, .obj [.arr 8 true (.int .u32) h]), (2, .obj [.arr 32 true (.int .u8) s])]⟩, 3, []⟩
def um (b : List Int)  (h : List Int) (s : List Int) (i : Int) : Prop := h = wQ b /\ 0 <= i /\ i <= 32 /\ s = (qj (wQ b)).take i.toNat ++ List.replicate (32 - i.toNat) 0
end U
def Xi (n : Int) : Vc.Loop := ⟨{ keep := [0, 3] }, Int, fun x => U.ny n x, fun x0 x => U.oL n  x, fun x => (22 - x).toNat⟩
def UZ (n : Int) : Vc.Loop := ⟨{ keep := [0, 3, 4], wake := [(3, 67)] }, List Int × Int, fun x => U.iD n x.1 x.2, fun x0 x => U.jL n  x.1 x.2, fun x => (312 - x.2).toNat⟩
def U0 (p : Int) : Vc.Loop := ⟨{ keep := [0, 3, 4] }, Int × Int, fun x => U.iE p x.1 x.2, fun x0 x => U.jM p  x.1 x.2, fun x => (x.2 + 1).toNat⟩
def Yn (p : Int) : Vc.Loop := ⟨{ keep := [0, 3, 4] }, Int × Int, fun x => U.jk p x.1 x.2, fun x0 x => U.lU p  x.1 x.2, fun x => (x.2 + 1).toNat⟩
def Og  : Vc.Loop := ⟨{ keep := [0, 1, 2, 3] }, List Int × Int, fun x => U.jd  x.1 x.2, fun x0 x => U.jF   x.1 x.2, fun x => 64 - x.2.toNat⟩
def Xj  : Vc.Loop := ⟨{ keep := [0, 1, 2, 3] }, List Int × Int, fun x => U.nC  x.1 x.2, fun x0 x => U.oM   x.1 x.2, fun x => 8 - x.2.toNat⟩
def Yo (h bl kk : List Int) : Vc.Loop := ⟨{ keep := [1, 3, 5, 6, 7, 8] }, List Int × Int, fun x => U.oN h bl kk x.1 x.2, fun x0 x => U.qJ h bl kk  x.1 x.2, fun x => 16 - x.2.toNat⟩
def Yp (h bl kk : List Int) : Vc.Loop := ⟨{ keep := [1, 3, 5, 6, 7, 8, 9] }, List Int × Int × Int, fun x => U.oO h bl kk x.1 x.2.1 x.2.2, fun x0 x => U.qK h bl kk x0.1 x0.2.1 x0.2.2 x.1 x.2.1 x.2.2, fun x => 4 - x.2.2.toNat⟩
def Xk (h bl kk : List Int) : Vc.Loop := ⟨{ keep := [3, 5, 6, 7, 10] }, List Int × Int, fun x => U.nD h bl kk x.1 x.2, fun x0 x => U.oP h bl kk  x.1 x.2, fun x => 64 - x.2.toNat⟩
def Xl (h bl kk : List Int) : Vc.Loop := ⟨{ keep := [3, 5, 6, 7, 13, 14] }, List Int × List Int × Int, fun x => U.nG h bl kk x.1 x.2.1 x.2.2, fun x0 x => U.oQ h bl kk  x.1 x.2.1 x.2.2, fun x => 64 - x.2.2.toNat⟩
def Xm (h bl kk : List Int) : Vc.Loop := ⟨{ keep := [3, 6, 13, 23] }, List Int × Int, fun x => U.nH h bl kk x.1 x.2, fun x0 x => U.oU h bl kk  x.1 x.2, fun x => 8 - x.2.toNat⟩
def Z9 (b : List Int) : Vc.Loop := ⟨{ keep := [0, 3] }, List Int, fun x => U.qL b x, fun x0 x => U.uf b  x, fun x => (b.length + 1 + U.zeros b.length) - x.length⟩
def aac (b : List Int) : Vc.Loop := ⟨{ keep := [3, 4, 5] }, List Int × Int × Int, fun x => U.qM b x.1 x.2.1 x.2.2, fun x0 x => U.ug b  x.1 x.2.1 x.2.2, fun x => (x.2.2 + 1).toNat⟩
def aad (b : List Int) : Vc.Loop := ⟨{ keep := [2, 3, 4, 5, 6] }, List Int × Int, fun x => U.qN b x.1 x.2, fun x0 x => U.uh b  x.1 x.2, fun x => (U.pad b).length - x.2.toNat⟩
def aae (b : List Int) : Vc.Loop := ⟨{ keep := [2, 3, 7, 8] }, List Int × List Int × Int, fun x => U.qO b x.1 x.2.1 x.2.2, fun x0 x => U.um b  x.1 x.2.1 x.2.2, fun x => 32 - x.2.2.toNat⟩
def Hq : Vc.Sum := .pure [.int .u64, .int .u64, .int .u64] false fun x => ahG x.1 x.2.1 x.2.2
def qo : List (Nat × Ent) := (91, .sum Hq) :: adk
def xC (x : Int) (y : Int) : Done := ak0 (U.ng x y) (U.qm x y)
def Hr : Vc.Sum := .pure [.int .u64, .int .u64] false fun x => xC x.1 x.2
def Ht (x : Int) (y : Int) : Nat -> List V -> Nat -> Option Vc.Loop := bZ
def qp : List (Nat × Ent) := (90, .sum Hr) :: qo
def zB (n : Int) : Done := ⟨[0 <= n /\ n <= 400], .one (.bool (U.prime n)), [], []⟩
def QB : Vc.Sum := .pure [.int .u64] false fun x => zB x
def QC (n : Int) : Nat -> List V -> Nat -> Option Vc.Loop := fun f v k => cond (Nat.beq f 89 && Nat.beq k 2) (some (Xi n)) <| none
def zC : List (Nat × Ent) := (89, .sum QB) :: qp
def wR (n : Int) : Done := ⟨[0 <= n /\ n <= 64], .one (.psl true (.int .u64) (U.fG.take n.toNat)), [], []⟩
def NH : Vc.Sum := .pure [.int .i64] false fun x => wR x
def NI (n : Int) : Nat -> List V -> Nat -> Option Vc.Loop := fun f v k => cond (Nat.beq f 71 && Nat.beq k 3) (some (UZ n)) <| none
def wS : List (Nat × Ent) := (71, .sum NH) :: zC
def D5 (p : Int) : Done := rK .u32 (U.square p)
def NJ : Vc.Sum := .pure [.int .u64] false fun x => D5 x
def NK (p : Int) : Nat -> List V -> Nat -> Option Vc.Loop := fun f v k => cond (Nat.beq f 72 && Nat.beq k 3) (some (U0 p)) <| none
def wU : List (Nat × Ent) := (72, .sum NJ) :: wS
def Jy (p : Int) : Done := rK .u32 (U.cube p)
def Uc : Vc.Sum := .pure [.int .u64] false fun x => Jy x
def Ud (p : Int) : Nat -> List V -> Nat -> Option Vc.Loop := fun f v k => cond (Nat.beq f 73 && Nat.beq k 3) (some (Yn p)) <| none
def BA : List (Nat × Ent) := (73, .sum Uc) :: wU
def xE  : Done := ⟨[], .v (.of true Yk U.consts), [], []⟩
def Hu : Vc.Sum := .pure [] false fun _ => xE
def Hw  : Nat -> List V -> Nat -> Option Vc.Loop := fun f v k => cond (Nat.beq f 47 && Nat.beq k 4) (some (Og)) <| none
def qw : List (Nat × Ent) := (47, .sum Hu) :: BA
def Hy  : Done := ⟨[], .v (.of true tW8 U.Dk), [], []⟩
def QD : Vc.Sum := .pure [] false fun _ => Hy
def QE  : Nat -> List V -> Nat -> Option Vc.Loop := fun f v k => cond (Nat.beq f 46 && Nat.beq k 4) (some (Xj)) <| none
def zD : List (Nat × Ent) := (46, .sum QD) :: qw
def MG (x : Int) (n : Int) : Done := rK .u32 (U.rot x n)
def Xn : Vc.Sum := .pure [.int .u32, .int .u64] false fun x => MG x.1 x.2
def Xo (x : Int) (n : Int) : Nat -> List V -> Nat -> Option Vc.Loop := bZ
def Fh : List (Nat × Ent) := (74, .sum Xn) :: zD
def BD (h : List Int) (b : List Int) (kk : List Int) : Done := ⟨[64 <= b.length], .v (.of false tW8 (U.Bz h b kk)), [], []⟩
def Ue : Vc.Sum := .pure [tW8, aF, Yk] true fun x => BD x.1 x.2.1 x.2.2
def Uf (h : List Int) (b : List Int) (kk : List Int) : Nat -> List V -> Nat -> Option Vc.Loop := fun f v k => cond (Nat.beq f 49 && Nat.beq k 3) (some (Yo h b kk)) <| cond (Nat.beq f 49 && Nat.beq k 6) (some (Yp h b kk)) <| cond (Nat.beq f 49 && Nat.beq k 10) (some (Xk h b kk)) <| cond (Nat.beq f 49 && Nat.beq k 16) (some (Xl h b kk)) <| cond (Nat.beq f 49 && Nat.beq k 23) (some (Xm h b kk)) <| none
def BF : List (Nat × Ent) := (49, .sum Ue) :: Fh
def Fj (b : List Int) : Done := ⟨[b.length <= 1000000000000], .one (.psl true (.int .u8) (U.pad b)), [], []⟩
def Xp : Vc.Sum := .pure [aF] false fun x => Fj x
def Xq (b : List Int) : Nat -> List V -> Nat -> Option Vc.Loop := fun f v k => cond (Nat.beq f 48 && Nat.beq k 2) (some (Z9 b)) <| cond (Nat.beq f 48 && Nat.beq k 6) (some (aac b)) <| none
def Fp : List (Nat × Ent) := (48, .sum Xp) :: BF
def Fq (b : List Int) : Done := ⟨[b.length <= 1000000000000], .v (.of true akp (U.qj (U.wQ b))), [], []⟩
def Xr : Vc.Sum := .pure [aF] false fun x => Fq x
def Xt (b : List Int) : Nat -> List V -> Nat -> Option Vc.Loop := fun f v k => cond (Nat.beq f 23 && Nat.beq k 4) (some (aad b)) <| cond (Nat.beq f 23 && Nat.beq k 9) (some (aae b)) <| none
def Fv : List (Nat × Ent) := (23, .sum Xr) :: Fp
end Go.Proofs.YtkhdeldobekciaaGreatDoor
set_option maxRecDepth 100000
set_option linter.unusedVariables false
namespace Go.Proofs.YtkhdeldobekciaaGreatDoor
open Go.Vc
def Eu (x : Int) (y : Int) : Prop :=
 (0 : Int) <= (32 : Int) /\
 (0 : Int) <= (32 : Int) /\
 (0 : Int) <= (32 : Int) /\
 (0 : Int) <= (32 : Int) /\
 (0 : Int) <= (32 : Int) /\
 IntKind.u64.wrap
 ((IntKind.u64.wrap
 ((IntKind.u64.wrap
 ((x.fdiv
 (Int.pow (2 : Int)
 (if Int.toNat (32 : Int) <= IntKind.u64.bits then Int.toNat (32 : Int)
 else IntKind.u64.bits))).mul
 (y.fdiv
 (Int.pow (2 : Int)
 (if Int.toNat (32 : Int) <= IntKind.u64.bits then Int.toNat (32 : Int)
 else IntKind.u64.bits))))).add
 ((IntKind.u64.wrap
 ((IntKind.u64.wrap
 ((x.fdiv
 (Int.pow (2 : Int)
 (if Int.toNat (32 : Int) <= IntKind.u64.bits then Int.toNat (32 : Int)
 else IntKind.u64.bits))).mul
 (IntKind.u64.wrap
 (↑((BitVec.ofInt IntKind.u64.bits y).and
 (BitVec.ofInt IntKind.u64.bits (4294967295 : Int))).toNat :
 Int)))).add
 ((IntKind.u64.wrap
 ((IntKind.u64.wrap
 (↑((BitVec.ofInt IntKind.u64.bits x).and
 (BitVec.ofInt IntKind.u64.bits (4294967295 : Int))).toNat :
 Int)).mul
 (IntKind.u64.wrap
 (↑((BitVec.ofInt IntKind.u64.bits y).and
 (BitVec.ofInt IntKind.u64.bits (4294967295 : Int))).toNat :
 Int)))).fdiv
 (Int.pow (2 : Int)
 (if Int.toNat (32 : Int) <= IntKind.u64.bits then Int.toNat (32 : Int)
 else IntKind.u64.bits))))).fdiv
 (Int.pow (2 : Int)
 (if Int.toNat (32 : Int) <= IntKind.u64.bits then Int.toNat (32 : Int)
 else IntKind.u64.bits))))).add
 ((IntKind.u64.wrap
 ((IntKind.u64.wrap
 (↑((BitVec.ofInt IntKind.u64.bits
 (IntKind.u64.wrap
 ((IntKind.u64.wrap
 ((x.fdiv
 (Int.pow (2 : Int)
 (if Int.toNat (32 : Int) <= IntKind.u64.bits then
 Int.toNat (32 : Int)
 else IntKind.u64.bits))).mul
 (IntKind.u64.wrap
 (↑((BitVec.ofInt IntKind.u64.bits y).and
 (BitVec.ofInt IntKind.u64.bits
 (4294967295 : Int))).toNat :
 Int)))).add
 ((IntKind.u64.wrap
 ((IntKind.u64.wrap
 (↑((BitVec.ofInt IntKind.u64.bits x).and
 (BitVec.ofInt IntKind.u64.bits
 (4294967295 : Int))).toNat :
 Int)).mul
 (IntKind.u64.wrap
 (↑((BitVec.ofInt IntKind.u64.bits y).and
 (BitVec.ofInt IntKind.u64.bits
 (4294967295 : Int))).toNat :
 Int)))).fdiv
 (Int.pow (2 : Int)
 (if Int.toNat (32 : Int) <= IntKind.u64.bits then
 Int.toNat (32 : Int)
 else IntKind.u64.bits)))))).and
 (BitVec.ofInt IntKind.u64.bits (4294967295 : Int))).toNat :
 Int)).add
 (IntKind.u64.wrap
 ((IntKind.u64.wrap
 (↑((BitVec.ofInt IntKind.u64.bits x).and
 (BitVec.ofInt IntKind.u64.bits (4294967295 : Int))).toNat :
 Int)).mul
 (y.fdiv
 (Int.pow (2 : Int)
 (if Int.toNat (32 : Int) <= IntKind.u64.bits then Int.toNat (32 : Int)
 else IntKind.u64.bits))))))).fdiv
 (Int.pow (2 : Int)
 (if Int.toNat (32 : Int) <= IntKind.u64.bits then Int.toNat (32 : Int)
 else IntKind.u64.bits)))) =
 U.ng x y /\
 IntKind.u64.wrap (x.mul y) = U.qm x y /\ True
def D6 (n : Int) : Prop :=
 ∃ (x0 : Int),
 (U.ny n (2 : Int) = U.ny n x0 /\ U.oL n x0) /\
 ∀ (x : Int),
 U.oL n x ->
 bif decide (IntKind.u64.wrap (x.mul x) <= n) then
 x ≠ (0 : Int) /\
 bif decide (n.tmod x = (0 : Int)) then false = U.prime n /\ True
 else
 ∃ (y : Int),
 U.ny n (IntKind.u64.wrap (x.add (1 : Int))) = U.ny n y /\
 U.oL n y /\ (Int.sub (22 : Int) y).toNat < (Int.sub (22 : Int) x).toNat
 else decide (n >= (2 : Int)) = U.prime n /\ True
def AO (n : Int) : Prop :=
 ∃ (x0 : List Int × Int),
 (U.iD n [] (2 : Int) = U.iD n x0.1 x0.2 /\ U.jL n x0.1 x0.2) /\
 ∀ (x : List Int × Int),
 U.jL n x.1 x.2 ->
 bif decide ((↑x.1.length : Int) < n) then
 ((0 : Int) <= x.2 /\ x.2 <= (400 : Int)) /\
 bif U.prime x.2 then
 (x.1.length.add ((1 : Nat))).mul (8 : Nat) <= (140737488355328 : Nat) /\
 x.1.length.add ((1 : Nat)) <= maxLen /\
 ∃ (y : List Int × Int),
 U.iD n (x.1.append ([(0 : Int)].set (0 : Nat) x.2))
 (IntKind.u64.wrap (x.2.add (1 : Int))) =
 U.iD n y.1 y.2 /\
 U.jL n y.1 y.2 /\
 (Int.sub (312 : Int) y.2).toNat < (Int.sub (312 : Int) x.2).toNat
 else
 ∃ (y : List Int × Int),
 U.iD n x.1 (IntKind.u64.wrap (x.2.add (1 : Int))) =
 U.iD n y.1 y.2 /\
 U.jL n y.1 y.2 /\
 (Int.sub (312 : Int) y.2).toNat < (Int.sub (312 : Int) x.2).toNat
 else x.1 = List.take n.toNat U.fG /\ True
def AP (p : Int) : Prop :=
 ∃ (x0 : Int × Int),
 (U.iE p (0 : Int) (36 : Int) = U.iE p x0.1 x0.2 /\
 U.jM p x0.1 x0.2) /\
 ∀ (x : Int × Int),
 U.jM p x.1 x.2 ->
 bif decide (x.2 >= (0 : Int)) then
 (0 : Int) <= IntKind.u64.wrap x.2 /\
 bif
 bif
 decide
 (U.ng
 (IntKind.u64.wrap
 (x.1.add
 (IntKind.u64.wrap
 (Int.mul (1 : Int)
 (Int.pow (2 : Int)
 (if (IntKind.u64.wrap x.2).toNat <= IntKind.u64.bits then
 (IntKind.u64.wrap x.2).toNat
 else IntKind.u64.bits))))))
 (IntKind.u64.wrap
 (x.1.add
 (IntKind.u64.wrap
 (Int.mul (1 : Int)
 (Int.pow (2 : Int)
 (if (IntKind.u64.wrap x.2).toNat <= IntKind.u64.bits then
 (IntKind.u64.wrap x.2).toNat
 else IntKind.u64.bits)))))) <
 p) then
 true
 else
 bif
 decide
 (U.ng
 (IntKind.u64.wrap
 (x.1.add
 (IntKind.u64.wrap
 (Int.mul (1 : Int)
 (Int.pow (2 : Int)
 (if (IntKind.u64.wrap x.2).toNat <= IntKind.u64.bits then
 (IntKind.u64.wrap x.2).toNat
 else IntKind.u64.bits))))))
 (IntKind.u64.wrap
 (x.1.add
 (IntKind.u64.wrap
 (Int.mul (1 : Int)
 (Int.pow (2 : Int)
 (if (IntKind.u64.wrap x.2).toNat <= IntKind.u64.bits then
 (IntKind.u64.wrap x.2).toNat
 else IntKind.u64.bits)))))) =
 p) then
 decide
 (U.qm
 (IntKind.u64.wrap
 (x.1.add
 (IntKind.u64.wrap
 (Int.mul (1 : Int)
 (Int.pow (2 : Int)
 (if (IntKind.u64.wrap x.2).toNat <= IntKind.u64.bits then
 (IntKind.u64.wrap x.2).toNat
 else IntKind.u64.bits))))))
 (IntKind.u64.wrap
 (x.1.add
 (IntKind.u64.wrap
 (Int.mul (1 : Int)
 (Int.pow (2 : Int)
 (if (IntKind.u64.wrap x.2).toNat <= IntKind.u64.bits then
 (IntKind.u64.wrap x.2).toNat
 else IntKind.u64.bits)))))) =
 (0 : Int))
 else false then
 ∃ (y : Int × Int),
 U.iE p
 (IntKind.u64.wrap
 (x.1.add
 (IntKind.u64.wrap
 (Int.mul (1 : Int)
 (Int.pow (2 : Int)
 (if (IntKind.u64.wrap x.2).toNat <= IntKind.u64.bits then
 (IntKind.u64.wrap x.2).toNat
 else IntKind.u64.bits))))))
 (IntKind.i64.wrap (x.2.sub (1 : Int))) =
 U.iE p y.1 y.2 /\
 U.jM p y.1 y.2 /\ (y.2.add (1 : Int)).toNat < (x.2.add (1 : Int)).toNat
 else
 ∃ (y : Int × Int),
 U.iE p x.1 (IntKind.i64.wrap (x.2.sub (1 : Int))) =
 U.iE p y.1 y.2 /\
 U.jM p y.1 y.2 /\ (y.2.add (1 : Int)).toNat < (x.2.add (1 : Int)).toNat
 else IntKind.u32.wrap x.1 = U.square p /\ True
def Hz (p : Int) : Prop :=
 ∃ (x0 : Int × Int),
 (U.jk p (0 : Int) (36 : Int) = U.jk p x0.1 x0.2 /\ U.lU p x0.1 x0.2) /\
 ∀ (x : Int × Int),
 U.lU p x.1 x.2 ->
 bif decide (x.2 >= (0 : Int)) then
 (0 : Int) <= IntKind.u64.wrap x.2 /\
 ((0 : Int) <= (0 : Int) /\ (0 : Int) <= (1 : Int)) /\
 (0 : Int) <= (32 : Int) /\
 bif
 bif
 decide
 (IntKind.u64.wrap
 ((U.ng
 (U.ng
 (IntKind.u64.wrap
 (x.1.add
 (IntKind.u64.wrap
 (Int.mul (1 : Int)
 (Int.pow (2 : Int)
 (if (IntKind.u64.wrap x.2).toNat <= IntKind.u64.bits then
 (IntKind.u64.wrap x.2).toNat
 else IntKind.u64.bits))))))
 (IntKind.u64.wrap
 (x.1.add
 (IntKind.u64.wrap
 (Int.mul (1 : Int)
 (Int.pow (2 : Int)
 (if (IntKind.u64.wrap x.2).toNat <= IntKind.u64.bits then
 (IntKind.u64.wrap x.2).toNat
 else IntKind.u64.bits)))))))
 (IntKind.u64.wrap
 (x.1.add
 (IntKind.u64.wrap
 (Int.mul (1 : Int)
 (Int.pow (2 : Int)
 (if (IntKind.u64.wrap x.2).toNat <= IntKind.u64.bits then
 (IntKind.u64.wrap x.2).toNat
 else IntKind.u64.bits))))))).add
 ((((U.ng
 (U.qm
 (IntKind.u64.wrap
 (x.1.add
 (IntKind.u64.wrap
 (Int.mul (1 : Int)
 (Int.pow (2 : Int)
 (if (IntKind.u64.wrap x.2).toNat <= IntKind.u64.bits then
 (IntKind.u64.wrap x.2).toNat
 else IntKind.u64.bits))))))
 (IntKind.u64.wrap
 (x.1.add
 (IntKind.u64.wrap
 (Int.mul (1 : Int)
 (Int.pow (2 : Int)
 (if (IntKind.u64.wrap x.2).toNat <= IntKind.u64.bits then
 (IntKind.u64.wrap x.2).toNat
 else IntKind.u64.bits)))))))
 (IntKind.u64.wrap
 (x.1.add
 (IntKind.u64.wrap
 (Int.mul (1 : Int)
 (Int.pow (2 : Int)
 (if (IntKind.u64.wrap x.2).toNat <= IntKind.u64.bits then
 (IntKind.u64.wrap x.2).toNat
 else IntKind.u64.bits))))))).add
 (U.qm
 (U.ng
 (IntKind.u64.wrap
 (x.1.add
 (IntKind.u64.wrap
 (Int.mul (1 : Int)
 (Int.pow (2 : Int)
 (if (IntKind.u64.wrap x.2).toNat <= IntKind.u64.bits then
 (IntKind.u64.wrap x.2).toNat
 else IntKind.u64.bits))))))
 (IntKind.u64.wrap
 (x.1.add
 (IntKind.u64.wrap
 (Int.mul (1 : Int)
 (Int.pow (2 : Int)
 (if (IntKind.u64.wrap x.2).toNat <= IntKind.u64.bits then
 (IntKind.u64.wrap x.2).toNat
 else IntKind.u64.bits)))))))
 (IntKind.u64.wrap
 (x.1.add
 (IntKind.u64.wrap
 (Int.mul (1 : Int)
 (Int.pow (2 : Int)
 (if (IntKind.u64.wrap x.2).toNat <= IntKind.u64.bits then
 (IntKind.u64.wrap x.2).toNat
 else IntKind.u64.bits)))))))).add
 (0 : Int)).ediv
 (18446744073709551616 : Int))) =
 (0 : Int)) then
 bif
 decide
 ((((U.ng
 (U.qm
 (IntKind.u64.wrap
 (x.1.add
 (IntKind.u64.wrap
 (Int.mul (1 : Int)
 (Int.pow (2 : Int)
 (if (IntKind.u64.wrap x.2).toNat <= IntKind.u64.bits then
 (IntKind.u64.wrap x.2).toNat
 else IntKind.u64.bits))))))
 (IntKind.u64.wrap
 (x.1.add
 (IntKind.u64.wrap
 (Int.mul (1 : Int)
 (Int.pow (2 : Int)
 (if (IntKind.u64.wrap x.2).toNat <= IntKind.u64.bits then
 (IntKind.u64.wrap x.2).toNat
 else IntKind.u64.bits)))))))
 (IntKind.u64.wrap
 (x.1.add
 (IntKind.u64.wrap
 (Int.mul (1 : Int)
 (Int.pow (2 : Int)
 (if (IntKind.u64.wrap x.2).toNat <= IntKind.u64.bits then
 (IntKind.u64.wrap x.2).toNat
 else IntKind.u64.bits))))))).add
 (U.qm
 (U.ng
 (IntKind.u64.wrap
 (x.1.add
 (IntKind.u64.wrap
 (Int.mul (1 : Int)
 (Int.pow (2 : Int)
 (if (IntKind.u64.wrap x.2).toNat <= IntKind.u64.bits then
 (IntKind.u64.wrap x.2).toNat
 else IntKind.u64.bits))))))
 (IntKind.u64.wrap
 (x.1.add
 (IntKind.u64.wrap
 (Int.mul (1 : Int)
 (Int.pow (2 : Int)
 (if (IntKind.u64.wrap x.2).toNat <= IntKind.u64.bits then
 (IntKind.u64.wrap x.2).toNat
 else IntKind.u64.bits)))))))
 (IntKind.u64.wrap
 (x.1.add
 (IntKind.u64.wrap
 (Int.mul (1 : Int)
 (Int.pow (2 : Int)
 (if (IntKind.u64.wrap x.2).toNat <= IntKind.u64.bits then
 (IntKind.u64.wrap x.2).toNat
 else IntKind.u64.bits)))))))).add
 (0 : Int)).emod
 (18446744073709551616 : Int) <
 IntKind.u64.wrap
 (p.mul
 (Int.pow (2 : Int)
 (if Int.toNat (32 : Int) <= IntKind.u64.bits then Int.toNat (32 : Int)
 else IntKind.u64.bits)))) then
 true
 else
 bif
 decide
 ((((U.ng
 (U.qm
 (IntKind.u64.wrap
 (x.1.add
 (IntKind.u64.wrap
 (Int.mul (1 : Int)
 (Int.pow (2 : Int)
 (if (IntKind.u64.wrap x.2).toNat <= IntKind.u64.bits then
 (IntKind.u64.wrap x.2).toNat
 else IntKind.u64.bits))))))
 (IntKind.u64.wrap
 (x.1.add
 (IntKind.u64.wrap
 (Int.mul (1 : Int)
 (Int.pow (2 : Int)
 (if (IntKind.u64.wrap x.2).toNat <= IntKind.u64.bits then
 (IntKind.u64.wrap x.2).toNat
 else IntKind.u64.bits)))))))
 (IntKind.u64.wrap
 (x.1.add
 (IntKind.u64.wrap
 (Int.mul (1 : Int)
 (Int.pow (2 : Int)
 (if (IntKind.u64.wrap x.2).toNat <= IntKind.u64.bits then
 (IntKind.u64.wrap x.2).toNat
 else IntKind.u64.bits))))))).add
 (U.qm
 (U.ng
 (IntKind.u64.wrap
 (x.1.add
 (IntKind.u64.wrap
 (Int.mul (1 : Int)
 (Int.pow (2 : Int)
 (if (IntKind.u64.wrap x.2).toNat <= IntKind.u64.bits then
 (IntKind.u64.wrap x.2).toNat
 else IntKind.u64.bits))))))
 (IntKind.u64.wrap
 (x.1.add
 (IntKind.u64.wrap
 (Int.mul (1 : Int)
 (Int.pow (2 : Int)
 (if (IntKind.u64.wrap x.2).toNat <= IntKind.u64.bits then
 (IntKind.u64.wrap x.2).toNat
 else IntKind.u64.bits)))))))
 (IntKind.u64.wrap
 (x.1.add
 (IntKind.u64.wrap
 (Int.mul (1 : Int)
 (Int.pow (2 : Int)
 (if (IntKind.u64.wrap x.2).toNat <= IntKind.u64.bits then
 (IntKind.u64.wrap x.2).toNat
 else IntKind.u64.bits)))))))).add
 (0 : Int)).emod
 (18446744073709551616 : Int) =
 IntKind.u64.wrap
 (p.mul
 (Int.pow (2 : Int)
 (if Int.toNat (32 : Int) <= IntKind.u64.bits then Int.toNat (32 : Int)
 else IntKind.u64.bits)))) then
 decide
 (U.qm
 (U.qm
 (IntKind.u64.wrap
 (x.1.add
 (IntKind.u64.wrap
 (Int.mul (1 : Int)
 (Int.pow (2 : Int)
 (if (IntKind.u64.wrap x.2).toNat <= IntKind.u64.bits then
 (IntKind.u64.wrap x.2).toNat
 else IntKind.u64.bits))))))
 (IntKind.u64.wrap
 (x.1.add
 (IntKind.u64.wrap
 (Int.mul (1 : Int)
 (Int.pow (2 : Int)
 (if (IntKind.u64.wrap x.2).toNat <= IntKind.u64.bits then
 (IntKind.u64.wrap x.2).toNat
 else IntKind.u64.bits)))))))
 (IntKind.u64.wrap
 (x.1.add
 (IntKind.u64.wrap
 (Int.mul (1 : Int)
 (Int.pow (2 : Int)
 (if (IntKind.u64.wrap x.2).toNat <= IntKind.u64.bits then
 (IntKind.u64.wrap x.2).toNat
 else IntKind.u64.bits)))))) =
 (0 : Int))
 else false
 else false then
 ∃ (y : Int × Int),
 U.jk p
 (IntKind.u64.wrap
 (x.1.add
 (IntKind.u64.wrap
 (Int.mul (1 : Int)
 (Int.pow (2 : Int)
 (if (IntKind.u64.wrap x.2).toNat <= IntKind.u64.bits then
 (IntKind.u64.wrap x.2).toNat
 else IntKind.u64.bits))))))
 (IntKind.i64.wrap (x.2.sub (1 : Int))) =
 U.jk p y.1 y.2 /\
 U.lU p y.1 y.2 /\ (y.2.add (1 : Int)).toNat < (x.2.add (1 : Int)).toNat
 else
 ∃ (y : Int × Int),
 U.jk p x.1 (IntKind.i64.wrap (x.2.sub (1 : Int))) =
 U.jk p y.1 y.2 /\
 U.lU p y.1 y.2 /\ (y.2.add (1 : Int)).toNat < (x.2.add (1 : Int)).toNat
 else IntKind.u32.wrap x.1 = U.cube p /\ True
def vH  : Prop :=
 ((0 : Int) <= (64 : Int) /\ (64 : Int) <= (64 : Int)) /\
 ∃ (x0 : List Int × Int),
 (U.jd
 [(0 : Int), (0 : Int), (0 : Int), (0 : Int), (0 : Int), (0 : Int), (0 : Int), (0 : Int), (0 : Int),
 (0 : Int), (0 : Int), (0 : Int), (0 : Int), (0 : Int), (0 : Int), (0 : Int), (0 : Int), (0 : Int),
 (0 : Int), (0 : Int), (0 : Int), (0 : Int), (0 : Int), (0 : Int), (0 : Int), (0 : Int), (0 : Int),
 (0 : Int), (0 : Int), (0 : Int), (0 : Int), (0 : Int), (0 : Int), (0 : Int), (0 : Int), (0 : Int),
 (0 : Int), (0 : Int), (0 : Int), (0 : Int), (0 : Int), (0 : Int), (0 : Int), (0 : Int), (0 : Int),
 (0 : Int), (0 : Int), (0 : Int), (0 : Int), (0 : Int), (0 : Int), (0 : Int), (0 : Int), (0 : Int),
 (0 : Int), (0 : Int), (0 : Int), (0 : Int), (0 : Int), (0 : Int), (0 : Int), (0 : Int), (0 : Int),
 (0 : Int)]
 (0 : Int) =
 U.jd x0.1 x0.2 /\
 U.jF x0.1 x0.2) /\
 ∀ (x : List Int × Int),
 U.jF x.1 x.2 ->
 bif decide (x.2 < (64 : Int)) then
 (0 : Int) <= x.2 /\
 x.2 < (↑((64 : Nat)) : Int) /\
 (0 : Int) <= x.2 /\
 x.2 < (↑(64 : Nat) : Int) /\
 x.2.toNat < (64 : Nat) /\
 ∃ (y : List Int × Int),
 U.jd
 (x.1.set x.2.toNat
 (U.cube
 ([(2 : Int), (3 : Int), (5 : Int), (7 : Int), (11 : Int), (13 : Int), (17 : Int),
 (19 : Int), (23 : Int), (29 : Int), (31 : Int), (37 : Int), (41 : Int),
 (43 : Int), (47 : Int), (53 : Int), (59 : Int), (61 : Int), (67 : Int),
 (71 : Int), (73 : Int), (79 : Int), (83 : Int), (89 : Int), (97 : Int),
 (101 : Int), (103 : Int), (107 : Int), (109 : Int), (113 : Int), (127 : Int),
 (131 : Int), (137 : Int), (139 : Int), (149 : Int), (151 : Int), (157 : Int),
 (163 : Int), (167 : Int), (173 : Int), (179 : Int), (181 : Int), (191 : Int),
 (193 : Int), (197 : Int), (199 : Int), (211 : Int), (223 : Int), (227 : Int),
 (229 : Int), (233 : Int), (239 : Int), (241 : Int), (251 : Int), (257 : Int),
 (263 : Int), (269 : Int), (271 : Int), (277 : Int), (281 : Int), (283 : Int),
 (293 : Int), (307 : Int), (311 : Int)].getD
 x.2.toNat (0 : Int))))
 (IntKind.i64.wrap (x.2.add (1 : Int))) =
 U.jd y.1 y.2 /\
 U.jF y.1 y.2 /\
 Nat.sub (64 : Nat) y.2.toNat < Nat.sub (64 : Nat) x.2.toNat
 else x.1 = U.consts /\ True
def D7  : Prop :=
 ((0 : Int) <= (8 : Int) /\ (8 : Int) <= (64 : Int)) /\
 ∃ (x0 : List Int × Int),
 (U.nC [(0 : Int), (0 : Int), (0 : Int), (0 : Int), (0 : Int), (0 : Int), (0 : Int), (0 : Int)]
 (0 : Int) =
 U.nC x0.1 x0.2 /\
 U.oM x0.1 x0.2) /\
 ∀ (x : List Int × Int),
 U.oM x.1 x.2 ->
 bif decide (x.2 < (8 : Int)) then
 (0 : Int) <= x.2 /\
 x.2 < (↑((8 : Nat)) : Int) /\
 (0 : Int) <= x.2 /\
 x.2 < (↑(8 : Nat) : Int) /\
 x.2.toNat < (8 : Nat) /\
 ∃ (y : List Int × Int),
 U.nC
 (x.1.set x.2.toNat
 (U.square
 ([(2 : Int), (3 : Int), (5 : Int), (7 : Int), (11 : Int), (13 : Int), (17 : Int),
 (19 : Int)].getD
 x.2.toNat (0 : Int))))
 (IntKind.i64.wrap (x.2.add (1 : Int))) =
 U.nC y.1 y.2 /\
 U.oM y.1 y.2 /\ Nat.sub (8 : Nat) y.2.toNat < Nat.sub (8 : Nat) x.2.toNat
 else x.1 = U.Dk /\ True
def Ug (x : Int) (n : Int) : Prop :=
 (0 : Int) <= n /\
 (0 : Int) <= IntKind.u64.wrap (Int.sub (32 : Int) n) /\
 IntKind.u32.wrap
 ((x.fdiv (Int.pow (2 : Int) (if n.toNat <= IntKind.u32.bits then n.toNat else IntKind.u32.bits))).add
 (IntKind.u32.wrap
 (x.mul
 (Int.pow (2 : Int)
 (if (IntKind.u64.wrap (Int.sub (32 : Int) n)).toNat <= IntKind.u32.bits then
 (IntKind.u64.wrap (Int.sub (32 : Int) n)).toNat
 else IntKind.u32.bits))))) =
 U.rot x n /\
 True
def HY (h : List Int) (b : List Int) (kk : List Int) : Prop :=
 ∃ (x0 : List Int × Int),
 (U.oN h b kk
 [(0 : Int), (0 : Int), (0 : Int), (0 : Int), (0 : Int), (0 : Int), (0 : Int), (0 : Int), (0 : Int),
 (0 : Int), (0 : Int), (0 : Int), (0 : Int), (0 : Int), (0 : Int), (0 : Int), (0 : Int), (0 : Int),
 (0 : Int), (0 : Int), (0 : Int), (0 : Int), (0 : Int), (0 : Int), (0 : Int), (0 : Int), (0 : Int),
 (0 : Int), (0 : Int), (0 : Int), (0 : Int), (0 : Int), (0 : Int), (0 : Int), (0 : Int), (0 : Int),
 (0 : Int), (0 : Int), (0 : Int), (0 : Int), (0 : Int), (0 : Int), (0 : Int), (0 : Int), (0 : Int),
 (0 : Int), (0 : Int), (0 : Int), (0 : Int), (0 : Int), (0 : Int), (0 : Int), (0 : Int), (0 : Int),
 (0 : Int), (0 : Int), (0 : Int), (0 : Int), (0 : Int), (0 : Int), (0 : Int), (0 : Int), (0 : Int),
 (0 : Int)]
 (0 : Int) =
 U.oN h b kk x0.1 x0.2 /\
 U.qJ h b kk x0.1 x0.2) /\
 ∀ (x : List Int × Int),
 U.qJ h b kk x.1 x.2 ->
 bif decide (x.2 < (16 : Int)) then
 ∃ (x0 : List Int × Int × Int),
 (U.oO h b kk x.1 x.2 (0 : Int) = U.oO h b kk x0.1 x0.2.1 x0.2.2 /\
 U.qK h b kk x0.1 x0.2.1 x0.2.2 x0.1 x0.2.1 x0.2.2) /\
 ∀ (x_1 : List Int × Int × Int),
 U.qK h b kk x0.1 x0.2.1 x0.2.2 x_1.1 x_1.2.1 x_1.2.2 ->
 bif decide (x_1.2.2 < (4 : Int)) then
 (0 : Int) <= x_1.2.1 /\
 x_1.2.1 < (↑(64 : Nat) : Int) /\
 x_1.2.1.toNat < (64 : Nat) /\
 (0 : Int) <=
 IntKind.i64.wrap ((IntKind.i64.wrap (Int.mul (4 : Int) x_1.2.1)).add x_1.2.2) /\
 IntKind.i64.wrap ((IntKind.i64.wrap (Int.mul (4 : Int) x_1.2.1)).add x_1.2.2) <
 (↑b.length : Int) /\
 (0 : Int) <= x_1.2.1 /\
 x_1.2.1 < (↑(64 : Nat) : Int) /\
 x_1.2.1.toNat < (64 : Nat) /\
 ∃ (y : List Int × Int × Int),
 U.oO h b kk
 (x_1.1.set x_1.2.1.toNat
 (IntKind.u32.wrap
 ((IntKind.u32.wrap
 ((x_1.1.getD x_1.2.1.toNat (0 : Int)).mul
 (256 : Int))).add
 (IntKind.u32.wrap
 (b.getD
 (IntKind.i64.wrap
 ((IntKind.i64.wrap (Int.mul (4 : Int) x_1.2.1)).add
 x_1.2.2)).toNat
 (0 : Int))))))
 x_1.2.1 (IntKind.i64.wrap (x_1.2.2.add (1 : Int))) =
 U.oO h b kk y.1 y.2.1 y.2.2 /\
 U.qK h b kk x0.1 x0.2.1 x0.2.2 y.1 y.2.1
 y.2.2 /\
 Nat.sub (4 : Nat) y.2.2.toNat < Nat.sub (4 : Nat) x_1.2.2.toNat
 else
 ∃ (y : List Int × Int),
 U.oN h b kk x_1.1 (IntKind.i64.wrap (x_1.2.1.add (1 : Int))) =
 U.oN h b kk y.1 y.2 /\
 U.qJ h b kk y.1 y.2 /\
 Nat.sub (16 : Nat) y.2.toNat < Nat.sub (16 : Nat) x.2.toNat
 else
 ∃ (x0 : List Int × Int),
 (U.nD h b kk x.1 (16 : Int) = U.nD h b kk x0.1 x0.2 /\
 U.oP h b kk x0.1 x0.2) /\
 ∀ (x : List Int × Int),
 U.oP h b kk x.1 x.2 ->
 bif decide (x.2 < (64 : Int)) then
 (0 : Int) <= IntKind.i64.wrap (x.2.sub (15 : Int)) /\
 IntKind.i64.wrap (x.2.sub (15 : Int)) < (↑(64 : Nat) : Int) /\
 (IntKind.i64.wrap (x.2.sub (15 : Int))).toNat < (64 : Nat) /\
 (0 : Int) <= IntKind.i64.wrap (x.2.sub (2 : Int)) /\
 IntKind.i64.wrap (x.2.sub (2 : Int)) < (↑(64 : Nat) : Int) /\
 (IntKind.i64.wrap (x.2.sub (2 : Int))).toNat < (64 : Nat) /\
 (0 : Int) <= (10 : Int) /\
 (0 : Int) <= IntKind.i64.wrap (x.2.sub (7 : Int)) /\
 IntKind.i64.wrap (x.2.sub (7 : Int)) < (↑(64 : Nat) : Int) /\
 (IntKind.i64.wrap (x.2.sub (7 : Int))).toNat < (64 : Nat) /\
 (0 : Int) <= (3 : Int) /\
 (0 : Int) <= IntKind.i64.wrap (x.2.sub (16 : Int)) /\
 IntKind.i64.wrap (x.2.sub (16 : Int)) < (↑(64 : Nat) : Int) /\
 (IntKind.i64.wrap (x.2.sub (16 : Int))).toNat < (64 : Nat) /\
 (0 : Int) <= x.2 /\
 x.2 < (↑(64 : Nat) : Int) /\
 x.2.toNat < (64 : Nat) /\
 ∃ (y : List Int × Int),
 U.nD h b kk
 (x.1.set x.2.toNat
 (IntKind.u32.wrap
 ((IntKind.u32.wrap
 ((IntKind.u32.wrap
 ((IntKind.u32.wrap
 (↑((BitVec.ofInt IntKind.u32.bits
 (IntKind.u32.wrap
 (↑((BitVec.ofInt
 IntKind.u32.bits
 (U.rot
 (x.1.getD
 (IntKind.i64.wrap
 (x.2.sub
 (2 :
 Int))).toNat
 (0 :
 Int))
 (17 :
 Int))).xor
 (BitVec.ofInt
 IntKind.u32.bits
 (U.rot
 (x.1.getD
 (IntKind.i64.wrap
 (x.2.sub
 (2 :
 Int))).toNat
 (0 :
 Int))
 (19 :
 Int)))).toNat :
 Int))).xor
 (BitVec.ofInt
 IntKind.u32.bits
 ((x.1.getD
 (IntKind.i64.wrap
 (x.2.sub
 (2 :
 Int))).toNat
 (0 : Int)).fdiv
 (Int.pow (2 : Int)
 (if
 Int.toNat
 (10 : Int) <=
 IntKind.u32.bits then
 Int.toNat
 (10 : Int)
 else
 IntKind.u32.bits))))).toNat :
 Int)).add
 (x.1.getD
 (IntKind.i64.wrap
 (x.2.sub (7 : Int))).toNat
 (0 : Int)))).add
 (IntKind.u32.wrap
 (↑((BitVec.ofInt IntKind.u32.bits
 (IntKind.u32.wrap
 (↑((BitVec.ofInt
 IntKind.u32.bits
 (U.rot
 (x.1.getD
 (IntKind.i64.wrap
 (x.2.sub
 (15 :
 Int))).toNat
 (0 : Int))
 (7 :
 Int))).xor
 (BitVec.ofInt
 IntKind.u32.bits
 (U.rot
 (x.1.getD
 (IntKind.i64.wrap
 (x.2.sub
 (15 :
 Int))).toNat
 (0 : Int))
 (18 :
 Int)))).toNat :
 Int))).xor
 (BitVec.ofInt IntKind.u32.bits
 ((x.1.getD
 (IntKind.i64.wrap
 (x.2.sub
 (15 : Int))).toNat
 (0 : Int)).fdiv
 (Int.pow (2 : Int)
 (if
 Int.toNat (3 : Int) <=
 IntKind.u32.bits then
 Int.toNat (3 : Int)
 else
 IntKind.u32.bits))))).toNat :
 Int)))).add
 (x.1.getD
 (IntKind.i64.wrap (x.2.sub (16 : Int))).toNat
 (0 : Int)))))
 (IntKind.i64.wrap (x.2.add (1 : Int))) =
 U.nD h b kk y.1 y.2 /\
 U.oP h b kk y.1 y.2 /\
 Nat.sub (64 : Nat) y.2.toNat <
 Nat.sub (64 : Nat) x.2.toNat
 else
 ∃ (x0 : List Int × List Int × Int),
 (U.nG h b kk x.1 h (0 : Int) =
 U.nG h b kk x0.1 x0.2.1 x0.2.2 /\
 U.oQ h b kk x0.1 x0.2.1 x0.2.2) /\
 ∀ (x : List Int × List Int × Int),
 U.oQ h b kk x.1 x.2.1 x.2.2 ->
 bif decide (x.2.2 < (64 : Int)) then
 (0 : Int) <= (0 : Int) /\
 (0 : Int) < (↑(8 : Nat) : Int) /\
 Int.toNat (0 : Int) < (8 : Nat) /\
 (0 : Int) <= (1 : Int) /\
 (1 : Int) < (↑(8 : Nat) : Int) /\
 Int.toNat (1 : Int) < (8 : Nat) /\
 (0 : Int) <= (2 : Int) /\
 (2 : Int) < (↑(8 : Nat) : Int) /\
 Int.toNat (2 : Int) < (8 : Nat) /\
 (0 : Int) <= (4 : Int) /\
 (4 : Int) < (↑(8 : Nat) : Int) /\
 Int.toNat (4 : Int) < (8 : Nat) /\
 (0 : Int) <= (5 : Int) /\
 (5 : Int) < (↑(8 : Nat) : Int) /\
 Int.toNat (5 : Int) < (8 : Nat) /\
 (0 : Int) <= (6 : Int) /\
 (6 : Int) < (↑(8 : Nat) : Int) /\
 Int.toNat (6 : Int) < (8 : Nat) /\
 (0 : Int) <= (7 : Int) /\
 (7 : Int) < (↑(8 : Nat) : Int) /\
 Int.toNat (7 : Int) < (8 : Nat) /\
 (0 : Int) <= x.2.2 /\
 x.2.2 < (↑(64 : Nat) : Int) /\
 x.2.2.toNat < (64 : Nat) /\
 (0 : Int) <= x.2.2 /\
 x.2.2 < (↑(64 : Nat) : Int) /\
 x.2.2.toNat < (64 : Nat) /\
 (0 : Int) <= (3 : Int) /\
 (3 : Int) < (↑(8 : Nat) : Int) /\
 Int.toNat (3 : Int) <
 (8 : Nat) /\
 ∃ (y :
 List Int ×
 List Int × Int),
 U.nG h b kk
 x.1
 (((((((([(0 : Int),
 (0 :
 Int),
 (0 :
 Int),
 (0 :
 Int),
 (0 :
 Int),
 (0 :
 Int),
 (0 :
 Int),
 (0 :
 Int)].set
 (0 :
 Nat)
 (IntKind.u32.wrap
 ((IntKind.u32.wrap
 ((IntKind.u32.wrap
 ((IntKind.u32.wrap
 ((IntKind.u32.wrap
 ((x.2.1.getD
 (Int.toNat
 (7 :
 Int))
 (0 :
 Int)).add
 (IntKind.u32.wrap
 (↑((BitVec.ofInt
 IntKind.u32.bits
 (IntKind.u32.wrap
 (↑((BitVec.ofInt
 IntKind.u32.bits
 (U.rot
 (x.2.1.getD
 (Int.toNat
 (4 :
 Int))
 (0 :
 Int))
 (6 :
 Int))).xor
 (BitVec.ofInt
 IntKind.u32.bits
 (U.rot
 (x.2.1.getD
 (Int.toNat
 (4 :
 Int))
 (0 :
 Int))
 (11 :
 Int)))).toNat :
 Int))).xor
 (BitVec.ofInt
 IntKind.u32.bits
 (U.rot
 (x.2.1.getD
 (Int.toNat
 (4 :
 Int))
 (0 :
 Int))
 (25 :
 Int)))).toNat :
 Int)))).add
 (IntKind.u32.wrap
 (↑((BitVec.ofInt
 IntKind.u32.bits
 (IntKind.u32.wrap
 (↑((BitVec.ofInt
 IntKind.u32.bits
 (x.2.1.getD
 (Int.toNat
 (4 :
 Int))
 (0 :
 Int))).and
 (BitVec.ofInt
 IntKind.u32.bits
 (x.2.1.getD
 (Int.toNat
 (5 :
 Int))
 (0 :
 Int)))).toNat :
 Int))).xor
 (BitVec.ofInt
 IntKind.u32.bits
 (IntKind.u32.wrap
 (↑((BitVec.ofInt
 IntKind.u32.bits
 (IntKind.u32.wrap
 (↑((BitVec.ofInt
 IntKind.u32.bits
 IntKind.u32.max).xor
 (BitVec.ofInt
 IntKind.u32.bits
 (x.2.1.getD
 (Int.toNat
 (4 :
 Int))
 (0 :
 Int)))).toNat :
 Int))).and
 (BitVec.ofInt
 IntKind.u32.bits
 (x.2.1.getD
 (Int.toNat
 (6 :
 Int))
 (0 :
 Int)))).toNat :
 Int)))).toNat :
 Int)))).add
 (kk.getD
 x.2.2.toNat
 (0 :
 Int)))).add
 (x.1.getD
 x.2.2.toNat
 (0 :
 Int)))).add
 (IntKind.u32.wrap
 ((IntKind.u32.wrap
 (↑((BitVec.ofInt
 IntKind.u32.bits
 (IntKind.u32.wrap
 (↑((BitVec.ofInt
 IntKind.u32.bits
 (U.rot
 (x.2.1.getD
 (Int.toNat
 (0 :
 Int))
 (0 :
 Int))
 (2 :
 Int))).xor
 (BitVec.ofInt
 IntKind.u32.bits
 (U.rot
 (x.2.1.getD
 (Int.toNat
 (0 :
 Int))
 (0 :
 Int))
 (13 :
 Int)))).toNat :
 Int))).xor
 (BitVec.ofInt
 IntKind.u32.bits
 (U.rot
 (x.2.1.getD
 (Int.toNat
 (0 :
 Int))
 (0 :
 Int))
 (22 :
 Int)))).toNat :
 Int)).add
 (IntKind.u32.wrap
 (↑((BitVec.ofInt
 IntKind.u32.bits
 (IntKind.u32.wrap
 (↑((BitVec.ofInt
 IntKind.u32.bits
 (IntKind.u32.wrap
 (↑((BitVec.ofInt
 IntKind.u32.bits
 (x.2.1.getD
 (Int.toNat
 (0 :
 Int))
 (0 :
 Int))).and
 (BitVec.ofInt
 IntKind.u32.bits
 (x.2.1.getD
 (Int.toNat
 (1 :
 Int))
 (0 :
 Int)))).toNat :
 Int))).xor
 (BitVec.ofInt
 IntKind.u32.bits
 (IntKind.u32.wrap
 (↑((BitVec.ofInt
 IntKind.u32.bits
 (x.2.1.getD
 (Int.toNat
 (0 :
 Int))
 (0 :
 Int))).and
 (BitVec.ofInt
 IntKind.u32.bits
 (x.2.1.getD
 (Int.toNat
 (2 :
 Int))
 (0 :
 Int)))).toNat :
 Int)))).toNat :
 Int))).xor
 (BitVec.ofInt
 IntKind.u32.bits
 (IntKind.u32.wrap
 (↑((BitVec.ofInt
 IntKind.u32.bits
 (x.2.1.getD
 (Int.toNat
 (1 :
 Int))
 (0 :
 Int))).and
 (BitVec.ofInt
 IntKind.u32.bits
 (x.2.1.getD
 (Int.toNat
 (2 :
 Int))
 (0 :
 Int)))).toNat :
 Int)))).toNat :
 Int))))))).set
 (1 :
 Nat)
 (x.2.1.getD
 (Int.toNat
 (0 :
 Int))
 (0 :
 Int))).set
 (2 :
 Nat)
 (x.2.1.getD
 (Int.toNat
 (1 :
 Int))
 (0 :
 Int))).set
 (3 :
 Nat)
 (x.2.1.getD
 (Int.toNat
 (2 :
 Int))
 (0 :
 Int))).set
 (4 :
 Nat)
 (IntKind.u32.wrap
 ((x.2.1.getD
 (Int.toNat
 (3 :
 Int))
 (0 :
 Int)).add
 (IntKind.u32.wrap
 ((IntKind.u32.wrap
 ((IntKind.u32.wrap
 ((IntKind.u32.wrap
 ((x.2.1.getD
 (Int.toNat
 (7 :
 Int))
 (0 :
 Int)).add
 (IntKind.u32.wrap
 (↑((BitVec.ofInt
 IntKind.u32.bits
 (IntKind.u32.wrap
 (↑((BitVec.ofInt
 IntKind.u32.bits
 (U.rot
 (x.2.1.getD
 (Int.toNat
 (4 :
 Int))
 (0 :
 Int))
 (6 :
 Int))).xor
 (BitVec.ofInt
 IntKind.u32.bits
 (U.rot
 (x.2.1.getD
 (Int.toNat
 (4 :
 Int))
 (0 :
 Int))
 (11 :
 Int)))).toNat :
 Int))).xor
 (BitVec.ofInt
 IntKind.u32.bits
 (U.rot
 (x.2.1.getD
 (Int.toNat
 (4 :
 Int))
 (0 :
 Int))
 (25 :
 Int)))).toNat :
 Int)))).add
 (IntKind.u32.wrap
 (↑((BitVec.ofInt
 IntKind.u32.bits
 (IntKind.u32.wrap
 (↑((BitVec.ofInt
 IntKind.u32.bits
 (x.2.1.getD
 (Int.toNat
 (4 :
 Int))
 (0 :
 Int))).and
 (BitVec.ofInt
 IntKind.u32.bits
 (x.2.1.getD
 (Int.toNat
 (5 :
 Int))
 (0 :
 Int)))).toNat :
 Int))).xor
 (BitVec.ofInt
 IntKind.u32.bits
 (IntKind.u32.wrap
 (↑((BitVec.ofInt
 IntKind.u32.bits
 (IntKind.u32.wrap
 (↑((BitVec.ofInt
 IntKind.u32.bits
 IntKind.u32.max).xor
 (BitVec.ofInt
 IntKind.u32.bits
 (x.2.1.getD
 (Int.toNat
 (4 :
 Int))
 (0 :
 Int)))).toNat :
 Int))).and
 (BitVec.ofInt
 IntKind.u32.bits
 (x.2.1.getD
 (Int.toNat
 (6 :
 Int))
 (0 :
 Int)))).toNat :
 Int)))).toNat :
 Int)))).add
 (kk.getD
 x.2.2.toNat
 (0 :
 Int)))).add
 (x.1.getD
 x.2.2.toNat
 (0 :
 Int))))))).set
 (5 : Nat)
 (x.2.1.getD
 (Int.toNat
 (4 :
 Int))
 (0 :
 Int))).set
 (6 : Nat)
 (x.2.1.getD
 (Int.toNat
 (5 : Int))
 (0 :
 Int))).set
 (7 : Nat)
 (x.2.1.getD
 (Int.toNat
 (6 : Int))
 (0 : Int)))
 (IntKind.i64.wrap
 (x.2.2.add
 (1 : Int))) =
 U.nG h b
 kk y.1 y.2.1
 y.2.2 /\
 U.oQ h b kk
 y.1 y.2.1
 y.2.2 /\
 Nat.sub (64 : Nat)
 y.2.2.toNat <
 Nat.sub (64 : Nat)
 x.2.2.toNat
 else
 ∃ (x0 : List Int × Int),
 (U.nH h b kk x.2.1 (0 : Int) =
 U.nH h b kk x0.1 x0.2 /\
 U.oU h b kk x0.1 x0.2) /\
 ∀ (x : List Int × Int),
 U.oU h b kk x.1 x.2 ->
 bif decide (x.2 < (8 : Int)) then
 (0 : Int) <= x.2 /\
 x.2 < (↑(8 : Nat) : Int) /\
 x.2.toNat < (8 : Nat) /\
 (0 : Int) <= x.2 /\
 x.2 < (↑(8 : Nat) : Int) /\
 x.2.toNat < (8 : Nat) /\
 (0 : Int) <= x.2 /\
 x.2 < (↑(8 : Nat) : Int) /\
 x.2.toNat < (8 : Nat) /\
 ∃ (y : List Int × Int),
 U.nH h b kk
 (x.1.set x.2.toNat
 (IntKind.u32.wrap
 ((x.1.getD x.2.toNat (0 : Int)).add
 (h.getD x.2.toNat (0 : Int)))))
 (IntKind.i64.wrap (x.2.add (1 : Int))) =
 U.nH h b kk y.1 y.2 /\
 U.oU h b kk y.1 y.2 /\
 Nat.sub (8 : Nat) y.2.toNat <
 Nat.sub (8 : Nat) x.2.toNat
 else x.1 = U.Bz h b kk /\ True
def Jz (b : List Int) : Prop :=
 (Nat.add (0 : Nat) b.length).mul (1 : Nat) <= (140737488355328 : Nat) /\
 Nat.add (0 : Nat) b.length <= maxLen /\
 (b.length.add ((1 : Nat))).mul (1 : Nat) <= (140737488355328 : Nat) /\
 b.length.add ((1 : Nat)) <= maxLen /\
 ∃ (x0 : List Int),
 (U.qL b (b.append ([(0 : Int)].set (0 : Nat) (128 : Int))) = U.qL b x0 /\
 U.uf b x0) /\
 ∀ (x : List Int),
 U.uf b x ->
 (64 : Int) ≠ (0 : Int) /\
 bif (↑x.length : Int).tmod (64 : Int) != (56 : Int) then
 (x.length.add ((1 : Nat))).mul (1 : Nat) <= (140737488355328 : Nat) /\
 x.length.add ((1 : Nat)) <= maxLen /\
 ∃ (y : List Int),
 U.qL b (x.append ([(0 : Int)].set (0 : Nat) (0 : Int))) = U.qL b y /\
 U.uf b y /\
 ((b.length.add (1 : Nat)).add (U.zeros b.length)).sub y.length <
 ((b.length.add (1 : Nat)).add (U.zeros b.length)).sub x.length
 else
 ∃ (x0 : List Int × Int × Int),
 (U.qM b x (IntKind.u64.wrap ((IntKind.u64.wrap (↑b.length : Int)).mul (8 : Int)))
 (7 : Int) =
 U.qM b x0.1 x0.2.1 x0.2.2 /\
 U.ug b x0.1 x0.2.1 x0.2.2) /\
 ∀ (x : List Int × Int × Int),
 U.ug b x.1 x.2.1 x.2.2 ->
 bif decide (x.2.2 >= (0 : Int)) then
 (0 : Int) <= IntKind.u64.wrap (IntKind.i64.wrap (Int.mul (8 : Int) x.2.2)) /\
 (x.1.length.add ((1 : Nat))).mul (1 : Nat) <= (140737488355328 : Nat) /\
 x.1.length.add ((1 : Nat)) <= maxLen /\
 ∃ (y : List Int × Int × Int),
 U.qM b
 (x.1.append
 ([(0 : Int)].set (0 : Nat)
 (IntKind.u8.wrap
 (x.2.1.fdiv
 (Int.pow (2 : Int)
 (if
 (IntKind.u64.wrap
 (IntKind.i64.wrap
 (Int.mul (8 : Int) x.2.2))).toNat <=
 IntKind.u64.bits then
 (IntKind.u64.wrap
 (IntKind.i64.wrap (Int.mul (8 : Int) x.2.2))).toNat
 else IntKind.u64.bits))))))
 x.2.1 (IntKind.i64.wrap (x.2.2.sub (1 : Int))) =
 U.qM b y.1 y.2.1 y.2.2 /\
 U.ug b y.1 y.2.1 y.2.2 /\
 (y.2.2.add (1 : Int)).toNat < (x.2.2.add (1 : Int)).toNat
 else x.1 = U.pad b /\ True
def JA (b : List Int) : Prop :=
 b.length <= (1000000000000 : Nat) /\
 ∃ (x0 : List Int × Int),
 (U.qN b U.Dk (0 : Int) = U.qN b x0.1 x0.2 /\ U.uh b x0.1 x0.2) /\
 ∀ (x : List Int × Int),
 U.uh b x.1 x.2 ->
 bif decide (x.2 < (↑(U.pad b).length : Int)) then
 (0 : Int) <= x.2 /\
 x.2 <= IntKind.i64.wrap (x.2.add (64 : Int)) /\
 IntKind.i64.wrap (x.2.add (64 : Int)) <= (↑(U.pad b).length : Int) /\
 (64 : Nat) <=
 (List.take ((IntKind.i64.wrap (x.2.add (64 : Int))).toNat.sub x.2.toNat)
 (List.drop x.2.toNat (U.pad b))).length /\
 ∃ (y : List Int × Int),
 U.qN b
 (U.Bz x.1
 (List.take ((IntKind.i64.wrap (x.2.add (64 : Int))).toNat.sub x.2.toNat)
 (List.drop x.2.toNat (U.pad b)))
 U.consts)
 (IntKind.i64.wrap (x.2.add (64 : Int))) =
 U.qN b y.1 y.2 /\
 U.uh b y.1 y.2 /\
 (U.pad b).length.sub y.2.toNat < (U.pad b).length.sub x.2.toNat
 else
 ∃ (x0 : List Int × List Int × Int),
 (U.qO b x.1
 [(0 : Int), (0 : Int), (0 : Int), (0 : Int), (0 : Int), (0 : Int), (0 : Int), (0 : Int),
 (0 : Int), (0 : Int), (0 : Int), (0 : Int), (0 : Int), (0 : Int), (0 : Int), (0 : Int),
 (0 : Int), (0 : Int), (0 : Int), (0 : Int), (0 : Int), (0 : Int), (0 : Int), (0 : Int),
 (0 : Int), (0 : Int), (0 : Int), (0 : Int), (0 : Int), (0 : Int), (0 : Int), (0 : Int)]
 (0 : Int) =
 U.qO b x0.1 x0.2.1 x0.2.2 /\
 U.um b x0.1 x0.2.1 x0.2.2) /\
 ∀ (x : List Int × List Int × Int),
 U.um b x.1 x.2.1 x.2.2 ->
 bif decide (x.2.2 < (32 : Int)) then
 (4 : Int) ≠ (0 : Int) /\
 (0 : Int) <= IntKind.i64.wrap (x.2.2.tdiv (4 : Int)) /\
 IntKind.i64.wrap (x.2.2.tdiv (4 : Int)) < (↑(8 : Nat) : Int) /\
 (IntKind.i64.wrap (x.2.2.tdiv (4 : Int))).toNat < (8 : Nat) /\
 (4 : Int) ≠ (0 : Int) /\
 (0 : Int) <=
 IntKind.u64.wrap
 (IntKind.i64.wrap
 (Int.sub (24 : Int)
 (IntKind.i64.wrap (Int.mul (8 : Int) (x.2.2.tmod (4 : Int)))))) /\
 (0 : Int) <= x.2.2 /\
 x.2.2 < (↑(32 : Nat) : Int) /\
 x.2.2.toNat < (32 : Nat) /\
 ∃ (y : List Int × List Int × Int),
 U.qO b x.1
 (x.2.1.set x.2.2.toNat
 (IntKind.u8.wrap
 ((x.1.getD (IntKind.i64.wrap (x.2.2.tdiv (4 : Int))).toNat
 (0 : Int)).fdiv
 (Int.pow (2 : Int)
 (if
 (IntKind.u64.wrap
 (IntKind.i64.wrap
 (Int.sub (24 : Int)
 (IntKind.i64.wrap
 (Int.mul (8 : Int)
 (x.2.2.tmod (4 : Int))))))).toNat <=
 IntKind.u32.bits then
 (IntKind.u64.wrap
 (IntKind.i64.wrap
 (Int.sub (24 : Int)
 (IntKind.i64.wrap
 (Int.mul (8 : Int)
 (x.2.2.tmod (4 : Int))))))).toNat
 else IntKind.u32.bits)))))
 (IntKind.i64.wrap (x.2.2.add (1 : Int))) =
 U.qO b y.1 y.2.1 y.2.2 /\
 U.um b y.1 y.2.1 y.2.2 /\
 Nat.sub (32 : Nat) y.2.2.toNat < Nat.sub (32 : Nat) x.2.2.toNat
 else x.2.1 = U.qj (U.wQ b) /\ True
end Go.Proofs.YtkhdeldobekciaaGreatDoor
