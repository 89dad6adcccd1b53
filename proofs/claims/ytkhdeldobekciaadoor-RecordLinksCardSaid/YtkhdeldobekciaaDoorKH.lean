/- What functions of this seat compute, in plain Lean. -/
import Derived.Test.YtkhdeldobekciaaDoorKE
set_option linter.unusedVariables false
set_option linter.unusedSimpArgs false
set_option maxRecDepth 100000
namespace Go.Proofs.YtkhdeldobekciaaDoor
open Go.Vc
abbrev LY : Ty := .slice aN
abbrev tW8 : Ty := .arr 8 (.int .u32)
abbrev aeb : Ty := .arr 64 (.int .u32)
abbrev aec : Ty := .arr 32 (.int .u8)
def rK (k : IntKind) (x : Int) : Done := ⟨[], .one (.int k x), [], []⟩
namespace U
def sA (n : Nat) (fr : Bool) (t : Ty) (l : List t.den) : Option SV := some (.v ⟨true, [.arr n fr t l]⟩)
def yld : Option SV := some (.one .yld)
def shl (k : IntKind) (x : Int) (n : Nat) : Int := k.wrap (Int.mul x (Int.pow 2 (min n k.bits)))
def shr (k : IntKind) (x : Int) (n : Nat) : Int := Int.fdiv x (Int.pow 2 (min n k.bits))
def rotl (x k : Int) : Int :=
 let s := T.ady .u64 (IntKind.wrap .u64 k) 31
 T.orK .u32 (shl .u32 x s.toNat) (shr .u32 x (IntKind.wrap .u64 (Int.sub 32 s)).toNat)
def right (x n : Int) : Int := rotl x (IntKind.wrap .i64 (Int.sub 0 n))
def add32 (a b : Int) : Int := IntKind.wrap .u32 (Int.add a b)
abbrev yx := T.ad7 .u32
abbrev aan := T.ady .u32
abbrev adH := T.orK .u32
def word (l : List Int) : Int := ((l.getD 0 0 * 256 + l.getD 1 0) * 256 + l.getD 2 0) * 256 + l.getD 3 0
def S1 (e : Int) : Int := yx (yx (right e 6) (right e 11)) (right e 25)
def S0 (a : Int) : Int := yx (yx (right a 2) (right a 13)) (right a 22)
def s0 (x : Int) : Int := yx (yx (right x 7) (right x 18)) (shr .u32 x 3)
def s1 (y : Int) : Int := yx (yx (right y 17) (right y 19)) (shr .u32 y 10)
abbrev St8 := Int × Int × Int × Int × Int × Int × Int × Int
def one (k w : Int) : St8 -> Int := fun (a, b, c, d, e, f, g, i) => add32 (add32 (add32 (add32 i (S1 e)) (yx g (aan e (yx f g)))) k) w
def two : St8 -> Int := fun (a, b, c, d, e, f, g, i) => add32 (S0 a) (adH (aan a b) (aan c (adH a b)))
def rnd (k w : Int) : St8 -> St8 := fun s => (add32 (one k w s) (two s), s.1, s.2.1, s.2.2.1, add32 s.2.2.2.1 (one k w s), s.2.2.2.2.1, s.2.2.2.2.2.1, s.2.2.2.2.2.2.1)
def EO (w : List Int) : Nat -> St8 -> St8
 | 0, s => s
 | t + 1, s => rnd (SG.getD t 0) (w.getD t 0) (EO w t s)
def st8 (h : List Int) : St8 := (h.getD 0 0, h.getD 1 0, h.getD 2 0, h.getD 3 0, h.getD 4 0, h.getD 5 0, h.getD 6 0, h.getD 7 0)
def ls8 : St8 -> List Int := fun (a, b, c, d, e, f, g, i) => [a, b, c, d, e, f, g, i]
def aao (l : List Int) : Int := add32 (add32 (add32 (l.getD (l.length - 16) 0) (s0 (l.getD (l.length - 15) 0))) (l.getD (l.length - 7) 0)) (s1 (l.getD (l.length - 2) 0))
def qO (b : List Int) (t : Nat) : List Int := (List.range t).map fun t => word (b.drop (4 * t))
def rV (b : List Int) : Nat -> List Int
 | 0 => qO b 16
 | k + 1 => rV b k ++ [aao (rV b k)]
def sched (b : List Int) : List Int := rV b 48
def yA (n : Nat) (l : List Int) : List Int := l ++ List.replicate (n - l.length) 0
def step (h b : List Int) : List Int := List.zipWith add32 h (ls8 (EO (sched b) 64 (st8 h)))
def chunks (n : Nat) (l : List Int) : List (List Int) := (List.range ((l.length + n - 1) / n)).map fun k => (l.drop (k * n)).take n
def be8 : Nat -> Nat -> List Int
 | 0, _ => []
 | k + 1, n => ((n / 256 ^ k % 256 : Nat) : Int) :: be8 k n
def zeros (n : Nat) : Nat := (119 - n % 64) % 64
def pad (b : List Int) : List Int := b ++ (128 :: (List.replicate (zeros b.length) 0 ++ be8 8 (b.length * 8)))
def AU (h : List Int) : List Int := (List.range 32).map fun k => IntKind.wrap .u8 (shr .u32 (h.getD (k / 4) 0) (24 - 8 * (k % 4)))
def sums (b : List Int) : List Int := (chunks 64 (pad b)).foldl step JD
def sum (b : List Int) : List Int := AU (sums b)
end U
namespace U
def dX (l : List (List Int)) (n : Int) (i : Int) : St2 := ⟨⟨[sL false aN l] ++ U.n 2 ++ [sI n] ++ U.n 5 ++ [sL false aN l] ++ [sI l.length] ++ [sI i] ++ U.n 24, [], []⟩, 0, []⟩
def eP (l : List (List Int))  (n : Int) (i : Int) : Prop := at_ l i /\ n = (l.take i.toNat).flatten.length
def aW (l : List (List Int)) (o : List Int) (i : Int) : St2 := ⟨⟨U.n 6 ++ [own 0] ++ U.n 18 ++ [sL false aN l] ++ [sI l.length] ++ [sI i] ++ U.n 8, [], [(0, .row 5 (.int .u8) true true o)]⟩, 1, []⟩
def bT (l : List (List Int))  (o : List Int) (i : Int) : Prop := at_ l i /\ o = (l.take i.toNat).flatten
def dU (s : List Int) (n : Int) (i : Int) (k : Nat) : St2 := ⟨⟨[yld] ++ [sP 0 0] ++ [sP 1 0] ++ U.n 1 ++ [sI i] ++ U.n 26, [], [(0, .obj [.psl false (.int .u8) s]), (1, .obj [.int .i64 n])]⟩, 2, [0, k]⟩
def dY (s : List Int) (n : Int)  (i : Int) (k : Nat) : Prop := i = k * n /\ i < s.length + n
def rW (b : List Int) (o : List Int) (n : Int) (i : Int) : St2 := ⟨⟨U.n 4 ++ [own 0] ++ [sK .u64 n] ++ [sI i] ++ U.n 31, [], [(0, .row 5 (.int .u8) true true o)]⟩, 1, []⟩
def wE (b : List Int)  (o : List Int) (n : Int) (i : Int) : Prop := ∃ k : Nat, k <= 8 /\ n = ((b.length * 8 / 256 ^ k : Nat) : Int) /\ i = b.length + zeros b.length + 8 - k /\ o = b ++ (128 :: (List.replicate (zeros b.length + (8 - k)) 0 ++ be8 k (b.length * 8)))
def ku (b : List Int) (w : List Int) (t : Int) : St2 := ⟨⟨[sL false (.int .u8) b] ++ U.n 1 ++ [sP 0 0] ++ U.n 4 ++ [sI t] ++ U.n 52, [], [(0, .obj [.arr 64 true (.int .u32) w])]⟩, 1, []⟩
def lF (b : List Int)  (w : List Int) (t : Int) : Prop := 0 <= t /\ t <= 16 /\ w = yA 64 (qO b t.toNat)
def kC (b : List Int) (w : List Int) (t : Int) : St2 := ⟨⟨U.n 2 ++ [sP 0 0] ++ U.n 1 ++ [sI t] ++ U.n 55, [], [(0, .obj [.arr 64 true (.int .u32) w])]⟩, 1, []⟩
def lG (b : List Int)  (w : List Int) (t : Int) : Prop := 16 <= t /\ t <= 64 /\ w = yA 64 (rV b (t.toNat - 16))
def qj (h bl : List Int) (a : Int) (b : Int) (c : Int) (d : Int) (e : Int) (f : Int) (g : Int) (i : Int) (t : Int) : St2 := ⟨⟨U.n 2 ++ [sP 0 0] ++ U.n 1 ++ [sP 1 0] ++ [sK .u32 a] ++ [sK .u32 b] ++ [sK .u32 c] ++ [sK .u32 d] ++ [sK .u32 e] ++ [sK .u32 f] ++ [sK .u32 g] ++ [sK .u32 i] ++ U.n 23 ++ [sA 64 true (.int .u32) (sched bl)] ++ [sI t] ++ U.n 79, [], [(0, .obj [.arr 8 true (.int .u32) h]), (1, .obj [.arr 8 true (.int .u32) (List.replicate 8 0)])]⟩, 2, []⟩
def rX (h bl : List Int)  (a : Int) (b : Int) (c : Int) (d : Int) (e : Int) (f : Int) (g : Int) (i : Int) (t : Int) : Prop := 0 <= t /\ t <= 64 /\ (a, b, c, d, e, f, g, i) = EO (sched bl) t.toNat (st8 h)
def nY (h bl : List Int) (v : List Int) (hh : List Int) (k : Int) : St2 := ⟨⟨U.n 2 ++ [sP 0 0] ++ U.n 1 ++ [sP 1 0] ++ U.n 99 ++ [sA 8 true (.int .u32) v] ++ [sI k] ++ U.n 11, [], [(0, .obj [.arr 8 true (.int .u32) hh]), (1, .obj [.arr 8 true (.int .u32) (List.replicate 8 0)])]⟩, 2, []⟩
def ql (h bl : List Int)  (v : List Int) (hh : List Int) (k : Int) : Prop := 0 <= k /\ k <= 8 /\ v = ls8 (EO (sched bl) 64 (st8 h)) /\ hh = List.zipWith add32 (h.take k.toNat) v ++ h.drop k.toNat
def rY (b : List Int) (h : List Int) (k : Nat) : St2 := ⟨⟨U.n 2 ++ [sP 0 0] ++ [sP 1 0] ++ U.n 27, [], [(0, .obj [.arr 32 true (.int .u8) (List.replicate 32 0)]), (1, .obj [.arr 8 true (.int .u32) h])]⟩, 2, []⟩
def qP (b : List Int)  (h : List Int) (k : Nat) : Prop := h = ((chunks 64 (pad b)).take k).foldl step JD
def rZ (b : List Int) (s : List Int) (h : List Int) (k : Int) : St2 := ⟨⟨U.n 2 ++ [sP 0 0] ++ [sP 1 0] ++ U.n 10 ++ [sI k] ++ U.n 16, [], [(0, .obj [.arr 32 true (.int .u8) s]), (1, .obj [.arr 8 true (.int .u32) h])]⟩, 2, []⟩
def wF (b : List Int)  (s : List Int) (h : List Int) (k : Int) : Prop := 0 <= k /\ k <= 32 /\ h = sums b /\ s = (AU h).take k.toNat ++ List.replicate (32 - k.toNat) 0
end U
def zu (l : List (List Int)) : Vc.Loop := ⟨{ keep := [0, 3, 9, 10, 11] }, Int × Int, fun x => U.dX l x.1 x.2, fun x0 x => U.eP l  x.1 x.2, fun x => l.length - x.2.toNat⟩
def xJ (l : List (List Int)) : Vc.Loop := ⟨{ keep := [6, 25, 26, 27], wake := [(6, 5)] }, List Int × Int, fun x => U.aW l x.1 x.2, fun x0 x => U.bT l  x.1 x.2, fun x => l.length - x.2.toNat⟩
def xK (s : List Int) (n : Int) : Vc.Loop := ⟨{ keep := [0, 1, 2, 4] }, Int × Nat, fun x => U.dU s n x.1 x.2, fun x0 x => U.dY s n  x.1 x.2, fun x => ((s.length : Int) + n - x.1).toNat⟩
def YC (b : List Int) : Vc.Loop := ⟨{ keep := [4, 5, 6] }, List Int × Int × Int, fun x => U.rW b x.1 x.2.1 x.2.2, fun x0 x => U.wE b  x.1 x.2.1 x.2.2, fun x => x.2.1.toNat⟩
def OD (b : List Int) : Vc.Loop := ⟨{ keep := [0, 2, 7] }, List Int × Int, fun x => U.ku b x.1 x.2, fun x0 x => U.lF b  x.1 x.2, fun x => 16 - x.2.toNat⟩
def OE (b : List Int) : Vc.Loop := ⟨{ keep := [2, 4] }, List Int × Int, fun x => U.kC b x.1 x.2, fun x0 x => U.lG b  x.1 x.2, fun x => 64 - x.2.toNat⟩
def Xi (h bl : List Int) : Vc.Loop := ⟨{ keep := [2, 4, 5, 6, 7, 8, 9, 10, 11, 12, 36, 37] }, Int × Int × Int × Int × Int × Int × Int × Int × Int, fun x => U.qj h bl x.1 x.2.1 x.2.2.1 x.2.2.2.1 x.2.2.2.2.1 x.2.2.2.2.2.1 x.2.2.2.2.2.2.1 x.2.2.2.2.2.2.2.1 x.2.2.2.2.2.2.2.2, fun x0 x => U.rX h bl  x.1 x.2.1 x.2.2.1 x.2.2.2.1 x.2.2.2.2.1 x.2.2.2.2.2.1 x.2.2.2.2.2.2.1 x.2.2.2.2.2.2.2.1 x.2.2.2.2.2.2.2.2, fun x => 64 - x.2.2.2.2.2.2.2.2.toNat⟩
def Uj (h bl : List Int) : Vc.Loop := ⟨{ keep := [2, 4, 104, 105] }, List Int × List Int × Int, fun x => U.nY h bl x.1 x.2.1 x.2.2, fun x0 x => U.ql h bl  x.1 x.2.1 x.2.2, fun x => 8 - x.2.2.toNat⟩
def YD (b : List Int) : Vc.Loop := ⟨{ keep := [2, 3] }, List Int × Nat, fun x => U.rY b x.1 x.2, fun x0 x => U.qP b  x.1 x.2, fun x => x.2⟩
def YE (b : List Int) : Vc.Loop := ⟨{ keep := [2, 3, 14] }, List Int × List Int × Int, fun x => U.rZ b x.1 x.2.1 x.2.2, fun x0 x => U.wF b  x.1 x.2.1 x.2.2, fun x => 32 - x.2.2.toNat⟩
def kM (x : Int) (k : Int) : Done := rK .u32 (U.rotl x k)
def qR : Vc.Sum := .pure [.int .u32, .int .i64] false fun x => kM x.1 x.2
def qU (x : Int) (k : Int) : Nat -> List V -> Nat -> Option Vc.Loop := dO
def iL : List (Nat × Ent) := (73, .sum qR) :: wC
def Ho (x : Int) (n : Int) : Done := rK .u32 (U.right x n)
def Qs : Vc.Sum := .pure [.int .u32, .int .i64] false fun x => Ho x.1 x.2
def Qu (x : Int) (n : Int) : Nat -> List V -> Nat -> Option Vc.Loop := dO
def AV : List (Nat × Ent) := (64, .sum Qs) :: iL
def Ea (b : List Int) : Done := ⟨[4 <= b.length], .one (.int .u32 (U.word b)), [], []⟩
def SX : Vc.Sum := .pure [aN] false fun x => Ea x
def SY (b : List Int) : Nat -> List V -> Nat -> Option Vc.Loop := dO
def Eb : List (Nat × Ent) := (72, .sum SX) :: AV
def iD (l : List (List Int)) : Done := ⟨[l.flatten.length <= 70000000000000], .one (.own 0), [], [.row 5 (.int .u8) true true l.flatten]⟩
def qm : Vc.Sum := .pure [LY] false fun x => iD x
def qo (l : List (List Int)) : Nat -> List V -> Nat -> Option Vc.Loop := fun f v k => cond (Nat.beq f 14 && Nat.beq k 3) (some (zu l)) <| cond (Nat.beq f 14 && Nat.beq k 11) (some (xJ l)) <| none
def iE : List (Nat × Ent) := (14, .sum qm) :: Eb
def zO (s : List Int) (n : Int) : List (aQ [aN]) := U.chunks n.toNat s
def gI (s : List Int) (n : Int) : List Prop := [1 <= n, n <= 4294967296, s.length <= 4611686018427387904]
def dN : Ef := ⟨[aN, .int .i64], [aN], fun x => gI x.1 x.2, fun x => zO x.1 x.2⟩
def oV (s : List Int) (n : Int) : Nat -> List V -> Nat -> Option Vc.Loop := fun f v k => cond (Nat.beq f 62 && Nat.beq k 1) (some (xK s n)) <| none
def gX : List (Nat × Ent) := (62, .seq dN) :: iE
def Hq (b : List Int) : Done := ⟨[b.length <= 1000000000000], .one (.psl true (.int .u8) (U.pad b)), [], []⟩
def Xj : Vc.Sum := .pure [aN] false fun x => Hq x
def Xk (b : List Int) : Nat -> List V -> Nat -> Option Vc.Loop := fun f v k => cond (Nat.beq f 48 && Nat.beq k 5) (some (YC b)) <| none
def Hr : List (Nat × Ent) := (48, .sum Xj) :: gX
def sZ (b : List Int) : Done := ⟨[64 <= b.length], .v (.of true aeb (U.sched b)), [], []⟩
def Iu : Vc.Sum := .pure [aN] false fun x => sZ x
def Iw (b : List Int) : Nat -> List V -> Nat -> Option Vc.Loop := fun f v k => cond (Nat.beq f 63 && Nat.beq k 2) (some (OD b)) <| cond (Nat.beq f 63 && Nat.beq k 7) (some (OE b)) <| none
def tq : List (Nat × Ent) := (63, .sum Iu) :: Hr
def Ec (h : List Int) (b : List Int) : Done := ⟨[64 <= b.length], .v (.of false tW8 (U.step h b)), [], []⟩
def S9 : Vc.Sum := .pure [tW8, aN] true fun x => Ec x.1 x.2
def Tc (h : List Int) (b : List Int) : Nat -> List V -> Nat -> Option Vc.Loop := fun f v k => cond (Nat.beq f 49 && Nat.beq k 3) (some (Xi h b)) <| cond (Nat.beq f 49 && Nat.beq k 10) (some (Uj h b)) <| none
def Ed : List (Nat × Ent) := (49, .sum S9) :: tq
def Ht (b : List Int) : Done := ⟨[b.length <= 1000000000000], .v (.of true aec (U.sum b)), [], []⟩
def Xl : Vc.Sum := .pure [aN] false fun x => Ht x
def Xm (b : List Int) : Nat -> List V -> Nat -> Option Vc.Loop := fun f v k => cond (Nat.beq f 31 && Nat.beq k 3) (some (YD b)) <| cond (Nat.beq f 31 && Nat.beq k 6) (some (YE b)) <| none
def Hu : List (Nat × Ent) := (31, .sum Xl) :: Ed
end Go.Proofs.YtkhdeldobekciaaDoor
set_option maxRecDepth 100000
set_option linter.unusedVariables false
namespace Go.Proofs.YtkhdeldobekciaaDoor
open Go.Vc
def qp (x : Int) (k : Int) : Prop :=
 (0 : Int) <=
 IntKind.u64.wrap
 (↑((BitVec.ofInt IntKind.u64.bits (IntKind.u64.wrap k)).and (BitVec.ofInt IntKind.u64.bits (31 : Int))).toNat :
 Int) /\
 (0 : Int) <=
 IntKind.u64.wrap
 (Int.sub (32 : Int)
 (IntKind.u64.wrap
 (↑((BitVec.ofInt IntKind.u64.bits (IntKind.u64.wrap k)).and
 (BitVec.ofInt IntKind.u64.bits (31 : Int))).toNat :
 Int))) /\
 IntKind.u32.wrap
 (↑((BitVec.ofInt IntKind.u32.bits
 (IntKind.u32.wrap
 (x.mul
 (Int.pow (2 : Int)
 (if
 (IntKind.u64.wrap
 (↑((BitVec.ofInt IntKind.u64.bits (IntKind.u64.wrap k)).and
 (BitVec.ofInt IntKind.u64.bits (31 : Int))).toNat :
 Int)).toNat <=
 IntKind.u32.bits then
 (IntKind.u64.wrap
 (↑((BitVec.ofInt IntKind.u64.bits (IntKind.u64.wrap k)).and
 (BitVec.ofInt IntKind.u64.bits (31 : Int))).toNat :
 Int)).toNat
 else IntKind.u32.bits))))).or
 (BitVec.ofInt IntKind.u32.bits
 (x.fdiv
 (Int.pow (2 : Int)
 (if
 (IntKind.u64.wrap
 (Int.sub (32 : Int)
 (IntKind.u64.wrap
 (↑((BitVec.ofInt IntKind.u64.bits (IntKind.u64.wrap k)).and
 (BitVec.ofInt IntKind.u64.bits (31 : Int))).toNat :
 Int)))).toNat <=
 IntKind.u32.bits then
 (IntKind.u64.wrap
 (Int.sub (32 : Int)
 (IntKind.u64.wrap
 (↑((BitVec.ofInt IntKind.u64.bits (IntKind.u64.wrap k)).and
 (BitVec.ofInt IntKind.u64.bits (31 : Int))).toNat :
 Int)))).toNat
 else IntKind.u32.bits))))).toNat :
 Int) =
 U.rotl x k /\
 True
def NV (x : Int) (n : Int) : Prop := U.rotl x (IntKind.i64.wrap (Int.sub (0 : Int) n)) = U.right x n /\ True
def Hw (b : List Int) : Prop :=
 (0 : Int) <= (0 : Int) /\
 (0 : Int) < (↑b.length : Int) /\
 (0 : Int) <= (24 : Int) /\
 (0 : Int) <= (1 : Int) /\
 (1 : Int) < (↑b.length : Int) /\
 (0 : Int) <= (16 : Int) /\
 (0 : Int) <= (2 : Int) /\
 (2 : Int) < (↑b.length : Int) /\
 (0 : Int) <= (8 : Int) /\
 (0 : Int) <= (3 : Int) /\
 (3 : Int) < (↑b.length : Int) /\
 IntKind.u32.wrap
 (↑((BitVec.ofInt IntKind.u32.bits
 (IntKind.u32.wrap
 (↑((BitVec.ofInt IntKind.u32.bits
 (IntKind.u32.wrap
 (↑((BitVec.ofInt IntKind.u32.bits
 (IntKind.u32.wrap
 ((IntKind.u32.wrap
 (b.getD (Int.toNat (0 : Int))
 (0 : Int))).mul
 (Int.pow (2 : Int)
 (if
 Int.toNat (24 : Int) <=
 IntKind.u32.bits then
 Int.toNat (24 : Int)
 else IntKind.u32.bits))))).or
 (BitVec.ofInt IntKind.u32.bits
 (IntKind.u32.wrap
 ((IntKind.u32.wrap
 (b.getD (Int.toNat (1 : Int))
 (0 : Int))).mul
 (Int.pow (2 : Int)
 (if
 Int.toNat (16 : Int) <=
 IntKind.u32.bits then
 Int.toNat (16 : Int)
 else IntKind.u32.bits)))))).toNat :
 Int))).or
 (BitVec.ofInt IntKind.u32.bits
 (IntKind.u32.wrap
 ((IntKind.u32.wrap (b.getD (Int.toNat (2 : Int)) (0 : Int))).mul
 (Int.pow (2 : Int)
 (if Int.toNat (8 : Int) <= IntKind.u32.bits then
 Int.toNat (8 : Int)
 else IntKind.u32.bits)))))).toNat :
 Int))).or
 (BitVec.ofInt IntKind.u32.bits
 (IntKind.u32.wrap (b.getD (Int.toNat (3 : Int)) (0 : Int))))).toNat :
 Int) =
 U.word b /\
 True
def jD (l : List (List Int)) : Prop :=
 ∃ (x0 : Int × Int),
 (U.dX l (0 : Int) (0 : Int) = U.dX l x0.1 x0.2 /\
 U.eP l x0.1 x0.2) /\
 ∀ (x : Int × Int),
 U.eP l x.1 x.2 ->
 bif decide (x.2 < (↑l.length : Int)) then
 (0 : Int) <= x.2 /\
 x.2 < (↑l.length : Int) /\
 bif decide (IntKind.i64.wrap (x.1.add (↑(l.getD x.2.toNat []).length : Int)) < (0 : Int)) then False
 else
 ∃ (y : Int × Int),
 U.dX l
 (IntKind.i64.wrap (x.1.add (↑(l.getD x.2.toNat []).length : Int)))
 (IntKind.i64.wrap (x.2.add (1 : Int))) =
 U.dX l y.1 y.2 /\
 U.eP l y.1 y.2 /\ l.length.sub y.2.toNat < l.length.sub x.2.toNat
 else
 bif decide (x.1 < (0 : Int)) then False
 else
 bif
 decide
 (IntKind.i64.wrap (x.1.sub (IntKind.i64.wrap (Int.sub (0 : Int) (0 : Int)))) > (0 : Int)) then
 (0 : Int) <= (0 : Int) /\
 (0 : Int) <= (0 : Int) /\
 (0 : Int) <= (0 : Int) /\
 (0 : Int) < IntKind.i64.wrap (x.1.sub (IntKind.i64.wrap (Int.sub (0 : Int) (0 : Int)))) /\
 (IntKind.i64.wrap (x.1.sub (IntKind.i64.wrap (Int.sub (0 : Int) (0 : Int))))).mul
 (↑(1 : Nat) : Int) <=
 (140737488355328 : Int) /\
 IntKind.i64.wrap (x.1.sub (IntKind.i64.wrap (Int.sub (0 : Int) (0 : Int)))) <=
 (↑maxLen : Int) /\
 (0 : Int) <= (0 : Int) /\
 (0 : Int) <= (0 : Int) /\
 (0 : Int) <=
 (↑(List.replicate
 (IntKind.i64.wrap
 (x.1.sub (IntKind.i64.wrap (Int.sub (0 : Int) (0 : Int))))).toNat
 (0 : Int)).length :
 Int) /\
 ∃ (x0 : List Int × Int),
 (U.aW l [] (0 : Int) =
 U.aW l x0.1 x0.2 /\
 U.bT l x0.1 x0.2) /\
 ∀ (x : List Int × Int),
 U.bT l x.1 x.2 ->
 bif decide (x.2 < (↑l.length : Int)) then
 (0 : Int) <= x.2 /\
 x.2 < (↑l.length : Int) /\
 (x.1.length.add (l.getD x.2.toNat []).length).mul (1 : Nat) <=
 (140737488355328 : Nat) /\
 x.1.length.add (l.getD x.2.toNat []).length <= maxLen /\
 ∃ (y : List Int × Int),
 U.aW l
 (x.1.append (l.getD x.2.toNat []))
 (IntKind.i64.wrap (x.2.add (1 : Int))) =
 U.aW l y.1 y.2 /\
 U.bT l y.1 y.2 /\
 l.length.sub y.2.toNat < l.length.sub x.2.toNat
 else x.1 = l.flatten /\ True
 else
 ∃ (x0 : List Int × Int),
 (U.aW l [] (0 : Int) = U.aW l x0.1 x0.2 /\
 U.bT l x0.1 x0.2) /\
 ∀ (x : List Int × Int),
 U.bT l x.1 x.2 ->
 bif decide (x.2 < (↑l.length : Int)) then
 (0 : Int) <= x.2 /\
 x.2 < (↑l.length : Int) /\
 (x.1.length.add (l.getD x.2.toNat []).length).mul (1 : Nat) <=
 (140737488355328 : Nat) /\
 x.1.length.add (l.getD x.2.toNat []).length <= maxLen /\
 ∃ (y : List Int × Int),
 U.aW l (x.1.append (l.getD x.2.toNat []))
 (IntKind.i64.wrap (x.2.add (1 : Int))) =
 U.aW l y.1 y.2 /\
 U.bT l y.1 y.2 /\
 l.length.sub y.2.toNat < l.length.sub x.2.toNat
 else x.1 = l.flatten /\ True
def jq (s : List Int) (n : Int) : Prop :=
 ∃ (x0 : Int × Nat),
 (U.dU s n (0 : Int) (0 : Nat) = U.dU s n x0.1 x0.2 /\
 U.dY s n x0.1 x0.2) /\
 ∀ (x : Int × Nat),
 U.dY s n x.1 x.2 ->
 bif decide (x.1 < (↑s.length : Int)) then
 (0 : Int) <= x.1 /\
 x.1 <= (↑s.length : Int) /\
 (↑s.length : Int) <= (↑s.length : Int) /\
 (0 : Int) <= x.1 /\
 x.1 <=
 IntKind.i64.wrap
 (x.1.add
 (bG n
 (↑(List.take ((↑s.length : Int).toNat.sub x.1.toNat) (List.drop x.1.toNat s)).length :
 Int))) /\
 IntKind.i64.wrap
 (x.1.add
 (bG n
 (↑(List.take ((↑s.length : Int).toNat.sub x.1.toNat)
 (List.drop x.1.toNat s)).length :
 Int))) <=
 IntKind.i64.wrap
 (x.1.add
 (bG n
 (↑(List.take ((↑s.length : Int).toNat.sub x.1.toNat)
 (List.drop x.1.toNat s)).length :
 Int))) /\
 IntKind.i64.wrap
 (x.1.add
 (bG n
 (↑(List.take ((↑s.length : Int).toNat.sub x.1.toNat)
 (List.drop x.1.toNat s)).length :
 Int))) <=
 (↑s.length : Int) /\
 x.2 < (U.chunks n.toNat s).length /\
 (U.chunks n.toNat s).getD x.2 [] =
 List.take
 ((IntKind.i64.wrap
 (x.1.add
 (bG n
 (↑(List.take ((↑s.length : Int).toNat.sub x.1.toNat)
 (List.drop x.1.toNat s)).length :
 Int)))).toNat.sub
 x.1.toNat)
 (List.drop x.1.toNat s) /\
 (∃ (y : Int × Nat),
 U.dU s n (IntKind.i64.wrap (x.1.add n))
 (x.2.add (1 : Nat)) =
 U.dU s n y.1 y.2 /\
 U.dY s n y.1 y.2 /\
 (((↑s.length : Int).add n).sub y.1).toNat <
 (((↑s.length : Int).add n).sub x.1).toNat) /\
 true = true
 else x.2 = (U.chunks n.toNat s).length
def KN (b : List Int) : Prop :=
 (64 : Int) ≠ (0 : Int) /\
 (64 : Int) ≠ (0 : Int) /\
 (0 : Int) <=
 IntKind.i64.wrap
 (((IntKind.i64.wrap (Int.sub (119 : Int) ((↑b.length : Int).tmod (64 : Int)))).tmod (64 : Int)).add
 (8 : Int)) /\
 IntKind.i64.wrap
 (((IntKind.i64.wrap (Int.sub (119 : Int) ((↑b.length : Int).tmod (64 : Int)))).tmod (64 : Int)).add
 (8 : Int)) <=
 IntKind.i64.wrap
 (((IntKind.i64.wrap (Int.sub (119 : Int) ((↑b.length : Int).tmod (64 : Int)))).tmod (64 : Int)).add
 (8 : Int)) /\
 (IntKind.i64.wrap
 (((IntKind.i64.wrap (Int.sub (119 : Int) ((↑b.length : Int).tmod (64 : Int)))).tmod (64 : Int)).add
 (8 : Int))).mul
 (↑(1 : Nat) : Int) <=
 (140737488355328 : Int) /\
 IntKind.i64.wrap
 (((IntKind.i64.wrap (Int.sub (119 : Int) ((↑b.length : Int).tmod (64 : Int)))).tmod (64 : Int)).add
 (8 : Int)) <=
 (9223372036854775807 : Int) /\
 (b.append
 ((128 : Int) ::
 (List.replicate
 (IntKind.i64.wrap
 (((IntKind.i64.wrap (Int.sub (119 : Int) ((↑b.length : Int).tmod (64 : Int)))).tmod
 (64 : Int)).add
 (8 : Int))).toNat
 (0 : Int)).append
 [])).length <=
 (70000000000000 : Nat) /\
 ∃ (x0 : List Int × Int × Int),
 (U.rW b
 (b.append
 ((128 : Int) ::
 (List.replicate
 (IntKind.i64.wrap
 (((IntKind.i64.wrap
 (Int.sub (119 : Int) ((↑b.length : Int).tmod (64 : Int)))).tmod
 (64 : Int)).add
 (8 : Int))).toNat
 (0 : Int)).append
 []))
 (IntKind.u64.wrap ((IntKind.u64.wrap (↑b.length : Int)).mul (8 : Int)))
 (IntKind.i64.wrap
 ((↑(b.append
 ((128 : Int) ::
 (List.replicate
 (IntKind.i64.wrap
 (((IntKind.i64.wrap
 (Int.sub (119 : Int)
 ((↑b.length : Int).tmod (64 : Int)))).tmod
 (64 : Int)).add
 (8 : Int))).toNat
 (0 : Int)).append
 [])).length :
 Int).sub
 (1 : Int))) =
 U.rW b x0.1 x0.2.1 x0.2.2 /\
 U.wE b x0.1 x0.2.1 x0.2.2) /\
 ∀ (x : List Int × Int × Int),
 U.wE b x.1 x.2.1 x.2.2 ->
 bif decide (x.2.1 > (0 : Int)) then
 (0 : Int) <= x.2.2 /\
 x.2.2 < (↑x.1.length : Int) /\
 x.2.2.toNat < x.1.length /\
 (0 : Int) <= (8 : Int) /\
 ∃ (y : List Int × Int × Int),
 U.rW b (x.1.set x.2.2.toNat (IntKind.u8.wrap x.2.1))
 (x.2.1.fdiv
 (Int.pow (2 : Int)
 (if Int.toNat (8 : Int) <= IntKind.u64.bits then Int.toNat (8 : Int)
 else IntKind.u64.bits)))
 (IntKind.i64.wrap (x.2.2.sub (1 : Int))) =
 U.rW b y.1 y.2.1 y.2.2 /\
 U.wE b y.1 y.2.1 y.2.2 /\ y.2.1.toNat < x.2.1.toNat
 else x.1 = U.pad b /\ True
def xM (b : List Int) : Prop :=
 ∃ (x0 : List Int × Int),
 (U.ku b
 [(0 : Int), (0 : Int), (0 : Int), (0 : Int), (0 : Int), (0 : Int), (0 : Int), (0 : Int), (0 : Int),
 (0 : Int), (0 : Int), (0 : Int), (0 : Int), (0 : Int), (0 : Int), (0 : Int), (0 : Int), (0 : Int),
 (0 : Int), (0 : Int), (0 : Int), (0 : Int), (0 : Int), (0 : Int), (0 : Int), (0 : Int), (0 : Int),
 (0 : Int), (0 : Int), (0 : Int), (0 : Int), (0 : Int), (0 : Int), (0 : Int), (0 : Int), (0 : Int),
 (0 : Int), (0 : Int), (0 : Int), (0 : Int), (0 : Int), (0 : Int), (0 : Int), (0 : Int), (0 : Int),
 (0 : Int), (0 : Int), (0 : Int), (0 : Int), (0 : Int), (0 : Int), (0 : Int), (0 : Int), (0 : Int),
 (0 : Int), (0 : Int), (0 : Int), (0 : Int), (0 : Int), (0 : Int), (0 : Int), (0 : Int), (0 : Int),
 (0 : Int)]
 (0 : Int) =
 U.ku b x0.1 x0.2 /\
 U.lF b x0.1 x0.2) /\
 ∀ (x : List Int × Int),
 U.lF b x.1 x.2 ->
 bif decide (x.2 < (16 : Int)) then
 (0 : Int) <= IntKind.i64.wrap (Int.mul (4 : Int) x.2) /\
 IntKind.i64.wrap (Int.mul (4 : Int) x.2) <= (↑b.length : Int) /\
 (↑b.length : Int) <= (↑b.length : Int) /\
 (4 : Nat) <=
 (List.take ((↑b.length : Int).toNat.sub (IntKind.i64.wrap (Int.mul (4 : Int) x.2)).toNat)
 (List.drop (IntKind.i64.wrap (Int.mul (4 : Int) x.2)).toNat b)).length /\
 (0 : Int) <= x.2 /\
 x.2 < (↑(64 : Nat) : Int) /\
 x.2.toNat < (64 : Nat) /\
 ∃ (y : List Int × Int),
 U.ku b
 (x.1.set x.2.toNat
 (U.word
 (List.take
 ((↑b.length : Int).toNat.sub (IntKind.i64.wrap (Int.mul (4 : Int) x.2)).toNat)
 (List.drop (IntKind.i64.wrap (Int.mul (4 : Int) x.2)).toNat b))))
 (IntKind.i64.wrap (x.2.add (1 : Int))) =
 U.ku b y.1 y.2 /\
 U.lF b y.1 y.2 /\
 Nat.sub (16 : Nat) y.2.toNat < Nat.sub (16 : Nat) x.2.toNat
 else
 ∃ (x0 : List Int × Int),
 (U.kC b x.1 (16 : Int) = U.kC b x0.1 x0.2 /\
 U.lG b x0.1 x0.2) /\
 ∀ (x : List Int × Int),
 U.lG b x.1 x.2 ->
 bif decide (x.2 < (64 : Int)) then
 (0 : Int) <= IntKind.i64.wrap (x.2.sub (15 : Int)) /\
 IntKind.i64.wrap (x.2.sub (15 : Int)) < (↑(64 : Nat) : Int) /\
 (IntKind.i64.wrap (x.2.sub (15 : Int))).toNat < (64 : Nat) /\
 (0 : Int) <= IntKind.i64.wrap (x.2.sub (2 : Int)) /\
 IntKind.i64.wrap (x.2.sub (2 : Int)) < (↑(64 : Nat) : Int) /\
 (IntKind.i64.wrap (x.2.sub (2 : Int))).toNat < (64 : Nat) /\
 (0 : Int) <= IntKind.i64.wrap (x.2.sub (16 : Int)) /\
 IntKind.i64.wrap (x.2.sub (16 : Int)) < (↑(64 : Nat) : Int) /\
 (IntKind.i64.wrap (x.2.sub (16 : Int))).toNat < (64 : Nat) /\
 (0 : Int) <= (3 : Int) /\
 (0 : Int) <= IntKind.i64.wrap (x.2.sub (7 : Int)) /\
 IntKind.i64.wrap (x.2.sub (7 : Int)) < (↑(64 : Nat) : Int) /\
 (IntKind.i64.wrap (x.2.sub (7 : Int))).toNat < (64 : Nat) /\
 (0 : Int) <= (10 : Int) /\
 (0 : Int) <= x.2 /\
 x.2 < (↑(64 : Nat) : Int) /\
 x.2.toNat < (64 : Nat) /\
 ∃ (y : List Int × Int),
 U.kC b
 (x.1.set x.2.toNat
 (IntKind.u32.wrap
 ((IntKind.u32.wrap
 ((IntKind.u32.wrap
 ((x.1.getD
 (IntKind.i64.wrap
 (x.2.sub (16 : Int))).toNat
 (0 : Int)).add
 (IntKind.u32.wrap
 (↑((BitVec.ofInt IntKind.u32.bits
 (IntKind.u32.wrap
 (↑((BitVec.ofInt
 IntKind.u32.bits
 (U.right
 (x.1.getD
 (IntKind.i64.wrap
 (x.2.sub
 (15 :
 Int))).toNat
 (0 :
 Int))
 (7 :
 Int))).xor
 (BitVec.ofInt
 IntKind.u32.bits
 (U.right
 (x.1.getD
 (IntKind.i64.wrap
 (x.2.sub
 (15 :
 Int))).toNat
 (0 :
 Int))
 (18 :
 Int)))).toNat :
 Int))).xor
 (BitVec.ofInt
 IntKind.u32.bits
 ((x.1.getD
 (IntKind.i64.wrap
 (x.2.sub
 (15 :
 Int))).toNat
 (0 : Int)).fdiv
 (Int.pow (2 : Int)
 (if
 Int.toNat
 (3 : Int) <=
 IntKind.u32.bits then
 Int.toNat (3 : Int)
 else
 IntKind.u32.bits))))).toNat :
 Int)))).add
 (x.1.getD
 (IntKind.i64.wrap
 (x.2.sub (7 : Int))).toNat
 (0 : Int)))).add
 (IntKind.u32.wrap
 (↑((BitVec.ofInt IntKind.u32.bits
 (IntKind.u32.wrap
 (↑((BitVec.ofInt IntKind.u32.bits
 (U.right
 (x.1.getD
 (IntKind.i64.wrap
 (x.2.sub
 (2 :
 Int))).toNat
 (0 : Int))
 (17 : Int))).xor
 (BitVec.ofInt
 IntKind.u32.bits
 (U.right
 (x.1.getD
 (IntKind.i64.wrap
 (x.2.sub
 (2 :
 Int))).toNat
 (0 : Int))
 (19 : Int)))).toNat :
 Int))).xor
 (BitVec.ofInt IntKind.u32.bits
 ((x.1.getD
 (IntKind.i64.wrap
 (x.2.sub (2 : Int))).toNat
 (0 : Int)).fdiv
 (Int.pow (2 : Int)
 (if
 Int.toNat (10 : Int) <=
 IntKind.u32.bits then
 Int.toNat (10 : Int)
 else IntKind.u32.bits))))).toNat :
 Int)))))
 (IntKind.i64.wrap (x.2.add (1 : Int))) =
 U.kC b y.1 y.2 /\
 U.lG b y.1 y.2 /\
 Nat.sub (64 : Nat) y.2.toNat <
 Nat.sub (64 : Nat) x.2.toNat
 else x.1 = U.sched b /\ True
def Hy (h : List Int) (b : List Int) : Prop :=
 (0 : Int) <= (0 : Int) /\
 (0 : Int) < (↑(8 : Nat) : Int) /\
 Int.toNat (0 : Int) < (8 : Nat) /\
 (0 : Int) <= (1 : Int) /\
 (1 : Int) < (↑(8 : Nat) : Int) /\
 Int.toNat (1 : Int) < (8 : Nat) /\
 (0 : Int) <= (2 : Int) /\
 (2 : Int) < (↑(8 : Nat) : Int) /\
 Int.toNat (2 : Int) < (8 : Nat) /\
 (0 : Int) <= (3 : Int) /\
 (3 : Int) < (↑(8 : Nat) : Int) /\
 Int.toNat (3 : Int) < (8 : Nat) /\
 (0 : Int) <= (4 : Int) /\
 (4 : Int) < (↑(8 : Nat) : Int) /\
 Int.toNat (4 : Int) < (8 : Nat) /\
 (0 : Int) <= (5 : Int) /\
 (5 : Int) < (↑(8 : Nat) : Int) /\
 Int.toNat (5 : Int) < (8 : Nat) /\
 (0 : Int) <= (6 : Int) /\
 (6 : Int) < (↑(8 : Nat) : Int) /\
 Int.toNat (6 : Int) < (8 : Nat) /\
 (0 : Int) <= (7 : Int) /\
 (7 : Int) < (↑(8 : Nat) : Int) /\
 Int.toNat (7 : Int) < (8 : Nat) /\
 (64 : Nat) <= b.length /\
 ∃ (x0 : Int × Int × Int × Int × Int × Int × Int × Int × Int),
 (U.qj h b (h.getD (Int.toNat (0 : Int)) (0 : Int))
 (h.getD (Int.toNat (1 : Int)) (0 : Int))
 (h.getD (Int.toNat (2 : Int)) (0 : Int))
 (h.getD (Int.toNat (3 : Int)) (0 : Int))
 (h.getD (Int.toNat (4 : Int)) (0 : Int))
 (h.getD (Int.toNat (5 : Int)) (0 : Int))
 (h.getD (Int.toNat (6 : Int)) (0 : Int))
 (h.getD (Int.toNat (7 : Int)) (0 : Int)) (0 : Int) =
 U.qj h b x0.1 x0.2.1 x0.2.2.1
 x0.2.2.2.1 x0.2.2.2.2.1
 x0.2.2.2.2.2.1 x0.2.2.2.2.2.2.1
 x0.2.2.2.2.2.2.2.1
 x0.2.2.2.2.2.2.2.2 /\
 U.rX h b x0.1 x0.2.1 x0.2.2.1
 x0.2.2.2.1 x0.2.2.2.2.1
 x0.2.2.2.2.2.1 x0.2.2.2.2.2.2.1
 x0.2.2.2.2.2.2.2.1
 x0.2.2.2.2.2.2.2.2) /\
 ∀ (x : Int × Int × Int × Int × Int × Int × Int × Int × Int),
 U.rX h b x.1 x.2.1 x.2.2.1
 x.2.2.2.1 x.2.2.2.2.1
 x.2.2.2.2.2.1 x.2.2.2.2.2.2.1
 x.2.2.2.2.2.2.2.1
 x.2.2.2.2.2.2.2.2 ->
 bif
 decide
 (x.2.2.2.2.2.2.2.2 < (64 : Int)) then
 (0 : Int) <= x.2.2.2.2.2.2.2.2 /\
 x.2.2.2.2.2.2.2.2 <
 (↑(64 : Nat) : Int) /\
 (0 : Int) <= x.2.2.2.2.2.2.2.2 /\
 x.2.2.2.2.2.2.2.2 <
 (↑(64 : Nat) : Int) /\
 ∃ (y :
 Int ×
 Int ×
 Int × Int × Int × Int × Int × Int × Int),
 U.qj h b
 (IntKind.u32.wrap
 ((IntKind.u32.wrap
 ((IntKind.u32.wrap
 ((IntKind.u32.wrap
 ((IntKind.u32.wrap
 (x.2.2.2.2.2.2.2.1.add
 (IntKind.u32.wrap
 (↑((BitVec.ofInt
 IntKind.u32.bits
 (IntKind.u32.wrap
 (↑((BitVec.ofInt
 IntKind.u32.bits
 (U.right
 x.2.2.2.2.1
 (6 :
 Int))).xor
 (BitVec.ofInt
 IntKind.u32.bits
 (U.right
 x.2.2.2.2.1
 (11 :
 Int)))).toNat :
 Int))).xor
 (BitVec.ofInt
 IntKind.u32.bits
 (U.right
 x.2.2.2.2.1
 (25 :
 Int)))).toNat :
 Int)))).add
 (IntKind.u32.wrap
 (↑((BitVec.ofInt
 IntKind.u32.bits
 x.2.2.2.2.2.2.1).xor
 (BitVec.ofInt
 IntKind.u32.bits
 (IntKind.u32.wrap
 (↑((BitVec.ofInt
 IntKind.u32.bits
 x.2.2.2.2.1).and
 (BitVec.ofInt
 IntKind.u32.bits
 (IntKind.u32.wrap
 (↑((BitVec.ofInt
 IntKind.u32.bits
 x.2.2.2.2.2.1).xor
 (BitVec.ofInt
 IntKind.u32.bits
 x.2.2.2.2.2.2.1)).toNat :
 Int)))).toNat :
 Int)))).toNat :
 Int)))).add
 ([(1116352408 : Int),
 (1899447441 : Int),
 (3049323471 : Int),
 (3921009573 : Int),
 (961987163 : Int),
 (1508970993 : Int),
 (2453635748 : Int),
 (2870763221 : Int),
 (3624381080 : Int),
 (310598401 : Int),
 (607225278 : Int),
 (1426881987 : Int),
 (1925078388 : Int),
 (2162078206 : Int),
 (2614888103 : Int),
 (3248222580 : Int),
 (3835390401 : Int),
 (4022224774 : Int),
 (264347078 : Int),
 (604807628 : Int),
 (770255983 : Int),
 (1249150122 : Int),
 (1555081692 : Int),
 (1996064986 : Int),
 (2554220882 : Int),
 (2821834349 : Int),
 (2952996808 : Int),
 (3210313671 : Int),
 (3336571891 : Int),
 (3584528711 : Int),
 (113926993 : Int),
 (338241895 : Int),
 (666307205 : Int),
 (773529912 : Int),
 (1294757372 : Int),
 (1396182291 : Int),
 (1695183700 : Int),
 (1986661051 : Int),
 (2177026350 : Int),
 (2456956037 : Int),
 (2730485921 : Int),
 (2820302411 : Int),
 (3259730800 : Int),
 (3345764771 : Int),
 (3516065817 : Int),
 (3600352804 : Int),
 (4094571909 : Int),
 (275423344 : Int),
 (430227734 : Int),
 (506948616 : Int),
 (659060556 : Int),
 (883997877 : Int),
 (958139571 : Int),
 (1322822218 : Int),
 (1537002063 : Int),
 (1747873779 : Int),
 (1955562222 : Int),
 (2024104815 : Int),
 (2227730452 : Int),
 (2361852424 : Int),
 (2428436474 : Int),
 (2756734187 : Int),
 (3204031479 : Int),
 (3329325298 :
 Int)].getD
 x.2.2.2.2.2.2.2.2.toNat
 (0 : Int)))).add
 ((U.sched b).getD
 x.2.2.2.2.2.2.2.2.toNat
 (0 : Int)))).add
 (IntKind.u32.wrap
 ((IntKind.u32.wrap
 (↑((BitVec.ofInt
 IntKind.u32.bits
 (IntKind.u32.wrap
 (↑((BitVec.ofInt
 IntKind.u32.bits
 (U.right
 x.1
 (2 :
 Int))).xor
 (BitVec.ofInt
 IntKind.u32.bits
 (U.right
 x.1
 (13 :
 Int)))).toNat :
 Int))).xor
 (BitVec.ofInt
 IntKind.u32.bits
 (U.right x.1
 (22 :
 Int)))).toNat :
 Int)).add
 (IntKind.u32.wrap
 (↑((BitVec.ofInt
 IntKind.u32.bits
 (IntKind.u32.wrap
 (↑((BitVec.ofInt
 IntKind.u32.bits
 x.1).and
 (BitVec.ofInt
 IntKind.u32.bits
 x.2.1)).toNat :
 Int))).or
 (BitVec.ofInt
 IntKind.u32.bits
 (IntKind.u32.wrap
 (↑((BitVec.ofInt
 IntKind.u32.bits
 x.2.2.1).and
 (BitVec.ofInt
 IntKind.u32.bits
 (IntKind.u32.wrap
 (↑((BitVec.ofInt
 IntKind.u32.bits
 x.1).or
 (BitVec.ofInt
 IntKind.u32.bits
 x.2.1)).toNat :
 Int)))).toNat :
 Int)))).toNat :
 Int))))))
 x.1 x.2.1 x.2.2.1
 (IntKind.u32.wrap
 (x.2.2.2.1.add
 (IntKind.u32.wrap
 ((IntKind.u32.wrap
 ((IntKind.u32.wrap
 ((IntKind.u32.wrap
 (x.2.2.2.2.2.2.2.1.add
 (IntKind.u32.wrap
 (↑((BitVec.ofInt
 IntKind.u32.bits
 (IntKind.u32.wrap
 (↑((BitVec.ofInt
 IntKind.u32.bits
 (U.right
 x.2.2.2.2.1
 (6 :
 Int))).xor
 (BitVec.ofInt
 IntKind.u32.bits
 (U.right
 x.2.2.2.2.1
 (11 :
 Int)))).toNat :
 Int))).xor
 (BitVec.ofInt
 IntKind.u32.bits
 (U.right
 x.2.2.2.2.1
 (25 :
 Int)))).toNat :
 Int)))).add
 (IntKind.u32.wrap
 (↑((BitVec.ofInt
 IntKind.u32.bits
 x.2.2.2.2.2.2.1).xor
 (BitVec.ofInt
 IntKind.u32.bits
 (IntKind.u32.wrap
 (↑((BitVec.ofInt
 IntKind.u32.bits
 x.2.2.2.2.1).and
 (BitVec.ofInt
 IntKind.u32.bits
 (IntKind.u32.wrap
 (↑((BitVec.ofInt
 IntKind.u32.bits
 x.2.2.2.2.2.1).xor
 (BitVec.ofInt
 IntKind.u32.bits
 x.2.2.2.2.2.2.1)).toNat :
 Int)))).toNat :
 Int)))).toNat :
 Int)))).add
 ([(1116352408 : Int),
 (1899447441 : Int),
 (3049323471 : Int),
 (3921009573 : Int),
 (961987163 : Int),
 (1508970993 : Int),
 (2453635748 : Int),
 (2870763221 : Int),
 (3624381080 : Int),
 (310598401 : Int),
 (607225278 : Int),
 (1426881987 : Int),
 (1925078388 : Int),
 (2162078206 : Int),
 (2614888103 : Int),
 (3248222580 : Int),
 (3835390401 : Int),
 (4022224774 : Int),
 (264347078 : Int),
 (604807628 : Int),
 (770255983 : Int),
 (1249150122 : Int),
 (1555081692 : Int),
 (1996064986 : Int),
 (2554220882 : Int),
 (2821834349 : Int),
 (2952996808 : Int),
 (3210313671 : Int),
 (3336571891 : Int),
 (3584528711 : Int),
 (113926993 : Int),
 (338241895 : Int),
 (666307205 : Int),
 (773529912 : Int),
 (1294757372 : Int),
 (1396182291 : Int),
 (1695183700 : Int),
 (1986661051 : Int),
 (2177026350 : Int),
 (2456956037 : Int),
 (2730485921 : Int),
 (2820302411 : Int),
 (3259730800 : Int),
 (3345764771 : Int),
 (3516065817 : Int),
 (3600352804 : Int),
 (4094571909 : Int),
 (275423344 : Int),
 (430227734 : Int),
 (506948616 : Int),
 (659060556 : Int),
 (883997877 : Int),
 (958139571 : Int),
 (1322822218 : Int),
 (1537002063 : Int),
 (1747873779 : Int),
 (1955562222 : Int),
 (2024104815 : Int),
 (2227730452 : Int),
 (2361852424 : Int),
 (2428436474 : Int),
 (2756734187 : Int),
 (3204031479 : Int),
 (3329325298 :
 Int)].getD
 x.2.2.2.2.2.2.2.2.toNat
 (0 : Int)))).add
 ((U.sched b).getD
 x.2.2.2.2.2.2.2.2.toNat
 (0 : Int))))))
 x.2.2.2.2.1
 x.2.2.2.2.2.1
 x.2.2.2.2.2.2.1
 (IntKind.i64.wrap
 (x.2.2.2.2.2.2.2.2.add
 (1 : Int))) =
 U.qj h b y.1 y.2.1
 y.2.2.1 y.2.2.2.1
 y.2.2.2.2.1
 y.2.2.2.2.2.1
 y.2.2.2.2.2.2.1
 y.2.2.2.2.2.2.2.1
 y.2.2.2.2.2.2.2.2 /\
 U.rX h b y.1 y.2.1
 y.2.2.1 y.2.2.2.1
 y.2.2.2.2.1
 y.2.2.2.2.2.1
 y.2.2.2.2.2.2.1
 y.2.2.2.2.2.2.2.1
 y.2.2.2.2.2.2.2.2 /\
 Nat.sub (64 : Nat)
 y.2.2.2.2.2.2.2.2.toNat <
 Nat.sub (64 : Nat)
 x.2.2.2.2.2.2.2.2.toNat
 else
 ∃ (x0 : List Int × List Int × Int),
 (U.nY h b
 (((((((([(0 : Int), (0 : Int), (0 : Int),
 (0 : Int),
 (0 : Int),
 (0 : Int),
 (0 : Int),
 (0 : Int)].set
 (0 : Nat)
 x.1).set
 (1 : Nat)
 x.2.1).set
 (2 : Nat)
 x.2.2.1).set
 (3 : Nat)
 x.2.2.2.1).set
 (4 : Nat)
 x.2.2.2.2.1).set
 (5 : Nat)
 x.2.2.2.2.2.1).set
 (6 : Nat)
 x.2.2.2.2.2.2.1).set
 (7 : Nat) x.2.2.2.2.2.2.2.1)
 h (0 : Int) =
 U.nY h b x0.1 x0.2.1 x0.2.2 /\
 U.ql h b x0.1 x0.2.1 x0.2.2) /\
 ∀ (x : List Int × List Int × Int),
 U.ql h b x.1 x.2.1 x.2.2 ->
 bif decide (x.2.2 < (8 : Int)) then
 (0 : Int) <= x.2.2 /\
 x.2.2 < (↑(8 : Nat) : Int) /\
 (0 : Int) <= x.2.2 /\
 x.2.2 < (↑(8 : Nat) : Int) /\
 x.2.2.toNat < (8 : Nat) /\
 (0 : Int) <= x.2.2 /\
 x.2.2 < (↑(8 : Nat) : Int) /\
 x.2.2.toNat < (8 : Nat) /\
 ∃ (y :
 List Int × List Int × Int),
 U.nY h b x.1
 (x.2.1.set
 x.2.2.toNat
 (IntKind.u32.wrap
 ((x.2.1.getD
 x.2.2.toNat
 (0 : Int)).add
 (x.1.getD
 x.2.2.toNat
 (0 : Int)))))
 (IntKind.i64.wrap
 (x.2.2.add
 (1 : Int))) =
 U.nY h b y.1
 y.2.1 y.2.2 /\
 U.ql h b y.1
 y.2.1 y.2.2 /\
 Nat.sub (8 : Nat)
 y.2.2.toNat <
 Nat.sub (8 : Nat)
 x.2.2.toNat
 else
 x.2.1 =
 List.zipWith U.add32 h
 (U.ls8
 (U.EO (U.sched b) (64 : Nat)
 (U.st8 h))) /\
 True
def KO (b : List Int) : Prop :=
 b.length <= (1000000000000 : Nat) /\
 bif decide ((64 : Int) < (1 : Int)) then False
 else
 (1 : Int) <= (64 : Int) /\
 (64 : Int) <= (4294967296 : Int) /\
 (U.pad b).length <= (4611686018427387904 : Nat) /\
 ∃ (x0 : List Int × Nat),
 (U.rY b
 [(1779033703 : Int), (3144134277 : Int), (1013904242 : Int), (2773480762 : Int),
 (1359893119 : Int), (2600822924 : Int), (528734635 : Int), (1541459225 : Int)]
 x0.2 =
 U.rY b x0.1 x0.2 /\
 U.qP b x0.1 x0.2 /\ x0.2 = (0 : Nat)) /\
 (∀ (x : List Int × Nat),
 U.qP b x.1 x.2 ->
 x.2 < (U.chunks (Int.toNat (64 : Int)) (U.pad b)).length ->
 (64 : Nat) <= ((U.chunks (Int.toNat (64 : Int)) (U.pad b)).getD x.2 []).length /\
 ∃ (y : List Int × Nat),
 U.rY b
 (List.zipWith U.add32 x.1
 (U.ls8
 (U.EO (U.sched ((U.chunks (Int.toNat (64 : Int)) (U.pad b)).getD x.2 []))
 (64 : Nat) (U.st8 x.1))))
 y.2 =
 U.rY b y.1 y.2 /\
 U.qP b y.1 y.2 /\ y.2 = x.2.add (1 : Nat)) /\
 ∀ (x : List Int × Nat),
 U.qP b x.1 x.2 ->
 x.2 = (U.chunks (Int.toNat (64 : Int)) (U.pad b)).length ->
 ∃ (x0 : List Int × List Int × Int),
 (U.rZ b
 [(0 : Int), (0 : Int), (0 : Int), (0 : Int), (0 : Int), (0 : Int), (0 : Int),
 (0 : Int), (0 : Int), (0 : Int), (0 : Int), (0 : Int), (0 : Int), (0 : Int),
 (0 : Int), (0 : Int), (0 : Int), (0 : Int), (0 : Int), (0 : Int), (0 : Int),
 (0 : Int), (0 : Int), (0 : Int), (0 : Int), (0 : Int), (0 : Int), (0 : Int),
 (0 : Int), (0 : Int), (0 : Int), (0 : Int)]
 x.1 (0 : Int) =
 U.rZ b x0.1 x0.2.1 x0.2.2 /\
 U.wF b x0.1 x0.2.1 x0.2.2) /\
 ∀ (x : List Int × List Int × Int),
 U.wF b x.1 x.2.1 x.2.2 ->
 bif decide (x.2.2 < (32 : Int)) then
 (4 : Int) ≠ (0 : Int) /\
 (0 : Int) <= IntKind.i64.wrap (x.2.2.tdiv (4 : Int)) /\
 IntKind.i64.wrap (x.2.2.tdiv (4 : Int)) < (↑(8 : Nat) : Int) /\
 (IntKind.i64.wrap (x.2.2.tdiv (4 : Int))).toNat < (8 : Nat) /\
 (4 : Int) ≠ (0 : Int) /\
 (0 : Int) <=
 IntKind.i64.wrap
 (Int.sub (24 : Int)
 (IntKind.i64.wrap (Int.mul (8 : Int) (x.2.2.tmod (4 : Int))))) /\
 (0 : Int) <= x.2.2 /\
 x.2.2 < (↑(32 : Nat) : Int) /\
 x.2.2.toNat < (32 : Nat) /\
 ∃ (y : List Int × List Int × Int),
 U.rZ b
 (x.1.set x.2.2.toNat
 (IntKind.u8.wrap
 ((x.2.1.getD
 (IntKind.i64.wrap
 (x.2.2.tdiv (4 : Int))).toNat
 (0 : Int)).fdiv
 (Int.pow (2 : Int)
 (if
 (IntKind.i64.wrap
 (Int.sub (24 : Int)
 (IntKind.i64.wrap
 (Int.mul (8 : Int)
 (x.2.2.tmod
 (4 : Int)))))).toNat <=
 IntKind.u32.bits then
 (IntKind.i64.wrap
 (Int.sub (24 : Int)
 (IntKind.i64.wrap
 (Int.mul (8 : Int)
 (x.2.2.tmod (4 : Int)))))).toNat
 else IntKind.u32.bits)))))
 x.2.1 (IntKind.i64.wrap (x.2.2.add (1 : Int))) =
 U.rZ b y.1 y.2.1 y.2.2 /\
 U.wF b y.1 y.2.1 y.2.2 /\
 Nat.sub (32 : Nat) y.2.2.toNat <
 Nat.sub (32 : Nat) x.2.2.toNat
 else x.1 = U.sum b /\ True
end Go.Proofs.YtkhdeldobekciaaDoor
