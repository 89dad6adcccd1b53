/- What functions of this seat compute, in plain Lean. -/
import Derived.Test.YtkhdeldobekciaaGreatDoorME
set_option linter.unusedVariables false
set_option linter.unusedSimpArgs false
set_option maxRecDepth 100000
namespace Go.Proofs.YtkhdeldobekciaaGreatDoor
open Go.Vc
abbrev RF : Ty := .slice aF
abbrev tW8 : Ty := .arr 8 (.int .u32)
abbrev Yk : Ty := .arr 64 (.int .u32)
abbrev akp : Ty := .arr 32 (.int .u8)
def rK (k : IntKind) (x : Int) : Done := ⟨[], .one (.int k x), [], []⟩
namespace U
def sA (n : Nat) (fr : Bool) (t : Ty) (l : List t.den) : Option SV := some (.v ⟨true, [.arr n fr t l]⟩)
def yld : Option SV := some (.one .yld)
def shl (k : IntKind) (x : Int) (n : Nat) : Int := k.wrap (Int.mul x (Int.pow 2 (min n k.bits)))
def shr (k : IntKind) (x : Int) (n : Nat) : Int := Int.fdiv x (Int.pow 2 (min n k.bits))
def rotl (x k : Int) : Int :=
 let s := T.Ah .u64 (IntKind.wrap .u64 k) 31
 T.orK .u32 (shl .u32 x s.toNat) (shr .u32 x (IntKind.wrap .u64 (Int.sub 32 s)).toNat)
def right (x n : Int) : Int := rotl x (IntKind.wrap .i64 (Int.sub 0 n))
def rot (x n : Int) : Int := IntKind.wrap .u32 (Int.add (shr .u32 x n.toNat) (shl .u32 x (IntKind.wrap .u64 (Int.sub 32 n)).toNat))
def add32 (a b : Int) : Int := IntKind.wrap .u32 (Int.add a b)
abbrev dB := T.akc .u32
abbrev eY := T.Ah .u32
abbrev UR := T.orK .u32
def agO (a : Int) : Int := T.akc .u32 4294967295 a
def word (l : List Int) : Int := ((l.getD 0 0 * 256 + l.getD 1 0) * 256 + l.getD 2 0) * 256 + l.getD 3 0
def S1 (e : Int) : Int := dB (dB (right e 6) (right e 11)) (right e 25)
def S0 (a : Int) : Int := dB (dB (right a 2) (right a 13)) (right a 22)
def s0 (x : Int) : Int := dB (dB (right x 7) (right x 18)) (shr .u32 x 3)
def s1 (y : Int) : Int := dB (dB (right y 17) (right y 19)) (shr .u32 y 10)
abbrev St8 := Int × Int × Int × Int × Int × Int × Int × Int
def one (k w : Int) : St8 -> Int := fun (a, b, c, d, e, f, g, i) => add32 (add32 (add32 (add32 i (S1 e)) (dB g (eY e (dB f g)))) k) w
def two : St8 -> Int := fun (a, b, c, d, e, f, g, i) => add32 (S0 a) (UR (eY a b) (eY c (UR a b)))
def rnd (k w : Int) : St8 -> St8 := fun s => (add32 (one k w s) (two s), s.1, s.2.1, s.2.2.1, add32 s.2.2.2.1 (one k w s), s.2.2.2.2.1, s.2.2.2.2.2.1, s.2.2.2.2.2.2.1)
def DX (w : List Int) : Nat -> St8 -> St8
 | 0, s => s
 | t + 1, s => rnd (IG.getD t 0) (w.getD t 0) (DX w t s)
def st8 (h : List Int) : St8 := (h.getD 0 0, h.getD 1 0, h.getD 2 0, h.getD 3 0, h.getD 4 0, h.getD 5 0, h.getD 6 0, h.getD 7 0)
def ls8 : St8 -> List Int := fun (a, b, c, d, e, f, g, i) => [a, b, c, d, e, f, g, i]
def Xd (l : List Int) : Int := add32 (add32 (add32 (l.getD (l.length - 16) 0) (s0 (l.getD (l.length - 15) 0))) (l.getD (l.length - 7) 0)) (s1 (l.getD (l.length - 2) 0))
def oK (b : List Int) (t : Nat) : List Int := (List.range t).map fun t => word (b.drop (4 * t))
def qG (b : List Int) : Nat -> List Int
 | 0 => oK b 16
 | k + 1 => qG b k ++ [Xd (qG b k)]
def sched (b : List Int) : List Int := qG b 48
def fA (n : Nat) (l : List Int) : List Int := l ++ List.replicate (n - l.length) 0
def step (h b : List Int) : List Int := List.zipWith add32 h (ls8 (DX (sched b) 64 (st8 h)))
def chunks (n : Nat) (l : List Int) : List (List Int) := (List.range ((l.length + n - 1) / n)).map fun k => (l.drop (k * n)).take n
def be8 : Nat -> Nat -> List Int
 | 0, _ => []
 | k + 1, n => ((n / 256 ^ k % 256 : Nat) : Int) :: be8 k n
def zeros (n : Nat) : Nat := (119 - n % 64) % 64
def pad (b : List Int) : List Int := b ++ (128 :: (List.replicate (zeros b.length) 0 ++ be8 8 (b.length * 8)))
def qj (h : List Int) : List Int := (List.range 32).map fun k => IntKind.wrap .u8 (shr .u32 (h.getD (k / 4) 0) (24 - 8 * (k % 4)))
def sums (b : List Int) : List Int := (chunks 64 (pad b)).foldl step x9
def sum (b : List Int) : List Int := qj (sums b)
end U
namespace U
def dZ (l : List (List Int)) (n : Int) (i : Int) : St2 := ⟨⟨[sL false aF l] ++ U.n 2 ++ [sI n] ++ U.n 5 ++ [sL false aF l] ++ [sI l.length] ++ [sI i] ++ U.n 24, [], []⟩, 0, []⟩
def eX (l : List (List Int))  (n : Int) (i : Int) : Prop := at_ l i /\ n = (l.take i.toNat).flatten.length
def bn (l : List (List Int)) (o : List Int) (i : Int) : St2 := ⟨⟨U.n 6 ++ [own 0] ++ U.n 18 ++ [sL false aF l] ++ [sI l.length] ++ [sI i] ++ U.n 8, [], [(0, .row 5 (.int .u8) true true o)]⟩, 1, []⟩
def cZ (l : List (List Int))  (o : List Int) (i : Int) : Prop := at_ l i /\ o = (l.take i.toNat).flatten
def dX (s : List Int) (n : Int) (i : Int) (k : Nat) : St2 := ⟨⟨[yld] ++ [sP 0 0] ++ [sP 1 0] ++ U.n 1 ++ [sI i] ++ U.n 26, [], [(0, .obj [.psl false (.int .u8) s]), (1, .obj [.int .i64 n])]⟩, 2, [0, k]⟩
def eu (s : List Int) (n : Int)  (i : Int) (k : Nat) : Prop := i = k * n /\ i < s.length + n
def vV (b : List Int) (o : List Int) (n : Int) (i : Int) : St2 := ⟨⟨U.n 4 ++ [own 0] ++ [sK .u64 n] ++ [sI i] ++ U.n 31, [], [(0, .row 5 (.int .u8) true true o)]⟩, 1, []⟩
def zy (b : List Int)  (o : List Int) (n : Int) (i : Int) : Prop := ∃ k : Nat, k <= 8 /\ n = ((b.length * 8 / 256 ^ k : Nat) : Int) /\ i = b.length + zeros b.length + 8 - k /\ o = b ++ (128 :: (List.replicate (zeros b.length + (8 - k)) 0 ++ be8 k (b.length * 8)))
def lg (b : List Int) (w : List Int) (t : Int) : St2 := ⟨⟨[sL false (.int .u8) b] ++ U.n 1 ++ [sP 0 0] ++ U.n 4 ++ [sI t] ++ U.n 52, [], [(0, .obj [.arr 64 true (.int .u32) w])]⟩, 1, []⟩
def mY (b : List Int)  (w : List Int) (t : Int) : Prop := 0 <= t /\ t <= 16 /\ w = fA 64 (oK b t.toNat)
def lq (b : List Int) (w : List Int) (t : Int) : St2 := ⟨⟨U.n 2 ++ [sP 0 0] ++ U.n 1 ++ [sI t] ++ U.n 55, [], [(0, .obj [.arr 64 true (.int .u32) w])]⟩, 1, []⟩
def mZ (b : List Int)  (w : List Int) (t : Int) : Prop := 16 <= t /\ t <= 64 /\ w = fA 64 (qG b (t.toNat - 16))
def tK (h bl : List Int) (a : Int) (b : Int) (c : Int) (d : Int) (e : Int) (f : Int) (g : Int) (i : Int) (t : Int) : St2 := ⟨⟨U.n 2 ++ [sP 0 0] ++ U.n 1 ++ [sP 1 0] ++ [sK .u32 a] ++ [sK .u32 b] ++ [sK .u32 c] ++ [sK .u32 d] ++ [sK .u32 e] ++ [sK .u32 f] ++ [sK .u32 g] ++ [sK .u32 i] ++ U.n 23 ++ [sA 64 true (.int .u32) (sched bl)] ++ [sI t] ++ U.n 79, [], [(0, .obj [.arr 8 true (.int .u32) h]), (1, .obj [.arr 8 true (.int .u32) (List.replicate 8 0)])]⟩, 2, []⟩
def vW (h bl : List Int)  (a : Int) (b : Int) (c : Int) (d : Int) (e : Int) (f : Int) (g : Int) (i : Int) (t : Int) : Prop := 0 <= t /\ t <= 64 /\ (a, b, c, d, e, f, g, i) = DX (sched bl) t.toNat (st8 h)
def qH (h bl : List Int) (v : List Int) (hh : List Int) (k : Int) : St2 := ⟨⟨U.n 2 ++ [sP 0 0] ++ U.n 1 ++ [sP 1 0] ++ U.n 99 ++ [sA 8 true (.int .u32) v] ++ [sI k] ++ U.n 11, [], [(0, .obj [.arr 8 true (.int .u32) hh]), (1, .obj [.arr 8 true (.int .u32) (List.replicate 8 0)])]⟩, 2, []⟩
def tN (h bl : List Int)  (v : List Int) (hh : List Int) (k : Int) : Prop := 0 <= k /\ k <= 8 /\ v = ls8 (DX (sched bl) 64 (st8 h)) /\ hh = List.zipWith add32 (h.take k.toNat) v ++ h.drop k.toNat
def vX (b : List Int) (h : List Int) (k : Nat) : St2 := ⟨⟨U.n 2 ++ [sP 0 0] ++ [sP 1 0] ++ U.n 27, [], [(0, .obj [.arr 32 true (.int .u8) (List.replicate 32 0)]), (1, .obj [.arr 8 true (.int .u32) h])]⟩, 2, []⟩
def uU (b : List Int)  (h : List Int) (k : Nat) : Prop := h = ((chunks 64 (pad b)).take k).foldl step x9
def vY (b : List Int) (s : List Int) (h : List Int) (k : Int) : St2 := ⟨⟨U.n 2 ++ [sP 0 0] ++ [sP 1 0] ++ U.n 10 ++ [sI k] ++ U.n 16, [], [(0, .obj [.arr 32 true (.int .u8) s]), (1, .obj [.arr 8 true (.int .u32) h])]⟩, 2, []⟩
def zA (b : List Int)  (s : List Int) (h : List Int) (k : Int) : Prop := 0 <= k /\ k <= 32 /\ h = sums b /\ s = (qj h).take k.toNat ++ List.replicate (32 - k.toNat) 0
end U
def Dh (l : List (List Int)) : Vc.Loop := ⟨{ keep := [0, 3, 9, 10, 11] }, Int × Int, fun x => U.dZ l x.1 x.2, fun x0 x => U.eX l  x.1 x.2, fun x => l.length - x.2.toNat⟩
def AA (l : List (List Int)) : Vc.Loop := ⟨{ keep := [6, 25, 26, 27], wake := [(6, 5)] }, List Int × Int, fun x => U.bn l x.1 x.2, fun x0 x => U.cZ l  x.1 x.2, fun x => l.length - x.2.toNat⟩
def AB (s : List Int) (n : Int) : Vc.Loop := ⟨{ keep := [0, 1, 2, 4] }, Int × Nat, fun x => U.dX s n x.1 x.2, fun x0 x => U.eu s n  x.1 x.2, fun x => ((s.length : Int) + n - x.1).toNat⟩
def aeO (b : List Int) : Vc.Loop := ⟨{ keep := [4, 5, 6] }, List Int × Int × Int, fun x => U.vV b x.1 x.2.1 x.2.2, fun x0 x => U.zy b  x.1 x.2.1 x.2.2, fun x => x.2.1.toNat⟩
def UU (b : List Int) : Vc.Loop := ⟨{ keep := [0, 2, 7] }, List Int × Int, fun x => U.lg b x.1 x.2, fun x0 x => U.mY b  x.1 x.2, fun x => 16 - x.2.toNat⟩
def UW (b : List Int) : Vc.Loop := ⟨{ keep := [2, 4] }, List Int × Int, fun x => U.lq b x.1 x.2, fun x0 x => U.mZ b  x.1 x.2, fun x => 64 - x.2.toNat⟩
def ade (h bl : List Int) : Vc.Loop := ⟨{ keep := [2, 4, 5, 6, 7, 8, 9, 10, 11, 12, 36, 37] }, Int × Int × Int × Int × Int × Int × Int × Int × Int, fun x => U.tK h bl x.1 x.2.1 x.2.2.1 x.2.2.2.1 x.2.2.2.2.1 x.2.2.2.2.2.1 x.2.2.2.2.2.2.1 x.2.2.2.2.2.2.2.1 x.2.2.2.2.2.2.2.2, fun x0 x => U.vW h bl  x.1 x.2.1 x.2.2.1 x.2.2.2.1 x.2.2.2.2.1 x.2.2.2.2.2.1 x.2.2.2.2.2.2.1 x.2.2.2.2.2.2.2.1 x.2.2.2.2.2.2.2.2, fun x => 64 - x.2.2.2.2.2.2.2.2.toNat⟩
def Z4 (h bl : List Int) : Vc.Loop := ⟨{ keep := [2, 4, 104, 105] }, List Int × List Int × Int, fun x => U.qH h bl x.1 x.2.1 x.2.2, fun x0 x => U.tN h bl  x.1 x.2.1 x.2.2, fun x => 8 - x.2.2.toNat⟩
def aeP (b : List Int) : Vc.Loop := ⟨{ keep := [2, 3] }, List Int × Nat, fun x => U.vX b x.1 x.2, fun x0 x => U.uU b  x.1 x.2, fun x => x.2⟩
def aeQ (b : List Int) : Vc.Loop := ⟨{ keep := [2, 3, 14] }, List Int × List Int × Int, fun x => U.vY b x.1 x.2.1 x.2.2, fun x0 x => U.zA b  x.1 x.2.1 x.2.2, fun x => 32 - x.2.2.toNat⟩
def lK (x : Int) (k : Int) : Done := rK .u32 (U.rotl x k)
def uZ : Vc.Sum := .pure [.int .u32, .int .i64] false fun x => lK x.1 x.2
def vg (x : Int) (k : Int) : Nat -> List V -> Nat -> Option Vc.Loop := bZ
def iZ : List (Nat × Ent) := (97, .sum uZ) :: zx
def L9 (x : Int) (n : Int) : Done := rK .u32 (U.right x n)
def Xe : Vc.Sum := .pure [.int .u32, .int .i64] false fun x => L9 x.1 x.2
def Xf (x : Int) (n : Int) : Nat -> List V -> Nat -> Option Vc.Loop := bZ
def E5 : List (Nat × Ent) := (86, .sum Xe) :: iZ
def IW (b : List Int) : Done := ⟨[4 <= b.length], .one (.int .u32 (U.word b)), [], []⟩
def Y3 : Vc.Sum := .pure [aF] false fun x => IW x
def Y4 (b : List Int) : Nat -> List V -> Nat -> Option Vc.Loop := bZ
def IX : List (Nat × Ent) := (96, .sum Y3) :: E5
def iT (l : List (List Int)) : Done := ⟨[l.flatten.length <= 70000000000000], .one (.own 0), [], [.row 5 (.int .u8) true true l.flatten]⟩
def tV : Vc.Sum := .pure [RF] false fun x => iT x
def tX (l : List (List Int)) : Nat -> List V -> Nat -> Option Vc.Loop := fun f v k => cond (Nat.beq f 18 && Nat.beq k 3) (some (Dh l)) <| cond (Nat.beq f 18 && Nat.beq k 11) (some (AA l)) <| none
def iU : List (Nat × Ent) := (18, .sum tV) :: IX
def DY (s : List Int) (n : Int) : List (aG [aF]) := U.chunks n.toNat s
def gY (s : List Int) (n : Int) : List Prop := [1 <= n, n <= 4294967296, s.length <= 4611686018427387904]
def dU : I7 := ⟨[aF, .int .i64], [aF], fun x => gY x.1 x.2, fun x => DY x.1 x.2⟩
def rM (s : List Int) (n : Int) : Nat -> List V -> Nat -> Option Vc.Loop := fun f v k => cond (Nat.beq f 84 && Nat.beq k 1) (some (AB s n)) <| none
def iI : List (Nat × Ent) := (84, .seq dU) :: iU
def Mc (b : List Int) : Done := ⟨[b.length <= 1000000000000], .one (.psl true (.int .u8) (U.pad b)), [], []⟩
def adf : Vc.Sum := .pure [aF] false fun x => Mc x
def adg (b : List Int) : Nat -> List V -> Nat -> Option Vc.Loop := fun f v k => cond (Nat.beq f 64 && Nat.beq k 5) (some (aeO b)) <| none
def Md : List (Nat × Ent) := (64, .sum adf) :: iI
def wO (b : List Int) : Done := ⟨[64 <= b.length], .v (.of true Yk (U.sched b)), [], []⟩
def ND : Vc.Sum := .pure [aF] false fun x => wO x
def NG (b : List Int) : Nat -> List V -> Nat -> Option Vc.Loop := fun f v k => cond (Nat.beq f 85 && Nat.beq k 2) (some (UU b)) <| cond (Nat.beq f 85 && Nat.beq k 7) (some (UW b)) <| none
def wP : List (Nat × Ent) := (85, .sum ND) :: Md
def IY (h : List Int) (b : List Int) : Done := ⟨[64 <= b.length], .v (.of false tW8 (U.step h b)), [], []⟩
def Y5 : Vc.Sum := .pure [tW8, aF] true fun x => IY x.1 x.2
def Y6 (h : List Int) (b : List Int) : Nat -> List V -> Nat -> Option Vc.Loop := fun f v k => cond (Nat.beq f 65 && Nat.beq k 3) (some (ade h b)) <| cond (Nat.beq f 65 && Nat.beq k 10) (some (Z4 h b)) <| none
def IZ : List (Nat × Ent) := (65, .sum Y5) :: wP
def Me (b : List Int) : Done := ⟨[b.length <= 1000000000000], .v (.of true akp (U.sum b)), [], []⟩
def adh : Vc.Sum := .pure [aF] false fun x => Me x
def adi (b : List Int) : Nat -> List V -> Nat -> Option Vc.Loop := fun f v k => cond (Nat.beq f 40 && Nat.beq k 3) (some (aeP b)) <| cond (Nat.beq f 40 && Nat.beq k 6) (some (aeQ b)) <| none
def adk : List (Nat × Ent) := (40, .sum adh) :: IZ
end Go.Proofs.YtkhdeldobekciaaGreatDoor
set_option maxRecDepth 100000
set_option linter.unusedVariables false
namespace Go.Proofs.YtkhdeldobekciaaGreatDoor
open Go.Vc
def tY (x : Int) (k : Int) : Prop :=
 (0 : Int) <=
 IntKind.u64.wrap
 (↑((BitVec.ofInt IntKind.u64.bits (IntKind.u64.wrap k)).and (BitVec.ofInt IntKind.u64.bits (31 : Int))).toNat :
 Int) /\
 (0 : Int) <=
 IntKind.u64.wrap
 (Int.sub (32 : Int)
 (IntKind.u64.wrap
 (↑((BitVec.ofInt IntKind.u64.bits (IntKind.u64.wrap k)).and
 (BitVec.ofInt IntKind.u64.bits (31 : Int))).toNat :
 Int))) /\
 IntKind.u32.wrap
 (↑((BitVec.ofInt IntKind.u32.bits
 (IntKind.u32.wrap
 (x.mul
 (Int.pow (2 : Int)
 (if
 (IntKind.u64.wrap
 (↑((BitVec.ofInt IntKind.u64.bits (IntKind.u64.wrap k)).and
 (BitVec.ofInt IntKind.u64.bits (31 : Int))).toNat :
 Int)).toNat <=
 IntKind.u32.bits then
 (IntKind.u64.wrap
 (↑((BitVec.ofInt IntKind.u64.bits (IntKind.u64.wrap k)).and
 (BitVec.ofInt IntKind.u64.bits (31 : Int))).toNat :
 Int)).toNat
 else IntKind.u32.bits))))).or
 (BitVec.ofInt IntKind.u32.bits
 (x.fdiv
 (Int.pow (2 : Int)
 (if
 (IntKind.u64.wrap
 (Int.sub (32 : Int)
 (IntKind.u64.wrap
 (↑((BitVec.ofInt IntKind.u64.bits (IntKind.u64.wrap k)).and
 (BitVec.ofInt IntKind.u64.bits (31 : Int))).toNat :
 Int)))).toNat <=
 IntKind.u32.bits then
 (IntKind.u64.wrap
 (Int.sub (32 : Int)
 (IntKind.u64.wrap
 (↑((BitVec.ofInt IntKind.u64.bits (IntKind.u64.wrap k)).and
 (BitVec.ofInt IntKind.u64.bits (31 : Int))).toNat :
 Int)))).toNat
 else IntKind.u32.bits))))).toNat :
 Int) =
 U.rotl x k /\
 True
def Ua (x : Int) (n : Int) : Prop := U.rotl x (IntKind.i64.wrap (Int.sub (0 : Int) n)) = U.right x n /\ True
def MB (b : List Int) : Prop :=
 (0 : Int) <= (0 : Int) /\
 (0 : Int) < (↑b.length : Int) /\
 (0 : Int) <= (24 : Int) /\
 (0 : Int) <= (1 : Int) /\
 (1 : Int) < (↑b.length : Int) /\
 (0 : Int) <= (16 : Int) /\
 (0 : Int) <= (2 : Int) /\
 (2 : Int) < (↑b.length : Int) /\
 (0 : Int) <= (8 : Int) /\
 (0 : Int) <= (3 : Int) /\
 (3 : Int) < (↑b.length : Int) /\
 IntKind.u32.wrap
 (↑((BitVec.ofInt IntKind.u32.bits
 (IntKind.u32.wrap
 (↑((BitVec.ofInt IntKind.u32.bits
 (IntKind.u32.wrap
 (↑((BitVec.ofInt IntKind.u32.bits
 (IntKind.u32.wrap
 ((IntKind.u32.wrap
 (b.getD (Int.toNat (0 : Int))
 (0 : Int))).mul
 (Int.pow (2 : Int)
 (if
 Int.toNat (24 : Int) <=
 IntKind.u32.bits then
 Int.toNat (24 : Int)
 else IntKind.u32.bits))))).or
 (BitVec.ofInt IntKind.u32.bits
 (IntKind.u32.wrap
 ((IntKind.u32.wrap
 (b.getD (Int.toNat (1 : Int))
 (0 : Int))).mul
 (Int.pow (2 : Int)
 (if
 Int.toNat (16 : Int) <=
 IntKind.u32.bits then
 Int.toNat (16 : Int)
 else IntKind.u32.bits)))))).toNat :
 Int))).or
 (BitVec.ofInt IntKind.u32.bits
 (IntKind.u32.wrap
 ((IntKind.u32.wrap (b.getD (Int.toNat (2 : Int)) (0 : Int))).mul
 (Int.pow (2 : Int)
 (if Int.toNat (8 : Int) <= IntKind.u32.bits then
 Int.toNat (8 : Int)
 else IntKind.u32.bits)))))).toNat :
 Int))).or
 (BitVec.ofInt IntKind.u32.bits
 (IntKind.u32.wrap (b.getD (Int.toNat (3 : Int)) (0 : Int))))).toNat :
 Int) =
 U.word b /\
 True
def jZ (l : List (List Int)) : Prop :=
 ∃ (x0 : Int × Int),
 (U.dZ l (0 : Int) (0 : Int) = U.dZ l x0.1 x0.2 /\
 U.eX l x0.1 x0.2) /\
 ∀ (x : Int × Int),
 U.eX l x.1 x.2 ->
 bif decide (x.2 < (↑l.length : Int)) then
 (0 : Int) <= x.2 /\
 x.2 < (↑l.length : Int) /\
 bif decide (IntKind.i64.wrap (x.1.add (↑(l.getD x.2.toNat []).length : Int)) < (0 : Int)) then False
 else
 ∃ (y : Int × Int),
 U.dZ l
 (IntKind.i64.wrap (x.1.add (↑(l.getD x.2.toNat []).length : Int)))
 (IntKind.i64.wrap (x.2.add (1 : Int))) =
 U.dZ l y.1 y.2 /\
 U.eX l y.1 y.2 /\ l.length.sub y.2.toNat < l.length.sub x.2.toNat
 else
 bif decide (x.1 < (0 : Int)) then False
 else
 bif
 decide
 (IntKind.i64.wrap (x.1.sub (IntKind.i64.wrap (Int.sub (0 : Int) (0 : Int)))) > (0 : Int)) then
 (0 : Int) <= (0 : Int) /\
 (0 : Int) <= (0 : Int) /\
 (0 : Int) <= (0 : Int) /\
 (0 : Int) < IntKind.i64.wrap (x.1.sub (IntKind.i64.wrap (Int.sub (0 : Int) (0 : Int)))) /\
 (IntKind.i64.wrap (x.1.sub (IntKind.i64.wrap (Int.sub (0 : Int) (0 : Int))))).mul
 (↑(1 : Nat) : Int) <=
 (140737488355328 : Int) /\
 IntKind.i64.wrap (x.1.sub (IntKind.i64.wrap (Int.sub (0 : Int) (0 : Int)))) <=
 (↑maxLen : Int) /\
 (0 : Int) <= (0 : Int) /\
 (0 : Int) <= (0 : Int) /\
 (0 : Int) <=
 (↑(List.replicate
 (IntKind.i64.wrap
 (x.1.sub (IntKind.i64.wrap (Int.sub (0 : Int) (0 : Int))))).toNat
 (0 : Int)).length :
 Int) /\
 ∃ (x0 : List Int × Int),
 (U.bn l [] (0 : Int) =
 U.bn l x0.1 x0.2 /\
 U.cZ l x0.1 x0.2) /\
 ∀ (x : List Int × Int),
 U.cZ l x.1 x.2 ->
 bif decide (x.2 < (↑l.length : Int)) then
 (0 : Int) <= x.2 /\
 x.2 < (↑l.length : Int) /\
 (x.1.length.add (l.getD x.2.toNat []).length).mul (1 : Nat) <=
 (140737488355328 : Nat) /\
 x.1.length.add (l.getD x.2.toNat []).length <= maxLen /\
 ∃ (y : List Int × Int),
 U.bn l
 (x.1.append (l.getD x.2.toNat []))
 (IntKind.i64.wrap (x.2.add (1 : Int))) =
 U.bn l y.1 y.2 /\
 U.cZ l y.1 y.2 /\
 l.length.sub y.2.toNat < l.length.sub x.2.toNat
 else x.1 = l.flatten /\ True
 else
 ∃ (x0 : List Int × Int),
 (U.bn l [] (0 : Int) = U.bn l x0.1 x0.2 /\
 U.cZ l x0.1 x0.2) /\
 ∀ (x : List Int × Int),
 U.cZ l x.1 x.2 ->
 bif decide (x.2 < (↑l.length : Int)) then
 (0 : Int) <= x.2 /\
 x.2 < (↑l.length : Int) /\
 (x.1.length.add (l.getD x.2.toNat []).length).mul (1 : Nat) <=
 (140737488355328 : Nat) /\
 x.1.length.add (l.getD x.2.toNat []).length <= maxLen /\
 ∃ (y : List Int × Int),
 U.bn l (x.1.append (l.getD x.2.toNat []))
 (IntKind.i64.wrap (x.2.add (1 : Int))) =
 U.bn l y.1 y.2 /\
 U.cZ l y.1 y.2 /\
 l.length.sub y.2.toNat < l.length.sub x.2.toNat
 else x.1 = l.flatten /\ True
def jQ (s : List Int) (n : Int) : Prop :=
 ∃ (x0 : Int × Nat),
 (U.dX s n (0 : Int) (0 : Nat) = U.dX s n x0.1 x0.2 /\
 U.eu s n x0.1 x0.2) /\
 ∀ (x : Int × Nat),
 U.eu s n x.1 x.2 ->
 bif decide (x.1 < (↑s.length : Int)) then
 (0 : Int) <= x.1 /\
 x.1 <= (↑s.length : Int) /\
 (↑s.length : Int) <= (↑s.length : Int) /\
 (0 : Int) <= x.1 /\
 x.1 <=
 IntKind.i64.wrap
 (x.1.add
 (bJ n
 (↑(List.take ((↑s.length : Int).toNat.sub x.1.toNat) (List.drop x.1.toNat s)).length :
 Int))) /\
 IntKind.i64.wrap
 (x.1.add
 (bJ n
 (↑(List.take ((↑s.length : Int).toNat.sub x.1.toNat)
 (List.drop x.1.toNat s)).length :
 Int))) <=
 IntKind.i64.wrap
 (x.1.add
 (bJ n
 (↑(List.take ((↑s.length : Int).toNat.sub x.1.toNat)
 (List.drop x.1.toNat s)).length :
 Int))) /\
 IntKind.i64.wrap
 (x.1.add
 (bJ n
 (↑(List.take ((↑s.length : Int).toNat.sub x.1.toNat)
 (List.drop x.1.toNat s)).length :
 Int))) <=
 (↑s.length : Int) /\
 x.2 < (U.chunks n.toNat s).length /\
 (U.chunks n.toNat s).getD x.2 [] =
 List.take
 ((IntKind.i64.wrap
 (x.1.add
 (bJ n
 (↑(List.take ((↑s.length : Int).toNat.sub x.1.toNat)
 (List.drop x.1.toNat s)).length :
 Int)))).toNat.sub
 x.1.toNat)
 (List.drop x.1.toNat s) /\
 (∃ (y : Int × Nat),
 U.dX s n (IntKind.i64.wrap (x.1.add n))
 (x.2.add (1 : Nat)) =
 U.dX s n y.1 y.2 /\
 U.eu s n y.1 y.2 /\
 (((↑s.length : Int).add n).sub y.1).toNat <
 (((↑s.length : Int).add n).sub x.1).toNat) /\
 true = true
 else x.2 = (U.chunks n.toNat s).length
def Qy (b : List Int) : Prop :=
 (64 : Int) ≠ (0 : Int) /\
 (64 : Int) ≠ (0 : Int) /\
 (0 : Int) <=
 IntKind.i64.wrap
 (((IntKind.i64.wrap (Int.sub (119 : Int) ((↑b.length : Int).tmod (64 : Int)))).tmod (64 : Int)).add
 (8 : Int)) /\
 IntKind.i64.wrap
 (((IntKind.i64.wrap (Int.sub (119 : Int) ((↑b.length : Int).tmod (64 : Int)))).tmod (64 : Int)).add
 (8 : Int)) <=
 IntKind.i64.wrap
 (((IntKind.i64.wrap (Int.sub (119 : Int) ((↑b.length : Int).tmod (64 : Int)))).tmod (64 : Int)).add
 (8 : Int)) /\
 (IntKind.i64.wrap
 (((IntKind.i64.wrap (Int.sub (119 : Int) ((↑b.length : Int).tmod (64 : Int)))).tmod (64 : Int)).add
 (8 : Int))).mul
 (↑(1 : Nat) : Int) <=
 (140737488355328 : Int) /\
 IntKind.i64.wrap
 (((IntKind.i64.wrap (Int.sub (119 : Int) ((↑b.length : Int).tmod (64 : Int)))).tmod (64 : Int)).add
 (8 : Int)) <=
 (9223372036854775807 : Int) /\
 (b.append
 ((128 : Int) ::
 (List.replicate
 (IntKind.i64.wrap
 (((IntKind.i64.wrap (Int.sub (119 : Int) ((↑b.length : Int).tmod (64 : Int)))).tmod
 (64 : Int)).add
 (8 : Int))).toNat
 (0 : Int)).append
 [])).length <=
 (70000000000000 : Nat) /\
 ∃ (x0 : List Int × Int × Int),
 (U.vV b
 (b.append
 ((128 : Int) ::
 (List.replicate
 (IntKind.i64.wrap
 (((IntKind.i64.wrap
 (Int.sub (119 : Int) ((↑b.length : Int).tmod (64 : Int)))).tmod
 (64 : Int)).add
 (8 : Int))).toNat
 (0 : Int)).append
 []))
 (IntKind.u64.wrap ((IntKind.u64.wrap (↑b.length : Int)).mul (8 : Int)))
 (IntKind.i64.wrap
 ((↑(b.append
 ((128 : Int) ::
 (List.replicate
 (IntKind.i64.wrap
 (((IntKind.i64.wrap
 (Int.sub (119 : Int)
 ((↑b.length : Int).tmod (64 : Int)))).tmod
 (64 : Int)).add
 (8 : Int))).toNat
 (0 : Int)).append
 [])).length :
 Int).sub
 (1 : Int))) =
 U.vV b x0.1 x0.2.1 x0.2.2 /\
 U.zy b x0.1 x0.2.1 x0.2.2) /\
 ∀ (x : List Int × Int × Int),
 U.zy b x.1 x.2.1 x.2.2 ->
 bif decide (x.2.1 > (0 : Int)) then
 (0 : Int) <= x.2.2 /\
 x.2.2 < (↑x.1.length : Int) /\
 x.2.2.toNat < x.1.length /\
 (0 : Int) <= (8 : Int) /\
 ∃ (y : List Int × Int × Int),
 U.vV b (x.1.set x.2.2.toNat (IntKind.u8.wrap x.2.1))
 (x.2.1.fdiv
 (Int.pow (2 : Int)
 (if Int.toNat (8 : Int) <= IntKind.u64.bits then Int.toNat (8 : Int)
 else IntKind.u64.bits)))
 (IntKind.i64.wrap (x.2.2.sub (1 : Int))) =
 U.vV b y.1 y.2.1 y.2.2 /\
 U.zy b y.1 y.2.1 y.2.2 /\ y.2.1.toNat < x.2.1.toNat
 else x.1 = U.pad b /\ True
def AL (b : List Int) : Prop :=
 ∃ (x0 : List Int × Int),
 (U.lg b
 [(0 : Int), (0 : Int), (0 : Int), (0 : Int), (0 : Int), (0 : Int), (0 : Int), (0 : Int), (0 : Int),
 (0 : Int), (0 : Int), (0 : Int), (0 : Int), (0 : Int), (0 : Int), (0 : Int), (0 : Int), (0 : Int),
 (0 : Int), (0 : Int), (0 : Int), (0 : Int), (0 : Int), (0 : Int), (0 : Int), (0 : Int), (0 : Int),
 (0 : Int), (0 : Int), (0 : Int), (0 : Int), (0 : Int), (0 : Int), (0 : Int), (0 : Int), (0 : Int),
 (0 : Int), (0 : Int), (0 : Int), (0 : Int), (0 : Int), (0 : Int), (0 : Int), (0 : Int), (0 : Int),
 (0 : Int), (0 : Int), (0 : Int), (0 : Int), (0 : Int), (0 : Int), (0 : Int), (0 : Int), (0 : Int),
 (0 : Int), (0 : Int), (0 : Int), (0 : Int), (0 : Int), (0 : Int), (0 : Int), (0 : Int), (0 : Int),
 (0 : Int)]
 (0 : Int) =
 U.lg b x0.1 x0.2 /\
 U.mY b x0.1 x0.2) /\
 ∀ (x : List Int × Int),
 U.mY b x.1 x.2 ->
 bif decide (x.2 < (16 : Int)) then
 (0 : Int) <= IntKind.i64.wrap (Int.mul (4 : Int) x.2) /\
 IntKind.i64.wrap (Int.mul (4 : Int) x.2) <= (↑b.length : Int) /\
 (↑b.length : Int) <= (↑b.length : Int) /\
 (4 : Nat) <=
 (List.take ((↑b.length : Int).toNat.sub (IntKind.i64.wrap (Int.mul (4 : Int) x.2)).toNat)
 (List.drop (IntKind.i64.wrap (Int.mul (4 : Int) x.2)).toNat b)).length /\
 (0 : Int) <= x.2 /\
 x.2 < (↑(64 : Nat) : Int) /\
 x.2.toNat < (64 : Nat) /\
 ∃ (y : List Int × Int),
 U.lg b
 (x.1.set x.2.toNat
 (U.word
 (List.take
 ((↑b.length : Int).toNat.sub (IntKind.i64.wrap (Int.mul (4 : Int) x.2)).toNat)
 (List.drop (IntKind.i64.wrap (Int.mul (4 : Int) x.2)).toNat b))))
 (IntKind.i64.wrap (x.2.add (1 : Int))) =
 U.lg b y.1 y.2 /\
 U.mY b y.1 y.2 /\
 Nat.sub (16 : Nat) y.2.toNat < Nat.sub (16 : Nat) x.2.toNat
 else
 ∃ (x0 : List Int × Int),
 (U.lq b x.1 (16 : Int) = U.lq b x0.1 x0.2 /\
 U.mZ b x0.1 x0.2) /\
 ∀ (x : List Int × Int),
 U.mZ b x.1 x.2 ->
 bif decide (x.2 < (64 : Int)) then
 (0 : Int) <= IntKind.i64.wrap (x.2.sub (15 : Int)) /\
 IntKind.i64.wrap (x.2.sub (15 : Int)) < (↑(64 : Nat) : Int) /\
 (IntKind.i64.wrap (x.2.sub (15 : Int))).toNat < (64 : Nat) /\
 (0 : Int) <= IntKind.i64.wrap (x.2.sub (2 : Int)) /\
 IntKind.i64.wrap (x.2.sub (2 : Int)) < (↑(64 : Nat) : Int) /\
 (IntKind.i64.wrap (x.2.sub (2 : Int))).toNat < (64 : Nat) /\
 (0 : Int) <= IntKind.i64.wrap (x.2.sub (16 : Int)) /\
 IntKind.i64.wrap (x.2.sub (16 : Int)) < (↑(64 : Nat) : Int) /\
 (IntKind.i64.wrap (x.2.sub (16 : Int))).toNat < (64 : Nat) /\
 (0 : Int) <= (3 : Int) /\
 (0 : Int) <= IntKind.i64.wrap (x.2.sub (7 : Int)) /\
 IntKind.i64.wrap (x.2.sub (7 : Int)) < (↑(64 : Nat) : Int) /\
 (IntKind.i64.wrap (x.2.sub (7 : Int))).toNat < (64 : Nat) /\
 (0 : Int) <= (10 : Int) /\
 (0 : Int) <= x.2 /\
 x.2 < (↑(64 : Nat) : Int) /\
 x.2.toNat < (64 : Nat) /\
 ∃ (y : List Int × Int),
 U.lq b
 (x.1.set x.2.toNat
 (IntKind.u32.wrap
 ((IntKind.u32.wrap
 ((IntKind.u32.wrap
 ((x.1.getD
 (IntKind.i64.wrap
 (x.2.sub (16 : Int))).toNat
 (0 : Int)).add
 (IntKind.u32.wrap
 (↑((BitVec.ofInt IntKind.u32.bits
 (IntKind.u32.wrap
 (↑((BitVec.ofInt
 IntKind.u32.bits
 (U.right
 (x.1.getD
 (IntKind.i64.wrap
 (x.2.sub
 (15 :
 Int))).toNat
 (0 :
 Int))
 (7 :
 Int))).xor
 (BitVec.ofInt
 IntKind.u32.bits
 (U.right
 (x.1.getD
 (IntKind.i64.wrap
 (x.2.sub
 (15 :
 Int))).toNat
 (0 :
 Int))
 (18 :
 Int)))).toNat :
 Int))).xor
 (BitVec.ofInt
 IntKind.u32.bits
 ((x.1.getD
 (IntKind.i64.wrap
 (x.2.sub
 (15 :
 Int))).toNat
 (0 : Int)).fdiv
 (Int.pow (2 : Int)
 (if
 Int.toNat
 (3 : Int) <=
 IntKind.u32.bits then
 Int.toNat (3 : Int)
 else
 IntKind.u32.bits))))).toNat :
 Int)))).add
 (x.1.getD
 (IntKind.i64.wrap
 (x.2.sub (7 : Int))).toNat
 (0 : Int)))).add
 (IntKind.u32.wrap
 (↑((BitVec.ofInt IntKind.u32.bits
 (IntKind.u32.wrap
 (↑((BitVec.ofInt IntKind.u32.bits
 (U.right
 (x.1.getD
 (IntKind.i64.wrap
 (x.2.sub
 (2 :
 Int))).toNat
 (0 : Int))
 (17 : Int))).xor
 (BitVec.ofInt
 IntKind.u32.bits
 (U.right
 (x.1.getD
 (IntKind.i64.wrap
 (x.2.sub
 (2 :
 Int))).toNat
 (0 : Int))
 (19 : Int)))).toNat :
 Int))).xor
 (BitVec.ofInt IntKind.u32.bits
 ((x.1.getD
 (IntKind.i64.wrap
 (x.2.sub (2 : Int))).toNat
 (0 : Int)).fdiv
 (Int.pow (2 : Int)
 (if
 Int.toNat (10 : Int) <=
 IntKind.u32.bits then
 Int.toNat (10 : Int)
 else IntKind.u32.bits))))).toNat :
 Int)))))
 (IntKind.i64.wrap (x.2.add (1 : Int))) =
 U.lq b y.1 y.2 /\
 U.mZ b y.1 y.2 /\
 Nat.sub (64 : Nat) y.2.toNat <
 Nat.sub (64 : Nat) x.2.toNat
 else x.1 = U.sched b /\ True
def MC (h : List Int) (b : List Int) : Prop :=
 (0 : Int) <= (0 : Int) /\
 (0 : Int) < (↑(8 : Nat) : Int) /\
 Int.toNat (0 : Int) < (8 : Nat) /\
 (0 : Int) <= (1 : Int) /\
 (1 : Int) < (↑(8 : Nat) : Int) /\
 Int.toNat (1 : Int) < (8 : Nat) /\
 (0 : Int) <= (2 : Int) /\
 (2 : Int) < (↑(8 : Nat) : Int) /\
 Int.toNat (2 : Int) < (8 : Nat) /\
 (0 : Int) <= (3 : Int) /\
 (3 : Int) < (↑(8 : Nat) : Int) /\
 Int.toNat (3 : Int) < (8 : Nat) /\
 (0 : Int) <= (4 : Int) /\
 (4 : Int) < (↑(8 : Nat) : Int) /\
 Int.toNat (4 : Int) < (8 : Nat) /\
 (0 : Int) <= (5 : Int) /\
 (5 : Int) < (↑(8 : Nat) : Int) /\
 Int.toNat (5 : Int) < (8 : Nat) /\
 (0 : Int) <= (6 : Int) /\
 (6 : Int) < (↑(8 : Nat) : Int) /\
 Int.toNat (6 : Int) < (8 : Nat) /\
 (0 : Int) <= (7 : Int) /\
 (7 : Int) < (↑(8 : Nat) : Int) /\
 Int.toNat (7 : Int) < (8 : Nat) /\
 (64 : Nat) <= b.length /\
 ∃ (x0 : Int × Int × Int × Int × Int × Int × Int × Int × Int),
 (U.tK h b (h.getD (Int.toNat (0 : Int)) (0 : Int))
 (h.getD (Int.toNat (1 : Int)) (0 : Int))
 (h.getD (Int.toNat (2 : Int)) (0 : Int))
 (h.getD (Int.toNat (3 : Int)) (0 : Int))
 (h.getD (Int.toNat (4 : Int)) (0 : Int))
 (h.getD (Int.toNat (5 : Int)) (0 : Int))
 (h.getD (Int.toNat (6 : Int)) (0 : Int))
 (h.getD (Int.toNat (7 : Int)) (0 : Int)) (0 : Int) =
 U.tK h b x0.1 x0.2.1 x0.2.2.1
 x0.2.2.2.1 x0.2.2.2.2.1
 x0.2.2.2.2.2.1 x0.2.2.2.2.2.2.1
 x0.2.2.2.2.2.2.2.1
 x0.2.2.2.2.2.2.2.2 /\
 U.vW h b x0.1 x0.2.1 x0.2.2.1
 x0.2.2.2.1 x0.2.2.2.2.1
 x0.2.2.2.2.2.1 x0.2.2.2.2.2.2.1
 x0.2.2.2.2.2.2.2.1
 x0.2.2.2.2.2.2.2.2) /\
 ∀ (x : Int × Int × Int × Int × Int × Int × Int × Int × Int),
 U.vW h b x.1 x.2.1 x.2.2.1
 x.2.2.2.1 x.2.2.2.2.1
 x.2.2.2.2.2.1 x.2.2.2.2.2.2.1
 x.2.2.2.2.2.2.2.1
 x.2.2.2.2.2.2.2.2 ->
 bif
 decide
 (x.2.2.2.2.2.2.2.2 < (64 : Int)) then
 (0 : Int) <= x.2.2.2.2.2.2.2.2 /\
 x.2.2.2.2.2.2.2.2 <
 (↑(64 : Nat) : Int) /\
 (0 : Int) <= x.2.2.2.2.2.2.2.2 /\
 x.2.2.2.2.2.2.2.2 <
 (↑(64 : Nat) : Int) /\
 ∃ (y :
 Int ×
 Int ×
 Int × Int × Int × Int × Int × Int × Int),
 U.tK h b
 (IntKind.u32.wrap
 ((IntKind.u32.wrap
 ((IntKind.u32.wrap
 ((IntKind.u32.wrap
 ((IntKind.u32.wrap
 (x.2.2.2.2.2.2.2.1.add
 (IntKind.u32.wrap
 (↑((BitVec.ofInt
 IntKind.u32.bits
 (IntKind.u32.wrap
 (↑((BitVec.ofInt
 IntKind.u32.bits
 (U.right
 x.2.2.2.2.1
 (6 :
 Int))).xor
 (BitVec.ofInt
 IntKind.u32.bits
 (U.right
 x.2.2.2.2.1
 (11 :
 Int)))).toNat :
 Int))).xor
 (BitVec.ofInt
 IntKind.u32.bits
 (U.right
 x.2.2.2.2.1
 (25 :
 Int)))).toNat :
 Int)))).add
 (IntKind.u32.wrap
 (↑((BitVec.ofInt
 IntKind.u32.bits
 x.2.2.2.2.2.2.1).xor
 (BitVec.ofInt
 IntKind.u32.bits
 (IntKind.u32.wrap
 (↑((BitVec.ofInt
 IntKind.u32.bits
 x.2.2.2.2.1).and
 (BitVec.ofInt
 IntKind.u32.bits
 (IntKind.u32.wrap
 (↑((BitVec.ofInt
 IntKind.u32.bits
 x.2.2.2.2.2.1).xor
 (BitVec.ofInt
 IntKind.u32.bits
 x.2.2.2.2.2.2.1)).toNat :
 Int)))).toNat :
 Int)))).toNat :
 Int)))).add
 ([(1116352408 : Int),
 (1899447441 : Int),
 (3049323471 : Int),
 (3921009573 : Int),
 (961987163 : Int),
 (1508970993 : Int),
 (2453635748 : Int),
 (2870763221 : Int),
 (3624381080 : Int),
 (310598401 : Int),
 (607225278 : Int),
 (1426881987 : Int),
 (1925078388 : Int),
 (2162078206 : Int),
 (2614888103 : Int),
 (3248222580 : Int),
 (3835390401 : Int),
 (4022224774 : Int),
 (264347078 : Int),
 (604807628 : Int),
 (770255983 : Int),
 (1249150122 : Int),
 (1555081692 : Int),
 (1996064986 : Int),
 (2554220882 : Int),
 (2821834349 : Int),
 (2952996808 : Int),
 (3210313671 : Int),
 (3336571891 : Int),
 (3584528711 : Int),
 (113926993 : Int),
 (338241895 : Int),
 (666307205 : Int),
 (773529912 : Int),
 (1294757372 : Int),
 (1396182291 : Int),
 (1695183700 : Int),
 (1986661051 : Int),
 (2177026350 : Int),
 (2456956037 : Int),
 (2730485921 : Int),
 (2820302411 : Int),
 (3259730800 : Int),
 (3345764771 : Int),
 (3516065817 : Int),
 (3600352804 : Int),
 (4094571909 : Int),
 (275423344 : Int),
 (430227734 : Int),
 (506948616 : Int),
 (659060556 : Int),
 (883997877 : Int),
 (958139571 : Int),
 (1322822218 : Int),
 (1537002063 : Int),
 (1747873779 : Int),
 (1955562222 : Int),
 (2024104815 : Int),
 (2227730452 : Int),
 (2361852424 : Int),
 (2428436474 : Int),
 (2756734187 : Int),
 (3204031479 : Int),
 (3329325298 :
 Int)].getD
 x.2.2.2.2.2.2.2.2.toNat
 (0 : Int)))).add
 ((U.sched b).getD
 x.2.2.2.2.2.2.2.2.toNat
 (0 : Int)))).add
 (IntKind.u32.wrap
 ((IntKind.u32.wrap
 (↑((BitVec.ofInt
 IntKind.u32.bits
 (IntKind.u32.wrap
 (↑((BitVec.ofInt
 IntKind.u32.bits
 (U.right
 x.1
 (2 :
 Int))).xor
 (BitVec.ofInt
 IntKind.u32.bits
 (U.right
 x.1
 (13 :
 Int)))).toNat :
 Int))).xor
 (BitVec.ofInt
 IntKind.u32.bits
 (U.right x.1
 (22 :
 Int)))).toNat :
 Int)).add
 (IntKind.u32.wrap
 (↑((BitVec.ofInt
 IntKind.u32.bits
 (IntKind.u32.wrap
 (↑((BitVec.ofInt
 IntKind.u32.bits
 x.1).and
 (BitVec.ofInt
 IntKind.u32.bits
 x.2.1)).toNat :
 Int))).or
 (BitVec.ofInt
 IntKind.u32.bits
 (IntKind.u32.wrap
 (↑((BitVec.ofInt
 IntKind.u32.bits
 x.2.2.1).and
 (BitVec.ofInt
 IntKind.u32.bits
 (IntKind.u32.wrap
 (↑((BitVec.ofInt
 IntKind.u32.bits
 x.1).or
 (BitVec.ofInt
 IntKind.u32.bits
 x.2.1)).toNat :
 Int)))).toNat :
 Int)))).toNat :
 Int))))))
 x.1 x.2.1 x.2.2.1
 (IntKind.u32.wrap
 (x.2.2.2.1.add
 (IntKind.u32.wrap
 ((IntKind.u32.wrap
 ((IntKind.u32.wrap
 ((IntKind.u32.wrap
 (x.2.2.2.2.2.2.2.1.add
 (IntKind.u32.wrap
 (↑((BitVec.ofInt
 IntKind.u32.bits
 (IntKind.u32.wrap
 (↑((BitVec.ofInt
 IntKind.u32.bits
 (U.right
 x.2.2.2.2.1
 (6 :
 Int))).xor
 (BitVec.ofInt
 IntKind.u32.bits
 (U.right
 x.2.2.2.2.1
 (11 :
 Int)))).toNat :
 Int))).xor
 (BitVec.ofInt
 IntKind.u32.bits
 (U.right
 x.2.2.2.2.1
 (25 :
 Int)))).toNat :
 Int)))).add
 (IntKind.u32.wrap
 (↑((BitVec.ofInt
 IntKind.u32.bits
 x.2.2.2.2.2.2.1).xor
 (BitVec.ofInt
 IntKind.u32.bits
 (IntKind.u32.wrap
 (↑((BitVec.ofInt
 IntKind.u32.bits
 x.2.2.2.2.1).and
 (BitVec.ofInt
 IntKind.u32.bits
 (IntKind.u32.wrap
 (↑((BitVec.ofInt
 IntKind.u32.bits
 x.2.2.2.2.2.1).xor
 (BitVec.ofInt
 IntKind.u32.bits
 x.2.2.2.2.2.2.1)).toNat :
 Int)))).toNat :
 Int)))).toNat :
 Int)))).add
 ([(1116352408 : Int),
 (1899447441 : Int),
 (3049323471 : Int),
 (3921009573 : Int),
 (961987163 : Int),
 (1508970993 : Int),
 (2453635748 : Int),
 (2870763221 : Int),
 (3624381080 : Int),
 (310598401 : Int),
 (607225278 : Int),
 (1426881987 : Int),
 (1925078388 : Int),
 (2162078206 : Int),
 (2614888103 : Int),
 (3248222580 : Int),
 (3835390401 : Int),
 (4022224774 : Int),
 (264347078 : Int),
 (604807628 : Int),
 (770255983 : Int),
 (1249150122 : Int),
 (1555081692 : Int),
 (1996064986 : Int),
 (2554220882 : Int),
 (2821834349 : Int),
 (2952996808 : Int),
 (3210313671 : Int),
 (3336571891 : Int),
 (3584528711 : Int),
 (113926993 : Int),
 (338241895 : Int),
 (666307205 : Int),
 (773529912 : Int),
 (1294757372 : Int),
 (1396182291 : Int),
 (1695183700 : Int),
 (1986661051 : Int),
 (2177026350 : Int),
 (2456956037 : Int),
 (2730485921 : Int),
 (2820302411 : Int),
 (3259730800 : Int),
 (3345764771 : Int),
 (3516065817 : Int),
 (3600352804 : Int),
 (4094571909 : Int),
 (275423344 : Int),
 (430227734 : Int),
 (506948616 : Int),
 (659060556 : Int),
 (883997877 : Int),
 (958139571 : Int),
 (1322822218 : Int),
 (1537002063 : Int),
 (1747873779 : Int),
 (1955562222 : Int),
 (2024104815 : Int),
 (2227730452 : Int),
 (2361852424 : Int),
 (2428436474 : Int),
 (2756734187 : Int),
 (3204031479 : Int),
 (3329325298 :
 Int)].getD
 x.2.2.2.2.2.2.2.2.toNat
 (0 : Int)))).add
 ((U.sched b).getD
 x.2.2.2.2.2.2.2.2.toNat
 (0 : Int))))))
 x.2.2.2.2.1
 x.2.2.2.2.2.1
 x.2.2.2.2.2.2.1
 (IntKind.i64.wrap
 (x.2.2.2.2.2.2.2.2.add
 (1 : Int))) =
 U.tK h b y.1 y.2.1
 y.2.2.1 y.2.2.2.1
 y.2.2.2.2.1
 y.2.2.2.2.2.1
 y.2.2.2.2.2.2.1
 y.2.2.2.2.2.2.2.1
 y.2.2.2.2.2.2.2.2 /\
 U.vW h b y.1 y.2.1
 y.2.2.1 y.2.2.2.1
 y.2.2.2.2.1
 y.2.2.2.2.2.1
 y.2.2.2.2.2.2.1
 y.2.2.2.2.2.2.2.1
 y.2.2.2.2.2.2.2.2 /\
 Nat.sub (64 : Nat)
 y.2.2.2.2.2.2.2.2.toNat <
 Nat.sub (64 : Nat)
 x.2.2.2.2.2.2.2.2.toNat
 else
 ∃ (x0 : List Int × List Int × Int),
 (U.qH h b
 (((((((([(0 : Int), (0 : Int), (0 : Int),
 (0 : Int),
 (0 : Int),
 (0 : Int),
 (0 : Int),
 (0 : Int)].set
 (0 : Nat)
 x.1).set
 (1 : Nat)
 x.2.1).set
 (2 : Nat)
 x.2.2.1).set
 (3 : Nat)
 x.2.2.2.1).set
 (4 : Nat)
 x.2.2.2.2.1).set
 (5 : Nat)
 x.2.2.2.2.2.1).set
 (6 : Nat)
 x.2.2.2.2.2.2.1).set
 (7 : Nat) x.2.2.2.2.2.2.2.1)
 h (0 : Int) =
 U.qH h b x0.1 x0.2.1 x0.2.2 /\
 U.tN h b x0.1 x0.2.1 x0.2.2) /\
 ∀ (x : List Int × List Int × Int),
 U.tN h b x.1 x.2.1 x.2.2 ->
 bif decide (x.2.2 < (8 : Int)) then
 (0 : Int) <= x.2.2 /\
 x.2.2 < (↑(8 : Nat) : Int) /\
 (0 : Int) <= x.2.2 /\
 x.2.2 < (↑(8 : Nat) : Int) /\
 x.2.2.toNat < (8 : Nat) /\
 (0 : Int) <= x.2.2 /\
 x.2.2 < (↑(8 : Nat) : Int) /\
 x.2.2.toNat < (8 : Nat) /\
 ∃ (y :
 List Int × List Int × Int),
 U.qH h b x.1
 (x.2.1.set
 x.2.2.toNat
 (IntKind.u32.wrap
 ((x.2.1.getD
 x.2.2.toNat
 (0 : Int)).add
 (x.1.getD
 x.2.2.toNat
 (0 : Int)))))
 (IntKind.i64.wrap
 (x.2.2.add
 (1 : Int))) =
 U.qH h b y.1
 y.2.1 y.2.2 /\
 U.tN h b y.1
 y.2.1 y.2.2 /\
 Nat.sub (8 : Nat)
 y.2.2.toNat <
 Nat.sub (8 : Nat)
 x.2.2.toNat
 else
 x.2.1 =
 List.zipWith U.add32 h
 (U.ls8
 (U.DX (U.sched b) (64 : Nat)
 (U.st8 h))) /\
 True
def Qz (b : List Int) : Prop :=
 b.length <= (1000000000000 : Nat) /\
 bif decide ((64 : Int) < (1 : Int)) then False
 else
 (1 : Int) <= (64 : Int) /\
 (64 : Int) <= (4294967296 : Int) /\
 (U.pad b).length <= (4611686018427387904 : Nat) /\
 ∃ (x0 : List Int × Nat),
 (U.vX b
 [(1779033703 : Int), (3144134277 : Int), (1013904242 : Int), (2773480762 : Int),
 (1359893119 : Int), (2600822924 : Int), (528734635 : Int), (1541459225 : Int)]
 x0.2 =
 U.vX b x0.1 x0.2 /\
 U.uU b x0.1 x0.2 /\ x0.2 = (0 : Nat)) /\
 (∀ (x : List Int × Nat),
 U.uU b x.1 x.2 ->
 x.2 < (U.chunks (Int.toNat (64 : Int)) (U.pad b)).length ->
 (64 : Nat) <= ((U.chunks (Int.toNat (64 : Int)) (U.pad b)).getD x.2 []).length /\
 ∃ (y : List Int × Nat),
 U.vX b
 (List.zipWith U.add32 x.1
 (U.ls8
 (U.DX (U.sched ((U.chunks (Int.toNat (64 : Int)) (U.pad b)).getD x.2 []))
 (64 : Nat) (U.st8 x.1))))
 y.2 =
 U.vX b y.1 y.2 /\
 U.uU b y.1 y.2 /\ y.2 = x.2.add (1 : Nat)) /\
 ∀ (x : List Int × Nat),
 U.uU b x.1 x.2 ->
 x.2 = (U.chunks (Int.toNat (64 : Int)) (U.pad b)).length ->
 ∃ (x0 : List Int × List Int × Int),
 (U.vY b
 [(0 : Int), (0 : Int), (0 : Int), (0 : Int), (0 : Int), (0 : Int), (0 : Int),
 (0 : Int), (0 : Int), (0 : Int), (0 : Int), (0 : Int), (0 : Int), (0 : Int),
 (0 : Int), (0 : Int), (0 : Int), (0 : Int), (0 : Int), (0 : Int), (0 : Int),
 (0 : Int), (0 : Int), (0 : Int), (0 : Int), (0 : Int), (0 : Int), (0 : Int),
 (0 : Int), (0 : Int), (0 : Int), (0 : Int)]
 x.1 (0 : Int) =
 U.vY b x0.1 x0.2.1 x0.2.2 /\
 U.zA b x0.1 x0.2.1 x0.2.2) /\
 ∀ (x : List Int × List Int × Int),
 U.zA b x.1 x.2.1 x.2.2 ->
 bif decide (x.2.2 < (32 : Int)) then
 (4 : Int) ≠ (0 : Int) /\
 (0 : Int) <= IntKind.i64.wrap (x.2.2.tdiv (4 : Int)) /\
 IntKind.i64.wrap (x.2.2.tdiv (4 : Int)) < (↑(8 : Nat) : Int) /\
 (IntKind.i64.wrap (x.2.2.tdiv (4 : Int))).toNat < (8 : Nat) /\
 (4 : Int) ≠ (0 : Int) /\
 (0 : Int) <=
 IntKind.i64.wrap
 (Int.sub (24 : Int)
 (IntKind.i64.wrap (Int.mul (8 : Int) (x.2.2.tmod (4 : Int))))) /\
 (0 : Int) <= x.2.2 /\
 x.2.2 < (↑(32 : Nat) : Int) /\
 x.2.2.toNat < (32 : Nat) /\
 ∃ (y : List Int × List Int × Int),
 U.vY b
 (x.1.set x.2.2.toNat
 (IntKind.u8.wrap
 ((x.2.1.getD
 (IntKind.i64.wrap
 (x.2.2.tdiv (4 : Int))).toNat
 (0 : Int)).fdiv
 (Int.pow (2 : Int)
 (if
 (IntKind.i64.wrap
 (Int.sub (24 : Int)
 (IntKind.i64.wrap
 (Int.mul (8 : Int)
 (x.2.2.tmod
 (4 : Int)))))).toNat <=
 IntKind.u32.bits then
 (IntKind.i64.wrap
 (Int.sub (24 : Int)
 (IntKind.i64.wrap
 (Int.mul (8 : Int)
 (x.2.2.tmod (4 : Int)))))).toNat
 else IntKind.u32.bits)))))
 x.2.1 (IntKind.i64.wrap (x.2.2.add (1 : Int))) =
 U.vY b y.1 y.2.1 y.2.2 /\
 U.zA b y.1 y.2.1 y.2.2 /\
 Nat.sub (32 : Nat) y.2.2.toNat <
 Nat.sub (32 : Nat) x.2.2.toNat
 else x.1 = U.sum b /\ True
end Go.Proofs.YtkhdeldobekciaaGreatDoor
