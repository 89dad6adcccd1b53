/- What functions of this seat compute, in plain Lean. -/
import Derived.Test.YtkhdeldobekciaaDoorPE
set_option linter.unusedVariables false
set_option linter.unusedSimpArgs false
set_option maxRecDepth 100000
namespace Go.Proofs.YtkhdeldobekciaaDoor
open Go.Vc
abbrev OO : Ty := .slice aG
abbrev tW8 : Ty := .arr 8 (.int .u32)
abbrev agZ : Ty := .arr 64 (.int .u32)
abbrev ag0 : Ty := .arr 32 (.int .u8)
def rK (k : IntKind) (x : Int) : Done := ⟨[], .one (.int k x), [], []⟩
namespace U
def sA (n : Nat) (fr : Bool) (t : Ty) (l : List t.den) : Option SV := some (.v ⟨true, [.arr n fr t l]⟩)
def yld : Option SV := some (.one .yld)
def shl (k : IntKind) (x : Int) (n : Nat) : Int := k.wrap (Int.mul x (Int.pow 2 (min n k.bits)))
def shr (k : IntKind) (x : Int) (n : Nat) : Int := Int.fdiv x (Int.pow 2 (min n k.bits))
def rotl (x k : Int) : Int :=
 let s := T.agi .u64 (IntKind.wrap .u64 k) 31
 T.orK .u32 (shl .u32 x s.toNat) (shr .u32 x (IntKind.wrap .u64 (Int.sub 32 s)).toNat)
def right (x n : Int) : Int := rotl x (IntKind.wrap .i64 (Int.sub 0 n))
def add32 (a b : Int) : Int := IntKind.wrap .u32 (Int.add a b)
abbrev zF := T.agV .u32
abbrev ado := T.agi .u32
abbrev agw := T.orK .u32
def word (l : List Int) : Int := ((l.getD 0 0 * 256 + l.getD 1 0) * 256 + l.getD 2 0) * 256 + l.getD 3 0
def S1 (e : Int) : Int := zF (zF (right e 6) (right e 11)) (right e 25)
def S0 (a : Int) : Int := zF (zF (right a 2) (right a 13)) (right a 22)
def s0 (x : Int) : Int := zF (zF (right x 7) (right x 18)) (shr .u32 x 3)
def s1 (y : Int) : Int := zF (zF (right y 17) (right y 19)) (shr .u32 y 10)
abbrev St8 := Int × Int × Int × Int × Int × Int × Int × Int
def one (k w : Int) : St8 -> Int := fun (a, b, c, d, e, f, g, i) => add32 (add32 (add32 (add32 i (S1 e)) (zF g (ado e (zF f g)))) k) w
def two : St8 -> Int := fun (a, b, c, d, e, f, g, i) => add32 (S0 a) (agw (ado a b) (ado c (agw a b)))
def rnd (k w : Int) : St8 -> St8 := fun s => (add32 (one k w s) (two s), s.1, s.2.1, s.2.2.1, add32 s.2.2.2.1 (one k w s), s.2.2.2.2.1, s.2.2.2.2.2.1, s.2.2.2.2.2.2.1)
def Gy (w : List Int) : Nat -> St8 -> St8
 | 0, s => s
 | t + 1, s => rnd (Vw.getD t 0) (w.getD t 0) (Gy w t s)
def st8 (h : List Int) : St8 := (h.getD 0 0, h.getD 1 0, h.getD 2 0, h.getD 3 0, h.getD 4 0, h.getD 5 0, h.getD 6 0, h.getD 7 0)
def ls8 : St8 -> List Int := fun (a, b, c, d, e, f, g, i) => [a, b, c, d, e, f, g, i]
def adp (l : List Int) : Int := add32 (add32 (add32 (l.getD (l.length - 16) 0) (s0 (l.getD (l.length - 15) 0))) (l.getD (l.length - 7) 0)) (s1 (l.getD (l.length - 2) 0))
def sH (b : List Int) (t : Nat) : List Int := (List.range t).map fun t => word (b.drop (4 * t))
def tZ (b : List Int) : Nat -> List Int
 | 0 => sH b 16
 | k + 1 => tZ b k ++ [adp (tZ b k)]
def sched (b : List Int) : List Int := tZ b 48
def zG (n : Nat) (l : List Int) : List Int := l ++ List.replicate (n - l.length) 0
def step (h b : List Int) : List Int := List.zipWith add32 h (ls8 (Gy (sched b) 64 (st8 h)))
def chunks (n : Nat) (l : List Int) : List (List Int) := (List.range ((l.length + n - 1) / n)).map fun k => (l.drop (k * n)).take n
def be8 : Nat -> Nat -> List Int
 | 0, _ => []
 | k + 1, n => ((n / 256 ^ k % 256 : Nat) : Int) :: be8 k n
def zeros (n : Nat) : Nat := (119 - n % 64) % 64
def pad (b : List Int) : List Int := b ++ (128 :: (List.replicate (zeros b.length) 0 ++ be8 8 (b.length * 8)))
def FM (h : List Int) : List Int := (List.range 32).map fun k => IntKind.wrap .u8 (shr .u32 (h.getD (k / 4) 0) (24 - 8 * (k % 4)))
def sums (b : List Int) : List Int := (chunks 64 (pad b)).foldl step LX
def sum (b : List Int) : List Int := FM (sums b)
end U
namespace U
def dZ (l : List (List Int)) (n : Int) (i : Int) : St2 := ⟨⟨[sL false aG l] ++ U.n 2 ++ [sI n] ++ U.n 5 ++ [sL false aG l] ++ [sI l.length] ++ [sI i] ++ U.n 24, [], []⟩, 0, []⟩
def eY (l : List (List Int))  (n : Int) (i : Int) : Prop := at_ l i /\ n = (l.take i.toNat).flatten.length
def aZ (l : List (List Int)) (o : List Int) (i : Int) : St2 := ⟨⟨U.n 6 ++ [own 0] ++ U.n 18 ++ [sL false aG l] ++ [sI l.length] ++ [sI i] ++ U.n 8, [], [(0, .row 5 (.int .u8) true true o)]⟩, 1, []⟩
def bZ (l : List (List Int))  (o : List Int) (i : Int) : Prop := at_ l i /\ o = (l.take i.toNat).flatten
def dX (s : List Int) (n : Int) (i : Int) (k : Nat) : St2 := ⟨⟨[yld] ++ [sP 0 0] ++ [sP 1 0] ++ U.n 1 ++ [sI i] ++ U.n 26, [], [(0, .obj [.psl false (.int .u8) s]), (1, .obj [.int .i64 n])]⟩, 2, [0, k]⟩
def eu (s : List Int) (n : Int)  (i : Int) (k : Nat) : Prop := i = k * n /\ i < s.length + n
def uf (b : List Int) (o : List Int) (n : Int) (i : Int) : St2 := ⟨⟨U.n 4 ++ [own 0] ++ [sK .u64 n] ++ [sI i] ++ U.n 31, [], [(0, .row 5 (.int .u8) true true o)]⟩, 1, []⟩
def xW (b : List Int)  (o : List Int) (n : Int) (i : Int) : Prop := ∃ k : Nat, k <= 8 /\ n = ((b.length * 8 / 256 ^ k : Nat) : Int) /\ i = b.length + zeros b.length + 8 - k /\ o = b ++ (128 :: (List.replicate (zeros b.length + (8 - k)) 0 ++ be8 k (b.length * 8)))
def kT (b : List Int) (w : List Int) (t : Int) : St2 := ⟨⟨[sL false (.int .u8) b] ++ U.n 1 ++ [sP 0 0] ++ U.n 4 ++ [sI t] ++ U.n 52, [], [(0, .obj [.arr 64 true (.int .u32) w])]⟩, 1, []⟩
def mG (b : List Int)  (w : List Int) (t : Int) : Prop := 0 <= t /\ t <= 16 /\ w = zG 64 (sH b t.toNat)
def kU (b : List Int) (w : List Int) (t : Int) : St2 := ⟨⟨U.n 2 ++ [sP 0 0] ++ U.n 1 ++ [sI t] ++ U.n 55, [], [(0, .obj [.arr 64 true (.int .u32) w])]⟩, 1, []⟩
def mJ (b : List Int)  (w : List Int) (t : Int) : Prop := 16 <= t /\ t <= 64 /\ w = zG 64 (tZ b (t.toNat - 16))
def qX (h bl : List Int) (a : Int) (b : Int) (c : Int) (d : Int) (e : Int) (f : Int) (g : Int) (i : Int) (t : Int) : St2 := ⟨⟨U.n 2 ++ [sP 0 0] ++ U.n 1 ++ [sP 1 0] ++ [sK .u32 a] ++ [sK .u32 b] ++ [sK .u32 c] ++ [sK .u32 d] ++ [sK .u32 e] ++ [sK .u32 f] ++ [sK .u32 g] ++ [sK .u32 i] ++ U.n 23 ++ [sA 64 true (.int .u32) (sched bl)] ++ [sI t] ++ U.n 79, [], [(0, .obj [.arr 8 true (.int .u32) h]), (1, .obj [.arr 8 true (.int .u32) (List.replicate 8 0)])]⟩, 2, []⟩
def ug (h bl : List Int)  (a : Int) (b : Int) (c : Int) (d : Int) (e : Int) (f : Int) (g : Int) (i : Int) (t : Int) : Prop := 0 <= t /\ t <= 64 /\ (a, b, c, d, e, f, g, i) = Gy (sched bl) t.toNat (st8 h)
def o8 (h bl : List Int) (v : List Int) (hh : List Int) (k : Int) : St2 := ⟨⟨U.n 2 ++ [sP 0 0] ++ U.n 1 ++ [sP 1 0] ++ U.n 99 ++ [sA 8 true (.int .u32) v] ++ [sI k] ++ U.n 11, [], [(0, .obj [.arr 8 true (.int .u32) hh]), (1, .obj [.arr 8 true (.int .u32) (List.replicate 8 0)])]⟩, 2, []⟩
def qY (h bl : List Int)  (v : List Int) (hh : List Int) (k : Int) : Prop := 0 <= k /\ k <= 8 /\ v = ls8 (Gy (sched bl) 64 (st8 h)) /\ hh = List.zipWith add32 (h.take k.toNat) v ++ h.drop k.toNat
def uh (b : List Int) (h : List Int) (k : Nat) : St2 := ⟨⟨U.n 2 ++ [sP 0 0] ++ [sP 1 0] ++ U.n 27, [], [(0, .obj [.arr 32 true (.int .u8) (List.replicate 32 0)]), (1, .obj [.arr 8 true (.int .u32) h])]⟩, 2, []⟩
def sJ (b : List Int)  (h : List Int) (k : Nat) : Prop := h = ((chunks 64 (pad b)).take k).foldl step LX
def um (b : List Int) (s : List Int) (h : List Int) (k : Int) : St2 := ⟨⟨U.n 2 ++ [sP 0 0] ++ [sP 1 0] ++ U.n 10 ++ [sI k] ++ U.n 16, [], [(0, .obj [.arr 32 true (.int .u8) s]), (1, .obj [.arr 8 true (.int .u32) h])]⟩, 2, []⟩
def xX (b : List Int)  (s : List Int) (h : List Int) (k : Int) : Prop := 0 <= k /\ k <= 32 /\ h = sums b /\ s = (FM h).take k.toNat ++ List.replicate (32 - k.toNat) 0
end U
def AB (l : List (List Int)) : Vc.Loop := ⟨{ keep := [0, 3, 9, 10, 11] }, Int × Int, fun x => U.dZ l x.1 x.2, fun x0 x => U.eY l  x.1 x.2, fun x => l.length - x.2.toNat, fun p => ∀ x, p x, fun _ h => h⟩
def yZ (l : List (List Int)) : Vc.Loop := ⟨{ keep := [6, 25, 26, 27], wake := [(6, 5)] }, List Int × Int, fun x => U.aZ l x.1 x.2, fun x0 x => U.bZ l  x.1 x.2, fun x => l.length - x.2.toNat, fun p => ∀ x, p x, fun _ h => h⟩
def y7 (s : List Int) (n : Int) : Vc.Loop := ⟨{ keep := [0, 1, 2, 4] }, Int × Nat, fun x => U.dX s n x.1 x.2, fun x0 x => U.eu s n  x.1 x.2, fun x => ((s.length : Int) + n - x.1).toNat, fun p => ∀ x, p x, fun _ h => h⟩
def abx (b : List Int) : Vc.Loop := ⟨{ keep := [4, 5, 6] }, List Int × Int × Int, fun x => U.uf b x.1 x.2.1 x.2.2, fun x0 x => U.xW b  x.1 x.2.1 x.2.2, fun x => x.2.1.toNat, fun p => ∀ x, p x, fun _ h => h⟩
def QO (b : List Int) : Vc.Loop := ⟨{ keep := [0, 2, 7] }, List Int × Int, fun x => U.kT b x.1 x.2, fun x0 x => U.mG b  x.1 x.2, fun x => 16 - x.2.toNat, fun p => ∀ x, p x, fun _ h => h⟩
def QS (b : List Int) : Vc.Loop := ⟨{ keep := [2, 4] }, List Int × Int, fun x => U.kU b x.1 x.2, fun x0 x => U.mJ b  x.1 x.2, fun x => 64 - x.2.toNat, fun p => ∀ x, p x, fun _ h => h⟩
def aag (h bl : List Int) : Vc.Loop := ⟨{ keep := [2, 4, 5, 6, 7, 8, 9, 10, 11, 12, 36, 37] }, Int × Int × Int × Int × Int × Int × Int × Int × Int, fun x => U.qX h bl x.1 x.2.1 x.2.2.1 x.2.2.2.1 x.2.2.2.2.1 x.2.2.2.2.2.1 x.2.2.2.2.2.2.1 x.2.2.2.2.2.2.2.1 x.2.2.2.2.2.2.2.2, fun x0 x => U.ug h bl  x.1 x.2.1 x.2.2.1 x.2.2.2.1 x.2.2.2.2.1 x.2.2.2.2.2.1 x.2.2.2.2.2.2.1 x.2.2.2.2.2.2.2.1 x.2.2.2.2.2.2.2.2, fun x => 64 - x.2.2.2.2.2.2.2.2.toNat, fun p => ∀ x, p x, fun _ h => h⟩
def Xg (h bl : List Int) : Vc.Loop := ⟨{ keep := [2, 4, 104, 105] }, List Int × List Int × Int, fun x => U.o8 h bl x.1 x.2.1 x.2.2, fun x0 x => U.qY h bl  x.1 x.2.1 x.2.2, fun x => 8 - x.2.2.toNat, fun p => ∀ x, p x, fun _ h => h⟩
def aby (b : List Int) : Vc.Loop := ⟨{ keep := [2, 3] }, List Int × Nat, fun x => U.uh b x.1 x.2, fun x0 x => U.sJ b  x.1 x.2, fun x => x.2, fun p => ∀ x, p x, fun _ h => h⟩
def abz (b : List Int) : Vc.Loop := ⟨{ keep := [2, 3, 14] }, List Int × List Int × Int, fun x => U.um b x.1 x.2.1 x.2.2, fun x0 x => U.xX b  x.1 x.2.1 x.2.2, fun x => 32 - x.2.2.toNat, fun p => ∀ x, p x, fun _ h => h⟩
def lC (x : Int) (k : Int) : Done := rK .u32 (U.rotl x k)
def sO : Vc.Sum := .pure [.int .u32, .int .i64] false fun x => lC x.1 x.2
def sQ (x : Int) (k : Int) : Nat -> List V -> Nat -> Option Vc.Loop := dw
def iW : List (Nat × Ent) := (73, .sum sO) :: xU
def Jp (x : Int) (n : Int) : Done := rK .u32 (U.right x n)
def TU : Vc.Sum := .pure [.int .u32, .int .i64] false fun x => Jp x.1 x.2
def TV (x : Int) (n : Int) : Nat -> List V -> Nat -> Option Vc.Loop := dw
def Dc : List (Nat × Ent) := (64, .sum TU) :: iW
def FN (b : List Int) : Done := ⟨[4 <= b.length], .one (.int .u32 (U.word b)), [], []⟩
def VJ : Vc.Sum := .pure [aG] false fun x => FN x
def VK (b : List Int) : Nat -> List V -> Nat -> Option Vc.Loop := dw
def FP : List (Nat × Ent) := (72, .sum VJ) :: Dc
def iP (l : List (List Int)) : Done := ⟨[l.flatten.length <= 70000000000000], .one (.own 0), [], [.row 5 (.int .u8) true true l.flatten]⟩
def qZ : Vc.Sum := .pure [OO] false fun x => iP x
def ru (l : List (List Int)) : Nat -> List V -> Nat -> Option Vc.Loop := fun f v k => cond (Nat.beq f 14 && Nat.beq k 3) (some (AB l)) <| cond (Nat.beq f 14 && Nat.beq k 11) (some (yZ l)) <| none
def iQ : List (Nat × Ent) := (14, .sum qZ) :: FP
def BD (s : List Int) (n : Int) : List (aI [aG]) := U.chunks n.toNat s
def gX (s : List Int) (n : Int) : List Prop := [1 <= n, n <= 4294967296, s.length <= 4611686018427387904]
def dS : FU := ⟨[aG, .int .i64], [aG], fun x => gX x.1 x.2, fun x => BD x.1 x.2⟩
def ql (s : List Int) (n : Int) : Nat -> List V -> Nat -> Option Vc.Loop := fun f v k => cond (Nat.beq f 62 && Nat.beq k 1) (some (y7 s n)) <| none
def iF : List (Nat × Ent) := (62, .seq dS) :: iQ
def Jq (b : List Int) : Done := ⟨[b.length <= 1000000000000], .one (.psl true (.int .u8) (U.pad b)), [], []⟩
def aah : Vc.Sum := .pure [aG] false fun x => Jq x
def aai (b : List Int) : Nat -> List V -> Nat -> Option Vc.Loop := fun f v k => cond (Nat.beq f 48 && Nat.beq k 5) (some (abx b)) <| none
def Jr : List (Nat × Ent) := (48, .sum aah) :: iF
def uO (b : List Int) : Done := ⟨[64 <= b.length], .v (.of true agZ (U.sched b)), [], []⟩
def Kt : Vc.Sum := .pure [aG] false fun x => uO x
def Ku (b : List Int) : Nat -> List V -> Nat -> Option Vc.Loop := fun f v k => cond (Nat.beq f 63 && Nat.beq k 2) (some (QO b)) <| cond (Nat.beq f 63 && Nat.beq k 7) (some (QS b)) <| none
def uP : List (Nat × Ent) := (63, .sum Kt) :: Jr
def FQ (h : List Int) (b : List Int) : Done := ⟨[64 <= b.length], .v (.of false tW8 (U.step h b)), [], []⟩
def VL : Vc.Sum := .pure [tW8, aG] true fun x => FQ x.1 x.2
def VN (h : List Int) (b : List Int) : Nat -> List V -> Nat -> Option Vc.Loop := fun f v k => cond (Nat.beq f 49 && Nat.beq k 3) (some (aag h b)) <| cond (Nat.beq f 49 && Nat.beq k 10) (some (Xg h b)) <| none
def FT : List (Nat × Ent) := (49, .sum VL) :: uP
def Js (b : List Int) : Done := ⟨[b.length <= 1000000000000], .v (.of true ag0 (U.sum b)), [], []⟩
def aaj : Vc.Sum := .pure [aG] false fun x => Js x
def aak (b : List Int) : Nat -> List V -> Nat -> Option Vc.Loop := fun f v k => cond (Nat.beq f 31 && Nat.beq k 3) (some (aby b)) <| cond (Nat.beq f 31 && Nat.beq k 6) (some (abz b)) <| none
def Jt : List (Nat × Ent) := (31, .sum aaj) :: FT
end Go.Proofs.YtkhdeldobekciaaDoor
set_option maxRecDepth 100000
set_option linter.unusedVariables false
namespace Go.Proofs.YtkhdeldobekciaaDoor
open Go.Vc
def rC (x : Int) (k : Int) : Prop :=
 (0 : Int) <=
 IntKind.u64.wrap
 (↑((BitVec.ofInt IntKind.u64.bits (IntKind.u64.wrap k)).and (BitVec.ofInt IntKind.u64.bits (31 : Int))).toNat :
 Int) /\
 (0 : Int) <=
 IntKind.u64.wrap
 (Int.sub (32 : Int)
 (IntKind.u64.wrap
 (↑((BitVec.ofInt IntKind.u64.bits (IntKind.u64.wrap k)).and
 (BitVec.ofInt IntKind.u64.bits (31 : Int))).toNat :
 Int))) /\
 IntKind.u32.wrap
 (↑((BitVec.ofInt IntKind.u32.bits
 (IntKind.u32.wrap
 (x.mul
 (Int.pow (2 : Int)
 (if
 (IntKind.u64.wrap
 (↑((BitVec.ofInt IntKind.u64.bits (IntKind.u64.wrap k)).and
 (BitVec.ofInt IntKind.u64.bits (31 : Int))).toNat :
 Int)).toNat <=
 IntKind.u32.bits then
 (IntKind.u64.wrap
 (↑((BitVec.ofInt IntKind.u64.bits (IntKind.u64.wrap k)).and
 (BitVec.ofInt IntKind.u64.bits (31 : Int))).toNat :
 Int)).toNat
 else IntKind.u32.bits))))).or
 (BitVec.ofInt IntKind.u32.bits
 (x.fdiv
 (Int.pow (2 : Int)
 (if
 (IntKind.u64.wrap
 (Int.sub (32 : Int)
 (IntKind.u64.wrap
 (↑((BitVec.ofInt IntKind.u64.bits (IntKind.u64.wrap k)).and
 (BitVec.ofInt IntKind.u64.bits (31 : Int))).toNat :
 Int)))).toNat <=
 IntKind.u32.bits then
 (IntKind.u64.wrap
 (Int.sub (32 : Int)
 (IntKind.u64.wrap
 (↑((BitVec.ofInt IntKind.u64.bits (IntKind.u64.wrap k)).and
 (BitVec.ofInt IntKind.u64.bits (31 : Int))).toNat :
 Int)))).toNat
 else IntKind.u32.bits))))).toNat :
 Int) =
 U.rotl x k /\
 True
def Qm (x : Int) (n : Int) : Prop := U.rotl x (IntKind.i64.wrap (Int.sub (0 : Int) n)) = U.right x n /\ True
def Ju (b : List Int) : Prop :=
 (0 : Int) <= (0 : Int) /\
 (0 : Int) < (↑b.length : Int) /\
 (0 : Int) <= (24 : Int) /\
 (0 : Int) <= (1 : Int) /\
 (1 : Int) < (↑b.length : Int) /\
 (0 : Int) <= (16 : Int) /\
 (0 : Int) <= (2 : Int) /\
 (2 : Int) < (↑b.length : Int) /\
 (0 : Int) <= (8 : Int) /\
 (0 : Int) <= (3 : Int) /\
 (3 : Int) < (↑b.length : Int) /\
 IntKind.u32.wrap
 (↑((BitVec.ofInt IntKind.u32.bits
 (IntKind.u32.wrap
 (↑((BitVec.ofInt IntKind.u32.bits
 (IntKind.u32.wrap
 (↑((BitVec.ofInt IntKind.u32.bits
 (IntKind.u32.wrap
 ((IntKind.u32.wrap
 (b.getD (Int.toNat (0 : Int))
 (0 : Int))).mul
 (Int.pow (2 : Int)
 (if
 Int.toNat (24 : Int) <=
 IntKind.u32.bits then
 Int.toNat (24 : Int)
 else IntKind.u32.bits))))).or
 (BitVec.ofInt IntKind.u32.bits
 (IntKind.u32.wrap
 ((IntKind.u32.wrap
 (b.getD (Int.toNat (1 : Int))
 (0 : Int))).mul
 (Int.pow (2 : Int)
 (if
 Int.toNat (16 : Int) <=
 IntKind.u32.bits then
 Int.toNat (16 : Int)
 else IntKind.u32.bits)))))).toNat :
 Int))).or
 (BitVec.ofInt IntKind.u32.bits
 (IntKind.u32.wrap
 ((IntKind.u32.wrap (b.getD (Int.toNat (2 : Int)) (0 : Int))).mul
 (Int.pow (2 : Int)
 (if Int.toNat (8 : Int) <= IntKind.u32.bits then
 Int.toNat (8 : Int)
 else IntKind.u32.bits)))))).toNat :
 Int))).or
 (BitVec.ofInt IntKind.u32.bits
 (IntKind.u32.wrap (b.getD (Int.toNat (3 : Int)) (0 : Int))))).toNat :
 Int) =
 U.word b /\
 True
def jS (l : List (List Int)) : Prop :=
 ∃ (x0 : Int × Int),
 (U.dZ l (0 : Int) (0 : Int) = U.dZ l x0.1 x0.2 /\
 U.eY l x0.1 x0.2) /\
 ∀ (x : Int × Int),
 U.eY l x.1 x.2 ->
 bif decide (x.2 < (↑l.length : Int)) then
 (0 : Int) <= x.2 /\
 x.2 < (↑l.length : Int) /\
 bif decide (IntKind.i64.wrap (x.1.add (↑(l.getD x.2.toNat []).length : Int)) < (0 : Int)) then False
 else
 ∃ (y : Int × Int),
 U.dZ l
 (IntKind.i64.wrap (x.1.add (↑(l.getD x.2.toNat []).length : Int)))
 (IntKind.i64.wrap (x.2.add (1 : Int))) =
 U.dZ l y.1 y.2 /\
 U.eY l y.1 y.2 /\ l.length.sub y.2.toNat < l.length.sub x.2.toNat
 else
 bif decide (x.1 < (0 : Int)) then False
 else
 bif
 decide
 (IntKind.i64.wrap (x.1.sub (IntKind.i64.wrap (Int.sub (0 : Int) (0 : Int)))) > (0 : Int)) then
 (0 : Int) <= (0 : Int) /\
 (0 : Int) <= (0 : Int) /\
 (0 : Int) <= (0 : Int) /\
 (0 : Int) < IntKind.i64.wrap (x.1.sub (IntKind.i64.wrap (Int.sub (0 : Int) (0 : Int)))) /\
 (IntKind.i64.wrap (x.1.sub (IntKind.i64.wrap (Int.sub (0 : Int) (0 : Int))))).mul
 (↑(1 : Nat) : Int) <=
 (140737488355328 : Int) /\
 IntKind.i64.wrap (x.1.sub (IntKind.i64.wrap (Int.sub (0 : Int) (0 : Int)))) <=
 (↑maxLen : Int) /\
 (0 : Int) <= (0 : Int) /\
 (0 : Int) <= (0 : Int) /\
 (0 : Int) <=
 (↑(List.replicate
 (IntKind.i64.wrap
 (x.1.sub (IntKind.i64.wrap (Int.sub (0 : Int) (0 : Int))))).toNat
 (0 : Int)).length :
 Int) /\
 ∃ (x0 : List Int × Int),
 (U.aZ l [] (0 : Int) =
 U.aZ l x0.1 x0.2 /\
 U.bZ l x0.1 x0.2) /\
 ∀ (x : List Int × Int),
 U.bZ l x.1 x.2 ->
 bif decide (x.2 < (↑l.length : Int)) then
 (0 : Int) <= x.2 /\
 x.2 < (↑l.length : Int) /\
 (x.1.length.add (l.getD x.2.toNat []).length).mul (1 : Nat) <=
 (140737488355328 : Nat) /\
 x.1.length.add (l.getD x.2.toNat []).length <= maxLen /\
 ∃ (y : List Int × Int),
 U.aZ l
 (x.1.append (l.getD x.2.toNat []))
 (IntKind.i64.wrap (x.2.add (1 : Int))) =
 U.aZ l y.1 y.2 /\
 U.bZ l y.1 y.2 /\
 l.length.sub y.2.toNat < l.length.sub x.2.toNat
 else x.1 = l.flatten /\ True
 else
 ∃ (x0 : List Int × Int),
 (U.aZ l [] (0 : Int) = U.aZ l x0.1 x0.2 /\
 U.bZ l x0.1 x0.2) /\
 ∀ (x : List Int × Int),
 U.bZ l x.1 x.2 ->
 bif decide (x.2 < (↑l.length : Int)) then
 (0 : Int) <= x.2 /\
 x.2 < (↑l.length : Int) /\
 (x.1.length.add (l.getD x.2.toNat []).length).mul (1 : Nat) <=
 (140737488355328 : Nat) /\
 x.1.length.add (l.getD x.2.toNat []).length <= maxLen /\
 ∃ (y : List Int × Int),
 U.aZ l (x.1.append (l.getD x.2.toNat []))
 (IntKind.i64.wrap (x.2.add (1 : Int))) =
 U.aZ l y.1 y.2 /\
 U.bZ l y.1 y.2 /\
 l.length.sub y.2.toNat < l.length.sub x.2.toNat
 else x.1 = l.flatten /\ True
def jH (s : List Int) (n : Int) : Prop :=
 ∃ (x0 : Int × Nat),
 (U.dX s n (0 : Int) (0 : Nat) = U.dX s n x0.1 x0.2 /\
 U.eu s n x0.1 x0.2) /\
 ∀ (x : Int × Nat),
 U.eu s n x.1 x.2 ->
 bif decide (x.1 < (↑s.length : Int)) then
 (0 : Int) <= x.1 /\
 x.1 <= (↑s.length : Int) /\
 (↑s.length : Int) <= (↑s.length : Int) /\
 (0 : Int) <= x.1 /\
 x.1 <=
 IntKind.i64.wrap
 (x.1.add
 (bJ n
 (↑(List.take ((↑s.length : Int).toNat.sub x.1.toNat) (List.drop x.1.toNat s)).length :
 Int))) /\
 IntKind.i64.wrap
 (x.1.add
 (bJ n
 (↑(List.take ((↑s.length : Int).toNat.sub x.1.toNat)
 (List.drop x.1.toNat s)).length :
 Int))) <=
 IntKind.i64.wrap
 (x.1.add
 (bJ n
 (↑(List.take ((↑s.length : Int).toNat.sub x.1.toNat)
 (List.drop x.1.toNat s)).length :
 Int))) /\
 IntKind.i64.wrap
 (x.1.add
 (bJ n
 (↑(List.take ((↑s.length : Int).toNat.sub x.1.toNat)
 (List.drop x.1.toNat s)).length :
 Int))) <=
 (↑s.length : Int) /\
 x.2 < (U.chunks n.toNat s).length /\
 (U.chunks n.toNat s).getD x.2 [] =
 List.take
 ((IntKind.i64.wrap
 (x.1.add
 (bJ n
 (↑(List.take ((↑s.length : Int).toNat.sub x.1.toNat)
 (List.drop x.1.toNat s)).length :
 Int)))).toNat.sub
 x.1.toNat)
 (List.drop x.1.toNat s) /\
 (∃ (y : Int × Nat),
 U.dX s n (IntKind.i64.wrap (x.1.add n))
 (x.2.add (1 : Nat)) =
 U.dX s n y.1 y.2 /\
 U.eu s n y.1 y.2 /\
 (((↑s.length : Int).add n).sub y.1).toNat <
 (((↑s.length : Int).add n).sub x.1).toNat) /\
 true = true
 else x.2 = (U.chunks n.toNat s).length
def NW (b : List Int) : Prop :=
 (64 : Int) ≠ (0 : Int) /\
 (64 : Int) ≠ (0 : Int) /\
 (0 : Int) <=
 IntKind.i64.wrap
 (((IntKind.i64.wrap (Int.sub (119 : Int) ((↑b.length : Int).tmod (64 : Int)))).tmod (64 : Int)).add
 (8 : Int)) /\
 IntKind.i64.wrap
 (((IntKind.i64.wrap (Int.sub (119 : Int) ((↑b.length : Int).tmod (64 : Int)))).tmod (64 : Int)).add
 (8 : Int)) <=
 IntKind.i64.wrap
 (((IntKind.i64.wrap (Int.sub (119 : Int) ((↑b.length : Int).tmod (64 : Int)))).tmod (64 : Int)).add
 (8 : Int)) /\
 (IntKind.i64.wrap
 (((IntKind.i64.wrap (Int.sub (119 : Int) ((↑b.length : Int).tmod (64 : Int)))).tmod (64 : Int)).add
 (8 : Int))).mul
 (↑(1 : Nat) : Int) <=
 (140737488355328 : Int) /\
 IntKind.i64.wrap
 (((IntKind.i64.wrap (Int.sub (119 : Int) ((↑b.length : Int).tmod (64 : Int)))).tmod (64 : Int)).add
 (8 : Int)) <=
 (9223372036854775807 : Int) /\
 (b.append
 ((128 : Int) ::
 (List.replicate
 (IntKind.i64.wrap
 (((IntKind.i64.wrap (Int.sub (119 : Int) ((↑b.length : Int).tmod (64 : Int)))).tmod
 (64 : Int)).add
 (8 : Int))).toNat
 (0 : Int)).append
 [])).length <=
 (70000000000000 : Nat) /\
 ∃ (x0 : List Int × Int × Int),
 (U.uf b
 (b.append
 ((128 : Int) ::
 (List.replicate
 (IntKind.i64.wrap
 (((IntKind.i64.wrap
 (Int.sub (119 : Int) ((↑b.length : Int).tmod (64 : Int)))).tmod
 (64 : Int)).add
 (8 : Int))).toNat
 (0 : Int)).append
 []))
 (IntKind.u64.wrap ((IntKind.u64.wrap (↑b.length : Int)).mul (8 : Int)))
 (IntKind.i64.wrap
 ((↑(b.append
 ((128 : Int) ::
 (List.replicate
 (IntKind.i64.wrap
 (((IntKind.i64.wrap
 (Int.sub (119 : Int)
 ((↑b.length : Int).tmod (64 : Int)))).tmod
 (64 : Int)).add
 (8 : Int))).toNat
 (0 : Int)).append
 [])).length :
 Int).sub
 (1 : Int))) =
 U.uf b x0.1 x0.2.1 x0.2.2 /\
 U.xW b x0.1 x0.2.1 x0.2.2) /\
 ∀ (x : List Int × Int × Int),
 U.xW b x.1 x.2.1 x.2.2 ->
 bif decide (x.2.1 > (0 : Int)) then
 (0 : Int) <= x.2.2 /\
 x.2.2 < (↑x.1.length : Int) /\
 x.2.2.toNat < x.1.length /\
 (0 : Int) <= (8 : Int) /\
 ∃ (y : List Int × Int × Int),
 U.uf b (x.1.set x.2.2.toNat (IntKind.u8.wrap x.2.1))
 (x.2.1.fdiv
 (Int.pow (2 : Int)
 (if Int.toNat (8 : Int) <= IntKind.u64.bits then Int.toNat (8 : Int)
 else IntKind.u64.bits)))
 (IntKind.i64.wrap (x.2.2.sub (1 : Int))) =
 U.uf b y.1 y.2.1 y.2.2 /\
 U.xW b y.1 y.2.1 y.2.2 /\ y.2.1.toNat < x.2.1.toNat
 else x.1 = U.pad b /\ True
def y8 (b : List Int) : Prop :=
 ∃ (x0 : List Int × Int),
 (U.kT b
 [(0 : Int), (0 : Int), (0 : Int), (0 : Int), (0 : Int), (0 : Int), (0 : Int), (0 : Int), (0 : Int),
 (0 : Int), (0 : Int), (0 : Int), (0 : Int), (0 : Int), (0 : Int), (0 : Int), (0 : Int), (0 : Int),
 (0 : Int), (0 : Int), (0 : Int), (0 : Int), (0 : Int), (0 : Int), (0 : Int), (0 : Int), (0 : Int),
 (0 : Int), (0 : Int), (0 : Int), (0 : Int), (0 : Int), (0 : Int), (0 : Int), (0 : Int), (0 : Int),
 (0 : Int), (0 : Int), (0 : Int), (0 : Int), (0 : Int), (0 : Int), (0 : Int), (0 : Int), (0 : Int),
 (0 : Int), (0 : Int), (0 : Int), (0 : Int), (0 : Int), (0 : Int), (0 : Int), (0 : Int), (0 : Int),
 (0 : Int), (0 : Int), (0 : Int), (0 : Int), (0 : Int), (0 : Int), (0 : Int), (0 : Int), (0 : Int),
 (0 : Int)]
 (0 : Int) =
 U.kT b x0.1 x0.2 /\
 U.mG b x0.1 x0.2) /\
 ∀ (x : List Int × Int),
 U.mG b x.1 x.2 ->
 bif decide (x.2 < (16 : Int)) then
 (0 : Int) <= IntKind.i64.wrap (Int.mul (4 : Int) x.2) /\
 IntKind.i64.wrap (Int.mul (4 : Int) x.2) <= (↑b.length : Int) /\
 (↑b.length : Int) <= (↑b.length : Int) /\
 (4 : Nat) <=
 (List.take ((↑b.length : Int).toNat.sub (IntKind.i64.wrap (Int.mul (4 : Int) x.2)).toNat)
 (List.drop (IntKind.i64.wrap (Int.mul (4 : Int) x.2)).toNat b)).length /\
 (0 : Int) <= x.2 /\
 x.2 < (↑(64 : Nat) : Int) /\
 x.2.toNat < (64 : Nat) /\
 ∃ (y : List Int × Int),
 U.kT b
 (x.1.set x.2.toNat
 (U.word
 (List.take
 ((↑b.length : Int).toNat.sub (IntKind.i64.wrap (Int.mul (4 : Int) x.2)).toNat)
 (List.drop (IntKind.i64.wrap (Int.mul (4 : Int) x.2)).toNat b))))
 (IntKind.i64.wrap (x.2.add (1 : Int))) =
 U.kT b y.1 y.2 /\
 U.mG b y.1 y.2 /\
 Nat.sub (16 : Nat) y.2.toNat < Nat.sub (16 : Nat) x.2.toNat
 else
 ∃ (x0 : List Int × Int),
 (U.kU b x.1 (16 : Int) = U.kU b x0.1 x0.2 /\
 U.mJ b x0.1 x0.2) /\
 ∀ (x : List Int × Int),
 U.mJ b x.1 x.2 ->
 bif decide (x.2 < (64 : Int)) then
 (0 : Int) <= IntKind.i64.wrap (x.2.sub (15 : Int)) /\
 IntKind.i64.wrap (x.2.sub (15 : Int)) < (↑(64 : Nat) : Int) /\
 (IntKind.i64.wrap (x.2.sub (15 : Int))).toNat < (64 : Nat) /\
 (0 : Int) <= IntKind.i64.wrap (x.2.sub (2 : Int)) /\
 IntKind.i64.wrap (x.2.sub (2 : Int)) < (↑(64 : Nat) : Int) /\
 (IntKind.i64.wrap (x.2.sub (2 : Int))).toNat < (64 : Nat) /\
 (0 : Int) <= IntKind.i64.wrap (x.2.sub (16 : Int)) /\
 IntKind.i64.wrap (x.2.sub (16 : Int)) < (↑(64 : Nat) : Int) /\
 (IntKind.i64.wrap (x.2.sub (16 : Int))).toNat < (64 : Nat) /\
 (0 : Int) <= (3 : Int) /\
 (0 : Int) <= IntKind.i64.wrap (x.2.sub (7 : Int)) /\
 IntKind.i64.wrap (x.2.sub (7 : Int)) < (↑(64 : Nat) : Int) /\
 (IntKind.i64.wrap (x.2.sub (7 : Int))).toNat < (64 : Nat) /\
 (0 : Int) <= (10 : Int) /\
 (0 : Int) <= x.2 /\
 x.2 < (↑(64 : Nat) : Int) /\
 x.2.toNat < (64 : Nat) /\
 ∃ (y : List Int × Int),
 U.kU b
 (x.1.set x.2.toNat
 (IntKind.u32.wrap
 ((IntKind.u32.wrap
 ((IntKind.u32.wrap
 ((x.1.getD
 (IntKind.i64.wrap
 (x.2.sub (16 : Int))).toNat
 (0 : Int)).add
 (IntKind.u32.wrap
 (↑((BitVec.ofInt IntKind.u32.bits
 (IntKind.u32.wrap
 (↑((BitVec.ofInt
 IntKind.u32.bits
 (U.right
 (x.1.getD
 (IntKind.i64.wrap
 (x.2.sub
 (15 :
 Int))).toNat
 (0 :
 Int))
 (7 :
 Int))).xor
 (BitVec.ofInt
 IntKind.u32.bits
 (U.right
 (x.1.getD
 (IntKind.i64.wrap
 (x.2.sub
 (15 :
 Int))).toNat
 (0 :
 Int))
 (18 :
 Int)))).toNat :
 Int))).xor
 (BitVec.ofInt
 IntKind.u32.bits
 ((x.1.getD
 (IntKind.i64.wrap
 (x.2.sub
 (15 :
 Int))).toNat
 (0 : Int)).fdiv
 (Int.pow (2 : Int)
 (if
 Int.toNat
 (3 : Int) <=
 IntKind.u32.bits then
 Int.toNat (3 : Int)
 else
 IntKind.u32.bits))))).toNat :
 Int)))).add
 (x.1.getD
 (IntKind.i64.wrap
 (x.2.sub (7 : Int))).toNat
 (0 : Int)))).add
 (IntKind.u32.wrap
 (↑((BitVec.ofInt IntKind.u32.bits
 (IntKind.u32.wrap
 (↑((BitVec.ofInt IntKind.u32.bits
 (U.right
 (x.1.getD
 (IntKind.i64.wrap
 (x.2.sub
 (2 :
 Int))).toNat
 (0 : Int))
 (17 : Int))).xor
 (BitVec.ofInt
 IntKind.u32.bits
 (U.right
 (x.1.getD
 (IntKind.i64.wrap
 (x.2.sub
 (2 :
 Int))).toNat
 (0 : Int))
 (19 : Int)))).toNat :
 Int))).xor
 (BitVec.ofInt IntKind.u32.bits
 ((x.1.getD
 (IntKind.i64.wrap
 (x.2.sub (2 : Int))).toNat
 (0 : Int)).fdiv
 (Int.pow (2 : Int)
 (if
 Int.toNat (10 : Int) <=
 IntKind.u32.bits then
 Int.toNat (10 : Int)
 else IntKind.u32.bits))))).toNat :
 Int)))))
 (IntKind.i64.wrap (x.2.add (1 : Int))) =
 U.kU b y.1 y.2 /\
 U.mJ b y.1 y.2 /\
 Nat.sub (64 : Nat) y.2.toNat <
 Nat.sub (64 : Nat) x.2.toNat
 else x.1 = U.sched b /\ True
def Jv (h : List Int) (b : List Int) : Prop :=
 (0 : Int) <= (0 : Int) /\
 (0 : Int) < (↑(8 : Nat) : Int) /\
 Int.toNat (0 : Int) < (8 : Nat) /\
 (0 : Int) <= (1 : Int) /\
 (1 : Int) < (↑(8 : Nat) : Int) /\
 Int.toNat (1 : Int) < (8 : Nat) /\
 (0 : Int) <= (2 : Int) /\
 (2 : Int) < (↑(8 : Nat) : Int) /\
 Int.toNat (2 : Int) < (8 : Nat) /\
 (0 : Int) <= (3 : Int) /\
 (3 : Int) < (↑(8 : Nat) : Int) /\
 Int.toNat (3 : Int) < (8 : Nat) /\
 (0 : Int) <= (4 : Int) /\
 (4 : Int) < (↑(8 : Nat) : Int) /\
 Int.toNat (4 : Int) < (8 : Nat) /\
 (0 : Int) <= (5 : Int) /\
 (5 : Int) < (↑(8 : Nat) : Int) /\
 Int.toNat (5 : Int) < (8 : Nat) /\
 (0 : Int) <= (6 : Int) /\
 (6 : Int) < (↑(8 : Nat) : Int) /\
 Int.toNat (6 : Int) < (8 : Nat) /\
 (0 : Int) <= (7 : Int) /\
 (7 : Int) < (↑(8 : Nat) : Int) /\
 Int.toNat (7 : Int) < (8 : Nat) /\
 (64 : Nat) <= b.length /\
 ∃ (x0 : Int × Int × Int × Int × Int × Int × Int × Int × Int),
 (U.qX h b (h.getD (Int.toNat (0 : Int)) (0 : Int))
 (h.getD (Int.toNat (1 : Int)) (0 : Int))
 (h.getD (Int.toNat (2 : Int)) (0 : Int))
 (h.getD (Int.toNat (3 : Int)) (0 : Int))
 (h.getD (Int.toNat (4 : Int)) (0 : Int))
 (h.getD (Int.toNat (5 : Int)) (0 : Int))
 (h.getD (Int.toNat (6 : Int)) (0 : Int))
 (h.getD (Int.toNat (7 : Int)) (0 : Int)) (0 : Int) =
 U.qX h b x0.1 x0.2.1 x0.2.2.1
 x0.2.2.2.1 x0.2.2.2.2.1
 x0.2.2.2.2.2.1 x0.2.2.2.2.2.2.1
 x0.2.2.2.2.2.2.2.1
 x0.2.2.2.2.2.2.2.2 /\
 U.ug h b x0.1 x0.2.1 x0.2.2.1
 x0.2.2.2.1 x0.2.2.2.2.1
 x0.2.2.2.2.2.1 x0.2.2.2.2.2.2.1
 x0.2.2.2.2.2.2.2.1
 x0.2.2.2.2.2.2.2.2) /\
 ∀ (x : Int × Int × Int × Int × Int × Int × Int × Int × Int),
 U.ug h b x.1 x.2.1 x.2.2.1
 x.2.2.2.1 x.2.2.2.2.1
 x.2.2.2.2.2.1 x.2.2.2.2.2.2.1
 x.2.2.2.2.2.2.2.1
 x.2.2.2.2.2.2.2.2 ->
 bif
 decide
 (x.2.2.2.2.2.2.2.2 < (64 : Int)) then
 (0 : Int) <= x.2.2.2.2.2.2.2.2 /\
 x.2.2.2.2.2.2.2.2 <
 (↑(64 : Nat) : Int) /\
 (0 : Int) <= x.2.2.2.2.2.2.2.2 /\
 x.2.2.2.2.2.2.2.2 <
 (↑(64 : Nat) : Int) /\
 ∃ (y :
 Int ×
 Int ×
 Int × Int × Int × Int × Int × Int × Int),
 U.qX h b
 (IntKind.u32.wrap
 ((IntKind.u32.wrap
 ((IntKind.u32.wrap
 ((IntKind.u32.wrap
 ((IntKind.u32.wrap
 (x.2.2.2.2.2.2.2.1.add
 (IntKind.u32.wrap
 (↑((BitVec.ofInt
 IntKind.u32.bits
 (IntKind.u32.wrap
 (↑((BitVec.ofInt
 IntKind.u32.bits
 (U.right
 x.2.2.2.2.1
 (6 :
 Int))).xor
 (BitVec.ofInt
 IntKind.u32.bits
 (U.right
 x.2.2.2.2.1
 (11 :
 Int)))).toNat :
 Int))).xor
 (BitVec.ofInt
 IntKind.u32.bits
 (U.right
 x.2.2.2.2.1
 (25 :
 Int)))).toNat :
 Int)))).add
 (IntKind.u32.wrap
 (↑((BitVec.ofInt
 IntKind.u32.bits
 x.2.2.2.2.2.2.1).xor
 (BitVec.ofInt
 IntKind.u32.bits
 (IntKind.u32.wrap
 (↑((BitVec.ofInt
 IntKind.u32.bits
 x.2.2.2.2.1).and
 (BitVec.ofInt
 IntKind.u32.bits
 (IntKind.u32.wrap
 (↑((BitVec.ofInt
 IntKind.u32.bits
 x.2.2.2.2.2.1).xor
 (BitVec.ofInt
 IntKind.u32.bits
 x.2.2.2.2.2.2.1)).toNat :
 Int)))).toNat :
 Int)))).toNat :
 Int)))).add
 ([(1116352408 : Int),
 (1899447441 : Int),
 (3049323471 : Int),
 (3921009573 : Int),
 (961987163 : Int),
 (1508970993 : Int),
 (2453635748 : Int),
 (2870763221 : Int),
 (3624381080 : Int),
 (310598401 : Int),
 (607225278 : Int),
 (1426881987 : Int),
 (1925078388 : Int),
 (2162078206 : Int),
 (2614888103 : Int),
 (3248222580 : Int),
 (3835390401 : Int),
 (4022224774 : Int),
 (264347078 : Int),
 (604807628 : Int),
 (770255983 : Int),
 (1249150122 : Int),
 (1555081692 : Int),
 (1996064986 : Int),
 (2554220882 : Int),
 (2821834349 : Int),
 (2952996808 : Int),
 (3210313671 : Int),
 (3336571891 : Int),
 (3584528711 : Int),
 (113926993 : Int),
 (338241895 : Int),
 (666307205 : Int),
 (773529912 : Int),
 (1294757372 : Int),
 (1396182291 : Int),
 (1695183700 : Int),
 (1986661051 : Int),
 (2177026350 : Int),
 (2456956037 : Int),
 (2730485921 : Int),
 (2820302411 : Int),
 (3259730800 : Int),
 (3345764771 : Int),
 (3516065817 : Int),
 (3600352804 : Int),
 (4094571909 : Int),
 (275423344 : Int),
 (430227734 : Int),
 (506948616 : Int),
 (659060556 : Int),
 (883997877 : Int),
 (958139571 : Int),
 (1322822218 : Int),
 (1537002063 : Int),
 (1747873779 : Int),
 (1955562222 : Int),
 (2024104815 : Int),
 (2227730452 : Int),
 (2361852424 : Int),
 (2428436474 : Int),
 (2756734187 : Int),
 (3204031479 : Int),
 (3329325298 :
 Int)].getD
 x.2.2.2.2.2.2.2.2.toNat
 (0 : Int)))).add
 ((U.sched b).getD
 x.2.2.2.2.2.2.2.2.toNat
 (0 : Int)))).add
 (IntKind.u32.wrap
 ((IntKind.u32.wrap
 (↑((BitVec.ofInt
 IntKind.u32.bits
 (IntKind.u32.wrap
 (↑((BitVec.ofInt
 IntKind.u32.bits
 (U.right
 x.1
 (2 :
 Int))).xor
 (BitVec.ofInt
 IntKind.u32.bits
 (U.right
 x.1
 (13 :
 Int)))).toNat :
 Int))).xor
 (BitVec.ofInt
 IntKind.u32.bits
 (U.right x.1
 (22 :
 Int)))).toNat :
 Int)).add
 (IntKind.u32.wrap
 (↑((BitVec.ofInt
 IntKind.u32.bits
 (IntKind.u32.wrap
 (↑((BitVec.ofInt
 IntKind.u32.bits
 x.1).and
 (BitVec.ofInt
 IntKind.u32.bits
 x.2.1)).toNat :
 Int))).or
 (BitVec.ofInt
 IntKind.u32.bits
 (IntKind.u32.wrap
 (↑((BitVec.ofInt
 IntKind.u32.bits
 x.2.2.1).and
 (BitVec.ofInt
 IntKind.u32.bits
 (IntKind.u32.wrap
 (↑((BitVec.ofInt
 IntKind.u32.bits
 x.1).or
 (BitVec.ofInt
 IntKind.u32.bits
 x.2.1)).toNat :
 Int)))).toNat :
 Int)))).toNat :
 Int))))))
 x.1 x.2.1 x.2.2.1
 (IntKind.u32.wrap
 (x.2.2.2.1.add
 (IntKind.u32.wrap
 ((IntKind.u32.wrap
 ((IntKind.u32.wrap
 ((IntKind.u32.wrap
 (x.2.2.2.2.2.2.2.1.add
 (IntKind.u32.wrap
 (↑((BitVec.ofInt
 IntKind.u32.bits
 (IntKind.u32.wrap
 (↑((BitVec.ofInt
 IntKind.u32.bits
 (U.right
 x.2.2.2.2.1
 (6 :
 Int))).xor
 (BitVec.ofInt
 IntKind.u32.bits
 (U.right
 x.2.2.2.2.1
 (11 :
 Int)))).toNat :
 Int))).xor
 (BitVec.ofInt
 IntKind.u32.bits
 (U.right
 x.2.2.2.2.1
 (25 :
 Int)))).toNat :
 Int)))).add
 (IntKind.u32.wrap
 (↑((BitVec.ofInt
 IntKind.u32.bits
 x.2.2.2.2.2.2.1).xor
 (BitVec.ofInt
 IntKind.u32.bits
 (IntKind.u32.wrap
 (↑((BitVec.ofInt
 IntKind.u32.bits
 x.2.2.2.2.1).and
 (BitVec.ofInt
 IntKind.u32.bits
 (IntKind.u32.wrap
 (↑((BitVec.ofInt
 IntKind.u32.bits
 x.2.2.2.2.2.1).xor
 (BitVec.ofInt
 IntKind.u32.bits
 x.2.2.2.2.2.2.1)).toNat :
 Int)))).toNat :
 Int)))).toNat :
 Int)))).add
 ([(1116352408 : Int),
 (1899447441 : Int),
 (3049323471 : Int),
 (3921009573 : Int),
 (961987163 : Int),
 (1508970993 : Int),
 (2453635748 : Int),
 (2870763221 : Int),
 (3624381080 : Int),
 (310598401 : Int),
 (607225278 : Int),
 (1426881987 : Int),
 (1925078388 : Int),
 (2162078206 : Int),
 (2614888103 : Int),
 (3248222580 : Int),
 (3835390401 : Int),
 (4022224774 : Int),
 (264347078 : Int),
 (604807628 : Int),
 (770255983 : Int),
 (1249150122 : Int),
 (1555081692 : Int),
 (1996064986 : Int),
 (2554220882 : Int),
 (2821834349 : Int),
 (2952996808 : Int),
 (3210313671 : Int),
 (3336571891 : Int),
 (3584528711 : Int),
 (113926993 : Int),
 (338241895 : Int),
 (666307205 : Int),
 (773529912 : Int),
 (1294757372 : Int),
 (1396182291 : Int),
 (1695183700 : Int),
 (1986661051 : Int),
 (2177026350 : Int),
 (2456956037 : Int),
 (2730485921 : Int),
 (2820302411 : Int),
 (3259730800 : Int),
 (3345764771 : Int),
 (3516065817 : Int),
 (3600352804 : Int),
 (4094571909 : Int),
 (275423344 : Int),
 (430227734 : Int),
 (506948616 : Int),
 (659060556 : Int),
 (883997877 : Int),
 (958139571 : Int),
 (1322822218 : Int),
 (1537002063 : Int),
 (1747873779 : Int),
 (1955562222 : Int),
 (2024104815 : Int),
 (2227730452 : Int),
 (2361852424 : Int),
 (2428436474 : Int),
 (2756734187 : Int),
 (3204031479 : Int),
 (3329325298 :
 Int)].getD
 x.2.2.2.2.2.2.2.2.toNat
 (0 : Int)))).add
 ((U.sched b).getD
 x.2.2.2.2.2.2.2.2.toNat
 (0 : Int))))))
 x.2.2.2.2.1
 x.2.2.2.2.2.1
 x.2.2.2.2.2.2.1
 (IntKind.i64.wrap
 (x.2.2.2.2.2.2.2.2.add
 (1 : Int))) =
 U.qX h b y.1 y.2.1
 y.2.2.1 y.2.2.2.1
 y.2.2.2.2.1
 y.2.2.2.2.2.1
 y.2.2.2.2.2.2.1
 y.2.2.2.2.2.2.2.1
 y.2.2.2.2.2.2.2.2 /\
 U.ug h b y.1 y.2.1
 y.2.2.1 y.2.2.2.1
 y.2.2.2.2.1
 y.2.2.2.2.2.1
 y.2.2.2.2.2.2.1
 y.2.2.2.2.2.2.2.1
 y.2.2.2.2.2.2.2.2 /\
 Nat.sub (64 : Nat)
 y.2.2.2.2.2.2.2.2.toNat <
 Nat.sub (64 : Nat)
 x.2.2.2.2.2.2.2.2.toNat
 else
 ∃ (x0 : List Int × List Int × Int),
 (U.o8 h b
 (((((((([(0 : Int), (0 : Int), (0 : Int),
 (0 : Int),
 (0 : Int),
 (0 : Int),
 (0 : Int),
 (0 : Int)].set
 (0 : Nat)
 x.1).set
 (1 : Nat)
 x.2.1).set
 (2 : Nat)
 x.2.2.1).set
 (3 : Nat)
 x.2.2.2.1).set
 (4 : Nat)
 x.2.2.2.2.1).set
 (5 : Nat)
 x.2.2.2.2.2.1).set
 (6 : Nat)
 x.2.2.2.2.2.2.1).set
 (7 : Nat) x.2.2.2.2.2.2.2.1)
 h (0 : Int) =
 U.o8 h b x0.1 x0.2.1 x0.2.2 /\
 U.qY h b x0.1 x0.2.1 x0.2.2) /\
 ∀ (x : List Int × List Int × Int),
 U.qY h b x.1 x.2.1 x.2.2 ->
 bif decide (x.2.2 < (8 : Int)) then
 (0 : Int) <= x.2.2 /\
 x.2.2 < (↑(8 : Nat) : Int) /\
 (0 : Int) <= x.2.2 /\
 x.2.2 < (↑(8 : Nat) : Int) /\
 x.2.2.toNat < (8 : Nat) /\
 (0 : Int) <= x.2.2 /\
 x.2.2 < (↑(8 : Nat) : Int) /\
 x.2.2.toNat < (8 : Nat) /\
 ∃ (y :
 List Int × List Int × Int),
 U.o8 h b x.1
 (x.2.1.set
 x.2.2.toNat
 (IntKind.u32.wrap
 ((x.2.1.getD
 x.2.2.toNat
 (0 : Int)).add
 (x.1.getD
 x.2.2.toNat
 (0 : Int)))))
 (IntKind.i64.wrap
 (x.2.2.add
 (1 : Int))) =
 U.o8 h b y.1
 y.2.1 y.2.2 /\
 U.qY h b y.1
 y.2.1 y.2.2 /\
 Nat.sub (8 : Nat)
 y.2.2.toNat <
 Nat.sub (8 : Nat)
 x.2.2.toNat
 else
 x.2.1 =
 List.zipWith U.add32 h
 (U.ls8
 (U.Gy (U.sched b) (64 : Nat)
 (U.st8 h))) /\
 True
def NY (b : List Int) : Prop :=
 b.length <= (1000000000000 : Nat) /\
 bif decide ((64 : Int) < (1 : Int)) then False
 else
 (1 : Int) <= (64 : Int) /\
 (64 : Int) <= (4294967296 : Int) /\
 (U.pad b).length <= (4611686018427387904 : Nat) /\
 ∃ (x0 : List Int × Nat),
 (U.uh b
 [(1779033703 : Int), (3144134277 : Int), (1013904242 : Int), (2773480762 : Int),
 (1359893119 : Int), (2600822924 : Int), (528734635 : Int), (1541459225 : Int)]
 x0.2 =
 U.uh b x0.1 x0.2 /\
 U.sJ b x0.1 x0.2 /\ x0.2 = (0 : Nat)) /\
 (∀ (x : List Int × Nat),
 U.sJ b x.1 x.2 ->
 x.2 < (U.chunks (Int.toNat (64 : Int)) (U.pad b)).length ->
 (64 : Nat) <= ((U.chunks (Int.toNat (64 : Int)) (U.pad b)).getD x.2 []).length /\
 ∃ (y : List Int × Nat),
 U.uh b
 (List.zipWith U.add32 x.1
 (U.ls8
 (U.Gy (U.sched ((U.chunks (Int.toNat (64 : Int)) (U.pad b)).getD x.2 []))
 (64 : Nat) (U.st8 x.1))))
 y.2 =
 U.uh b y.1 y.2 /\
 U.sJ b y.1 y.2 /\ y.2 = x.2.add (1 : Nat)) /\
 ∀ (x : List Int × Nat),
 U.sJ b x.1 x.2 ->
 x.2 = (U.chunks (Int.toNat (64 : Int)) (U.pad b)).length ->
 ∃ (x0 : List Int × List Int × Int),
 (U.um b
 [(0 : Int), (0 : Int), (0 : Int), (0 : Int), (0 : Int), (0 : Int), (0 : Int),
 (0 : Int), (0 : Int), (0 : Int), (0 : Int), (0 : Int), (0 : Int), (0 : Int),
 (0 : Int), (0 : Int), (0 : Int), (0 : Int), (0 : Int), (0 : Int), (0 : Int),
 (0 : Int), (0 : Int), (0 : Int), (0 : Int), (0 : Int), (0 : Int), (0 : Int),
 (0 : Int), (0 : Int), (0 : Int), (0 : Int)]
 x.1 (0 : Int) =
 U.um b x0.1 x0.2.1 x0.2.2 /\
 U.xX b x0.1 x0.2.1 x0.2.2) /\
 ∀ (x : List Int × List Int × Int),
 U.xX b x.1 x.2.1 x.2.2 ->
 bif decide (x.2.2 < (32 : Int)) then
 (4 : Int) ≠ (0 : Int) /\
 (0 : Int) <= IntKind.i64.wrap (x.2.2.tdiv (4 : Int)) /\
 IntKind.i64.wrap (x.2.2.tdiv (4 : Int)) < (↑(8 : Nat) : Int) /\
 (IntKind.i64.wrap (x.2.2.tdiv (4 : Int))).toNat < (8 : Nat) /\
 (4 : Int) ≠ (0 : Int) /\
 (0 : Int) <=
 IntKind.i64.wrap
 (Int.sub (24 : Int)
 (IntKind.i64.wrap (Int.mul (8 : Int) (x.2.2.tmod (4 : Int))))) /\
 (0 : Int) <= x.2.2 /\
 x.2.2 < (↑(32 : Nat) : Int) /\
 x.2.2.toNat < (32 : Nat) /\
 ∃ (y : List Int × List Int × Int),
 U.um b
 (x.1.set x.2.2.toNat
 (IntKind.u8.wrap
 ((x.2.1.getD
 (IntKind.i64.wrap
 (x.2.2.tdiv (4 : Int))).toNat
 (0 : Int)).fdiv
 (Int.pow (2 : Int)
 (if
 (IntKind.i64.wrap
 (Int.sub (24 : Int)
 (IntKind.i64.wrap
 (Int.mul (8 : Int)
 (x.2.2.tmod
 (4 : Int)))))).toNat <=
 IntKind.u32.bits then
 (IntKind.i64.wrap
 (Int.sub (24 : Int)
 (IntKind.i64.wrap
 (Int.mul (8 : Int)
 (x.2.2.tmod (4 : Int)))))).toNat
 else IntKind.u32.bits)))))
 x.2.1 (IntKind.i64.wrap (x.2.2.add (1 : Int))) =
 U.um b y.1 y.2.1 y.2.2 /\
 U.xX b y.1 y.2.1 y.2.2 /\
 Nat.sub (32 : Nat) y.2.2.toNat <
 Nat.sub (32 : Nat) x.2.2.toNat
 else x.1 = U.sum b /\ True
end Go.Proofs.YtkhdeldobekciaaDoor
