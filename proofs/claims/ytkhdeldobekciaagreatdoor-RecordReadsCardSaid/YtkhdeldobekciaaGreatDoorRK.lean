/- What functions of this seat compute, in plain Lean. -/
import Derived.Test.YtkhdeldobekciaaGreatDoorRH
import Derived.Test.YtkhdeldobekciaaGreatDoorRVcF
set_option linter.unusedVariables false
set_option linter.unusedSimpArgs false
set_option maxRecDepth 100000
namespace Go.Proofs.YtkhdeldobekciaaGreatDoor
open Go.Vc
abbrev amF (a b : Int) : Done := ⟨[], .tup [one (.int .u64 a), one (.int .u64 b)], [], []⟩
namespace U
def gu : List Int := [2, 3, 5, 7, 11, 13, 17, 19, 23, 29, 31, 37, 41, 43, 47, 53, 59, 61, 67, 71, 73, 79, 83, 89, 97, 101, 103, 107, 109, 113, 127, 131, 137, 139, 149, 151, 157, 163, 167, 173, 179, 181, 191, 193, 197, 199, 211, 223, 227, 229, 233, 239, 241, 251, 257, 263, 269, 271, 277, 281, 283, 293, 307, 311]
def ae0 (x : Int) : Int := T.Ce .u64 x 4294967295
abbrev w64 := IntKind.wrap .u64
def nJ (x y : Int) : Int :=
 let t := w64 (Int.add (w64 (Int.mul (shr .u64 x 32) (ae0 y))) (shr .u64 (w64 (Int.mul (ae0 x) (ae0 y))) 32))
 w64 (Int.add (w64 (Int.add (w64 (Int.mul (shr .u64 x 32) (shr .u64 y 32))) (shr .u64 t 32))) (shr .u64 (w64 (Int.add (ae0 t) (w64 (Int.mul (ae0 x) (shr .u64 y 32))))) 32))
def qN (x y : Int) : Int := w64 (Int.mul x y)
def prime (n : Int) : Bool := ((List.range 21).all fun d => decide (d < 2 ∨ n < d * d ∨ n % d ≠ 0)) && decide (n >= 2)
def wC (x bit : Int) : Int := w64 (Int.add x (shl .u64 1 (w64 bit).toNat))
def aiC (p y : Int) : Bool := decide (nJ y y < p) || (decide (nJ y y = p) && decide (qN y y = 0))
def sqN (p : Int) : Nat -> Int
 | 0 => 0
 | k + 1 => let x := sqN p k; let y := wC x (36 - (k : Int)); cond (aiC p y) y x
def square (p : Int) : Int := IntKind.wrap .u32 (sqN p 37)
def aiD (p y : Int) : Bool :=
 let hi := nJ y y; let lo := qN y y
 let s := nJ lo y + qN hi y + 0
 let want := shl .u64 p 32
 decide (w64 (Int.add (nJ hi y) (s / 18446744073709551616)) = 0) && (decide (s % 18446744073709551616 < want) || (decide (s % 18446744073709551616 = want) && decide (qN lo y = 0)))
def cbN (p : Int) : Nat -> Int
 | 0 => 0
 | k + 1 => let x := cbN p k; let y := wC x (36 - (k : Int)); cond (aiD p y) y x
def cube (p : Int) : Int := IntKind.wrap .u32 (cbN p 37)
@[irreducible] def consts : List Int := gu.map cube
@[irreducible] def ET : List Int := (gu.take 8).map square
def wp (b : List Int) (t : Nat) : Nat -> Int
 | 0 => 0
 | i + 1 => add32 (IntKind.wrap .u32 (Int.mul (wp b t i) 256)) (IntKind.wrap .u32 (b.getD (4 * t + i) 0))
def wS (b : List Int) (t : Nat) : List Int := (List.range t).map fun t => wp b t 4
def UM (l : List Int) : Int :=
 let x := l.getD (l.length - 15) 0; let y := l.getD (l.length - 2) 0
 add32 (add32 (add32 (dM (dM (rot y 17) (rot y 19)) (shr .u32 y 10)) (l.getD (l.length - 7) 0)) (dM (dM (rot x 7) (rot x 18)) (shr .u32 x 3))) (l.getD (l.length - 16) 0)
def jR (b : List Int) : Nat -> List Int
 | 0 => wS b 16
 | k + 1 => jR b k ++ [UM (jR b k)]
@[irreducible] def nK (b : List Int) : List Int := jR b 48
def rt1 (k w : Int) (v : List Int) : Int :=
 let e := v.getD 4 0
 add32 (add32 (add32 (add32 (v.getD 7 0) (dM (dM (rot e 6) (rot e 11)) (rot e 25))) (dM (fJ e (v.getD 5 0)) (fJ (aiw e) (v.getD 6 0)))) k) w
def rt2 (v : List Int) : Int :=
 let a := v.getD 0 0; let b := v.getD 1 0; let c := v.getD 2 0
 add32 (dM (dM (rot a 2) (rot a 13)) (rot a 22)) (dM (dM (fJ a b) (fJ a c)) (fJ b c))
def al2 (k w : Int) (v : List Int) : List Int := [add32 (rt1 k w v) (rt2 v), v.getD 0 0, v.getD 1 0, v.getD 2 0, add32 (v.getD 3 0) (rt1 k w v), v.getD 4 0, v.getD 5 0, v.getD 6 0]
def wE (k w : List Int) : Nat -> List Int -> List Int
 | 0, v => v
 | t + 1, v => al2 (k.getD t 0) (w.getD t 0) (wE k w t v)
def DK (h b k : List Int) : List Int := List.zipWith add32 (wE k (nK b) 64 h) h
@[irreducible] def yt (b : List Int) : List Int := (chunks 64 (pad b)).foldl (fun h c => DK h c consts) ET
end U
namespace U
def nM (n : Int) (d : Int) : St2 := ⟨⟨[sK .u64 n] ++ U.n 2 ++ [sK .u64 d] ++ U.n 13, [], []⟩, 0, []⟩
def pz (n : Int)  (d : Int) : Prop := 2 <= d /\ d <= 21 /\ ∀ e : Int, 2 <= e -> e < d -> n % e ≠ 0
def iM (n : Int) (o : List Int) (p : Int) : St2 := ⟨⟨[sI n] ++ U.n 2 ++ [own 0] ++ [sK .u64 p] ++ U.n 13, [], [(0, .row 67 (.int .u64) true true o)]⟩, 1, []⟩
def jS (n : Int)  (o : List Int) (p : Int) : Prop := 2 <= p /\ p <= 312 /\ o = gu.filter (fun q => decide (q < p)) /\ o.length <= n
def iO (p : Int) (z : Int) (bit : Int) : St2 := ⟨⟨[sK .u64 p] ++ U.n 2 ++ [sK .u64 z] ++ [sI bit] ++ U.n 33, [], []⟩, 0, []⟩
def jT (p : Int)  (z : Int) (bit : Int) : Prop := -1 <= bit /\ bit <= 36 /\ z = sqN p (36 - bit).toNat
def jB (p : Int) (z : Int) (bit : Int) : St2 := ⟨⟨[sK .u64 p] ++ U.n 2 ++ [sK .u64 z] ++ [sI bit] ++ U.n 68, [], []⟩, 0, []⟩
def lY (p : Int)  (z : Int) (bit : Int) : Prop := -1 <= bit /\ bit <= 36 /\ z = cbN p (36 - bit).toNat
def jm  (w : List Int) (i : Int) : St2 := ⟨⟨[sP 0 0] ++ [sP 1 0] ++ [sL true (.int .u64) (gu.take 64)] ++ [sI i] ++ U.n 13, [], [(0, .obj [.arr 64 true (.int .u32) (List.replicate 64 0)]), (1, .obj [.arr 64 true (.int .u32) w])]⟩, 2, []⟩
def jM   (w : List Int) (i : Int) : Prop := 0 <= i /\ i <= 64 /\ w = fK 64 ((gu.take i.toNat).map cube)
def nN  (w : List Int) (i : Int) : St2 := ⟨⟨[sP 0 0] ++ [sP 1 0] ++ [sL true (.int .u64) (gu.take 8)] ++ [sI i] ++ U.n 13, [], [(0, .obj [.arr 8 true (.int .u32) (List.replicate 8 0)]), (1, .obj [.arr 8 true (.int .u32) w])]⟩, 2, []⟩
def pF   (w : List Int) (i : Int) : Prop := 0 <= i /\ i <= 8 /\ w = fK 8 ((gu.take i.toNat).map square)
def pG (h bl kk : List Int) (w : List Int) (t : Int) : St2 := ⟨⟨U.n 1 ++ [sL false (.int .u8) bl] ++ U.n 1 ++ [sP 0 0] ++ U.n 1 ++ [sP 1 0] ++ [sP 2 0] ++ [sP 3 0] ++ [sI t] ++ U.n 172, [], [(0, .obj [.arr 8 true (.int .u32) h]), (1, .obj [.arr 64 true (.int .u32) kk]), (2, .obj [.arr 8 true (.int .u32) (List.replicate 8 0)]), (3, .obj [.arr 64 true (.int .u32) w])]⟩, 4, []⟩
def rF (h bl kk : List Int)  (w : List Int) (t : Int) : Prop := 0 <= t /\ t <= 16 /\ w = fK 64 (wS bl t.toNat)
def pI (h bl kk : List Int) (w : List Int) (t : Int) (i : Int) : St2 := ⟨⟨U.n 1 ++ [sL false (.int .u8) bl] ++ U.n 1 ++ [sP 0 0] ++ U.n 1 ++ [sP 1 0] ++ [sP 2 0] ++ [sP 3 0] ++ [sI t] ++ [sI i] ++ U.n 171, [], [(0, .obj [.arr 8 true (.int .u32) h]), (1, .obj [.arr 64 true (.int .u32) kk]), (2, .obj [.arr 8 true (.int .u32) (List.replicate 8 0)]), (3, .obj [.arr 64 true (.int .u32) w])]⟩, 4, []⟩
def rG (h bl kk : List Int) (w' : List Int) (t' : Int) (i' : Int) (w : List Int) (t : Int) (i : Int) : Prop :=  t = t' /\ 0 <= t /\ t < 16 /\ 0 <= i /\ i <= 4 /\ w = fK 64 (wS bl t.toNat ++ [wp bl t.toNat i.toNat])
def nO (h bl kk : List Int) (w : List Int) (t : Int) : St2 := ⟨⟨U.n 3 ++ [sP 0 0] ++ U.n 1 ++ [sP 1 0] ++ [sP 2 0] ++ [sP 3 0] ++ U.n 2 ++ [sI t] ++ U.n 170, [], [(0, .obj [.arr 8 true (.int .u32) h]), (1, .obj [.arr 64 true (.int .u32) kk]), (2, .obj [.arr 8 true (.int .u32) (List.replicate 8 0)]), (3, .obj [.arr 64 true (.int .u32) w])]⟩, 4, []⟩
def pJ (h bl kk : List Int)  (w : List Int) (t : Int) : Prop := 16 <= t /\ t <= 64 /\ w = fK 64 (jR bl (t.toNat - 16))
def nP (h bl kk : List Int) (w : List Int) (v : List Int) (t : Int) : St2 := ⟨⟨U.n 3 ++ [sP 0 0] ++ U.n 1 ++ [sP 1 0] ++ [sP 2 0] ++ [sP 3 0] ++ U.n 5 ++ [sP 4 0] ++ [sI t] ++ U.n 166, [], [(0, .obj [.arr 8 true (.int .u32) h]), (1, .obj [.arr 64 true (.int .u32) kk]), (2, .obj [.arr 8 true (.int .u32) (List.replicate 8 0)]), (3, .obj [.arr 64 true (.int .u32) w]), (4, .obj [.arr 8 true (.int .u32) v])]⟩, 5, []⟩
def pK (h bl kk : List Int)  (w : List Int) (v : List Int) (t : Int) : Prop := w = nK bl /\ 0 <= t /\ t <= 64 /\ v = wE kk (nK bl) t.toNat h
def nR (h bl kk : List Int) (v : List Int) (i : Int) : St2 := ⟨⟨U.n 3 ++ [sP 0 0] ++ U.n 2 ++ [sP 1 0] ++ U.n 6 ++ [sP 2 0] ++ U.n 9 ++ [sI i] ++ U.n 157, [], [(0, .obj [.arr 8 true (.int .u32) h]), (1, .obj [.arr 8 true (.int .u32) (List.replicate 8 0)]), (2, .obj [.arr 8 true (.int .u32) v])]⟩, 3, []⟩
def pO (h bl kk : List Int)  (v : List Int) (i : Int) : Prop := 0 <= i /\ i <= 8 /\ v = List.zipWith add32 ((wE kk (nK bl) 64 h).take i.toNat) h ++ (wE kk (nK bl) 64 h).drop i.toNat
def rH (b : List Int) (o : List Int) : St2 := ⟨⟨[sL false (.int .u8) b] ++ U.n 2 ++ [own 0] ++ U.n 32, [], [(0, .row 5 (.int .u8) true true o)]⟩, 1, []⟩
def vk (b : List Int)  (o : List Int) : Prop := ∃ m, m <= zeros b.length /\ o = b ++ (128 :: List.replicate m 0)
def rJ (b : List Int) (o : List Int) (n : Int) (i : Int) : St2 := ⟨⟨U.n 3 ++ [own 0] ++ [sK .u64 n] ++ [sI i] ++ U.n 30, [], [(0, .row 5 (.int .u8) true true o)]⟩, 1, []⟩
def vw (b : List Int)  (o : List Int) (n : Int) (i : Int) : Prop := n = (b.length : Int) * 8 /\ -1 <= i /\ i <= 7 /\ o = b ++ (128 :: (List.replicate (zeros b.length) 0 ++ (be8 8 (b.length * 8)).take (7 - i).toNat))
def rM (b : List Int) (h : List Int) (i : Int) : St2 := ⟨⟨U.n 2 ++ [sP 0 0] ++ [sP 1 0] ++ [sP 2 0] ++ [sL true (.int .u8) (pad b)] ++ [sI i] ++ U.n 38, [], [(0, .obj [.arr 32 true (.int .u8) (List.replicate 32 0)]), (1, .obj [.arr 8 true (.int .u32) h]), (2, .obj [.arr 64 true (.int .u32) consts])]⟩, 3, []⟩
def vC (b : List Int)  (h : List Int) (i : Int) : Prop := 0 <= i /\ i <= (pad b).length /\ ∃ k : Nat, i = 64 * (k : Int) /\ h = ((chunks 64 (pad b)).take k).foldl (fun h c => DK h c consts) ET
def rO (b : List Int) (h : List Int) (s : List Int) (i : Int) : St2 := ⟨⟨U.n 2 ++ [sP 0 0] ++ [sP 1 0] ++ U.n 3 ++ [sP 2 0] ++ [sI i] ++ U.n 36, [], [(0, .obj [.arr 32 true (.int .u8) (List.replicate 32 0)]), (1, .obj [.arr 8 true (.int .u32) h]), (2, .obj [.arr 32 true (.int .u8) s])]⟩, 3, []⟩
def vF (b : List Int)  (h : List Int) (s : List Int) (i : Int) : Prop := h = yt b /\ 0 <= i /\ i <= 32 /\ s = (qL (yt b)).take i.toNat ++ List.replicate (32 - i.toNat) 0
end U
def Y1 (n : Int) : Vc.Loop := ⟨{ keep := [0, 3] }, Int, fun x => U.nM n x, fun x0 x => U.pz n  x, fun x => (22 - x).toNat⟩
def Xn (n : Int) : Vc.Loop := ⟨{ keep := [0, 3, 4], wake := [(3, 67)] }, List Int × Int, fun x => U.iM n x.1 x.2, fun x0 x => U.jS n  x.1 x.2, fun x => (312 - x.2).toNat⟩
def Xo (p : Int) : Vc.Loop := ⟨{ keep := [0, 3, 4] }, Int × Int, fun x => U.iO p x.1 x.2, fun x0 x => U.jT p  x.1 x.2, fun x => (x.2 + 1).toNat⟩
def aaf (p : Int) : Vc.Loop := ⟨{ keep := [0, 3, 4] }, Int × Int, fun x => U.jB p x.1 x.2, fun x0 x => U.lY p  x.1 x.2, fun x => (x.2 + 1).toNat⟩
def Qi  : Vc.Loop := ⟨{ keep := [0, 1, 2, 3] }, List Int × Int, fun x => U.jm  x.1 x.2, fun x0 x => U.jM   x.1 x.2, fun x => 64 - x.2.toNat⟩
def Y2  : Vc.Loop := ⟨{ keep := [0, 1, 2, 3] }, List Int × Int, fun x => U.nN  x.1 x.2, fun x0 x => U.pF   x.1 x.2, fun x => 8 - x.2.toNat⟩
def aag (h bl kk : List Int) : Vc.Loop := ⟨{ keep := [1, 3, 5, 6, 7, 8] }, List Int × Int, fun x => U.pG h bl kk x.1 x.2, fun x0 x => U.rF h bl kk  x.1 x.2, fun x => 16 - x.2.toNat⟩
def aah (h bl kk : List Int) : Vc.Loop := ⟨{ keep := [1, 3, 5, 6, 7, 8, 9] }, List Int × Int × Int, fun x => U.pI h bl kk x.1 x.2.1 x.2.2, fun x0 x => U.rG h bl kk x0.1 x0.2.1 x0.2.2 x.1 x.2.1 x.2.2, fun x => 4 - x.2.2.toNat⟩
def Y3 (h bl kk : List Int) : Vc.Loop := ⟨{ keep := [3, 5, 6, 7, 10] }, List Int × Int, fun x => U.nO h bl kk x.1 x.2, fun x0 x => U.pJ h bl kk  x.1 x.2, fun x => 64 - x.2.toNat⟩
def Y4 (h bl kk : List Int) : Vc.Loop := ⟨{ keep := [3, 5, 6, 7, 13, 14] }, List Int × List Int × Int, fun x => U.nP h bl kk x.1 x.2.1 x.2.2, fun x0 x => U.pK h bl kk  x.1 x.2.1 x.2.2, fun x => 64 - x.2.2.toNat⟩
def Y5 (h bl kk : List Int) : Vc.Loop := ⟨{ keep := [3, 6, 13, 23] }, List Int × Int, fun x => U.nR h bl kk x.1 x.2, fun x0 x => U.pO h bl kk  x.1 x.2, fun x => 8 - x.2.toNat⟩
def abZ (b : List Int) : Vc.Loop := ⟨{ keep := [0, 3] }, List Int, fun x => U.rH b x, fun x0 x => U.vk b  x, fun x => (b.length + 1 + U.zeros b.length) - x.length⟩
def ab1 (b : List Int) : Vc.Loop := ⟨{ keep := [3, 4, 5] }, List Int × Int × Int, fun x => U.rJ b x.1 x.2.1 x.2.2, fun x0 x => U.vw b  x.1 x.2.1 x.2.2, fun x => (x.2.2 + 1).toNat⟩
def ab2 (b : List Int) : Vc.Loop := ⟨{ keep := [2, 3, 4, 5, 6] }, List Int × Int, fun x => U.rM b x.1 x.2, fun x0 x => U.vC b  x.1 x.2, fun x => (U.pad b).length - x.2.toNat⟩
def ab3 (b : List Int) : Vc.Loop := ⟨{ keep := [2, 3, 7, 8] }, List Int × List Int × Int, fun x => U.rO b x.1 x.2.1 x.2.2, fun x0 x => U.vF b  x.1 x.2.1 x.2.2, fun x => 32 - x.2.2.toNat⟩
def Jq : Vc.Sum := .pure [.int .u64, .int .u64, .int .u64] false fun x => ajj x.1 x.2.1 x.2.2
def qO : List (Nat × Ent) := (91, .sum Jq) :: aeW
def yM (x : Int) (y : Int) : Done := amF (U.nJ x y) (U.qN x y)
def Jr : Vc.Sum := .pure [.int .u64, .int .u64] false fun x => yM x.1 x.2
def Js (x : Int) (y : Int) : Nat -> List V -> Nat -> Option Vc.Loop := bW
def qP : List (Nat × Ent) := (90, .sum Jr) :: qO
def AX (n : Int) : Done := ⟨[0 <= n /\ n <= 400], .one (.bool (U.prime n)), [], []⟩
def Tv : Vc.Sum := .pure [.int .u64] false fun x => AX x
def Tz (n : Int) : Nat -> List V -> Nat -> Option Vc.Loop := fun f v k => cond (Nat.beq f 89 && Nat.beq k 2) (some (Y1 n)) <| none
def AY : List (Nat × Ent) := (89, .sum Tv) :: qP
def yu (n : Int) : Done := ⟨[0 <= n /\ n <= 64], .one (.psl true (.int .u64) (U.gu.take n.toNat)), [], []⟩
def PE : Vc.Sum := .pure [.int .i64] false fun x => yu x
def PG (n : Int) : Nat -> List V -> Nat -> Option Vc.Loop := fun f v k => cond (Nat.beq f 71 && Nat.beq k 3) (some (Xn n)) <| none
def yw : List (Nat × Ent) := (71, .sum PE) :: AY
def FP (p : Int) : Done := rK .u32 (U.square p)
def PI : Vc.Sum := .pure [.int .u64] false fun x => FP x
def PK (p : Int) : Nat -> List V -> Nat -> Option Vc.Loop := fun f v k => cond (Nat.beq f 72 && Nat.beq k 3) (some (Xo p)) <| none
def yx : List (Nat × Ent) := (72, .sum PI) :: yw
def Ld (p : Int) : Done := rK .u32 (U.cube p)
def V6 : Vc.Sum := .pure [.int .u64] false fun x => Ld x
def V7 (p : Int) : Nat -> List V -> Nat -> Option Vc.Loop := fun f v k => cond (Nat.beq f 73 && Nat.beq k 3) (some (aaf p)) <| none
def DL : List (Nat × Ent) := (73, .sum V6) :: yx
def yN  : Done := ⟨[], .v (.of true aac U.consts), [], []⟩
def Jt : Vc.Sum := .pure [] false fun _ => yN
def Ju  : Nat -> List V -> Nat -> Option Vc.Loop := fun f v k => cond (Nat.beq f 47 && Nat.beq k 4) (some (Qi)) <| none
def qQ : List (Nat × Ent) := (47, .sum Jt) :: DL
def Jv  : Done := ⟨[], .v (.of true tW8 U.ET), [], []⟩
def TA : Vc.Sum := .pure [] false fun _ => Jv
def TB  : Nat -> List V -> Nat -> Option Vc.Loop := fun f v k => cond (Nat.beq f 46 && Nat.beq k 4) (some (Y2)) <| none
def AZ : List (Nat × Ent) := (46, .sum TA) :: qQ
def OE (x : Int) (n : Int) : Done := rK .u32 (U.rot x n)
def Y6 : Vc.Sum := .pure [.int .u32, .int .u64] false fun x => OE x.1 x.2
def Y7 (x : Int) (n : Int) : Nat -> List V -> Nat -> Option Vc.Loop := bW
def Hf : List (Nat × Ent) := (74, .sum Y6) :: AZ
def DN (h : List Int) (b : List Int) (kk : List Int) : Done := ⟨[64 <= b.length], .v (.of false tW8 (U.DK h b kk)), [], []⟩
def V8 : Vc.Sum := .pure [tW8, aI, aac] true fun x => DN x.1 x.2.1 x.2.2
def V9 (h : List Int) (b : List Int) (kk : List Int) : Nat -> List V -> Nat -> Option Vc.Loop := fun f v k => cond (Nat.beq f 49 && Nat.beq k 3) (some (aag h b kk)) <| cond (Nat.beq f 49 && Nat.beq k 6) (some (aah h b kk)) <| cond (Nat.beq f 49 && Nat.beq k 10) (some (Y3 h b kk)) <| cond (Nat.beq f 49 && Nat.beq k 16) (some (Y4 h b kk)) <| cond (Nat.beq f 49 && Nat.beq k 23) (some (Y5 h b kk)) <| none
def DR : List (Nat × Ent) := (49, .sum V8) :: Hf
def Hg (b : List Int) : Done := ⟨[b.length <= 1000000000000], .one (.psl true (.int .u8) (U.pad b)), [], []⟩
def Y8 : Vc.Sum := .pure [aI] false fun x => Hg x
def Y9 (b : List Int) : Nat -> List V -> Nat -> Option Vc.Loop := fun f v k => cond (Nat.beq f 48 && Nat.beq k 2) (some (abZ b)) <| cond (Nat.beq f 48 && Nat.beq k 6) (some (ab1 b)) <| none
def Hl : List (Nat × Ent) := (48, .sum Y8) :: DR
def Ho (b : List Int) : Done := ⟨[b.length <= 1000000000000], .v (.of true al1 (U.qL (U.yt b))), [], []⟩
def Za : Vc.Sum := .pure [aI] false fun x => Ho x
def Zb (b : List Int) : Nat -> List V -> Nat -> Option Vc.Loop := fun f v k => cond (Nat.beq f 23 && Nat.beq k 4) (some (ab2 b)) <| cond (Nat.beq f 23 && Nat.beq k 9) (some (ab3 b)) <| none
def Hq : List (Nat × Ent) := (23, .sum Za) :: Hl
end Go.Proofs.YtkhdeldobekciaaGreatDoor
set_option maxRecDepth 100000
set_option linter.unusedVariables false
namespace Go.Proofs.YtkhdeldobekciaaGreatDoor
open Go.Vc
def Gm (x : Int) (y : Int) : Prop :=
 (0 : Int) <= (32 : Int) /\
 (0 : Int) <= (32 : Int) /\
 (0 : Int) <= (32 : Int) /\
 (0 : Int) <= (32 : Int) /\
 (0 : Int) <= (32 : Int) /\
 IntKind.u64.wrap
 ((IntKind.u64.wrap
 ((IntKind.u64.wrap
 ((x.fdiv
 (Int.pow (2 : Int)
 (if Int.toNat (32 : Int) <= IntKind.u64.bits then Int.toNat (32 : Int)
 else IntKind.u64.bits))).mul
 (y.fdiv
 (Int.pow (2 : Int)
 (if Int.toNat (32 : Int) <= IntKind.u64.bits then Int.toNat (32 : Int)
 else IntKind.u64.bits))))).add
 ((IntKind.u64.wrap
 ((IntKind.u64.wrap
 ((x.fdiv
 (Int.pow (2 : Int)
 (if Int.toNat (32 : Int) <= IntKind.u64.bits then Int.toNat (32 : Int)
 else IntKind.u64.bits))).mul
 (IntKind.u64.wrap
 (↑((BitVec.ofInt IntKind.u64.bits y).and
 (BitVec.ofInt IntKind.u64.bits (4294967295 : Int))).toNat :
 Int)))).add
 ((IntKind.u64.wrap
 ((IntKind.u64.wrap
 (↑((BitVec.ofInt IntKind.u64.bits x).and
 (BitVec.ofInt IntKind.u64.bits (4294967295 : Int))).toNat :
 Int)).mul
 (IntKind.u64.wrap
 (↑((BitVec.ofInt IntKind.u64.bits y).and
 (BitVec.ofInt IntKind.u64.bits (4294967295 : Int))).toNat :
 Int)))).fdiv
 (Int.pow (2 : Int)
 (if Int.toNat (32 : Int) <= IntKind.u64.bits then Int.toNat (32 : Int)
 else IntKind.u64.bits))))).fdiv
 (Int.pow (2 : Int)
 (if Int.toNat (32 : Int) <= IntKind.u64.bits then Int.toNat (32 : Int)
 else IntKind.u64.bits))))).add
 ((IntKind.u64.wrap
 ((IntKind.u64.wrap
 (↑((BitVec.ofInt IntKind.u64.bits
 (IntKind.u64.wrap
 ((IntKind.u64.wrap
 ((x.fdiv
 (Int.pow (2 : Int)
 (if Int.toNat (32 : Int) <= IntKind.u64.bits then
 Int.toNat (32 : Int)
 else IntKind.u64.bits))).mul
 (IntKind.u64.wrap
 (↑((BitVec.ofInt IntKind.u64.bits y).and
 (BitVec.ofInt IntKind.u64.bits
 (4294967295 : Int))).toNat :
 Int)))).add
 ((IntKind.u64.wrap
 ((IntKind.u64.wrap
 (↑((BitVec.ofInt IntKind.u64.bits x).and
 (BitVec.ofInt IntKind.u64.bits
 (4294967295 : Int))).toNat :
 Int)).mul
 (IntKind.u64.wrap
 (↑((BitVec.ofInt IntKind.u64.bits y).and
 (BitVec.ofInt IntKind.u64.bits
 (4294967295 : Int))).toNat :
 Int)))).fdiv
 (Int.pow (2 : Int)
 (if Int.toNat (32 : Int) <= IntKind.u64.bits then
 Int.toNat (32 : Int)
 else IntKind.u64.bits)))))).and
 (BitVec.ofInt IntKind.u64.bits (4294967295 : Int))).toNat :
 Int)).add
 (IntKind.u64.wrap
 ((IntKind.u64.wrap
 (↑((BitVec.ofInt IntKind.u64.bits x).and
 (BitVec.ofInt IntKind.u64.bits (4294967295 : Int))).toNat :
 Int)).mul
 (y.fdiv
 (Int.pow (2 : Int)
 (if Int.toNat (32 : Int) <= IntKind.u64.bits then Int.toNat (32 : Int)
 else IntKind.u64.bits))))))).fdiv
 (Int.pow (2 : Int)
 (if Int.toNat (32 : Int) <= IntKind.u64.bits then Int.toNat (32 : Int)
 else IntKind.u64.bits)))) =
 U.nJ x y /\
 IntKind.u64.wrap (x.mul y) = U.qN x y /\ True
def FQ (n : Int) : Prop :=
 ∃ (x0 : Int),
 (U.nM n (2 : Int) = U.nM n x0 /\ U.pz n x0) /\
 ∀ (x : Int),
 U.pz n x ->
 bif decide (IntKind.u64.wrap (x.mul x) <= n) then
 x ≠ (0 : Int) /\
 bif decide (n.tmod x = (0 : Int)) then false = U.prime n /\ True
 else
 ∃ (y : Int),
 U.nM n (IntKind.u64.wrap (x.add (1 : Int))) = U.nM n y /\
 U.pz n y /\ (Int.sub (22 : Int) y).toNat < (Int.sub (22 : Int) x).toNat
 else decide (n >= (2 : Int)) = U.prime n /\ True
def CX (n : Int) : Prop :=
 ∃ (x0 : List Int × Int),
 (U.iM n [] (2 : Int) = U.iM n x0.1 x0.2 /\ U.jS n x0.1 x0.2) /\
 ∀ (x : List Int × Int),
 U.jS n x.1 x.2 ->
 bif decide ((↑x.1.length : Int) < n) then
 ((0 : Int) <= x.2 /\ x.2 <= (400 : Int)) /\
 bif U.prime x.2 then
 (x.1.length.add ((1 : Nat))).mul (8 : Nat) <= (140737488355328 : Nat) /\
 x.1.length.add ((1 : Nat)) <= maxLen /\
 ∃ (y : List Int × Int),
 U.iM n (x.1.append ([(0 : Int)].set (0 : Nat) x.2))
 (IntKind.u64.wrap (x.2.add (1 : Int))) =
 U.iM n y.1 y.2 /\
 U.jS n y.1 y.2 /\
 (Int.sub (312 : Int) y.2).toNat < (Int.sub (312 : Int) x.2).toNat
 else
 ∃ (y : List Int × Int),
 U.iM n x.1 (IntKind.u64.wrap (x.2.add (1 : Int))) =
 U.iM n y.1 y.2 /\
 U.jS n y.1 y.2 /\
 (Int.sub (312 : Int) y.2).toNat < (Int.sub (312 : Int) x.2).toNat
 else x.1 = List.take n.toNat U.gu /\ True
def CY (p : Int) : Prop :=
 ∃ (x0 : Int × Int),
 (U.iO p (0 : Int) (36 : Int) = U.iO p x0.1 x0.2 /\
 U.jT p x0.1 x0.2) /\
 ∀ (x : Int × Int),
 U.jT p x.1 x.2 ->
 bif decide (x.2 >= (0 : Int)) then
 (0 : Int) <= IntKind.u64.wrap x.2 /\
 bif
 bif
 decide
 (U.nJ
 (IntKind.u64.wrap
 (x.1.add
 (IntKind.u64.wrap
 (Int.mul (1 : Int)
 (Int.pow (2 : Int)
 (if (IntKind.u64.wrap x.2).toNat <= IntKind.u64.bits then
 (IntKind.u64.wrap x.2).toNat
 else IntKind.u64.bits))))))
 (IntKind.u64.wrap
 (x.1.add
 (IntKind.u64.wrap
 (Int.mul (1 : Int)
 (Int.pow (2 : Int)
 (if (IntKind.u64.wrap x.2).toNat <= IntKind.u64.bits then
 (IntKind.u64.wrap x.2).toNat
 else IntKind.u64.bits)))))) <
 p) then
 true
 else
 bif
 decide
 (U.nJ
 (IntKind.u64.wrap
 (x.1.add
 (IntKind.u64.wrap
 (Int.mul (1 : Int)
 (Int.pow (2 : Int)
 (if (IntKind.u64.wrap x.2).toNat <= IntKind.u64.bits then
 (IntKind.u64.wrap x.2).toNat
 else IntKind.u64.bits))))))
 (IntKind.u64.wrap
 (x.1.add
 (IntKind.u64.wrap
 (Int.mul (1 : Int)
 (Int.pow (2 : Int)
 (if (IntKind.u64.wrap x.2).toNat <= IntKind.u64.bits then
 (IntKind.u64.wrap x.2).toNat
 else IntKind.u64.bits)))))) =
 p) then
 decide
 (U.qN
 (IntKind.u64.wrap
 (x.1.add
 (IntKind.u64.wrap
 (Int.mul (1 : Int)
 (Int.pow (2 : Int)
 (if (IntKind.u64.wrap x.2).toNat <= IntKind.u64.bits then
 (IntKind.u64.wrap x.2).toNat
 else IntKind.u64.bits))))))
 (IntKind.u64.wrap
 (x.1.add
 (IntKind.u64.wrap
 (Int.mul (1 : Int)
 (Int.pow (2 : Int)
 (if (IntKind.u64.wrap x.2).toNat <= IntKind.u64.bits then
 (IntKind.u64.wrap x.2).toNat
 else IntKind.u64.bits)))))) =
 (0 : Int))
 else false then
 ∃ (y : Int × Int),
 U.iO p
 (IntKind.u64.wrap
 (x.1.add
 (IntKind.u64.wrap
 (Int.mul (1 : Int)
 (Int.pow (2 : Int)
 (if (IntKind.u64.wrap x.2).toNat <= IntKind.u64.bits then
 (IntKind.u64.wrap x.2).toNat
 else IntKind.u64.bits))))))
 (IntKind.i64.wrap (x.2.sub (1 : Int))) =
 U.iO p y.1 y.2 /\
 U.jT p y.1 y.2 /\ (y.2.add (1 : Int)).toNat < (x.2.add (1 : Int)).toNat
 else
 ∃ (y : Int × Int),
 U.iO p x.1 (IntKind.i64.wrap (x.2.sub (1 : Int))) =
 U.iO p y.1 y.2 /\
 U.jT p y.1 y.2 /\ (y.2.add (1 : Int)).toNat < (x.2.add (1 : Int)).toNat
 else IntKind.u32.wrap x.1 = U.square p /\ True
def Jw (p : Int) : Prop :=
 ∃ (x0 : Int × Int),
 (U.jB p (0 : Int) (36 : Int) = U.jB p x0.1 x0.2 /\ U.lY p x0.1 x0.2) /\
 ∀ (x : Int × Int),
 U.lY p x.1 x.2 ->
 bif decide (x.2 >= (0 : Int)) then
 (0 : Int) <= IntKind.u64.wrap x.2 /\
 ((0 : Int) <= (0 : Int) /\ (0 : Int) <= (1 : Int)) /\
 (0 : Int) <= (32 : Int) /\
 bif
 bif
 decide
 (IntKind.u64.wrap
 ((U.nJ
 (U.nJ
 (IntKind.u64.wrap
 (x.1.add
 (IntKind.u64.wrap
 (Int.mul (1 : Int)
 (Int.pow (2 : Int)
 (if (IntKind.u64.wrap x.2).toNat <= IntKind.u64.bits then
 (IntKind.u64.wrap x.2).toNat
 else IntKind.u64.bits))))))
 (IntKind.u64.wrap
 (x.1.add
 (IntKind.u64.wrap
 (Int.mul (1 : Int)
 (Int.pow (2 : Int)
 (if (IntKind.u64.wrap x.2).toNat <= IntKind.u64.bits then
 (IntKind.u64.wrap x.2).toNat
 else IntKind.u64.bits)))))))
 (IntKind.u64.wrap
 (x.1.add
 (IntKind.u64.wrap
 (Int.mul (1 : Int)
 (Int.pow (2 : Int)
 (if (IntKind.u64.wrap x.2).toNat <= IntKind.u64.bits then
 (IntKind.u64.wrap x.2).toNat
 else IntKind.u64.bits))))))).add
 ((((U.nJ
 (U.qN
 (IntKind.u64.wrap
 (x.1.add
 (IntKind.u64.wrap
 (Int.mul (1 : Int)
 (Int.pow (2 : Int)
 (if (IntKind.u64.wrap x.2).toNat <= IntKind.u64.bits then
 (IntKind.u64.wrap x.2).toNat
 else IntKind.u64.bits))))))
 (IntKind.u64.wrap
 (x.1.add
 (IntKind.u64.wrap
 (Int.mul (1 : Int)
 (Int.pow (2 : Int)
 (if (IntKind.u64.wrap x.2).toNat <= IntKind.u64.bits then
 (IntKind.u64.wrap x.2).toNat
 else IntKind.u64.bits)))))))
 (IntKind.u64.wrap
 (x.1.add
 (IntKind.u64.wrap
 (Int.mul (1 : Int)
 (Int.pow (2 : Int)
 (if (IntKind.u64.wrap x.2).toNat <= IntKind.u64.bits then
 (IntKind.u64.wrap x.2).toNat
 else IntKind.u64.bits))))))).add
 (U.qN
 (U.nJ
 (IntKind.u64.wrap
 (x.1.add
 (IntKind.u64.wrap
 (Int.mul (1 : Int)
 (Int.pow (2 : Int)
 (if (IntKind.u64.wrap x.2).toNat <= IntKind.u64.bits then
 (IntKind.u64.wrap x.2).toNat
 else IntKind.u64.bits))))))
 (IntKind.u64.wrap
 (x.1.add
 (IntKind.u64.wrap
 (Int.mul (1 : Int)
 (Int.pow (2 : Int)
 (if (IntKind.u64.wrap x.2).toNat <= IntKind.u64.bits then
 (IntKind.u64.wrap x.2).toNat
 else IntKind.u64.bits)))))))
 (IntKind.u64.wrap
 (x.1.add
 (IntKind.u64.wrap
 (Int.mul (1 : Int)
 (Int.pow (2 : Int)
 (if (IntKind.u64.wrap x.2).toNat <= IntKind.u64.bits then
 (IntKind.u64.wrap x.2).toNat
 else IntKind.u64.bits)))))))).add
 (0 : Int)).ediv
 (18446744073709551616 : Int))) =
 (0 : Int)) then
 bif
 decide
 ((((U.nJ
 (U.qN
 (IntKind.u64.wrap
 (x.1.add
 (IntKind.u64.wrap
 (Int.mul (1 : Int)
 (Int.pow (2 : Int)
 (if (IntKind.u64.wrap x.2).toNat <= IntKind.u64.bits then
 (IntKind.u64.wrap x.2).toNat
 else IntKind.u64.bits))))))
 (IntKind.u64.wrap
 (x.1.add
 (IntKind.u64.wrap
 (Int.mul (1 : Int)
 (Int.pow (2 : Int)
 (if (IntKind.u64.wrap x.2).toNat <= IntKind.u64.bits then
 (IntKind.u64.wrap x.2).toNat
 else IntKind.u64.bits)))))))
 (IntKind.u64.wrap
 (x.1.add
 (IntKind.u64.wrap
 (Int.mul (1 : Int)
 (Int.pow (2 : Int)
 (if (IntKind.u64.wrap x.2).toNat <= IntKind.u64.bits then
 (IntKind.u64.wrap x.2).toNat
 else IntKind.u64.bits))))))).add
 (U.qN
 (U.nJ
 (IntKind.u64.wrap
 (x.1.add
 (IntKind.u64.wrap
 (Int.mul (1 : Int)
 (Int.pow (2 : Int)
 (if (IntKind.u64.wrap x.2).toNat <= IntKind.u64.bits then
 (IntKind.u64.wrap x.2).toNat
 else IntKind.u64.bits))))))
 (IntKind.u64.wrap
 (x.1.add
 (IntKind.u64.wrap
 (Int.mul (1 : Int)
 (Int.pow (2 : Int)
 (if (IntKind.u64.wrap x.2).toNat <= IntKind.u64.bits then
 (IntKind.u64.wrap x.2).toNat
 else IntKind.u64.bits)))))))
 (IntKind.u64.wrap
 (x.1.add
 (IntKind.u64.wrap
 (Int.mul (1 : Int)
 (Int.pow (2 : Int)
 (if (IntKind.u64.wrap x.2).toNat <= IntKind.u64.bits then
 (IntKind.u64.wrap x.2).toNat
 else IntKind.u64.bits)))))))).add
 (0 : Int)).emod
 (18446744073709551616 : Int) <
 IntKind.u64.wrap
 (p.mul
 (Int.pow (2 : Int)
 (if Int.toNat (32 : Int) <= IntKind.u64.bits then Int.toNat (32 : Int)
 else IntKind.u64.bits)))) then
 true
 else
 bif
 decide
 ((((U.nJ
 (U.qN
 (IntKind.u64.wrap
 (x.1.add
 (IntKind.u64.wrap
 (Int.mul (1 : Int)
 (Int.pow (2 : Int)
 (if (IntKind.u64.wrap x.2).toNat <= IntKind.u64.bits then
 (IntKind.u64.wrap x.2).toNat
 else IntKind.u64.bits))))))
 (IntKind.u64.wrap
 (x.1.add
 (IntKind.u64.wrap
 (Int.mul (1 : Int)
 (Int.pow (2 : Int)
 (if (IntKind.u64.wrap x.2).toNat <= IntKind.u64.bits then
 (IntKind.u64.wrap x.2).toNat
 else IntKind.u64.bits)))))))
 (IntKind.u64.wrap
 (x.1.add
 (IntKind.u64.wrap
 (Int.mul (1 : Int)
 (Int.pow (2 : Int)
 (if (IntKind.u64.wrap x.2).toNat <= IntKind.u64.bits then
 (IntKind.u64.wrap x.2).toNat
 else IntKind.u64.bits))))))).add
 (U.qN
 (U.nJ
 (IntKind.u64.wrap
 (x.1.add
 (IntKind.u64.wrap
 (Int.mul (1 : Int)
 (Int.pow (2 : Int)
 (if (IntKind.u64.wrap x.2).toNat <= IntKind.u64.bits then
 (IntKind.u64.wrap x.2).toNat
 else IntKind.u64.bits))))))
 (IntKind.u64.wrap
 (x.1.add
 (IntKind.u64.wrap
 (Int.mul (1 : Int)
 (Int.pow (2 : Int)
 (if (IntKind.u64.wrap x.2).toNat <= IntKind.u64.bits then
 (IntKind.u64.wrap x.2).toNat
 else IntKind.u64.bits)))))))
 (IntKind.u64.wrap
 (x.1.add
 (IntKind.u64.wrap
 (Int.mul (1 : Int)
 (Int.pow (2 : Int)
 (if (IntKind.u64.wrap x.2).toNat <= IntKind.u64.bits then
 (IntKind.u64.wrap x.2).toNat
 else IntKind.u64.bits)))))))).add
 (0 : Int)).emod
 (18446744073709551616 : Int) =
 IntKind.u64.wrap
 (p.mul
 (Int.pow (2 : Int)
 (if Int.toNat (32 : Int) <= IntKind.u64.bits then Int.toNat (32 : Int)
 else IntKind.u64.bits)))) then
 decide
 (U.qN
 (U.qN
 (IntKind.u64.wrap
 (x.1.add
 (IntKind.u64.wrap
 (Int.mul (1 : Int)
 (Int.pow (2 : Int)
 (if (IntKind.u64.wrap x.2).toNat <= IntKind.u64.bits then
 (IntKind.u64.wrap x.2).toNat
 else IntKind.u64.bits))))))
 (IntKind.u64.wrap
 (x.1.add
 (IntKind.u64.wrap
 (Int.mul (1 : Int)
 (Int.pow (2 : Int)
 (if (IntKind.u64.wrap x.2).toNat <= IntKind.u64.bits then
 (IntKind.u64.wrap x.2).toNat
 else IntKind.u64.bits)))))))
 (IntKind.u64.wrap
 (x.1.add
 (IntKind.u64.wrap
 (Int.mul (1 : Int)
 (Int.pow (2 : Int)
 (if (IntKind.u64.wrap x.2).toNat <= IntKind.u64.bits then
 (IntKind.u64.wrap x.2).toNat
 else IntKind.u64.bits)))))) =
 (0 : Int))
 else false
 else false then
 ∃ (y : Int × Int),
 U.jB p
 (IntKind.u64.wrap
 (x.1.add
 (IntKind.u64.wrap
 (Int.mul (1 : Int)
 (Int.pow (2 : Int)
 (if (IntKind.u64.wrap x.2).toNat <= IntKind.u64.bits then
 (IntKind.u64.wrap x.2).toNat
 else IntKind.u64.bits))))))
 (IntKind.i64.wrap (x.2.sub (1 : Int))) =
 U.jB p y.1 y.2 /\
 U.lY p y.1 y.2 /\ (y.2.add (1 : Int)).toNat < (x.2.add (1 : Int)).toNat
 else
 ∃ (y : Int × Int),
 U.jB p x.1 (IntKind.i64.wrap (x.2.sub (1 : Int))) =
 U.jB p y.1 y.2 /\
 U.lY p y.1 y.2 /\ (y.2.add (1 : Int)).toNat < (x.2.add (1 : Int)).toNat
 else IntKind.u32.wrap x.1 = U.cube p /\ True
def wU  : Prop :=
 ((0 : Int) <= (64 : Int) /\ (64 : Int) <= (64 : Int)) /\
 ∃ (x0 : List Int × Int),
 (U.jm
 [(0 : Int), (0 : Int), (0 : Int), (0 : Int), (0 : Int), (0 : Int), (0 : Int), (0 : Int), (0 : Int),
 (0 : Int), (0 : Int), (0 : Int), (0 : Int), (0 : Int), (0 : Int), (0 : Int), (0 : Int), (0 : Int),
 (0 : Int), (0 : Int), (0 : Int), (0 : Int), (0 : Int), (0 : Int), (0 : Int), (0 : Int), (0 : Int),
 (0 : Int), (0 : Int), (0 : Int), (0 : Int), (0 : Int), (0 : Int), (0 : Int), (0 : Int), (0 : Int),
 (0 : Int), (0 : Int), (0 : Int), (0 : Int), (0 : Int), (0 : Int), (0 : Int), (0 : Int), (0 : Int),
 (0 : Int), (0 : Int), (0 : Int), (0 : Int), (0 : Int), (0 : Int), (0 : Int), (0 : Int), (0 : Int),
 (0 : Int), (0 : Int), (0 : Int), (0 : Int), (0 : Int), (0 : Int), (0 : Int), (0 : Int), (0 : Int),
 (0 : Int)]
 (0 : Int) =
 U.jm x0.1 x0.2 /\
 U.jM x0.1 x0.2) /\
 ∀ (x : List Int × Int),
 U.jM x.1 x.2 ->
 bif decide (x.2 < (64 : Int)) then
 (0 : Int) <= x.2 /\
 x.2 < (↑((64 : Nat)) : Int) /\
 (0 : Int) <= x.2 /\
 x.2 < (↑(64 : Nat) : Int) /\
 x.2.toNat < (64 : Nat) /\
 ∃ (y : List Int × Int),
 U.jm
 (x.1.set x.2.toNat
 (U.cube
 ([(2 : Int), (3 : Int), (5 : Int), (7 : Int), (11 : Int), (13 : Int), (17 : Int),
 (19 : Int), (23 : Int), (29 : Int), (31 : Int), (37 : Int), (41 : Int),
 (43 : Int), (47 : Int), (53 : Int), (59 : Int), (61 : Int), (67 : Int),
 (71 : Int), (73 : Int), (79 : Int), (83 : Int), (89 : Int), (97 : Int),
 (101 : Int), (103 : Int), (107 : Int), (109 : Int), (113 : Int), (127 : Int),
 (131 : Int), (137 : Int), (139 : Int), (149 : Int), (151 : Int), (157 : Int),
 (163 : Int), (167 : Int), (173 : Int), (179 : Int), (181 : Int), (191 : Int),
 (193 : Int), (197 : Int), (199 : Int), (211 : Int), (223 : Int), (227 : Int),
 (229 : Int), (233 : Int), (239 : Int), (241 : Int), (251 : Int), (257 : Int),
 (263 : Int), (269 : Int), (271 : Int), (277 : Int), (281 : Int), (283 : Int),
 (293 : Int), (307 : Int), (311 : Int)].getD
 x.2.toNat (0 : Int))))
 (IntKind.i64.wrap (x.2.add (1 : Int))) =
 U.jm y.1 y.2 /\
 U.jM y.1 y.2 /\
 Nat.sub (64 : Nat) y.2.toNat < Nat.sub (64 : Nat) x.2.toNat
 else x.1 = U.consts /\ True
def FT  : Prop :=
 ((0 : Int) <= (8 : Int) /\ (8 : Int) <= (64 : Int)) /\
 ∃ (x0 : List Int × Int),
 (U.nN [(0 : Int), (0 : Int), (0 : Int), (0 : Int), (0 : Int), (0 : Int), (0 : Int), (0 : Int)]
 (0 : Int) =
 U.nN x0.1 x0.2 /\
 U.pF x0.1 x0.2) /\
 ∀ (x : List Int × Int),
 U.pF x.1 x.2 ->
 bif decide (x.2 < (8 : Int)) then
 (0 : Int) <= x.2 /\
 x.2 < (↑((8 : Nat)) : Int) /\
 (0 : Int) <= x.2 /\
 x.2 < (↑(8 : Nat) : Int) /\
 x.2.toNat < (8 : Nat) /\
 ∃ (y : List Int × Int),
 U.nN
 (x.1.set x.2.toNat
 (U.square
 ([(2 : Int), (3 : Int), (5 : Int), (7 : Int), (11 : Int), (13 : Int), (17 : Int),
 (19 : Int)].getD
 x.2.toNat (0 : Int))))
 (IntKind.i64.wrap (x.2.add (1 : Int))) =
 U.nN y.1 y.2 /\
 U.pF y.1 y.2 /\ Nat.sub (8 : Nat) y.2.toNat < Nat.sub (8 : Nat) x.2.toNat
 else x.1 = U.ET /\ True
def Wh (x : Int) (n : Int) : Prop :=
 (0 : Int) <= n /\
 (0 : Int) <= IntKind.u64.wrap (Int.sub (32 : Int) n) /\
 IntKind.u32.wrap
 ((x.fdiv (Int.pow (2 : Int) (if n.toNat <= IntKind.u32.bits then n.toNat else IntKind.u32.bits))).add
 (IntKind.u32.wrap
 (x.mul
 (Int.pow (2 : Int)
 (if (IntKind.u64.wrap (Int.sub (32 : Int) n)).toNat <= IntKind.u32.bits then
 (IntKind.u64.wrap (Int.sub (32 : Int) n)).toNat
 else IntKind.u32.bits))))) =
 U.rot x n /\
 True
def Jy (h : List Int) (b : List Int) (kk : List Int) : Prop :=
 ∃ (x0 : List Int × Int),
 (U.pG h b kk
 [(0 : Int), (0 : Int), (0 : Int), (0 : Int), (0 : Int), (0 : Int), (0 : Int), (0 : Int), (0 : Int),
 (0 : Int), (0 : Int), (0 : Int), (0 : Int), (0 : Int), (0 : Int), (0 : Int), (0 : Int), (0 : Int),
 (0 : Int), (0 : Int), (0 : Int), (0 : Int), (0 : Int), (0 : Int), (0 : Int), (0 : Int), (0 : Int),
 (0 : Int), (0 : Int), (0 : Int), (0 : Int), (0 : Int), (0 : Int), (0 : Int), (0 : Int), (0 : Int),
 (0 : Int), (0 : Int), (0 : Int), (0 : Int), (0 : Int), (0 : Int), (0 : Int), (0 : Int), (0 : Int),
 (0 : Int), (0 : Int), (0 : Int), (0 : Int), (0 : Int), (0 : Int), (0 : Int), (0 : Int), (0 : Int),
 (0 : Int), (0 : Int), (0 : Int), (0 : Int), (0 : Int), (0 : Int), (0 : Int), (0 : Int), (0 : Int),
 (0 : Int)]
 (0 : Int) =
 U.pG h b kk x0.1 x0.2 /\
 U.rF h b kk x0.1 x0.2) /\
 ∀ (x : List Int × Int),
 U.rF h b kk x.1 x.2 ->
 bif decide (x.2 < (16 : Int)) then
 ∃ (x0 : List Int × Int × Int),
 (U.pI h b kk x.1 x.2 (0 : Int) = U.pI h b kk x0.1 x0.2.1 x0.2.2 /\
 U.rG h b kk x0.1 x0.2.1 x0.2.2 x0.1 x0.2.1 x0.2.2) /\
 ∀ (x_1 : List Int × Int × Int),
 U.rG h b kk x0.1 x0.2.1 x0.2.2 x_1.1 x_1.2.1 x_1.2.2 ->
 bif decide (x_1.2.2 < (4 : Int)) then
 (0 : Int) <= x_1.2.1 /\
 x_1.2.1 < (↑(64 : Nat) : Int) /\
 x_1.2.1.toNat < (64 : Nat) /\
 (0 : Int) <=
 IntKind.i64.wrap ((IntKind.i64.wrap (Int.mul (4 : Int) x_1.2.1)).add x_1.2.2) /\
 IntKind.i64.wrap ((IntKind.i64.wrap (Int.mul (4 : Int) x_1.2.1)).add x_1.2.2) <
 (↑b.length : Int) /\
 (0 : Int) <= x_1.2.1 /\
 x_1.2.1 < (↑(64 : Nat) : Int) /\
 x_1.2.1.toNat < (64 : Nat) /\
 ∃ (y : List Int × Int × Int),
 U.pI h b kk
 (x_1.1.set x_1.2.1.toNat
 (IntKind.u32.wrap
 ((IntKind.u32.wrap
 ((x_1.1.getD x_1.2.1.toNat (0 : Int)).mul
 (256 : Int))).add
 (IntKind.u32.wrap
 (b.getD
 (IntKind.i64.wrap
 ((IntKind.i64.wrap (Int.mul (4 : Int) x_1.2.1)).add
 x_1.2.2)).toNat
 (0 : Int))))))
 x_1.2.1 (IntKind.i64.wrap (x_1.2.2.add (1 : Int))) =
 U.pI h b kk y.1 y.2.1 y.2.2 /\
 U.rG h b kk x0.1 x0.2.1 x0.2.2 y.1 y.2.1
 y.2.2 /\
 Nat.sub (4 : Nat) y.2.2.toNat < Nat.sub (4 : Nat) x_1.2.2.toNat
 else
 ∃ (y : List Int × Int),
 U.pG h b kk x_1.1 (IntKind.i64.wrap (x_1.2.1.add (1 : Int))) =
 U.pG h b kk y.1 y.2 /\
 U.rF h b kk y.1 y.2 /\
 Nat.sub (16 : Nat) y.2.toNat < Nat.sub (16 : Nat) x.2.toNat
 else
 ∃ (x0 : List Int × Int),
 (U.nO h b kk x.1 (16 : Int) = U.nO h b kk x0.1 x0.2 /\
 U.pJ h b kk x0.1 x0.2) /\
 ∀ (x : List Int × Int),
 U.pJ h b kk x.1 x.2 ->
 bif decide (x.2 < (64 : Int)) then
 (0 : Int) <= IntKind.i64.wrap (x.2.sub (15 : Int)) /\
 IntKind.i64.wrap (x.2.sub (15 : Int)) < (↑(64 : Nat) : Int) /\
 (IntKind.i64.wrap (x.2.sub (15 : Int))).toNat < (64 : Nat) /\
 (0 : Int) <= IntKind.i64.wrap (x.2.sub (2 : Int)) /\
 IntKind.i64.wrap (x.2.sub (2 : Int)) < (↑(64 : Nat) : Int) /\
 (IntKind.i64.wrap (x.2.sub (2 : Int))).toNat < (64 : Nat) /\
 (0 : Int) <= (10 : Int) /\
 (0 : Int) <= IntKind.i64.wrap (x.2.sub (7 : Int)) /\
 IntKind.i64.wrap (x.2.sub (7 : Int)) < (↑(64 : Nat) : Int) /\
 (IntKind.i64.wrap (x.2.sub (7 : Int))).toNat < (64 : Nat) /\
 (0 : Int) <= (3 : Int) /\
 (0 : Int) <= IntKind.i64.wrap (x.2.sub (16 : Int)) /\
 IntKind.i64.wrap (x.2.sub (16 : Int)) < (↑(64 : Nat) : Int) /\
 (IntKind.i64.wrap (x.2.sub (16 : Int))).toNat < (64 : Nat) /\
 (0 : Int) <= x.2 /\
 x.2 < (↑(64 : Nat) : Int) /\
 x.2.toNat < (64 : Nat) /\
 ∃ (y : List Int × Int),
 U.nO h b kk
 (x.1.set x.2.toNat
 (IntKind.u32.wrap
 ((IntKind.u32.wrap
 ((IntKind.u32.wrap
 ((IntKind.u32.wrap
 (↑((BitVec.ofInt IntKind.u32.bits
 (IntKind.u32.wrap
 (↑((BitVec.ofInt
 IntKind.u32.bits
 (U.rot
 (x.1.getD
 (IntKind.i64.wrap
 (x.2.sub
 (2 :
 Int))).toNat
 (0 :
 Int))
 (17 :
 Int))).xor
 (BitVec.ofInt
 IntKind.u32.bits
 (U.rot
 (x.1.getD
 (IntKind.i64.wrap
 (x.2.sub
 (2 :
 Int))).toNat
 (0 :
 Int))
 (19 :
 Int)))).toNat :
 Int))).xor
 (BitVec.ofInt
 IntKind.u32.bits
 ((x.1.getD
 (IntKind.i64.wrap
 (x.2.sub
 (2 :
 Int))).toNat
 (0 : Int)).fdiv
 (Int.pow (2 : Int)
 (if
 Int.toNat
 (10 : Int) <=
 IntKind.u32.bits then
 Int.toNat
 (10 : Int)
 else
 IntKind.u32.bits))))).toNat :
 Int)).add
 (x.1.getD
 (IntKind.i64.wrap
 (x.2.sub (7 : Int))).toNat
 (0 : Int)))).add
 (IntKind.u32.wrap
 (↑((BitVec.ofInt IntKind.u32.bits
 (IntKind.u32.wrap
 (↑((BitVec.ofInt
 IntKind.u32.bits
 (U.rot
 (x.1.getD
 (IntKind.i64.wrap
 (x.2.sub
 (15 :
 Int))).toNat
 (0 : Int))
 (7 :
 Int))).xor
 (BitVec.ofInt
 IntKind.u32.bits
 (U.rot
 (x.1.getD
 (IntKind.i64.wrap
 (x.2.sub
 (15 :
 Int))).toNat
 (0 : Int))
 (18 :
 Int)))).toNat :
 Int))).xor
 (BitVec.ofInt IntKind.u32.bits
 ((x.1.getD
 (IntKind.i64.wrap
 (x.2.sub
 (15 : Int))).toNat
 (0 : Int)).fdiv
 (Int.pow (2 : Int)
 (if
 Int.toNat (3 : Int) <=
 IntKind.u32.bits then
 Int.toNat (3 : Int)
 else
 IntKind.u32.bits))))).toNat :
 Int)))).add
 (x.1.getD
 (IntKind.i64.wrap (x.2.sub (16 : Int))).toNat
 (0 : Int)))))
 (IntKind.i64.wrap (x.2.add (1 : Int))) =
 U.nO h b kk y.1 y.2 /\
 U.pJ h b kk y.1 y.2 /\
 Nat.sub (64 : Nat) y.2.toNat <
 Nat.sub (64 : Nat) x.2.toNat
 else
 ∃ (x0 : List Int × List Int × Int),
 (U.nP h b kk x.1 h (0 : Int) =
 U.nP h b kk x0.1 x0.2.1 x0.2.2 /\
 U.pK h b kk x0.1 x0.2.1 x0.2.2) /\
 ∀ (x : List Int × List Int × Int),
 U.pK h b kk x.1 x.2.1 x.2.2 ->
 bif decide (x.2.2 < (64 : Int)) then
 (0 : Int) <= (0 : Int) /\
 (0 : Int) < (↑(8 : Nat) : Int) /\
 Int.toNat (0 : Int) < (8 : Nat) /\
 (0 : Int) <= (1 : Int) /\
 (1 : Int) < (↑(8 : Nat) : Int) /\
 Int.toNat (1 : Int) < (8 : Nat) /\
 (0 : Int) <= (2 : Int) /\
 (2 : Int) < (↑(8 : Nat) : Int) /\
 Int.toNat (2 : Int) < (8 : Nat) /\
 (0 : Int) <= (4 : Int) /\
 (4 : Int) < (↑(8 : Nat) : Int) /\
 Int.toNat (4 : Int) < (8 : Nat) /\
 (0 : Int) <= (5 : Int) /\
 (5 : Int) < (↑(8 : Nat) : Int) /\
 Int.toNat (5 : Int) < (8 : Nat) /\
 (0 : Int) <= (6 : Int) /\
 (6 : Int) < (↑(8 : Nat) : Int) /\
 Int.toNat (6 : Int) < (8 : Nat) /\
 (0 : Int) <= (7 : Int) /\
 (7 : Int) < (↑(8 : Nat) : Int) /\
 Int.toNat (7 : Int) < (8 : Nat) /\
 (0 : Int) <= x.2.2 /\
 x.2.2 < (↑(64 : Nat) : Int) /\
 x.2.2.toNat < (64 : Nat) /\
 (0 : Int) <= x.2.2 /\
 x.2.2 < (↑(64 : Nat) : Int) /\
 x.2.2.toNat < (64 : Nat) /\
 (0 : Int) <= (3 : Int) /\
 (3 : Int) < (↑(8 : Nat) : Int) /\
 Int.toNat (3 : Int) <
 (8 : Nat) /\
 ∃ (y :
 List Int ×
 List Int × Int),
 U.nP h b kk
 x.1
 (((((((([(0 : Int),
 (0 :
 Int),
 (0 :
 Int),
 (0 :
 Int),
 (0 :
 Int),
 (0 :
 Int),
 (0 :
 Int),
 (0 :
 Int)].set
 (0 :
 Nat)
 (IntKind.u32.wrap
 ((IntKind.u32.wrap
 ((IntKind.u32.wrap
 ((IntKind.u32.wrap
 ((IntKind.u32.wrap
 ((x.2.1.getD
 (Int.toNat
 (7 :
 Int))
 (0 :
 Int)).add
 (IntKind.u32.wrap
 (↑((BitVec.ofInt
 IntKind.u32.bits
 (IntKind.u32.wrap
 (↑((BitVec.ofInt
 IntKind.u32.bits
 (U.rot
 (x.2.1.getD
 (Int.toNat
 (4 :
 Int))
 (0 :
 Int))
 (6 :
 Int))).xor
 (BitVec.ofInt
 IntKind.u32.bits
 (U.rot
 (x.2.1.getD
 (Int.toNat
 (4 :
 Int))
 (0 :
 Int))
 (11 :
 Int)))).toNat :
 Int))).xor
 (BitVec.ofInt
 IntKind.u32.bits
 (U.rot
 (x.2.1.getD
 (Int.toNat
 (4 :
 Int))
 (0 :
 Int))
 (25 :
 Int)))).toNat :
 Int)))).add
 (IntKind.u32.wrap
 (↑((BitVec.ofInt
 IntKind.u32.bits
 (IntKind.u32.wrap
 (↑((BitVec.ofInt
 IntKind.u32.bits
 (x.2.1.getD
 (Int.toNat
 (4 :
 Int))
 (0 :
 Int))).and
 (BitVec.ofInt
 IntKind.u32.bits
 (x.2.1.getD
 (Int.toNat
 (5 :
 Int))
 (0 :
 Int)))).toNat :
 Int))).xor
 (BitVec.ofInt
 IntKind.u32.bits
 (IntKind.u32.wrap
 (↑((BitVec.ofInt
 IntKind.u32.bits
 (IntKind.u32.wrap
 (↑((BitVec.ofInt
 IntKind.u32.bits
 IntKind.u32.max).xor
 (BitVec.ofInt
 IntKind.u32.bits
 (x.2.1.getD
 (Int.toNat
 (4 :
 Int))
 (0 :
 Int)))).toNat :
 Int))).and
 (BitVec.ofInt
 IntKind.u32.bits
 (x.2.1.getD
 (Int.toNat
 (6 :
 Int))
 (0 :
 Int)))).toNat :
 Int)))).toNat :
 Int)))).add
 (kk.getD
 x.2.2.toNat
 (0 :
 Int)))).add
 (x.1.getD
 x.2.2.toNat
 (0 :
 Int)))).add
 (IntKind.u32.wrap
 ((IntKind.u32.wrap
 (↑((BitVec.ofInt
 IntKind.u32.bits
 (IntKind.u32.wrap
 (↑((BitVec.ofInt
 IntKind.u32.bits
 (U.rot
 (x.2.1.getD
 (Int.toNat
 (0 :
 Int))
 (0 :
 Int))
 (2 :
 Int))).xor
 (BitVec.ofInt
 IntKind.u32.bits
 (U.rot
 (x.2.1.getD
 (Int.toNat
 (0 :
 Int))
 (0 :
 Int))
 (13 :
 Int)))).toNat :
 Int))).xor
 (BitVec.ofInt
 IntKind.u32.bits
 (U.rot
 (x.2.1.getD
 (Int.toNat
 (0 :
 Int))
 (0 :
 Int))
 (22 :
 Int)))).toNat :
 Int)).add
 (IntKind.u32.wrap
 (↑((BitVec.ofInt
 IntKind.u32.bits
 (IntKind.u32.wrap
 (↑((BitVec.ofInt
 IntKind.u32.bits
 (IntKind.u32.wrap
 (↑((BitVec.ofInt
 IntKind.u32.bits
 (x.2.1.getD
 (Int.toNat
 (0 :
 Int))
 (0 :
 Int))).and
 (BitVec.ofInt
 IntKind.u32.bits
 (x.2.1.getD
 (Int.toNat
 (1 :
 Int))
 (0 :
 Int)))).toNat :
 Int))).xor
 (BitVec.ofInt
 IntKind.u32.bits
 (IntKind.u32.wrap
 (↑((BitVec.ofInt
 IntKind.u32.bits
 (x.2.1.getD
 (Int.toNat
 (0 :
 Int))
 (0 :
 Int))).and
 (BitVec.ofInt
 IntKind.u32.bits
 (x.2.1.getD
 (Int.toNat
 (2 :
 Int))
 (0 :
 Int)))).toNat :
 Int)))).toNat :
 Int))).xor
 (BitVec.ofInt
 IntKind.u32.bits
 (IntKind.u32.wrap
 (↑((BitVec.ofInt
 IntKind.u32.bits
 (x.2.1.getD
 (Int.toNat
 (1 :
 Int))
 (0 :
 Int))).and
 (BitVec.ofInt
 IntKind.u32.bits
 (x.2.1.getD
 (Int.toNat
 (2 :
 Int))
 (0 :
 Int)))).toNat :
 Int)))).toNat :
 Int))))))).set
 (1 :
 Nat)
 (x.2.1.getD
 (Int.toNat
 (0 :
 Int))
 (0 :
 Int))).set
 (2 :
 Nat)
 (x.2.1.getD
 (Int.toNat
 (1 :
 Int))
 (0 :
 Int))).set
 (3 :
 Nat)
 (x.2.1.getD
 (Int.toNat
 (2 :
 Int))
 (0 :
 Int))).set
 (4 :
 Nat)
 (IntKind.u32.wrap
 ((x.2.1.getD
 (Int.toNat
 (3 :
 Int))
 (0 :
 Int)).add
 (IntKind.u32.wrap
 ((IntKind.u32.wrap
 ((IntKind.u32.wrap
 ((IntKind.u32.wrap
 ((x.2.1.getD
 (Int.toNat
 (7 :
 Int))
 (0 :
 Int)).add
 (IntKind.u32.wrap
 (↑((BitVec.ofInt
 IntKind.u32.bits
 (IntKind.u32.wrap
 (↑((BitVec.ofInt
 IntKind.u32.bits
 (U.rot
 (x.2.1.getD
 (Int.toNat
 (4 :
 Int))
 (0 :
 Int))
 (6 :
 Int))).xor
 (BitVec.ofInt
 IntKind.u32.bits
 (U.rot
 (x.2.1.getD
 (Int.toNat
 (4 :
 Int))
 (0 :
 Int))
 (11 :
 Int)))).toNat :
 Int))).xor
 (BitVec.ofInt
 IntKind.u32.bits
 (U.rot
 (x.2.1.getD
 (Int.toNat
 (4 :
 Int))
 (0 :
 Int))
 (25 :
 Int)))).toNat :
 Int)))).add
 (IntKind.u32.wrap
 (↑((BitVec.ofInt
 IntKind.u32.bits
 (IntKind.u32.wrap
 (↑((BitVec.ofInt
 IntKind.u32.bits
 (x.2.1.getD
 (Int.toNat
 (4 :
 Int))
 (0 :
 Int))).and
 (BitVec.ofInt
 IntKind.u32.bits
 (x.2.1.getD
 (Int.toNat
 (5 :
 Int))
 (0 :
 Int)))).toNat :
 Int))).xor
 (BitVec.ofInt
 IntKind.u32.bits
 (IntKind.u32.wrap
 (↑((BitVec.ofInt
 IntKind.u32.bits
 (IntKind.u32.wrap
 (↑((BitVec.ofInt
 IntKind.u32.bits
 IntKind.u32.max).xor
 (BitVec.ofInt
 IntKind.u32.bits
 (x.2.1.getD
 (Int.toNat
 (4 :
 Int))
 (0 :
 Int)))).toNat :
 Int))).and
 (BitVec.ofInt
 IntKind.u32.bits
 (x.2.1.getD
 (Int.toNat
 (6 :
 Int))
 (0 :
 Int)))).toNat :
 Int)))).toNat :
 Int)))).add
 (kk.getD
 x.2.2.toNat
 (0 :
 Int)))).add
 (x.1.getD
 x.2.2.toNat
 (0 :
 Int))))))).set
 (5 : Nat)
 (x.2.1.getD
 (Int.toNat
 (4 :
 Int))
 (0 :
 Int))).set
 (6 : Nat)
 (x.2.1.getD
 (Int.toNat
 (5 : Int))
 (0 :
 Int))).set
 (7 : Nat)
 (x.2.1.getD
 (Int.toNat
 (6 : Int))
 (0 : Int)))
 (IntKind.i64.wrap
 (x.2.2.add
 (1 : Int))) =
 U.nP h b
 kk y.1 y.2.1
 y.2.2 /\
 U.pK h b kk
 y.1 y.2.1
 y.2.2 /\
 Nat.sub (64 : Nat)
 y.2.2.toNat <
 Nat.sub (64 : Nat)
 x.2.2.toNat
 else
 ∃ (x0 : List Int × Int),
 (U.nR h b kk x.2.1 (0 : Int) =
 U.nR h b kk x0.1 x0.2 /\
 U.pO h b kk x0.1 x0.2) /\
 ∀ (x : List Int × Int),
 U.pO h b kk x.1 x.2 ->
 bif decide (x.2 < (8 : Int)) then
 (0 : Int) <= x.2 /\
 x.2 < (↑(8 : Nat) : Int) /\
 x.2.toNat < (8 : Nat) /\
 (0 : Int) <= x.2 /\
 x.2 < (↑(8 : Nat) : Int) /\
 x.2.toNat < (8 : Nat) /\
 (0 : Int) <= x.2 /\
 x.2 < (↑(8 : Nat) : Int) /\
 x.2.toNat < (8 : Nat) /\
 ∃ (y : List Int × Int),
 U.nR h b kk
 (x.1.set x.2.toNat
 (IntKind.u32.wrap
 ((x.1.getD x.2.toNat (0 : Int)).add
 (h.getD x.2.toNat (0 : Int)))))
 (IntKind.i64.wrap (x.2.add (1 : Int))) =
 U.nR h b kk y.1 y.2 /\
 U.pO h b kk y.1 y.2 /\
 Nat.sub (8 : Nat) y.2.toNat <
 Nat.sub (8 : Nat) x.2.toNat
 else x.1 = U.DK h b kk /\ True
def Le (b : List Int) : Prop :=
 (Nat.add (0 : Nat) b.length).mul (1 : Nat) <= (140737488355328 : Nat) /\
 Nat.add (0 : Nat) b.length <= maxLen /\
 (b.length.add ((1 : Nat))).mul (1 : Nat) <= (140737488355328 : Nat) /\
 b.length.add ((1 : Nat)) <= maxLen /\
 ∃ (x0 : List Int),
 (U.rH b (b.append ([(0 : Int)].set (0 : Nat) (128 : Int))) = U.rH b x0 /\
 U.vk b x0) /\
 ∀ (x : List Int),
 U.vk b x ->
 (64 : Int) ≠ (0 : Int) /\
 bif (↑x.length : Int).tmod (64 : Int) != (56 : Int) then
 (x.length.add ((1 : Nat))).mul (1 : Nat) <= (140737488355328 : Nat) /\
 x.length.add ((1 : Nat)) <= maxLen /\
 ∃ (y : List Int),
 U.rH b (x.append ([(0 : Int)].set (0 : Nat) (0 : Int))) = U.rH b y /\
 U.vk b y /\
 ((b.length.add (1 : Nat)).add (U.zeros b.length)).sub y.length <
 ((b.length.add (1 : Nat)).add (U.zeros b.length)).sub x.length
 else
 ∃ (x0 : List Int × Int × Int),
 (U.rJ b x (IntKind.u64.wrap ((IntKind.u64.wrap (↑b.length : Int)).mul (8 : Int)))
 (7 : Int) =
 U.rJ b x0.1 x0.2.1 x0.2.2 /\
 U.vw b x0.1 x0.2.1 x0.2.2) /\
 ∀ (x : List Int × Int × Int),
 U.vw b x.1 x.2.1 x.2.2 ->
 bif decide (x.2.2 >= (0 : Int)) then
 (0 : Int) <= IntKind.u64.wrap (IntKind.i64.wrap (Int.mul (8 : Int) x.2.2)) /\
 (x.1.length.add ((1 : Nat))).mul (1 : Nat) <= (140737488355328 : Nat) /\
 x.1.length.add ((1 : Nat)) <= maxLen /\
 ∃ (y : List Int × Int × Int),
 U.rJ b
 (x.1.append
 ([(0 : Int)].set (0 : Nat)
 (IntKind.u8.wrap
 (x.2.1.fdiv
 (Int.pow (2 : Int)
 (if
 (IntKind.u64.wrap
 (IntKind.i64.wrap
 (Int.mul (8 : Int) x.2.2))).toNat <=
 IntKind.u64.bits then
 (IntKind.u64.wrap
 (IntKind.i64.wrap (Int.mul (8 : Int) x.2.2))).toNat
 else IntKind.u64.bits))))))
 x.2.1 (IntKind.i64.wrap (x.2.2.sub (1 : Int))) =
 U.rJ b y.1 y.2.1 y.2.2 /\
 U.vw b y.1 y.2.1 y.2.2 /\
 (y.2.2.add (1 : Int)).toNat < (x.2.2.add (1 : Int)).toNat
 else x.1 = U.pad b /\ True
def Lh (b : List Int) : Prop :=
 b.length <= (1000000000000 : Nat) /\
 ∃ (x0 : List Int × Int),
 (U.rM b U.ET (0 : Int) = U.rM b x0.1 x0.2 /\ U.vC b x0.1 x0.2) /\
 ∀ (x : List Int × Int),
 U.vC b x.1 x.2 ->
 bif decide (x.2 < (↑(U.pad b).length : Int)) then
 (0 : Int) <= x.2 /\
 x.2 <= IntKind.i64.wrap (x.2.add (64 : Int)) /\
 IntKind.i64.wrap (x.2.add (64 : Int)) <= (↑(U.pad b).length : Int) /\
 (64 : Nat) <=
 (List.take ((IntKind.i64.wrap (x.2.add (64 : Int))).toNat.sub x.2.toNat)
 (List.drop x.2.toNat (U.pad b))).length /\
 ∃ (y : List Int × Int),
 U.rM b
 (U.DK x.1
 (List.take ((IntKind.i64.wrap (x.2.add (64 : Int))).toNat.sub x.2.toNat)
 (List.drop x.2.toNat (U.pad b)))
 U.consts)
 (IntKind.i64.wrap (x.2.add (64 : Int))) =
 U.rM b y.1 y.2 /\
 U.vC b y.1 y.2 /\
 (U.pad b).length.sub y.2.toNat < (U.pad b).length.sub x.2.toNat
 else
 ∃ (x0 : List Int × List Int × Int),
 (U.rO b x.1
 [(0 : Int), (0 : Int), (0 : Int), (0 : Int), (0 : Int), (0 : Int), (0 : Int), (0 : Int),
 (0 : Int), (0 : Int), (0 : Int), (0 : Int), (0 : Int), (0 : Int), (0 : Int), (0 : Int),
 (0 : Int), (0 : Int), (0 : Int), (0 : Int), (0 : Int), (0 : Int), (0 : Int), (0 : Int),
 (0 : Int), (0 : Int), (0 : Int), (0 : Int), (0 : Int), (0 : Int), (0 : Int), (0 : Int)]
 (0 : Int) =
 U.rO b x0.1 x0.2.1 x0.2.2 /\
 U.vF b x0.1 x0.2.1 x0.2.2) /\
 ∀ (x : List Int × List Int × Int),
 U.vF b x.1 x.2.1 x.2.2 ->
 bif decide (x.2.2 < (32 : Int)) then
 (4 : Int) ≠ (0 : Int) /\
 (0 : Int) <= IntKind.i64.wrap (x.2.2.tdiv (4 : Int)) /\
 IntKind.i64.wrap (x.2.2.tdiv (4 : Int)) < (↑(8 : Nat) : Int) /\
 (IntKind.i64.wrap (x.2.2.tdiv (4 : Int))).toNat < (8 : Nat) /\
 (4 : Int) ≠ (0 : Int) /\
 (0 : Int) <=
 IntKind.u64.wrap
 (IntKind.i64.wrap
 (Int.sub (24 : Int)
 (IntKind.i64.wrap (Int.mul (8 : Int) (x.2.2.tmod (4 : Int)))))) /\
 (0 : Int) <= x.2.2 /\
 x.2.2 < (↑(32 : Nat) : Int) /\
 x.2.2.toNat < (32 : Nat) /\
 ∃ (y : List Int × List Int × Int),
 U.rO b x.1
 (x.2.1.set x.2.2.toNat
 (IntKind.u8.wrap
 ((x.1.getD (IntKind.i64.wrap (x.2.2.tdiv (4 : Int))).toNat
 (0 : Int)).fdiv
 (Int.pow (2 : Int)
 (if
 (IntKind.u64.wrap
 (IntKind.i64.wrap
 (Int.sub (24 : Int)
 (IntKind.i64.wrap
 (Int.mul (8 : Int)
 (x.2.2.tmod (4 : Int))))))).toNat <=
 IntKind.u32.bits then
 (IntKind.u64.wrap
 (IntKind.i64.wrap
 (Int.sub (24 : Int)
 (IntKind.i64.wrap
 (Int.mul (8 : Int)
 (x.2.2.tmod (4 : Int))))))).toNat
 else IntKind.u32.bits)))))
 (IntKind.i64.wrap (x.2.2.add (1 : Int))) =
 U.rO b y.1 y.2.1 y.2.2 /\
 U.vF b y.1 y.2.1 y.2.2 /\
 Nat.sub (32 : Nat) y.2.2.toNat < Nat.sub (32 : Nat) x.2.2.toNat
 else x.2.1 = U.qL (U.yt b) /\ True
end Go.Proofs.YtkhdeldobekciaaGreatDoor
