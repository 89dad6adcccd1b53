/- What functions of this seat compute, in plain Lean. -/
import Derived.Test.YtoecpaccpcnkcaaDoorB
import Derived.Test.YtoecpaccpcnkcaaDoorVcF
set_option linter.unusedVariables false
set_option linter.unusedSimpArgs false
set_option maxRecDepth 100000
namespace Go.Proofs.YtoecpaccpcnkcaaDoor
open Go.Vc
abbrev rTwo (a b : Int) : Done := ⟨[], .tup [one (.int .u64 a), one (.int .u64 b)], [], []⟩
namespace U
def plist : List Int := [2, 3, 5, 7, 11, 13, 17, 19, 23, 29, 31, 37, 41, 43, 47, 53, 59, 61, 67, 71, 73, 79, 83, 89, 97, 101, 103, 107, 109, 113, 127, 131, 137, 139, 149, 151, 157, 163, 167, 173, 179, 181, 191, 193, 197, 199, 211, 223, 227, 229, 233, 239, 241, 251, 257, 263, 269, 271, 277, 281, 283, 293, 307, 311]
def lo32 (x : Int) : Int := T.andK .u64 x 4294967295
abbrev w64 := IntKind.wrap .u64
def mulHi (x y : Int) : Int :=
  let t := w64 (Int.add (w64 (Int.mul (shr .u64 x 32) (lo32 y))) (shr .u64 (w64 (Int.mul (lo32 x) (lo32 y))) 32))
  w64 (Int.add (w64 (Int.add (w64 (Int.mul (shr .u64 x 32) (shr .u64 y 32))) (shr .u64 t 32))) (shr .u64 (w64 (Int.add (lo32 t) (w64 (Int.mul (lo32 x) (shr .u64 y 32))))) 32))
def mulLo (x y : Int) : Int := w64 (Int.mul x y)
def prime (n : Int) : Bool := ((List.range 21).all fun d => decide (d < 2 ∨ n < d * d ∨ n % d ≠ 0)) && decide (n ≥ 2)
def nextY (x bit : Int) : Int := w64 (Int.add x (shl .u64 1 (w64 bit).toNat))
def sqUp (p y : Int) : Bool := decide (mulHi y y < p) || (decide (mulHi y y = p) && decide (mulLo y y = 0))
def sqN (p : Int) : Nat → Int
  | 0 => 0
  | k + 1 => let x := sqN p k; let y := nextY x (36 - (k : Int)); cond (sqUp p y) y x
def square (p : Int) : Int := IntKind.wrap .u32 (sqN p 37)
def cbUp (p y : Int) : Bool :=
  let hi := mulHi y y; let lo := mulLo y y
  let s := mulHi lo y + mulLo hi y + 0
  let want := shl .u64 p 32
  decide (w64 (Int.add (mulHi hi y) (s / 18446744073709551616)) = 0) && (decide (s % 18446744073709551616 < want) || (decide (s % 18446744073709551616 = want) && decide (mulLo lo y = 0)))
def cbN (p : Int) : Nat → Int
  | 0 => 0
  | k + 1 => let x := cbN p k; let y := nextY x (36 - (k : Int)); cond (cbUp p y) y x
def cube (p : Int) : Int := IntKind.wrap .u32 (cbN p 37)
@[irreducible] def consts : List Int := plist.map cube
@[irreducible] def first8 : List Int := (plist.take 8).map square
def wp (b : List Int) (t : Nat) : Nat → Int
  | 0 => 0
  | i + 1 => add32 (IntKind.wrap .u32 (Int.mul (wp b t i) 256)) (IntKind.wrap .u32 (b.getD (4 * t + i) 0))
def rs16 (b : List Int) (t : Nat) : List Int := (List.range t).map fun t => wp b t 4
def rnext (l : List Int) : Int :=
  let x := l.getD (l.length - 15) 0; let y := l.getD (l.length - 2) 0
  add32 (add32 (add32 (xor32 (xor32 (rot y 17) (rot y 19)) (shr .u32 y 10)) (l.getD (l.length - 7) 0)) (xor32 (xor32 (rot x 7) (rot x 18)) (shr .u32 x 3))) (l.getD (l.length - 16) 0)
def rschedN (b : List Int) : Nat → List Int
  | 0 => rs16 b 16
  | k + 1 => rschedN b k ++ [rnext (rschedN b k)]
@[irreducible] def rsched (b : List Int) : List Int := rschedN b 48
def rt1 (k w : Int) (v : List Int) : Int :=
  let e := v.getD 4 0
  add32 (add32 (add32 (add32 (v.getD 7 0) (xor32 (xor32 (rot e 6) (rot e 11)) (rot e 25))) (xor32 (and32 e (v.getD 5 0)) (and32 (not32 e) (v.getD 6 0)))) k) w
def rt2 (v : List Int) : Int :=
  let a := v.getD 0 0; let b := v.getD 1 0; let c := v.getD 2 0
  add32 (xor32 (xor32 (rot a 2) (rot a 13)) (rot a 22)) (xor32 (xor32 (and32 a b) (and32 a c)) (and32 b c))
def rrnd (k w : Int) (v : List Int) : List Int := [add32 (rt1 k w v) (rt2 v), v.getD 0 0, v.getD 1 0, v.getD 2 0, add32 (v.getD 3 0) (rt1 k w v), v.getD 4 0, v.getD 5 0, v.getD 6 0]
def rrnds (k w : List Int) : Nat → List Int → List Int
  | 0, v => v
  | t + 1, v => rrnd (k.getD t 0) (w.getD t 0) (rrnds k w t v)
def rstep (h b k : List Int) : List Int := List.zipWith add32 (rrnds k (rsched b) 64 h) h
@[irreducible] def rsums (b : List Int) : List Int := (chunks 64 (pad b)).foldl (fun h c => rstep h c consts) first8
end U
namespace U
def stref04_prime_2 (n : Int) (d : Int) : St2 := ⟨⟨[sK .u64 n] ++ U.n 2 ++ [sK .u64 d] ++ U.n 13, [], []⟩, 0, []⟩
def Iref04_prime_2 (n : Int)  (d : Int) : Prop := 2 ≤ d ∧ d ≤ 21 ∧ ∀ e : Int, 2 ≤ e → e < d → n % e ≠ 0
def stref04_primes_3 (n : Int) (o : List Int) (p : Int) : St2 := ⟨⟨[sI n] ++ U.n 2 ++ [own 0] ++ [sK .u64 p] ++ U.n 13, [], [(0, .row 41 (.int .u64) true true o)]⟩, 1, []⟩
def Iref04_primes_3 (n : Int)  (o : List Int) (p : Int) : Prop := 2 ≤ p ∧ p ≤ 312 ∧ o = plist.filter (fun q => decide (q < p)) ∧ o.length ≤ n
def stref04_square_3 (p : Int) (z : Int) (bit : Int) : St2 := ⟨⟨[sK .u64 p] ++ U.n 2 ++ [sK .u64 z] ++ [sI bit] ++ U.n 33, [], []⟩, 0, []⟩
def Iref04_square_3 (p : Int)  (z : Int) (bit : Int) : Prop := -1 ≤ bit ∧ bit ≤ 36 ∧ z = sqN p (36 - bit).toNat
def stref04_cube_3 (p : Int) (z : Int) (bit : Int) : St2 := ⟨⟨[sK .u64 p] ++ U.n 2 ++ [sK .u64 z] ++ [sI bit] ++ U.n 68, [], []⟩, 0, []⟩
def Iref04_cube_3 (p : Int)  (z : Int) (bit : Int) : Prop := -1 ≤ bit ∧ bit ≤ 36 ∧ z = cbN p (36 - bit).toNat
def stref04_constants_4  (w : List Int) (i : Int) : St2 := ⟨⟨[sP 0 0] ++ [sP 1 0] ++ [sL true (.int .u64) (plist.take 64)] ++ [sI i] ++ U.n 13, [], [(0, .obj [.arr 64 true (.int .u32) (List.replicate 64 0)]), (1, .obj [.arr 64 true (.int .u32) w])]⟩, 2, []⟩
def Iref04_constants_4   (w : List Int) (i : Int) : Prop := 0 ≤ i ∧ i ≤ 64 ∧ w = pad64 64 ((plist.take i.toNat).map cube)
def stref04_First_4  (w : List Int) (i : Int) : St2 := ⟨⟨[sP 0 0] ++ [sP 1 0] ++ [sL true (.int .u64) (plist.take 8)] ++ [sI i] ++ U.n 13, [], [(0, .obj [.arr 8 true (.int .u32) (List.replicate 8 0)]), (1, .obj [.arr 8 true (.int .u32) w])]⟩, 2, []⟩
def Iref04_First_4   (w : List Int) (i : Int) : Prop := 0 ≤ i ∧ i ≤ 8 ∧ w = pad64 8 ((plist.take i.toNat).map square)
def stref04_step_3 (h bl kk : List Int) (w : List Int) (t : Int) : St2 := ⟨⟨U.n 1 ++ [sL false (.int .u8) bl] ++ U.n 1 ++ [sP 0 0] ++ U.n 1 ++ [sP 1 0] ++ [sP 2 0] ++ [sP 3 0] ++ [sI t] ++ U.n 172, [], [(0, .obj [.arr 8 true (.int .u32) h]), (1, .obj [.arr 64 true (.int .u32) kk]), (2, .obj [.arr 8 true (.int .u32) (List.replicate 8 0)]), (3, .obj [.arr 64 true (.int .u32) w])]⟩, 4, []⟩
def Iref04_step_3 (h bl kk : List Int)  (w : List Int) (t : Int) : Prop := 0 ≤ t ∧ t ≤ 16 ∧ w = pad64 64 (rs16 bl t.toNat)
def stref04_step_6 (h bl kk : List Int) (w : List Int) (t : Int) (i : Int) : St2 := ⟨⟨U.n 1 ++ [sL false (.int .u8) bl] ++ U.n 1 ++ [sP 0 0] ++ U.n 1 ++ [sP 1 0] ++ [sP 2 0] ++ [sP 3 0] ++ [sI t] ++ [sI i] ++ U.n 171, [], [(0, .obj [.arr 8 true (.int .u32) h]), (1, .obj [.arr 64 true (.int .u32) kk]), (2, .obj [.arr 8 true (.int .u32) (List.replicate 8 0)]), (3, .obj [.arr 64 true (.int .u32) w])]⟩, 4, []⟩
def Iref04_step_6 (h bl kk : List Int) (w' : List Int) (t' : Int) (i' : Int) (w : List Int) (t : Int) (i : Int) : Prop :=  t = t' ∧ 0 ≤ t ∧ t < 16 ∧ 0 ≤ i ∧ i ≤ 4 ∧ w = pad64 64 (rs16 bl t.toNat ++ [wp bl t.toNat i.toNat])
def stref04_step_10 (h bl kk : List Int) (w : List Int) (t : Int) : St2 := ⟨⟨U.n 3 ++ [sP 0 0] ++ U.n 1 ++ [sP 1 0] ++ [sP 2 0] ++ [sP 3 0] ++ U.n 2 ++ [sI t] ++ U.n 170, [], [(0, .obj [.arr 8 true (.int .u32) h]), (1, .obj [.arr 64 true (.int .u32) kk]), (2, .obj [.arr 8 true (.int .u32) (List.replicate 8 0)]), (3, .obj [.arr 64 true (.int .u32) w])]⟩, 4, []⟩
def Iref04_step_10 (h bl kk : List Int)  (w : List Int) (t : Int) : Prop := 16 ≤ t ∧ t ≤ 64 ∧ w = pad64 64 (rschedN bl (t.toNat - 16))
def stref04_step_16 (h bl kk : List Int) (w : List Int) (v : List Int) (t : Int) : St2 := ⟨⟨U.n 3 ++ [sP 0 0] ++ U.n 1 ++ [sP 1 0] ++ [sP 2 0] ++ [sP 3 0] ++ U.n 5 ++ [sP 4 0] ++ [sI t] ++ U.n 166, [], [(0, .obj [.arr 8 true (.int .u32) h]), (1, .obj [.arr 64 true (.int .u32) kk]), (2, .obj [.arr 8 true (.int .u32) (List.replicate 8 0)]), (3, .obj [.arr 64 true (.int .u32) w]), (4, .obj [.arr 8 true (.int .u32) v])]⟩, 5, []⟩
def Iref04_step_16 (h bl kk : List Int)  (w : List Int) (v : List Int) (t : Int) : Prop := w = rsched bl ∧ 0 ≤ t ∧ t ≤ 64 ∧ v = rrnds kk (rsched bl) t.toNat h
def stref04_step_23 (h bl kk : List Int) (v : List Int) (i : Int) : St2 := ⟨⟨U.n 3 ++ [sP 0 0] ++ U.n 2 ++ [sP 1 0] ++ U.n 6 ++ [sP 2 0] ++ U.n 9 ++ [sI i] ++ U.n 157, [], [(0, .obj [.arr 8 true (.int .u32) h]), (1, .obj [.arr 8 true (.int .u32) (List.replicate 8 0)]), (2, .obj [.arr 8 true (.int .u32) v])]⟩, 3, []⟩
def Iref04_step_23 (h bl kk : List Int)  (v : List Int) (i : Int) : Prop := 0 ≤ i ∧ i ≤ 8 ∧ v = List.zipWith add32 ((rrnds kk (rsched bl) 64 h).take i.toNat) h ++ (rrnds kk (rsched bl) 64 h).drop i.toNat
def stref04_Pad_2 (b : List Int) (o : List Int) : St2 := ⟨⟨[sL false (.int .u8) b] ++ U.n 2 ++ [own 0] ++ U.n 32, [], [(0, .row 5 (.int .u8) true true o)]⟩, 1, []⟩
def Iref04_Pad_2 (b : List Int)  (o : List Int) : Prop := ∃ m, m ≤ zeros b.length ∧ o = b ++ (128 :: List.replicate m 0)
def stref04_Pad_6 (b : List Int) (o : List Int) (n : Int) (i : Int) : St2 := ⟨⟨U.n 3 ++ [own 0] ++ [sK .u64 n] ++ [sI i] ++ U.n 30, [], [(0, .row 5 (.int .u8) true true o)]⟩, 1, []⟩
def Iref04_Pad_6 (b : List Int)  (o : List Int) (n : Int) (i : Int) : Prop := n = (b.length : Int) * 8 ∧ -1 ≤ i ∧ i ≤ 7 ∧ o = b ++ (128 :: (List.replicate (zeros b.length) 0 ++ (be8 8 (b.length * 8)).take (7 - i).toNat))
def stref04_Sum_4 (b : List Int) (h : List Int) (i : Int) : St2 := ⟨⟨U.n 2 ++ [sP 0 0] ++ [sP 1 0] ++ [sP 2 0] ++ [sL true (.int .u8) (pad b)] ++ [sI i] ++ U.n 38, [], [(0, .obj [.arr 32 true (.int .u8) (List.replicate 32 0)]), (1, .obj [.arr 8 true (.int .u32) h]), (2, .obj [.arr 64 true (.int .u32) consts])]⟩, 3, []⟩
def Iref04_Sum_4 (b : List Int)  (h : List Int) (i : Int) : Prop := 0 ≤ i ∧ i ≤ (pad b).length ∧ ∃ k : Nat, i = 64 * (k : Int) ∧ h = ((chunks 64 (pad b)).take k).foldl (fun h c => rstep h c consts) first8
def stref04_Sum_9 (b : List Int) (h : List Int) (s : List Int) (i : Int) : St2 := ⟨⟨U.n 2 ++ [sP 0 0] ++ [sP 1 0] ++ U.n 3 ++ [sP 2 0] ++ [sI i] ++ U.n 36, [], [(0, .obj [.arr 32 true (.int .u8) (List.replicate 32 0)]), (1, .obj [.arr 8 true (.int .u32) h]), (2, .obj [.arr 32 true (.int .u8) s])]⟩, 3, []⟩
def Iref04_Sum_9 (b : List Int)  (h : List Int) (s : List Int) (i : Int) : Prop := h = rsums b ∧ 0 ≤ i ∧ i ≤ 32 ∧ s = (out32 (rsums b)).take i.toNat ++ List.replicate (32 - i.toNat) 0
def stref04_Text_3 (s : List Int) (o : List Int) (i : Int) : St2 := ⟨⟨U.n 1 ++ [sP 0 0] ++ U.n 1 ++ [sS o] ++ [sI i] ++ U.n 28, [], [(0, .obj [.arr 32 true (.int .u8) s])]⟩, 1, []⟩
def Iref04_Text_3 (s : List Int)  (o : List Int) (i : Int) : Prop := 0 ≤ i ∧ i ≤ 32 ∧ o = text (s.take i.toNat)
end U
def lpref04_prime_2 (n : Int) : Vc.Loop := ⟨{ keep := [0, 3] }, Int, fun x => U.stref04_prime_2 n x, fun x0 x => U.Iref04_prime_2 n  x, fun x => (22 - x).toNat⟩
def lpref04_primes_3 (n : Int) : Vc.Loop := ⟨{ keep := [0, 3, 4], wake := [(3, 41)] }, List Int × Int, fun x => U.stref04_primes_3 n x.1 x.2, fun x0 x => U.Iref04_primes_3 n  x.1 x.2, fun x => (312 - x.2).toNat⟩
def lpref04_square_3 (p : Int) : Vc.Loop := ⟨{ keep := [0, 3, 4] }, Int × Int, fun x => U.stref04_square_3 p x.1 x.2, fun x0 x => U.Iref04_square_3 p  x.1 x.2, fun x => (x.2 + 1).toNat⟩
def lpref04_cube_3 (p : Int) : Vc.Loop := ⟨{ keep := [0, 3, 4] }, Int × Int, fun x => U.stref04_cube_3 p x.1 x.2, fun x0 x => U.Iref04_cube_3 p  x.1 x.2, fun x => (x.2 + 1).toNat⟩
def lpref04_constants_4  : Vc.Loop := ⟨{ keep := [0, 1, 2, 3] }, List Int × Int, fun x => U.stref04_constants_4  x.1 x.2, fun x0 x => U.Iref04_constants_4   x.1 x.2, fun x => 64 - x.2.toNat⟩
def lpref04_First_4  : Vc.Loop := ⟨{ keep := [0, 1, 2, 3] }, List Int × Int, fun x => U.stref04_First_4  x.1 x.2, fun x0 x => U.Iref04_First_4   x.1 x.2, fun x => 8 - x.2.toNat⟩
def lpref04_step_3 (h bl kk : List Int) : Vc.Loop := ⟨{ keep := [1, 3, 5, 6, 7, 8] }, List Int × Int, fun x => U.stref04_step_3 h bl kk x.1 x.2, fun x0 x => U.Iref04_step_3 h bl kk  x.1 x.2, fun x => 16 - x.2.toNat⟩
def lpref04_step_6 (h bl kk : List Int) : Vc.Loop := ⟨{ keep := [1, 3, 5, 6, 7, 8, 9] }, List Int × Int × Int, fun x => U.stref04_step_6 h bl kk x.1 x.2.1 x.2.2, fun x0 x => U.Iref04_step_6 h bl kk x0.1 x0.2.1 x0.2.2 x.1 x.2.1 x.2.2, fun x => 4 - x.2.2.toNat⟩
def lpref04_step_10 (h bl kk : List Int) : Vc.Loop := ⟨{ keep := [3, 5, 6, 7, 10] }, List Int × Int, fun x => U.stref04_step_10 h bl kk x.1 x.2, fun x0 x => U.Iref04_step_10 h bl kk  x.1 x.2, fun x => 64 - x.2.toNat⟩
def lpref04_step_16 (h bl kk : List Int) : Vc.Loop := ⟨{ keep := [3, 5, 6, 7, 13, 14] }, List Int × List Int × Int, fun x => U.stref04_step_16 h bl kk x.1 x.2.1 x.2.2, fun x0 x => U.Iref04_step_16 h bl kk  x.1 x.2.1 x.2.2, fun x => 64 - x.2.2.toNat⟩
def lpref04_step_23 (h bl kk : List Int) : Vc.Loop := ⟨{ keep := [3, 6, 13, 23] }, List Int × Int, fun x => U.stref04_step_23 h bl kk x.1 x.2, fun x0 x => U.Iref04_step_23 h bl kk  x.1 x.2, fun x => 8 - x.2.toNat⟩
def lpref04_Pad_2 (b : List Int) : Vc.Loop := ⟨{ keep := [0, 3] }, List Int, fun x => U.stref04_Pad_2 b x, fun x0 x => U.Iref04_Pad_2 b  x, fun x => (b.length + 1 + U.zeros b.length) - x.length⟩
def lpref04_Pad_6 (b : List Int) : Vc.Loop := ⟨{ keep := [3, 4, 5] }, List Int × Int × Int, fun x => U.stref04_Pad_6 b x.1 x.2.1 x.2.2, fun x0 x => U.Iref04_Pad_6 b  x.1 x.2.1 x.2.2, fun x => (x.2.2 + 1).toNat⟩
def lpref04_Sum_4 (b : List Int) : Vc.Loop := ⟨{ keep := [2, 3, 4, 5, 6] }, List Int × Int, fun x => U.stref04_Sum_4 b x.1 x.2, fun x0 x => U.Iref04_Sum_4 b  x.1 x.2, fun x => (U.pad b).length - x.2.toNat⟩
def lpref04_Sum_9 (b : List Int) : Vc.Loop := ⟨{ keep := [2, 3, 7, 8] }, List Int × List Int × Int, fun x => U.stref04_Sum_9 b x.1 x.2.1 x.2.2, fun x0 x => U.Iref04_Sum_9 b  x.1 x.2.1 x.2.2, fun x => 32 - x.2.2.toNat⟩
def lpref04_Text_3 (s : List Int) : Vc.Loop := ⟨{ keep := [1, 3, 4] }, List Int × Int, fun x => U.stref04_Text_3 s x.1 x.2, fun x0 x => U.Iref04_Text_3 s  x.1 x.2, fun x => 32 - x.2.toNat⟩
def dref03_Same (a : List Int) (b : List Int) : Done := ⟨[], .one (.bool (decide (a = b))), [], []⟩
def sref03_Same : Vc.Sum := .pure [tBytes, tBytes] false fun x => dref03_Same x.1 x.2
def Lref03_Same (a : List Int) (b : List Int) : Nat → List V → Nat → Option Vc.Loop := noKeep
def Qref03_Same : List (Nat × Ent) := (17, .sum sref03_Same) :: Qlaw04_alive
def smath_bits_Add64 : Vc.Sum := .pure [.int .u64, .int .u64, .int .u64] false fun x => dAdd64 x.1 x.2.1 x.2.2
def Qmath_bits_Add64 : List (Nat × Ent) := (37, .sum smath_bits_Add64) :: Qref03_Same
def dmath_bits_Mul64 (x : Int) (y : Int) : Done := rTwo (U.mulHi x y) (U.mulLo x y)
def smath_bits_Mul64 : Vc.Sum := .pure [.int .u64, .int .u64] false fun x => dmath_bits_Mul64 x.1 x.2
def Lmath_bits_Mul64 (x : Int) (y : Int) : Nat → List V → Nat → Option Vc.Loop := noKeep
def Qmath_bits_Mul64 : List (Nat × Ent) := (32, .sum smath_bits_Mul64) :: Qmath_bits_Add64
def dref04_prime (n : Int) : Done := ⟨[0 ≤ n ∧ n ≤ 400], .one (.bool (U.prime n)), [], []⟩
def sref04_prime : Vc.Sum := .pure [.int .u64] false fun x => dref04_prime x
def Lref04_prime (n : Int) : Nat → List V → Nat → Option Vc.Loop := fun f v k => cond (Nat.beq f 31 && Nat.beq k 2) (some (lpref04_prime_2 n)) <| none
def Qref04_prime : List (Nat × Ent) := (31, .sum sref04_prime) :: Qmath_bits_Mul64
def dref04_primes (n : Int) : Done := ⟨[0 ≤ n ∧ n ≤ 64], .one (.psl true (.int .u64) (U.plist.take n.toNat)), [], []⟩
def sref04_primes : Vc.Sum := .pure [.int .i64] false fun x => dref04_primes x
def Lref04_primes (n : Int) : Nat → List V → Nat → Option Vc.Loop := fun f v k => cond (Nat.beq f 23 && Nat.beq k 3) (some (lpref04_primes_3 n)) <| none
def Qref04_primes : List (Nat × Ent) := (23, .sum sref04_primes) :: Qref04_prime
def dref04_square (p : Int) : Done := rK .u32 (U.square p)
def sref04_square : Vc.Sum := .pure [.int .u64] false fun x => dref04_square x
def Lref04_square (p : Int) : Nat → List V → Nat → Option Vc.Loop := fun f v k => cond (Nat.beq f 24 && Nat.beq k 3) (some (lpref04_square_3 p)) <| none
def Qref04_square : List (Nat × Ent) := (24, .sum sref04_square) :: Qref04_primes
def dref04_cube (p : Int) : Done := rK .u32 (U.cube p)
def sref04_cube : Vc.Sum := .pure [.int .u64] false fun x => dref04_cube x
def Lref04_cube (p : Int) : Nat → List V → Nat → Option Vc.Loop := fun f v k => cond (Nat.beq f 33 && Nat.beq k 3) (some (lpref04_cube_3 p)) <| none
def Qref04_cube : List (Nat × Ent) := (33, .sum sref04_cube) :: Qref04_square
def dref04_constants  : Done := ⟨[], .v (.of true tW64 U.consts), [], []⟩
def sref04_constants : Vc.Sum := .pure [] false fun _ => dref04_constants 
def Lref04_constants  : Nat → List V → Nat → Option Vc.Loop := fun f v k => cond (Nat.beq f 25 && Nat.beq k 4) (some (lpref04_constants_4)) <| none
def Qref04_constants : List (Nat × Ent) := (25, .sum sref04_constants) :: Qref04_cube
def dref04_First  : Done := ⟨[], .v (.of true tW8 U.first8), [], []⟩
def sref04_First : Vc.Sum := .pure [] false fun _ => dref04_First 
def Lref04_First  : Nat → List V → Nat → Option Vc.Loop := fun f v k => cond (Nat.beq f 12 && Nat.beq k 4) (some (lpref04_First_4)) <| none
def Qref04_First : List (Nat × Ent) := (12, .sum sref04_First) :: Qref04_constants
def dref04_rot (x : Int) (n : Int) : Done := rK .u32 (U.rot x n)
def sref04_rot : Vc.Sum := .pure [.int .u32, .int .u64] false fun x => dref04_rot x.1 x.2
def Lref04_rot (x : Int) (n : Int) : Nat → List V → Nat → Option Vc.Loop := noKeep
def Qref04_rot : List (Nat × Ent) := (34, .sum sref04_rot) :: Qref04_First
def dref04_step (h : List Int) (b : List Int) (kk : List Int) : Done := ⟨[64 ≤ b.length], .v (.of false tW8 (U.rstep h b kk)), [], []⟩
def sref04_step : Vc.Sum := .pure [tW8, tBytes, tW64] true fun x => dref04_step x.1 x.2.1 x.2.2
def Lref04_step (h : List Int) (b : List Int) (kk : List Int) : Nat → List V → Nat → Option Vc.Loop := fun f v k => cond (Nat.beq f 26 && Nat.beq k 3) (some (lpref04_step_3 h b kk)) <| cond (Nat.beq f 26 && Nat.beq k 6) (some (lpref04_step_6 h b kk)) <| cond (Nat.beq f 26 && Nat.beq k 10) (some (lpref04_step_10 h b kk)) <| cond (Nat.beq f 26 && Nat.beq k 16) (some (lpref04_step_16 h b kk)) <| cond (Nat.beq f 26 && Nat.beq k 23) (some (lpref04_step_23 h b kk)) <| none
def Qref04_step : List (Nat × Ent) := (26, .sum sref04_step) :: Qref04_rot
def dref04_Step (h : List Int) (b : List Int) : Done := ⟨[], .v (.of false tW8 (U.rstep h b U.consts)), [], []⟩
def sref04_Step : Vc.Sum := .pure [tW8, tK64] true fun x => dref04_Step x.1 x.2
def Lref04_Step (h : List Int) (b : List Int) : Nat → List V → Nat → Option Vc.Loop := noKeep
def Qref04_Step : List (Nat × Ent) := (19, .sum sref04_Step) :: Qref04_step
def dref04_Pad (b : List Int) : Done := ⟨[b.length ≤ 1000000000000], .one (.psl true (.int .u8) (U.pad b)), [], []⟩
def sref04_Pad : Vc.Sum := .pure [tBytes] false fun x => dref04_Pad x
def Lref04_Pad (b : List Int) : Nat → List V → Nat → Option Vc.Loop := fun f v k => cond (Nat.beq f 18 && Nat.beq k 2) (some (lpref04_Pad_2 b)) <| cond (Nat.beq f 18 && Nat.beq k 6) (some (lpref04_Pad_6 b)) <| none
def Qref04_Pad : List (Nat × Ent) := (18, .sum sref04_Pad) :: Qref04_Step
def dref04_Sum (b : List Int) : Done := ⟨[b.length ≤ 1000000000000], .v (.of true tS32 (U.out32 (U.rsums b))), [], []⟩
def sref04_Sum : Vc.Sum := .pure [tBytes] false fun x => dref04_Sum x
def Lref04_Sum (b : List Int) : Nat → List V → Nat → Option Vc.Loop := fun f v k => cond (Nat.beq f 14 && Nat.beq k 4) (some (lpref04_Sum_4 b)) <| cond (Nat.beq f 14 && Nat.beq k 9) (some (lpref04_Sum_9 b)) <| none
def Qref04_Sum : List (Nat × Ent) := (14, .sum sref04_Sum) :: Qref04_Pad
def dref04_Text (s : List Int) : Done := ⟨[], .one (.str (U.text s)), [], []⟩
def sref04_Text : Vc.Sum := .pure [tS32] false fun x => dref04_Text x
def Lref04_Text (s : List Int) : Nat → List V → Nat → Option Vc.Loop := fun f v k => cond (Nat.beq f 16 && Nat.beq k 3) (some (lpref04_Text_3 s)) <| none
def Qref04_Text : List (Nat × Ent) := (16, .sum sref04_Text) :: Qref04_Sum
end Go.Proofs.YtoecpaccpcnkcaaDoor
/- What is owed of the functions, in plain Lean (printed by a program of this project). -/
set_option maxRecDepth 100000
set_option linter.unusedVariables false
namespace Go.Proofs.YtoecpaccpcnkcaaDoor
open Go.Vc
def vcref03_Same (a : List Int) (b : List Int) : Prop := a.beq b = decide (a = b) ∧ True
def vcmath_bits_Mul64 (x : Int) (y : Int) : Prop :=
  (0 : Int) ≤ (32 : Int) ∧
    (0 : Int) ≤ (32 : Int) ∧
      (0 : Int) ≤ (32 : Int) ∧
        (0 : Int) ≤ (32 : Int) ∧
          (0 : Int) ≤ (32 : Int) ∧
            IntKind.u64.wrap
                  ((IntKind.u64.wrap
                        ((IntKind.u64.wrap
                              ((x.fdiv
                                    (Int.pow (2 : Int)
                                      (if Int.toNat (32 : Int) ≤ IntKind.u64.bits then Int.toNat (32 : Int)
                                      else IntKind.u64.bits))).mul
                                (y.fdiv
                                  (Int.pow (2 : Int)
                                    (if Int.toNat (32 : Int) ≤ IntKind.u64.bits then Int.toNat (32 : Int)
                                    else IntKind.u64.bits))))).add
                          ((IntKind.u64.wrap
                                ((IntKind.u64.wrap
                                      ((x.fdiv
                                            (Int.pow (2 : Int)
                                              (if Int.toNat (32 : Int) ≤ IntKind.u64.bits then Int.toNat (32 : Int)
                                              else IntKind.u64.bits))).mul
                                        (IntKind.u64.wrap
                                          (↑((BitVec.ofInt IntKind.u64.bits y).and
                                                  (BitVec.ofInt IntKind.u64.bits (4294967295 : Int))).toNat :
                                            Int)))).add
                                  ((IntKind.u64.wrap
                                        ((IntKind.u64.wrap
                                              (↑((BitVec.ofInt IntKind.u64.bits x).and
                                                      (BitVec.ofInt IntKind.u64.bits (4294967295 : Int))).toNat :
                                                Int)).mul
                                          (IntKind.u64.wrap
                                            (↑((BitVec.ofInt IntKind.u64.bits y).and
                                                    (BitVec.ofInt IntKind.u64.bits (4294967295 : Int))).toNat :
                                              Int)))).fdiv
                                    (Int.pow (2 : Int)
                                      (if Int.toNat (32 : Int) ≤ IntKind.u64.bits then Int.toNat (32 : Int)
                                      else IntKind.u64.bits))))).fdiv
                            (Int.pow (2 : Int)
                              (if Int.toNat (32 : Int) ≤ IntKind.u64.bits then Int.toNat (32 : Int)
                              else IntKind.u64.bits))))).add
                    ((IntKind.u64.wrap
                          ((IntKind.u64.wrap
                                (↑((BitVec.ofInt IntKind.u64.bits
                                            (IntKind.u64.wrap
                                              ((IntKind.u64.wrap
                                                    ((x.fdiv
                                                          (Int.pow (2 : Int)
                                                            (if Int.toNat (32 : Int) ≤ IntKind.u64.bits then
                                                              Int.toNat (32 : Int)
                                                            else IntKind.u64.bits))).mul
                                                      (IntKind.u64.wrap
                                                        (↑((BitVec.ofInt IntKind.u64.bits y).and
                                                                (BitVec.ofInt IntKind.u64.bits
                                                                  (4294967295 : Int))).toNat :
                                                          Int)))).add
                                                ((IntKind.u64.wrap
                                                      ((IntKind.u64.wrap
                                                            (↑((BitVec.ofInt IntKind.u64.bits x).and
                                                                    (BitVec.ofInt IntKind.u64.bits
                                                                      (4294967295 : Int))).toNat :
                                                              Int)).mul
                                                        (IntKind.u64.wrap
                                                          (↑((BitVec.ofInt IntKind.u64.bits y).and
                                                                  (BitVec.ofInt IntKind.u64.bits
                                                                    (4294967295 : Int))).toNat :
                                                            Int)))).fdiv
                                                  (Int.pow (2 : Int)
                                                    (if Int.toNat (32 : Int) ≤ IntKind.u64.bits then
                                                      Int.toNat (32 : Int)
                                                    else IntKind.u64.bits)))))).and
                                        (BitVec.ofInt IntKind.u64.bits (4294967295 : Int))).toNat :
                                  Int)).add
                            (IntKind.u64.wrap
                              ((IntKind.u64.wrap
                                    (↑((BitVec.ofInt IntKind.u64.bits x).and
                                            (BitVec.ofInt IntKind.u64.bits (4294967295 : Int))).toNat :
                                      Int)).mul
                                (y.fdiv
                                  (Int.pow (2 : Int)
                                    (if Int.toNat (32 : Int) ≤ IntKind.u64.bits then Int.toNat (32 : Int)
                                    else IntKind.u64.bits))))))).fdiv
                      (Int.pow (2 : Int)
                        (if Int.toNat (32 : Int) ≤ IntKind.u64.bits then Int.toNat (32 : Int)
                        else IntKind.u64.bits)))) =
                U.mulHi x y ∧
              IntKind.u64.wrap (x.mul y) = U.mulLo x y ∧ True
def vcref04_prime (n : Int) : Prop :=
  ∃ (x0 : Int),
    (U.stref04_prime_2 n (2 : Int) = U.stref04_prime_2 n x0 ∧ U.Iref04_prime_2 n x0) ∧
      ∀ (x : Int),
        U.Iref04_prime_2 n x →
          bif decide (IntKind.u64.wrap (x.mul x) ≤ n) then
            x ≠ (0 : Int) ∧
              bif decide (n.tmod x = (0 : Int)) then false = U.prime n ∧ True
              else
                ∃ (y : Int),
                  U.stref04_prime_2 n (IntKind.u64.wrap (x.add (1 : Int))) = U.stref04_prime_2 n y ∧
                    U.Iref04_prime_2 n y ∧ (Int.sub (22 : Int) y).toNat < (Int.sub (22 : Int) x).toNat
          else decide (n ≥ (2 : Int)) = U.prime n ∧ True
def vcref04_primes (n : Int) : Prop :=
  ∃ (x0 : List Int × Int),
    (U.stref04_primes_3 n [] (2 : Int) = U.stref04_primes_3 n x0.fst x0.snd ∧ U.Iref04_primes_3 n x0.fst x0.snd) ∧
      ∀ (x : List Int × Int),
        U.Iref04_primes_3 n x.fst x.snd →
          bif decide ((↑x.fst.length : Int) < n) then
            ((0 : Int) ≤ x.snd ∧ x.snd ≤ (400 : Int)) ∧
              bif U.prime x.snd then
                (x.fst.length.add ((1 : Nat))).mul (8 : Nat) ≤ (140737488355328 : Nat) ∧
                  x.fst.length.add ((1 : Nat)) ≤ maxLen ∧
                    ∃ (y : List Int × Int),
                      U.stref04_primes_3 n (x.fst.append ([(0 : Int)].set (0 : Nat) x.snd))
                            (IntKind.u64.wrap (x.snd.add (1 : Int))) =
                          U.stref04_primes_3 n y.fst y.snd ∧
                        U.Iref04_primes_3 n y.fst y.snd ∧
                          (Int.sub (312 : Int) y.snd).toNat < (Int.sub (312 : Int) x.snd).toNat
              else
                ∃ (y : List Int × Int),
                  U.stref04_primes_3 n x.fst (IntKind.u64.wrap (x.snd.add (1 : Int))) =
                      U.stref04_primes_3 n y.fst y.snd ∧
                    U.Iref04_primes_3 n y.fst y.snd ∧
                      (Int.sub (312 : Int) y.snd).toNat < (Int.sub (312 : Int) x.snd).toNat
          else x.fst = List.take n.toNat U.plist ∧ True
def vcref04_square (p : Int) : Prop :=
  ∃ (x0 : Int × Int),
    (U.stref04_square_3 p (0 : Int) (36 : Int) = U.stref04_square_3 p x0.fst x0.snd ∧
        U.Iref04_square_3 p x0.fst x0.snd) ∧
      ∀ (x : Int × Int),
        U.Iref04_square_3 p x.fst x.snd →
          bif decide (x.snd ≥ (0 : Int)) then
            (0 : Int) ≤ IntKind.u64.wrap x.snd ∧
              bif
                  bif
                      decide
                        (U.mulHi
                            (IntKind.u64.wrap
                              (x.fst.add
                                (IntKind.u64.wrap
                                  (Int.mul (1 : Int)
                                    (Int.pow (2 : Int)
                                      (if (IntKind.u64.wrap x.snd).toNat ≤ IntKind.u64.bits then
                                        (IntKind.u64.wrap x.snd).toNat
                                      else IntKind.u64.bits))))))
                            (IntKind.u64.wrap
                              (x.fst.add
                                (IntKind.u64.wrap
                                  (Int.mul (1 : Int)
                                    (Int.pow (2 : Int)
                                      (if (IntKind.u64.wrap x.snd).toNat ≤ IntKind.u64.bits then
                                        (IntKind.u64.wrap x.snd).toNat
                                      else IntKind.u64.bits)))))) <
                          p) then
                    true
                  else
                    bif
                        decide
                          (U.mulHi
                              (IntKind.u64.wrap
                                (x.fst.add
                                  (IntKind.u64.wrap
                                    (Int.mul (1 : Int)
                                      (Int.pow (2 : Int)
                                        (if (IntKind.u64.wrap x.snd).toNat ≤ IntKind.u64.bits then
                                          (IntKind.u64.wrap x.snd).toNat
                                        else IntKind.u64.bits))))))
                              (IntKind.u64.wrap
                                (x.fst.add
                                  (IntKind.u64.wrap
                                    (Int.mul (1 : Int)
                                      (Int.pow (2 : Int)
                                        (if (IntKind.u64.wrap x.snd).toNat ≤ IntKind.u64.bits then
                                          (IntKind.u64.wrap x.snd).toNat
                                        else IntKind.u64.bits)))))) =
                            p) then
                      decide
                        (U.mulLo
                            (IntKind.u64.wrap
                              (x.fst.add
                                (IntKind.u64.wrap
                                  (Int.mul (1 : Int)
                                    (Int.pow (2 : Int)
                                      (if (IntKind.u64.wrap x.snd).toNat ≤ IntKind.u64.bits then
                                        (IntKind.u64.wrap x.snd).toNat
                                      else IntKind.u64.bits))))))
                            (IntKind.u64.wrap
                              (x.fst.add
                                (IntKind.u64.wrap
                                  (Int.mul (1 : Int)
                                    (Int.pow (2 : Int)
                                      (if (IntKind.u64.wrap x.snd).toNat ≤ IntKind.u64.bits then
                                        (IntKind.u64.wrap x.snd).toNat
                                      else IntKind.u64.bits)))))) =
                          (0 : Int))
                    else false then
                ∃ (y : Int × Int),
                  U.stref04_square_3 p
                        (IntKind.u64.wrap
                          (x.fst.add
                            (IntKind.u64.wrap
                              (Int.mul (1 : Int)
                                (Int.pow (2 : Int)
                                  (if (IntKind.u64.wrap x.snd).toNat ≤ IntKind.u64.bits then
                                    (IntKind.u64.wrap x.snd).toNat
                                  else IntKind.u64.bits))))))
                        (IntKind.i64.wrap (x.snd.sub (1 : Int))) =
                      U.stref04_square_3 p y.fst y.snd ∧
                    U.Iref04_square_3 p y.fst y.snd ∧ (y.snd.add (1 : Int)).toNat < (x.snd.add (1 : Int)).toNat
              else
                ∃ (y : Int × Int),
                  U.stref04_square_3 p x.fst (IntKind.i64.wrap (x.snd.sub (1 : Int))) =
                      U.stref04_square_3 p y.fst y.snd ∧
                    U.Iref04_square_3 p y.fst y.snd ∧ (y.snd.add (1 : Int)).toNat < (x.snd.add (1 : Int)).toNat
          else IntKind.u32.wrap x.fst = U.square p ∧ True
def vcref04_cube (p : Int) : Prop :=
  ∃ (x0 : Int × Int),
    (U.stref04_cube_3 p (0 : Int) (36 : Int) = U.stref04_cube_3 p x0.fst x0.snd ∧ U.Iref04_cube_3 p x0.fst x0.snd) ∧
      ∀ (x : Int × Int),
        U.Iref04_cube_3 p x.fst x.snd →
          bif decide (x.snd ≥ (0 : Int)) then
            (0 : Int) ≤ IntKind.u64.wrap x.snd ∧
              ((0 : Int) ≤ (0 : Int) ∧ (0 : Int) ≤ (1 : Int)) ∧
                (0 : Int) ≤ (32 : Int) ∧
                  bif
                      bif
                          decide
                            (IntKind.u64.wrap
                                ((U.mulHi
                                      (U.mulHi
                                        (IntKind.u64.wrap
                                          (x.fst.add
                                            (IntKind.u64.wrap
                                              (Int.mul (1 : Int)
                                                (Int.pow (2 : Int)
                                                  (if (IntKind.u64.wrap x.snd).toNat ≤ IntKind.u64.bits then
                                                    (IntKind.u64.wrap x.snd).toNat
                                                  else IntKind.u64.bits))))))
                                        (IntKind.u64.wrap
                                          (x.fst.add
                                            (IntKind.u64.wrap
                                              (Int.mul (1 : Int)
                                                (Int.pow (2 : Int)
                                                  (if (IntKind.u64.wrap x.snd).toNat ≤ IntKind.u64.bits then
                                                    (IntKind.u64.wrap x.snd).toNat
                                                  else IntKind.u64.bits)))))))
                                      (IntKind.u64.wrap
                                        (x.fst.add
                                          (IntKind.u64.wrap
                                            (Int.mul (1 : Int)
                                              (Int.pow (2 : Int)
                                                (if (IntKind.u64.wrap x.snd).toNat ≤ IntKind.u64.bits then
                                                  (IntKind.u64.wrap x.snd).toNat
                                                else IntKind.u64.bits))))))).add
                                  ((((U.mulHi
                                                (U.mulLo
                                                  (IntKind.u64.wrap
                                                    (x.fst.add
                                                      (IntKind.u64.wrap
                                                        (Int.mul (1 : Int)
                                                          (Int.pow (2 : Int)
                                                            (if (IntKind.u64.wrap x.snd).toNat ≤ IntKind.u64.bits then
                                                              (IntKind.u64.wrap x.snd).toNat
                                                            else IntKind.u64.bits))))))
                                                  (IntKind.u64.wrap
                                                    (x.fst.add
                                                      (IntKind.u64.wrap
                                                        (Int.mul (1 : Int)
                                                          (Int.pow (2 : Int)
                                                            (if (IntKind.u64.wrap x.snd).toNat ≤ IntKind.u64.bits then
                                                              (IntKind.u64.wrap x.snd).toNat
                                                            else IntKind.u64.bits)))))))
                                                (IntKind.u64.wrap
                                                  (x.fst.add
                                                    (IntKind.u64.wrap
                                                      (Int.mul (1 : Int)
                                                        (Int.pow (2 : Int)
                                                          (if (IntKind.u64.wrap x.snd).toNat ≤ IntKind.u64.bits then
                                                            (IntKind.u64.wrap x.snd).toNat
                                                          else IntKind.u64.bits))))))).add
                                            (U.mulLo
                                              (U.mulHi
                                                (IntKind.u64.wrap
                                                  (x.fst.add
                                                    (IntKind.u64.wrap
                                                      (Int.mul (1 : Int)
                                                        (Int.pow (2 : Int)
                                                          (if (IntKind.u64.wrap x.snd).toNat ≤ IntKind.u64.bits then
                                                            (IntKind.u64.wrap x.snd).toNat
                                                          else IntKind.u64.bits))))))
                                                (IntKind.u64.wrap
                                                  (x.fst.add
                                                    (IntKind.u64.wrap
                                                      (Int.mul (1 : Int)
                                                        (Int.pow (2 : Int)
                                                          (if (IntKind.u64.wrap x.snd).toNat ≤ IntKind.u64.bits then
                                                            (IntKind.u64.wrap x.snd).toNat
                                                          else IntKind.u64.bits)))))))
                                              (IntKind.u64.wrap
                                                (x.fst.add
                                                  (IntKind.u64.wrap
                                                    (Int.mul (1 : Int)
                                                      (Int.pow (2 : Int)
                                                        (if (IntKind.u64.wrap x.snd).toNat ≤ IntKind.u64.bits then
                                                          (IntKind.u64.wrap x.snd).toNat
                                                        else IntKind.u64.bits)))))))).add
                                        (0 : Int)).ediv
                                    (18446744073709551616 : Int))) =
                              (0 : Int)) then
                        bif
                            decide
                              ((((U.mulHi
                                              (U.mulLo
                                                (IntKind.u64.wrap
                                                  (x.fst.add
                                                    (IntKind.u64.wrap
                                                      (Int.mul (1 : Int)
                                                        (Int.pow (2 : Int)
                                                          (if (IntKind.u64.wrap x.snd).toNat ≤ IntKind.u64.bits then
                                                            (IntKind.u64.wrap x.snd).toNat
                                                          else IntKind.u64.bits))))))
                                                (IntKind.u64.wrap
                                                  (x.fst.add
                                                    (IntKind.u64.wrap
                                                      (Int.mul (1 : Int)
                                                        (Int.pow (2 : Int)
                                                          (if (IntKind.u64.wrap x.snd).toNat ≤ IntKind.u64.bits then
                                                            (IntKind.u64.wrap x.snd).toNat
                                                          else IntKind.u64.bits)))))))
                                              (IntKind.u64.wrap
                                                (x.fst.add
                                                  (IntKind.u64.wrap
                                                    (Int.mul (1 : Int)
                                                      (Int.pow (2 : Int)
                                                        (if (IntKind.u64.wrap x.snd).toNat ≤ IntKind.u64.bits then
                                                          (IntKind.u64.wrap x.snd).toNat
                                                        else IntKind.u64.bits))))))).add
                                          (U.mulLo
                                            (U.mulHi
                                              (IntKind.u64.wrap
                                                (x.fst.add
                                                  (IntKind.u64.wrap
                                                    (Int.mul (1 : Int)
                                                      (Int.pow (2 : Int)
                                                        (if (IntKind.u64.wrap x.snd).toNat ≤ IntKind.u64.bits then
                                                          (IntKind.u64.wrap x.snd).toNat
                                                        else IntKind.u64.bits))))))
                                              (IntKind.u64.wrap
                                                (x.fst.add
                                                  (IntKind.u64.wrap
                                                    (Int.mul (1 : Int)
                                                      (Int.pow (2 : Int)
                                                        (if (IntKind.u64.wrap x.snd).toNat ≤ IntKind.u64.bits then
                                                          (IntKind.u64.wrap x.snd).toNat
                                                        else IntKind.u64.bits)))))))
                                            (IntKind.u64.wrap
                                              (x.fst.add
                                                (IntKind.u64.wrap
                                                  (Int.mul (1 : Int)
                                                    (Int.pow (2 : Int)
                                                      (if (IntKind.u64.wrap x.snd).toNat ≤ IntKind.u64.bits then
                                                        (IntKind.u64.wrap x.snd).toNat
                                                      else IntKind.u64.bits)))))))).add
                                      (0 : Int)).emod
                                  (18446744073709551616 : Int) <
                                IntKind.u64.wrap
                                  (p.mul
                                    (Int.pow (2 : Int)
                                      (if Int.toNat (32 : Int) ≤ IntKind.u64.bits then Int.toNat (32 : Int)
                                      else IntKind.u64.bits)))) then
                          true
                        else
                          bif
                              decide
                                ((((U.mulHi
                                                (U.mulLo
                                                  (IntKind.u64.wrap
                                                    (x.fst.add
                                                      (IntKind.u64.wrap
                                                        (Int.mul (1 : Int)
                                                          (Int.pow (2 : Int)
                                                            (if (IntKind.u64.wrap x.snd).toNat ≤ IntKind.u64.bits then
                                                              (IntKind.u64.wrap x.snd).toNat
                                                            else IntKind.u64.bits))))))
                                                  (IntKind.u64.wrap
                                                    (x.fst.add
                                                      (IntKind.u64.wrap
                                                        (Int.mul (1 : Int)
                                                          (Int.pow (2 : Int)
                                                            (if (IntKind.u64.wrap x.snd).toNat ≤ IntKind.u64.bits then
                                                              (IntKind.u64.wrap x.snd).toNat
                                                            else IntKind.u64.bits)))))))
                                                (IntKind.u64.wrap
                                                  (x.fst.add
                                                    (IntKind.u64.wrap
                                                      (Int.mul (1 : Int)
                                                        (Int.pow (2 : Int)
                                                          (if (IntKind.u64.wrap x.snd).toNat ≤ IntKind.u64.bits then
                                                            (IntKind.u64.wrap x.snd).toNat
                                                          else IntKind.u64.bits))))))).add
                                            (U.mulLo
                                              (U.mulHi
                                                (IntKind.u64.wrap
                                                  (x.fst.add
                                                    (IntKind.u64.wrap
                                                      (Int.mul (1 : Int)
                                                        (Int.pow (2 : Int)
                                                          (if (IntKind.u64.wrap x.snd).toNat ≤ IntKind.u64.bits then
                                                            (IntKind.u64.wrap x.snd).toNat
                                                          else IntKind.u64.bits))))))
                                                (IntKind.u64.wrap
                                                  (x.fst.add
                                                    (IntKind.u64.wrap
                                                      (Int.mul (1 : Int)
                                                        (Int.pow (2 : Int)
                                                          (if (IntKind.u64.wrap x.snd).toNat ≤ IntKind.u64.bits then
                                                            (IntKind.u64.wrap x.snd).toNat
                                                          else IntKind.u64.bits)))))))
                                              (IntKind.u64.wrap
                                                (x.fst.add
                                                  (IntKind.u64.wrap
                                                    (Int.mul (1 : Int)
                                                      (Int.pow (2 : Int)
                                                        (if (IntKind.u64.wrap x.snd).toNat ≤ IntKind.u64.bits then
                                                          (IntKind.u64.wrap x.snd).toNat
                                                        else IntKind.u64.bits)))))))).add
                                        (0 : Int)).emod
                                    (18446744073709551616 : Int) =
                                  IntKind.u64.wrap
                                    (p.mul
                                      (Int.pow (2 : Int)
                                        (if Int.toNat (32 : Int) ≤ IntKind.u64.bits then Int.toNat (32 : Int)
                                        else IntKind.u64.bits)))) then
                            decide
                              (U.mulLo
                                  (U.mulLo
                                    (IntKind.u64.wrap
                                      (x.fst.add
                                        (IntKind.u64.wrap
                                          (Int.mul (1 : Int)
                                            (Int.pow (2 : Int)
                                              (if (IntKind.u64.wrap x.snd).toNat ≤ IntKind.u64.bits then
                                                (IntKind.u64.wrap x.snd).toNat
                                              else IntKind.u64.bits))))))
                                    (IntKind.u64.wrap
                                      (x.fst.add
                                        (IntKind.u64.wrap
                                          (Int.mul (1 : Int)
                                            (Int.pow (2 : Int)
                                              (if (IntKind.u64.wrap x.snd).toNat ≤ IntKind.u64.bits then
                                                (IntKind.u64.wrap x.snd).toNat
                                              else IntKind.u64.bits)))))))
                                  (IntKind.u64.wrap
                                    (x.fst.add
                                      (IntKind.u64.wrap
                                        (Int.mul (1 : Int)
                                          (Int.pow (2 : Int)
                                            (if (IntKind.u64.wrap x.snd).toNat ≤ IntKind.u64.bits then
                                              (IntKind.u64.wrap x.snd).toNat
                                            else IntKind.u64.bits)))))) =
                                (0 : Int))
                          else false
                      else false then
                    ∃ (y : Int × Int),
                      U.stref04_cube_3 p
                            (IntKind.u64.wrap
                              (x.fst.add
                                (IntKind.u64.wrap
                                  (Int.mul (1 : Int)
                                    (Int.pow (2 : Int)
                                      (if (IntKind.u64.wrap x.snd).toNat ≤ IntKind.u64.bits then
                                        (IntKind.u64.wrap x.snd).toNat
                                      else IntKind.u64.bits))))))
                            (IntKind.i64.wrap (x.snd.sub (1 : Int))) =
                          U.stref04_cube_3 p y.fst y.snd ∧
                        U.Iref04_cube_3 p y.fst y.snd ∧ (y.snd.add (1 : Int)).toNat < (x.snd.add (1 : Int)).toNat
                  else
                    ∃ (y : Int × Int),
                      U.stref04_cube_3 p x.fst (IntKind.i64.wrap (x.snd.sub (1 : Int))) =
                          U.stref04_cube_3 p y.fst y.snd ∧
                        U.Iref04_cube_3 p y.fst y.snd ∧ (y.snd.add (1 : Int)).toNat < (x.snd.add (1 : Int)).toNat
          else IntKind.u32.wrap x.fst = U.cube p ∧ True
def vcref04_constants  : Prop :=
  ((0 : Int) ≤ (64 : Int) ∧ (64 : Int) ≤ (64 : Int)) ∧
    ∃ (x0 : List Int × Int),
      (U.stref04_constants_4
              [(0 : Int), (0 : Int), (0 : Int), (0 : Int), (0 : Int), (0 : Int), (0 : Int), (0 : Int), (0 : Int),
                (0 : Int), (0 : Int), (0 : Int), (0 : Int), (0 : Int), (0 : Int), (0 : Int), (0 : Int), (0 : Int),
                (0 : Int), (0 : Int), (0 : Int), (0 : Int), (0 : Int), (0 : Int), (0 : Int), (0 : Int), (0 : Int),
                (0 : Int), (0 : Int), (0 : Int), (0 : Int), (0 : Int), (0 : Int), (0 : Int), (0 : Int), (0 : Int),
                (0 : Int), (0 : Int), (0 : Int), (0 : Int), (0 : Int), (0 : Int), (0 : Int), (0 : Int), (0 : Int),
                (0 : Int), (0 : Int), (0 : Int), (0 : Int), (0 : Int), (0 : Int), (0 : Int), (0 : Int), (0 : Int),
                (0 : Int), (0 : Int), (0 : Int), (0 : Int), (0 : Int), (0 : Int), (0 : Int), (0 : Int), (0 : Int),
                (0 : Int)]
              (0 : Int) =
            U.stref04_constants_4 x0.fst x0.snd ∧
          U.Iref04_constants_4 x0.fst x0.snd) ∧
        ∀ (x : List Int × Int),
          U.Iref04_constants_4 x.fst x.snd →
            bif decide (x.snd < (64 : Int)) then
              (0 : Int) ≤ x.snd ∧
                x.snd < (↑((64 : Nat)) : Int) ∧
                  (0 : Int) ≤ x.snd ∧
                    x.snd < (↑(64 : Nat) : Int) ∧
                      x.snd.toNat < (64 : Nat) ∧
                        ∃ (y : List Int × Int),
                          U.stref04_constants_4
                                (x.fst.set x.snd.toNat
                                  (U.cube
                                    ([(2 : Int), (3 : Int), (5 : Int), (7 : Int), (11 : Int), (13 : Int), (17 : Int),
                                          (19 : Int), (23 : Int), (29 : Int), (31 : Int), (37 : Int), (41 : Int),
                                          (43 : Int), (47 : Int), (53 : Int), (59 : Int), (61 : Int), (67 : Int),
                                          (71 : Int), (73 : Int), (79 : Int), (83 : Int), (89 : Int), (97 : Int),
                                          (101 : Int), (103 : Int), (107 : Int), (109 : Int), (113 : Int), (127 : Int),
                                          (131 : Int), (137 : Int), (139 : Int), (149 : Int), (151 : Int), (157 : Int),
                                          (163 : Int), (167 : Int), (173 : Int), (179 : Int), (181 : Int), (191 : Int),
                                          (193 : Int), (197 : Int), (199 : Int), (211 : Int), (223 : Int), (227 : Int),
                                          (229 : Int), (233 : Int), (239 : Int), (241 : Int), (251 : Int), (257 : Int),
                                          (263 : Int), (269 : Int), (271 : Int), (277 : Int), (281 : Int), (283 : Int),
                                          (293 : Int), (307 : Int), (311 : Int)].getD
                                      x.snd.toNat (0 : Int))))
                                (IntKind.i64.wrap (x.snd.add (1 : Int))) =
                              U.stref04_constants_4 y.fst y.snd ∧
                            U.Iref04_constants_4 y.fst y.snd ∧
                              Nat.sub (64 : Nat) y.snd.toNat < Nat.sub (64 : Nat) x.snd.toNat
            else x.fst = U.consts ∧ True
def vcref04_First  : Prop :=
  ((0 : Int) ≤ (8 : Int) ∧ (8 : Int) ≤ (64 : Int)) ∧
    ∃ (x0 : List Int × Int),
      (U.stref04_First_4 [(0 : Int), (0 : Int), (0 : Int), (0 : Int), (0 : Int), (0 : Int), (0 : Int), (0 : Int)]
              (0 : Int) =
            U.stref04_First_4 x0.fst x0.snd ∧
          U.Iref04_First_4 x0.fst x0.snd) ∧
        ∀ (x : List Int × Int),
          U.Iref04_First_4 x.fst x.snd →
            bif decide (x.snd < (8 : Int)) then
              (0 : Int) ≤ x.snd ∧
                x.snd < (↑((8 : Nat)) : Int) ∧
                  (0 : Int) ≤ x.snd ∧
                    x.snd < (↑(8 : Nat) : Int) ∧
                      x.snd.toNat < (8 : Nat) ∧
                        ∃ (y : List Int × Int),
                          U.stref04_First_4
                                (x.fst.set x.snd.toNat
                                  (U.square
                                    ([(2 : Int), (3 : Int), (5 : Int), (7 : Int), (11 : Int), (13 : Int), (17 : Int),
                                          (19 : Int)].getD
                                      x.snd.toNat (0 : Int))))
                                (IntKind.i64.wrap (x.snd.add (1 : Int))) =
                              U.stref04_First_4 y.fst y.snd ∧
                            U.Iref04_First_4 y.fst y.snd ∧ Nat.sub (8 : Nat) y.snd.toNat < Nat.sub (8 : Nat) x.snd.toNat
            else x.fst = U.first8 ∧ True
def vcref04_rot (x : Int) (n : Int) : Prop :=
  (0 : Int) ≤ n ∧
    (0 : Int) ≤ IntKind.u64.wrap (Int.sub (32 : Int) n) ∧
      IntKind.u32.wrap
            ((x.fdiv (Int.pow (2 : Int) (if n.toNat ≤ IntKind.u32.bits then n.toNat else IntKind.u32.bits))).add
              (IntKind.u32.wrap
                (x.mul
                  (Int.pow (2 : Int)
                    (if (IntKind.u64.wrap (Int.sub (32 : Int) n)).toNat ≤ IntKind.u32.bits then
                      (IntKind.u64.wrap (Int.sub (32 : Int) n)).toNat
                    else IntKind.u32.bits))))) =
          U.rot x n ∧
        True
def vcref04_step (h : List Int) (b : List Int) (kk : List Int) : Prop :=
  ∃ (x0 : List Int × Int),
    (U.stref04_step_3 h b kk
            [(0 : Int), (0 : Int), (0 : Int), (0 : Int), (0 : Int), (0 : Int), (0 : Int), (0 : Int), (0 : Int),
              (0 : Int), (0 : Int), (0 : Int), (0 : Int), (0 : Int), (0 : Int), (0 : Int), (0 : Int), (0 : Int),
              (0 : Int), (0 : Int), (0 : Int), (0 : Int), (0 : Int), (0 : Int), (0 : Int), (0 : Int), (0 : Int),
              (0 : Int), (0 : Int), (0 : Int), (0 : Int), (0 : Int), (0 : Int), (0 : Int), (0 : Int), (0 : Int),
              (0 : Int), (0 : Int), (0 : Int), (0 : Int), (0 : Int), (0 : Int), (0 : Int), (0 : Int), (0 : Int),
              (0 : Int), (0 : Int), (0 : Int), (0 : Int), (0 : Int), (0 : Int), (0 : Int), (0 : Int), (0 : Int),
              (0 : Int), (0 : Int), (0 : Int), (0 : Int), (0 : Int), (0 : Int), (0 : Int), (0 : Int), (0 : Int),
              (0 : Int)]
            (0 : Int) =
          U.stref04_step_3 h b kk x0.fst x0.snd ∧
        U.Iref04_step_3 h b kk x0.fst x0.snd) ∧
      ∀ (x : List Int × Int),
        U.Iref04_step_3 h b kk x.fst x.snd →
          bif decide (x.snd < (16 : Int)) then
            ∃ (x0 : List Int × Int × Int),
              (U.stref04_step_6 h b kk x.fst x.snd (0 : Int) = U.stref04_step_6 h b kk x0.fst x0.snd.fst x0.snd.snd ∧
                  U.Iref04_step_6 h b kk x0.fst x0.snd.fst x0.snd.snd x0.fst x0.snd.fst x0.snd.snd) ∧
                ∀ (x_1 : List Int × Int × Int),
                  U.Iref04_step_6 h b kk x0.fst x0.snd.fst x0.snd.snd x_1.fst x_1.snd.fst x_1.snd.snd →
                    bif decide (x_1.snd.snd < (4 : Int)) then
                      (0 : Int) ≤ x_1.snd.fst ∧
                        x_1.snd.fst < (↑(64 : Nat) : Int) ∧
                          x_1.snd.fst.toNat < (64 : Nat) ∧
                            (0 : Int) ≤
                                IntKind.i64.wrap ((IntKind.i64.wrap (Int.mul (4 : Int) x_1.snd.fst)).add x_1.snd.snd) ∧
                              IntKind.i64.wrap ((IntKind.i64.wrap (Int.mul (4 : Int) x_1.snd.fst)).add x_1.snd.snd) <
                                  (↑b.length : Int) ∧
                                (0 : Int) ≤ x_1.snd.fst ∧
                                  x_1.snd.fst < (↑(64 : Nat) : Int) ∧
                                    x_1.snd.fst.toNat < (64 : Nat) ∧
                                      ∃ (y : List Int × Int × Int),
                                        U.stref04_step_6 h b kk
                                              (x_1.fst.set x_1.snd.fst.toNat
                                                (IntKind.u32.wrap
                                                  ((IntKind.u32.wrap
                                                        ((x_1.fst.getD x_1.snd.fst.toNat (0 : Int)).mul
                                                          (256 : Int))).add
                                                    (IntKind.u32.wrap
                                                      (b.getD
                                                        (IntKind.i64.wrap
                                                            ((IntKind.i64.wrap (Int.mul (4 : Int) x_1.snd.fst)).add
                                                              x_1.snd.snd)).toNat
                                                        (0 : Int))))))
                                              x_1.snd.fst (IntKind.i64.wrap (x_1.snd.snd.add (1 : Int))) =
                                            U.stref04_step_6 h b kk y.fst y.snd.fst y.snd.snd ∧
                                          U.Iref04_step_6 h b kk x0.fst x0.snd.fst x0.snd.snd y.fst y.snd.fst
                                              y.snd.snd ∧
                                            Nat.sub (4 : Nat) y.snd.snd.toNat < Nat.sub (4 : Nat) x_1.snd.snd.toNat
                    else
                      ∃ (y : List Int × Int),
                        U.stref04_step_3 h b kk x_1.fst (IntKind.i64.wrap (x_1.snd.fst.add (1 : Int))) =
                            U.stref04_step_3 h b kk y.fst y.snd ∧
                          U.Iref04_step_3 h b kk y.fst y.snd ∧
                            Nat.sub (16 : Nat) y.snd.toNat < Nat.sub (16 : Nat) x.snd.toNat
          else
            ∃ (x0 : List Int × Int),
              (U.stref04_step_10 h b kk x.fst (16 : Int) = U.stref04_step_10 h b kk x0.fst x0.snd ∧
                  U.Iref04_step_10 h b kk x0.fst x0.snd) ∧
                ∀ (x : List Int × Int),
                  U.Iref04_step_10 h b kk x.fst x.snd →
                    bif decide (x.snd < (64 : Int)) then
                      (0 : Int) ≤ IntKind.i64.wrap (x.snd.sub (15 : Int)) ∧
                        IntKind.i64.wrap (x.snd.sub (15 : Int)) < (↑(64 : Nat) : Int) ∧
                          (IntKind.i64.wrap (x.snd.sub (15 : Int))).toNat < (64 : Nat) ∧
                            (0 : Int) ≤ IntKind.i64.wrap (x.snd.sub (2 : Int)) ∧
                              IntKind.i64.wrap (x.snd.sub (2 : Int)) < (↑(64 : Nat) : Int) ∧
                                (IntKind.i64.wrap (x.snd.sub (2 : Int))).toNat < (64 : Nat) ∧
                                  (0 : Int) ≤ (10 : Int) ∧
                                    (0 : Int) ≤ IntKind.i64.wrap (x.snd.sub (7 : Int)) ∧
                                      IntKind.i64.wrap (x.snd.sub (7 : Int)) < (↑(64 : Nat) : Int) ∧
                                        (IntKind.i64.wrap (x.snd.sub (7 : Int))).toNat < (64 : Nat) ∧
                                          (0 : Int) ≤ (3 : Int) ∧
                                            (0 : Int) ≤ IntKind.i64.wrap (x.snd.sub (16 : Int)) ∧
                                              IntKind.i64.wrap (x.snd.sub (16 : Int)) < (↑(64 : Nat) : Int) ∧
                                                (IntKind.i64.wrap (x.snd.sub (16 : Int))).toNat < (64 : Nat) ∧
                                                  (0 : Int) ≤ x.snd ∧
                                                    x.snd < (↑(64 : Nat) : Int) ∧
                                                      x.snd.toNat < (64 : Nat) ∧
                                                        ∃ (y : List Int × Int),
                                                          U.stref04_step_10 h b kk
                                                                (x.fst.set x.snd.toNat
                                                                  (IntKind.u32.wrap
                                                                    ((IntKind.u32.wrap
                                                                          ((IntKind.u32.wrap
                                                                                ((IntKind.u32.wrap
                                                                                      (↑((BitVec.ofInt IntKind.u32.bits
                                                                                                  (IntKind.u32.wrap
                                                                                                    (↑((BitVec.ofInt
                                                                                                                IntKind.u32.bits
                                                                                                                (U.rot
                                                                                                                  (x.fst.getD
                                                                                                                    (IntKind.i64.wrap
                                                                                                                        (x.snd.sub
                                                                                                                          (2 :
                                                                                                                            Int))).toNat
                                                                                                                    (0 :
                                                                                                                      Int))
                                                                                                                  (17 :
                                                                                                                    Int))).xor
                                                                                                            (BitVec.ofInt
                                                                                                              IntKind.u32.bits
                                                                                                              (U.rot
                                                                                                                (x.fst.getD
                                                                                                                  (IntKind.i64.wrap
                                                                                                                      (x.snd.sub
                                                                                                                        (2 :
                                                                                                                          Int))).toNat
                                                                                                                  (0 :
                                                                                                                    Int))
                                                                                                                (19 :
                                                                                                                  Int)))).toNat :
                                                                                                      Int))).xor
                                                                                              (BitVec.ofInt
                                                                                                IntKind.u32.bits
                                                                                                ((x.fst.getD
                                                                                                      (IntKind.i64.wrap
                                                                                                          (x.snd.sub
                                                                                                            (2 :
                                                                                                              Int))).toNat
                                                                                                      (0 : Int)).fdiv
                                                                                                  (Int.pow (2 : Int)
                                                                                                    (if
                                                                                                        Int.toNat
                                                                                                            (10 : Int) ≤
                                                                                                          IntKind.u32.bits then
                                                                                                      Int.toNat
                                                                                                        (10 : Int)
                                                                                                    else
                                                                                                      IntKind.u32.bits))))).toNat :
                                                                                        Int)).add
                                                                                  (x.fst.getD
                                                                                    (IntKind.i64.wrap
                                                                                        (x.snd.sub (7 : Int))).toNat
                                                                                    (0 : Int)))).add
                                                                            (IntKind.u32.wrap
                                                                              (↑((BitVec.ofInt IntKind.u32.bits
                                                                                          (IntKind.u32.wrap
                                                                                            (↑((BitVec.ofInt
                                                                                                        IntKind.u32.bits
                                                                                                        (U.rot
                                                                                                          (x.fst.getD
                                                                                                            (IntKind.i64.wrap
                                                                                                                (x.snd.sub
                                                                                                                  (15 :
                                                                                                                    Int))).toNat
                                                                                                            (0 : Int))
                                                                                                          (7 :
                                                                                                            Int))).xor
                                                                                                    (BitVec.ofInt
                                                                                                      IntKind.u32.bits
                                                                                                      (U.rot
                                                                                                        (x.fst.getD
                                                                                                          (IntKind.i64.wrap
                                                                                                              (x.snd.sub
                                                                                                                (15 :
                                                                                                                  Int))).toNat
                                                                                                          (0 : Int))
                                                                                                        (18 :
                                                                                                          Int)))).toNat :
                                                                                              Int))).xor
                                                                                      (BitVec.ofInt IntKind.u32.bits
                                                                                        ((x.fst.getD
                                                                                              (IntKind.i64.wrap
                                                                                                  (x.snd.sub
                                                                                                    (15 : Int))).toNat
                                                                                              (0 : Int)).fdiv
                                                                                          (Int.pow (2 : Int)
                                                                                            (if
                                                                                                Int.toNat (3 : Int) ≤
                                                                                                  IntKind.u32.bits then
                                                                                              Int.toNat (3 : Int)
                                                                                            else
                                                                                              IntKind.u32.bits))))).toNat :
                                                                                Int)))).add
                                                                      (x.fst.getD
                                                                        (IntKind.i64.wrap (x.snd.sub (16 : Int))).toNat
                                                                        (0 : Int)))))
                                                                (IntKind.i64.wrap (x.snd.add (1 : Int))) =
                                                              U.stref04_step_10 h b kk y.fst y.snd ∧
                                                            U.Iref04_step_10 h b kk y.fst y.snd ∧
                                                              Nat.sub (64 : Nat) y.snd.toNat <
                                                                Nat.sub (64 : Nat) x.snd.toNat
                    else
                      ∃ (x0 : List Int × List Int × Int),
                        (U.stref04_step_16 h b kk x.fst h (0 : Int) =
                              U.stref04_step_16 h b kk x0.fst x0.snd.fst x0.snd.snd ∧
                            U.Iref04_step_16 h b kk x0.fst x0.snd.fst x0.snd.snd) ∧
                          ∀ (x : List Int × List Int × Int),
                            U.Iref04_step_16 h b kk x.fst x.snd.fst x.snd.snd →
                              bif decide (x.snd.snd < (64 : Int)) then
                                (0 : Int) ≤ (0 : Int) ∧
                                  (0 : Int) < (↑(8 : Nat) : Int) ∧
                                    Int.toNat (0 : Int) < (8 : Nat) ∧
                                      (0 : Int) ≤ (1 : Int) ∧
                                        (1 : Int) < (↑(8 : Nat) : Int) ∧
                                          Int.toNat (1 : Int) < (8 : Nat) ∧
                                            (0 : Int) ≤ (2 : Int) ∧
                                              (2 : Int) < (↑(8 : Nat) : Int) ∧
                                                Int.toNat (2 : Int) < (8 : Nat) ∧
                                                  (0 : Int) ≤ (4 : Int) ∧
                                                    (4 : Int) < (↑(8 : Nat) : Int) ∧
                                                      Int.toNat (4 : Int) < (8 : Nat) ∧
                                                        (0 : Int) ≤ (5 : Int) ∧
                                                          (5 : Int) < (↑(8 : Nat) : Int) ∧
                                                            Int.toNat (5 : Int) < (8 : Nat) ∧
                                                              (0 : Int) ≤ (6 : Int) ∧
                                                                (6 : Int) < (↑(8 : Nat) : Int) ∧
                                                                  Int.toNat (6 : Int) < (8 : Nat) ∧
                                                                    (0 : Int) ≤ (7 : Int) ∧
                                                                      (7 : Int) < (↑(8 : Nat) : Int) ∧
                                                                        Int.toNat (7 : Int) < (8 : Nat) ∧
                                                                          (0 : Int) ≤ x.snd.snd ∧
                                                                            x.snd.snd < (↑(64 : Nat) : Int) ∧
                                                                              x.snd.snd.toNat < (64 : Nat) ∧
                                                                                (0 : Int) ≤ x.snd.snd ∧
                                                                                  x.snd.snd < (↑(64 : Nat) : Int) ∧
                                                                                    x.snd.snd.toNat < (64 : Nat) ∧
                                                                                      (0 : Int) ≤ (3 : Int) ∧
                                                                                        (3 : Int) < (↑(8 : Nat) : Int) ∧
                                                                                          Int.toNat (3 : Int) <
                                                                                              (8 : Nat) ∧
                                                                                            ∃ (y :
                                                                                              List Int ×
                                                                                                List Int × Int),
                                                                                              U.stref04_step_16 h b kk
                                                                                                    x.fst
                                                                                                    (((((((([(0 : Int),
                                                                                                                                      (0 :
                                                                                                                                        Int),
                                                                                                                                      (0 :
                                                                                                                                        Int),
                                                                                                                                      (0 :
                                                                                                                                        Int),
                                                                                                                                      (0 :
                                                                                                                                        Int),
                                                                                                                                      (0 :
                                                                                                                                        Int),
                                                                                                                                      (0 :
                                                                                                                                        Int),
                                                                                                                                      (0 :
                                                                                                                                        Int)].set
                                                                                                                                  (0 :
                                                                                                                                    Nat)
                                                                                                                                  (IntKind.u32.wrap
                                                                                                                                    ((IntKind.u32.wrap
                                                                                                                                          ((IntKind.u32.wrap
                                                                                                                                                ((IntKind.u32.wrap
                                                                                                                                                      ((IntKind.u32.wrap
                                                                                                                                                            ((x.snd.fst.getD
                                                                                                                                                                  (Int.toNat
                                                                                                                                                                    (7 :
                                                                                                                                                                      Int))
                                                                                                                                                                  (0 :
                                                                                                                                                                    Int)).add
                                                                                                                                                              (IntKind.u32.wrap
                                                                                                                                                                (↑((BitVec.ofInt
                                                                                                                                                                            IntKind.u32.bits
                                                                                                                                                                            (IntKind.u32.wrap
                                                                                                                                                                              (↑((BitVec.ofInt
                                                                                                                                                                                          IntKind.u32.bits
                                                                                                                                                                                          (U.rot
                                                                                                                                                                                            (x.snd.fst.getD
                                                                                                                                                                                              (Int.toNat
                                                                                                                                                                                                (4 :
                                                                                                                                                                                                  Int))
                                                                                                                                                                                              (0 :
                                                                                                                                                                                                Int))
                                                                                                                                                                                            (6 :
                                                                                                                                                                                              Int))).xor
                                                                                                                                                                                      (BitVec.ofInt
                                                                                                                                                                                        IntKind.u32.bits
                                                                                                                                                                                        (U.rot
                                                                                                                                                                                          (x.snd.fst.getD
                                                                                                                                                                                            (Int.toNat
                                                                                                                                                                                              (4 :
                                                                                                                                                                                                Int))
                                                                                                                                                                                            (0 :
                                                                                                                                                                                              Int))
                                                                                                                                                                                          (11 :
                                                                                                                                                                                            Int)))).toNat :
                                                                                                                                                                                Int))).xor
                                                                                                                                                                        (BitVec.ofInt
                                                                                                                                                                          IntKind.u32.bits
                                                                                                                                                                          (U.rot
                                                                                                                                                                            (x.snd.fst.getD
                                                                                                                                                                              (Int.toNat
                                                                                                                                                                                (4 :
                                                                                                                                                                                  Int))
                                                                                                                                                                              (0 :
                                                                                                                                                                                Int))
                                                                                                                                                                            (25 :
                                                                                                                                                                              Int)))).toNat :
                                                                                                                                                                  Int)))).add
                                                                                                                                                        (IntKind.u32.wrap
                                                                                                                                                          (↑((BitVec.ofInt
                                                                                                                                                                      IntKind.u32.bits
                                                                                                                                                                      (IntKind.u32.wrap
                                                                                                                                                                        (↑((BitVec.ofInt
                                                                                                                                                                                    IntKind.u32.bits
                                                                                                                                                                                    (x.snd.fst.getD
                                                                                                                                                                                      (Int.toNat
                                                                                                                                                                                        (4 :
                                                                                                                                                                                          Int))
                                                                                                                                                                                      (0 :
                                                                                                                                                                                        Int))).and
                                                                                                                                                                                (BitVec.ofInt
                                                                                                                                                                                  IntKind.u32.bits
                                                                                                                                                                                  (x.snd.fst.getD
                                                                                                                                                                                    (Int.toNat
                                                                                                                                                                                      (5 :
                                                                                                                                                                                        Int))
                                                                                                                                                                                    (0 :
                                                                                                                                                                                      Int)))).toNat :
                                                                                                                                                                          Int))).xor
                                                                                                                                                                  (BitVec.ofInt
                                                                                                                                                                    IntKind.u32.bits
                                                                                                                                                                    (IntKind.u32.wrap
                                                                                                                                                                      (↑((BitVec.ofInt
                                                                                                                                                                                  IntKind.u32.bits
                                                                                                                                                                                  (IntKind.u32.wrap
                                                                                                                                                                                    (↑((BitVec.ofInt
                                                                                                                                                                                                IntKind.u32.bits
                                                                                                                                                                                                IntKind.u32.max).xor
                                                                                                                                                                                            (BitVec.ofInt
                                                                                                                                                                                              IntKind.u32.bits
                                                                                                                                                                                              (x.snd.fst.getD
                                                                                                                                                                                                (Int.toNat
                                                                                                                                                                                                  (4 :
                                                                                                                                                                                                    Int))
                                                                                                                                                                                                (0 :
                                                                                                                                                                                                  Int)))).toNat :
                                                                                                                                                                                      Int))).and
                                                                                                                                                                              (BitVec.ofInt
                                                                                                                                                                                IntKind.u32.bits
                                                                                                                                                                                (x.snd.fst.getD
                                                                                                                                                                                  (Int.toNat
                                                                                                                                                                                    (6 :
                                                                                                                                                                                      Int))
                                                                                                                                                                                  (0 :
                                                                                                                                                                                    Int)))).toNat :
                                                                                                                                                                        Int)))).toNat :
                                                                                                                                                            Int)))).add
                                                                                                                                                  (kk.getD
                                                                                                                                                    x.snd.snd.toNat
                                                                                                                                                    (0 :
                                                                                                                                                      Int)))).add
                                                                                                                                            (x.fst.getD
                                                                                                                                              x.snd.snd.toNat
                                                                                                                                              (0 :
                                                                                                                                                Int)))).add
                                                                                                                                      (IntKind.u32.wrap
                                                                                                                                        ((IntKind.u32.wrap
                                                                                                                                              (↑((BitVec.ofInt
                                                                                                                                                          IntKind.u32.bits
                                                                                                                                                          (IntKind.u32.wrap
                                                                                                                                                            (↑((BitVec.ofInt
                                                                                                                                                                        IntKind.u32.bits
                                                                                                                                                                        (U.rot
                                                                                                                                                                          (x.snd.fst.getD
                                                                                                                                                                            (Int.toNat
                                                                                                                                                                              (0 :
                                                                                                                                                                                Int))
                                                                                                                                                                            (0 :
                                                                                                                                                                              Int))
                                                                                                                                                                          (2 :
                                                                                                                                                                            Int))).xor
                                                                                                                                                                    (BitVec.ofInt
                                                                                                                                                                      IntKind.u32.bits
                                                                                                                                                                      (U.rot
                                                                                                                                                                        (x.snd.fst.getD
                                                                                                                                                                          (Int.toNat
                                                                                                                                                                            (0 :
                                                                                                                                                                              Int))
                                                                                                                                                                          (0 :
                                                                                                                                                                            Int))
                                                                                                                                                                        (13 :
                                                                                                                                                                          Int)))).toNat :
                                                                                                                                                              Int))).xor
                                                                                                                                                      (BitVec.ofInt
                                                                                                                                                        IntKind.u32.bits
                                                                                                                                                        (U.rot
                                                                                                                                                          (x.snd.fst.getD
                                                                                                                                                            (Int.toNat
                                                                                                                                                              (0 :
                                                                                                                                                                Int))
                                                                                                                                                            (0 :
                                                                                                                                                              Int))
                                                                                                                                                          (22 :
                                                                                                                                                            Int)))).toNat :
                                                                                                                                                Int)).add
                                                                                                                                          (IntKind.u32.wrap
                                                                                                                                            (↑((BitVec.ofInt
                                                                                                                                                        IntKind.u32.bits
                                                                                                                                                        (IntKind.u32.wrap
                                                                                                                                                          (↑((BitVec.ofInt
                                                                                                                                                                      IntKind.u32.bits
                                                                                                                                                                      (IntKind.u32.wrap
                                                                                                                                                                        (↑((BitVec.ofInt
                                                                                                                                                                                    IntKind.u32.bits
                                                                                                                                                                                    (x.snd.fst.getD
                                                                                                                                                                                      (Int.toNat
                                                                                                                                                                                        (0 :
                                                                                                                                                                                          Int))
                                                                                                                                                                                      (0 :
                                                                                                                                                                                        Int))).and
                                                                                                                                                                                (BitVec.ofInt
                                                                                                                                                                                  IntKind.u32.bits
                                                                                                                                                                                  (x.snd.fst.getD
                                                                                                                                                                                    (Int.toNat
                                                                                                                                                                                      (1 :
                                                                                                                                                                                        Int))
                                                                                                                                                                                    (0 :
                                                                                                                                                                                      Int)))).toNat :
                                                                                                                                                                          Int))).xor
                                                                                                                                                                  (BitVec.ofInt
                                                                                                                                                                    IntKind.u32.bits
                                                                                                                                                                    (IntKind.u32.wrap
                                                                                                                                                                      (↑((BitVec.ofInt
                                                                                                                                                                                  IntKind.u32.bits
                                                                                                                                                                                  (x.snd.fst.getD
                                                                                                                                                                                    (Int.toNat
                                                                                                                                                                                      (0 :
                                                                                                                                                                                        Int))
                                                                                                                                                                                    (0 :
                                                                                                                                                                                      Int))).and
                                                                                                                                                                              (BitVec.ofInt
                                                                                                                                                                                IntKind.u32.bits
                                                                                                                                                                                (x.snd.fst.getD
                                                                                                                                                                                  (Int.toNat
                                                                                                                                                                                    (2 :
                                                                                                                                                                                      Int))
                                                                                                                                                                                  (0 :
                                                                                                                                                                                    Int)))).toNat :
                                                                                                                                                                        Int)))).toNat :
                                                                                                                                                            Int))).xor
                                                                                                                                                    (BitVec.ofInt
                                                                                                                                                      IntKind.u32.bits
                                                                                                                                                      (IntKind.u32.wrap
                                                                                                                                                        (↑((BitVec.ofInt
                                                                                                                                                                    IntKind.u32.bits
                                                                                                                                                                    (x.snd.fst.getD
                                                                                                                                                                      (Int.toNat
                                                                                                                                                                        (1 :
                                                                                                                                                                          Int))
                                                                                                                                                                      (0 :
                                                                                                                                                                        Int))).and
                                                                                                                                                                (BitVec.ofInt
                                                                                                                                                                  IntKind.u32.bits
                                                                                                                                                                  (x.snd.fst.getD
                                                                                                                                                                    (Int.toNat
                                                                                                                                                                      (2 :
                                                                                                                                                                        Int))
                                                                                                                                                                    (0 :
                                                                                                                                                                      Int)))).toNat :
                                                                                                                                                          Int)))).toNat :
                                                                                                                                              Int))))))).set
                                                                                                                              (1 :
                                                                                                                                Nat)
                                                                                                                              (x.snd.fst.getD
                                                                                                                                (Int.toNat
                                                                                                                                  (0 :
                                                                                                                                    Int))
                                                                                                                                (0 :
                                                                                                                                  Int))).set
                                                                                                                          (2 :
                                                                                                                            Nat)
                                                                                                                          (x.snd.fst.getD
                                                                                                                            (Int.toNat
                                                                                                                              (1 :
                                                                                                                                Int))
                                                                                                                            (0 :
                                                                                                                              Int))).set
                                                                                                                      (3 :
                                                                                                                        Nat)
                                                                                                                      (x.snd.fst.getD
                                                                                                                        (Int.toNat
                                                                                                                          (2 :
                                                                                                                            Int))
                                                                                                                        (0 :
                                                                                                                          Int))).set
                                                                                                                  (4 :
                                                                                                                    Nat)
                                                                                                                  (IntKind.u32.wrap
                                                                                                                    ((x.snd.fst.getD
                                                                                                                          (Int.toNat
                                                                                                                            (3 :
                                                                                                                              Int))
                                                                                                                          (0 :
                                                                                                                            Int)).add
                                                                                                                      (IntKind.u32.wrap
                                                                                                                        ((IntKind.u32.wrap
                                                                                                                              ((IntKind.u32.wrap
                                                                                                                                    ((IntKind.u32.wrap
                                                                                                                                          ((x.snd.fst.getD
                                                                                                                                                (Int.toNat
                                                                                                                                                  (7 :
                                                                                                                                                    Int))
                                                                                                                                                (0 :
                                                                                                                                                  Int)).add
                                                                                                                                            (IntKind.u32.wrap
                                                                                                                                              (↑((BitVec.ofInt
                                                                                                                                                          IntKind.u32.bits
                                                                                                                                                          (IntKind.u32.wrap
                                                                                                                                                            (↑((BitVec.ofInt
                                                                                                                                                                        IntKind.u32.bits
                                                                                                                                                                        (U.rot
                                                                                                                                                                          (x.snd.fst.getD
                                                                                                                                                                            (Int.toNat
                                                                                                                                                                              (4 :
                                                                                                                                                                                Int))
                                                                                                                                                                            (0 :
                                                                                                                                                                              Int))
                                                                                                                                                                          (6 :
                                                                                                                                                                            Int))).xor
                                                                                                                                                                    (BitVec.ofInt
                                                                                                                                                                      IntKind.u32.bits
                                                                                                                                                                      (U.rot
                                                                                                                                                                        (x.snd.fst.getD
                                                                                                                                                                          (Int.toNat
                                                                                                                                                                            (4 :
                                                                                                                                                                              Int))
                                                                                                                                                                          (0 :
                                                                                                                                                                            Int))
                                                                                                                                                                        (11 :
                                                                                                                                                                          Int)))).toNat :
                                                                                                                                                              Int))).xor
                                                                                                                                                      (BitVec.ofInt
                                                                                                                                                        IntKind.u32.bits
                                                                                                                                                        (U.rot
                                                                                                                                                          (x.snd.fst.getD
                                                                                                                                                            (Int.toNat
                                                                                                                                                              (4 :
                                                                                                                                                                Int))
                                                                                                                                                            (0 :
                                                                                                                                                              Int))
                                                                                                                                                          (25 :
                                                                                                                                                            Int)))).toNat :
                                                                                                                                                Int)))).add
                                                                                                                                      (IntKind.u32.wrap
                                                                                                                                        (↑((BitVec.ofInt
                                                                                                                                                    IntKind.u32.bits
                                                                                                                                                    (IntKind.u32.wrap
                                                                                                                                                      (↑((BitVec.ofInt
                                                                                                                                                                  IntKind.u32.bits
                                                                                                                                                                  (x.snd.fst.getD
                                                                                                                                                                    (Int.toNat
                                                                                                                                                                      (4 :
                                                                                                                                                                        Int))
                                                                                                                                                                    (0 :
                                                                                                                                                                      Int))).and
                                                                                                                                                              (BitVec.ofInt
                                                                                                                                                                IntKind.u32.bits
                                                                                                                                                                (x.snd.fst.getD
                                                                                                                                                                  (Int.toNat
                                                                                                                                                                    (5 :
                                                                                                                                                                      Int))
                                                                                                                                                                  (0 :
                                                                                                                                                                    Int)))).toNat :
                                                                                                                                                        Int))).xor
                                                                                                                                                (BitVec.ofInt
                                                                                                                                                  IntKind.u32.bits
                                                                                                                                                  (IntKind.u32.wrap
                                                                                                                                                    (↑((BitVec.ofInt
                                                                                                                                                                IntKind.u32.bits
                                                                                                                                                                (IntKind.u32.wrap
                                                                                                                                                                  (↑((BitVec.ofInt
                                                                                                                                                                              IntKind.u32.bits
                                                                                                                                                                              IntKind.u32.max).xor
                                                                                                                                                                          (BitVec.ofInt
                                                                                                                                                                            IntKind.u32.bits
                                                                                                                                                                            (x.snd.fst.getD
                                                                                                                                                                              (Int.toNat
                                                                                                                                                                                (4 :
                                                                                                                                                                                  Int))
                                                                                                                                                                              (0 :
                                                                                                                                                                                Int)))).toNat :
                                                                                                                                                                    Int))).and
                                                                                                                                                            (BitVec.ofInt
                                                                                                                                                              IntKind.u32.bits
                                                                                                                                                              (x.snd.fst.getD
                                                                                                                                                                (Int.toNat
                                                                                                                                                                  (6 :
                                                                                                                                                                    Int))
                                                                                                                                                                (0 :
                                                                                                                                                                  Int)))).toNat :
                                                                                                                                                      Int)))).toNat :
                                                                                                                                          Int)))).add
                                                                                                                                (kk.getD
                                                                                                                                  x.snd.snd.toNat
                                                                                                                                  (0 :
                                                                                                                                    Int)))).add
                                                                                                                          (x.fst.getD
                                                                                                                            x.snd.snd.toNat
                                                                                                                            (0 :
                                                                                                                              Int))))))).set
                                                                                                              (5 : Nat)
                                                                                                              (x.snd.fst.getD
                                                                                                                (Int.toNat
                                                                                                                  (4 :
                                                                                                                    Int))
                                                                                                                (0 :
                                                                                                                  Int))).set
                                                                                                          (6 : Nat)
                                                                                                          (x.snd.fst.getD
                                                                                                            (Int.toNat
                                                                                                              (5 : Int))
                                                                                                            (0 :
                                                                                                              Int))).set
                                                                                                      (7 : Nat)
                                                                                                      (x.snd.fst.getD
                                                                                                        (Int.toNat
                                                                                                          (6 : Int))
                                                                                                        (0 : Int)))
                                                                                                    (IntKind.i64.wrap
                                                                                                      (x.snd.snd.add
                                                                                                        (1 : Int))) =
                                                                                                  U.stref04_step_16 h b
                                                                                                    kk y.fst y.snd.fst
                                                                                                    y.snd.snd ∧
                                                                                                U.Iref04_step_16 h b kk
                                                                                                    y.fst y.snd.fst
                                                                                                    y.snd.snd ∧
                                                                                                  Nat.sub (64 : Nat)
                                                                                                      y.snd.snd.toNat <
                                                                                                    Nat.sub (64 : Nat)
                                                                                                      x.snd.snd.toNat
                              else
                                ∃ (x0 : List Int × Int),
                                  (U.stref04_step_23 h b kk x.snd.fst (0 : Int) =
                                        U.stref04_step_23 h b kk x0.fst x0.snd ∧
                                      U.Iref04_step_23 h b kk x0.fst x0.snd) ∧
                                    ∀ (x : List Int × Int),
                                      U.Iref04_step_23 h b kk x.fst x.snd →
                                        bif decide (x.snd < (8 : Int)) then
                                          (0 : Int) ≤ x.snd ∧
                                            x.snd < (↑(8 : Nat) : Int) ∧
                                              x.snd.toNat < (8 : Nat) ∧
                                                (0 : Int) ≤ x.snd ∧
                                                  x.snd < (↑(8 : Nat) : Int) ∧
                                                    x.snd.toNat < (8 : Nat) ∧
                                                      (0 : Int) ≤ x.snd ∧
                                                        x.snd < (↑(8 : Nat) : Int) ∧
                                                          x.snd.toNat < (8 : Nat) ∧
                                                            ∃ (y : List Int × Int),
                                                              U.stref04_step_23 h b kk
                                                                    (x.fst.set x.snd.toNat
                                                                      (IntKind.u32.wrap
                                                                        ((x.fst.getD x.snd.toNat (0 : Int)).add
                                                                          (h.getD x.snd.toNat (0 : Int)))))
                                                                    (IntKind.i64.wrap (x.snd.add (1 : Int))) =
                                                                  U.stref04_step_23 h b kk y.fst y.snd ∧
                                                                U.Iref04_step_23 h b kk y.fst y.snd ∧
                                                                  Nat.sub (8 : Nat) y.snd.toNat <
                                                                    Nat.sub (8 : Nat) x.snd.toNat
                                        else x.fst = U.rstep h b kk ∧ True
def vcref04_Step (h : List Int) (b : List Int) : Prop :=
  (0 : Int) ≤ (0 : Int) ∧
    (0 : Int) ≤ (↑(64 : Nat) : Int) ∧
      (↑(64 : Nat) : Int) ≤ (↑(64 : Nat) : Int) ∧
        (64 : Nat) ≤
            (List.take ((↑(64 : Nat) : Int).toNat.sub (Int.toNat (0 : Int)))
                (List.drop (Int.toNat (0 : Int)) b)).length ∧
          U.rstep h
                (List.take ((↑(64 : Nat) : Int).toNat.sub (Int.toNat (0 : Int))) (List.drop (Int.toNat (0 : Int)) b))
                U.consts =
              U.rstep h b U.consts ∧
            True
def vcref04_Pad (b : List Int) : Prop :=
  (Nat.add (0 : Nat) b.length).mul (1 : Nat) ≤ (140737488355328 : Nat) ∧
    Nat.add (0 : Nat) b.length ≤ maxLen ∧
      (b.length.add ((1 : Nat))).mul (1 : Nat) ≤ (140737488355328 : Nat) ∧
        b.length.add ((1 : Nat)) ≤ maxLen ∧
          ∃ (x0 : List Int),
            (U.stref04_Pad_2 b (b.append ([(0 : Int)].set (0 : Nat) (128 : Int))) = U.stref04_Pad_2 b x0 ∧
                U.Iref04_Pad_2 b x0) ∧
              ∀ (x : List Int),
                U.Iref04_Pad_2 b x →
                  (64 : Int) ≠ (0 : Int) ∧
                    bif (↑x.length : Int).tmod (64 : Int) != (56 : Int) then
                      (x.length.add ((1 : Nat))).mul (1 : Nat) ≤ (140737488355328 : Nat) ∧
                        x.length.add ((1 : Nat)) ≤ maxLen ∧
                          ∃ (y : List Int),
                            U.stref04_Pad_2 b (x.append ([(0 : Int)].set (0 : Nat) (0 : Int))) = U.stref04_Pad_2 b y ∧
                              U.Iref04_Pad_2 b y ∧
                                ((b.length.add (1 : Nat)).add (U.zeros b.length)).sub y.length <
                                  ((b.length.add (1 : Nat)).add (U.zeros b.length)).sub x.length
                    else
                      ∃ (x0 : List Int × Int × Int),
                        (U.stref04_Pad_6 b x (IntKind.u64.wrap ((IntKind.u64.wrap (↑b.length : Int)).mul (8 : Int)))
                                (7 : Int) =
                              U.stref04_Pad_6 b x0.fst x0.snd.fst x0.snd.snd ∧
                            U.Iref04_Pad_6 b x0.fst x0.snd.fst x0.snd.snd) ∧
                          ∀ (x : List Int × Int × Int),
                            U.Iref04_Pad_6 b x.fst x.snd.fst x.snd.snd →
                              bif decide (x.snd.snd ≥ (0 : Int)) then
                                (0 : Int) ≤ IntKind.u64.wrap (IntKind.i64.wrap (Int.mul (8 : Int) x.snd.snd)) ∧
                                  (x.fst.length.add ((1 : Nat))).mul (1 : Nat) ≤ (140737488355328 : Nat) ∧
                                    x.fst.length.add ((1 : Nat)) ≤ maxLen ∧
                                      ∃ (y : List Int × Int × Int),
                                        U.stref04_Pad_6 b
                                              (x.fst.append
                                                ([(0 : Int)].set (0 : Nat)
                                                  (IntKind.u8.wrap
                                                    (x.snd.fst.fdiv
                                                      (Int.pow (2 : Int)
                                                        (if
                                                            (IntKind.u64.wrap
                                                                  (IntKind.i64.wrap
                                                                    (Int.mul (8 : Int) x.snd.snd))).toNat ≤
                                                              IntKind.u64.bits then
                                                          (IntKind.u64.wrap
                                                              (IntKind.i64.wrap (Int.mul (8 : Int) x.snd.snd))).toNat
                                                        else IntKind.u64.bits))))))
                                              x.snd.fst (IntKind.i64.wrap (x.snd.snd.sub (1 : Int))) =
                                            U.stref04_Pad_6 b y.fst y.snd.fst y.snd.snd ∧
                                          U.Iref04_Pad_6 b y.fst y.snd.fst y.snd.snd ∧
                                            (y.snd.snd.add (1 : Int)).toNat < (x.snd.snd.add (1 : Int)).toNat
                              else x.fst = U.pad b ∧ True
def vcref04_Sum (b : List Int) : Prop :=
  b.length ≤ (1000000000000 : Nat) ∧
    ∃ (x0 : List Int × Int),
      (U.stref04_Sum_4 b U.first8 (0 : Int) = U.stref04_Sum_4 b x0.fst x0.snd ∧ U.Iref04_Sum_4 b x0.fst x0.snd) ∧
        ∀ (x : List Int × Int),
          U.Iref04_Sum_4 b x.fst x.snd →
            bif decide (x.snd < (↑(U.pad b).length : Int)) then
              (0 : Int) ≤ x.snd ∧
                x.snd ≤ IntKind.i64.wrap (x.snd.add (64 : Int)) ∧
                  IntKind.i64.wrap (x.snd.add (64 : Int)) ≤ (↑(U.pad b).length : Int) ∧
                    (64 : Nat) ≤
                        (List.take ((IntKind.i64.wrap (x.snd.add (64 : Int))).toNat.sub x.snd.toNat)
                            (List.drop x.snd.toNat (U.pad b))).length ∧
                      ∃ (y : List Int × Int),
                        U.stref04_Sum_4 b
                              (U.rstep x.fst
                                (List.take ((IntKind.i64.wrap (x.snd.add (64 : Int))).toNat.sub x.snd.toNat)
                                  (List.drop x.snd.toNat (U.pad b)))
                                U.consts)
                              (IntKind.i64.wrap (x.snd.add (64 : Int))) =
                            U.stref04_Sum_4 b y.fst y.snd ∧
                          U.Iref04_Sum_4 b y.fst y.snd ∧
                            (U.pad b).length.sub y.snd.toNat < (U.pad b).length.sub x.snd.toNat
            else
              ∃ (x0 : List Int × List Int × Int),
                (U.stref04_Sum_9 b x.fst
                        [(0 : Int), (0 : Int), (0 : Int), (0 : Int), (0 : Int), (0 : Int), (0 : Int), (0 : Int),
                          (0 : Int), (0 : Int), (0 : Int), (0 : Int), (0 : Int), (0 : Int), (0 : Int), (0 : Int),
                          (0 : Int), (0 : Int), (0 : Int), (0 : Int), (0 : Int), (0 : Int), (0 : Int), (0 : Int),
                          (0 : Int), (0 : Int), (0 : Int), (0 : Int), (0 : Int), (0 : Int), (0 : Int), (0 : Int)]
                        (0 : Int) =
                      U.stref04_Sum_9 b x0.fst x0.snd.fst x0.snd.snd ∧
                    U.Iref04_Sum_9 b x0.fst x0.snd.fst x0.snd.snd) ∧
                  ∀ (x : List Int × List Int × Int),
                    U.Iref04_Sum_9 b x.fst x.snd.fst x.snd.snd →
                      bif decide (x.snd.snd < (32 : Int)) then
                        (4 : Int) ≠ (0 : Int) ∧
                          (0 : Int) ≤ IntKind.i64.wrap (x.snd.snd.tdiv (4 : Int)) ∧
                            IntKind.i64.wrap (x.snd.snd.tdiv (4 : Int)) < (↑(8 : Nat) : Int) ∧
                              (IntKind.i64.wrap (x.snd.snd.tdiv (4 : Int))).toNat < (8 : Nat) ∧
                                (4 : Int) ≠ (0 : Int) ∧
                                  (0 : Int) ≤
                                      IntKind.u64.wrap
                                        (IntKind.i64.wrap
                                          (Int.sub (24 : Int)
                                            (IntKind.i64.wrap (Int.mul (8 : Int) (x.snd.snd.tmod (4 : Int)))))) ∧
                                    (0 : Int) ≤ x.snd.snd ∧
                                      x.snd.snd < (↑(32 : Nat) : Int) ∧
                                        x.snd.snd.toNat < (32 : Nat) ∧
                                          ∃ (y : List Int × List Int × Int),
                                            U.stref04_Sum_9 b x.fst
                                                  (x.snd.fst.set x.snd.snd.toNat
                                                    (IntKind.u8.wrap
                                                      ((x.fst.getD (IntKind.i64.wrap (x.snd.snd.tdiv (4 : Int))).toNat
                                                            (0 : Int)).fdiv
                                                        (Int.pow (2 : Int)
                                                          (if
                                                              (IntKind.u64.wrap
                                                                    (IntKind.i64.wrap
                                                                      (Int.sub (24 : Int)
                                                                        (IntKind.i64.wrap
                                                                          (Int.mul (8 : Int)
                                                                            (x.snd.snd.tmod (4 : Int))))))).toNat ≤
                                                                IntKind.u32.bits then
                                                            (IntKind.u64.wrap
                                                                (IntKind.i64.wrap
                                                                  (Int.sub (24 : Int)
                                                                    (IntKind.i64.wrap
                                                                      (Int.mul (8 : Int)
                                                                        (x.snd.snd.tmod (4 : Int))))))).toNat
                                                          else IntKind.u32.bits)))))
                                                  (IntKind.i64.wrap (x.snd.snd.add (1 : Int))) =
                                                U.stref04_Sum_9 b y.fst y.snd.fst y.snd.snd ∧
                                              U.Iref04_Sum_9 b y.fst y.snd.fst y.snd.snd ∧
                                                Nat.sub (32 : Nat) y.snd.snd.toNat < Nat.sub (32 : Nat) x.snd.snd.toNat
                      else x.snd.fst = U.out32 (U.rsums b) ∧ True
def vcref04_Text (s : List Int) : Prop :=
  ∃ (x0 : List Int × Int),
    (U.stref04_Text_3 s [] (0 : Int) = U.stref04_Text_3 s x0.fst x0.snd ∧ U.Iref04_Text_3 s x0.fst x0.snd) ∧
      ∀ (x : List Int × Int),
        U.Iref04_Text_3 s x.fst x.snd →
          bif decide (x.snd < (32 : Int)) then
            (0 : Int) ≤ x.snd ∧
              x.snd < (↑(32 : Nat) : Int) ∧
                x.snd.toNat < (32 : Nat) ∧
                  (16 : Int) ≠ (0 : Int) ∧
                    (0 : Int) ≤ x.snd ∧
                      x.snd < (↑(32 : Nat) : Int) ∧
                        x.snd.toNat < (32 : Nat) ∧
                          (16 : Int) ≠ (0 : Int) ∧
                            (0 : Int) ≤ IntKind.u8.wrap ((s.getD x.snd.toNat (0 : Int)).tdiv (16 : Int)) ∧
                              IntKind.u8.wrap ((s.getD x.snd.toNat (0 : Int)).tdiv (16 : Int)) ≤
                                  IntKind.u8.wrap
                                    ((IntKind.u8.wrap ((s.getD x.snd.toNat (0 : Int)).tdiv (16 : Int))).add (1 : Int)) ∧
                                IntKind.u8.wrap
                                      ((IntKind.u8.wrap ((s.getD x.snd.toNat (0 : Int)).tdiv (16 : Int))).add
                                        (1 : Int)) ≤
                                    (↑((16 : Nat)) : Int) ∧
                                  x.fst.length.add
                                        (List.take
                                            ((IntKind.u8.wrap
                                                    ((IntKind.u8.wrap
                                                          ((s.getD x.snd.toNat (0 : Int)).tdiv (16 : Int))).add
                                                      (1 : Int))).toNat.sub
                                              (IntKind.u8.wrap ((s.getD x.snd.toNat (0 : Int)).tdiv (16 : Int))).toNat)
                                            (List.drop
                                              (IntKind.u8.wrap ((s.getD x.snd.toNat (0 : Int)).tdiv (16 : Int))).toNat
                                              [(↑(UInt8.toNat (48 : UInt8)) : Int), (↑(UInt8.toNat (49 : UInt8)) : Int),
                                                (↑(UInt8.toNat (50 : UInt8)) : Int),
                                                (↑(UInt8.toNat (51 : UInt8)) : Int),
                                                (↑(UInt8.toNat (52 : UInt8)) : Int),
                                                (↑(UInt8.toNat (53 : UInt8)) : Int),
                                                (↑(UInt8.toNat (54 : UInt8)) : Int),
                                                (↑(UInt8.toNat (55 : UInt8)) : Int),
                                                (↑(UInt8.toNat (56 : UInt8)) : Int),
                                                (↑(UInt8.toNat (57 : UInt8)) : Int),
                                                (↑(UInt8.toNat (97 : UInt8)) : Int),
                                                (↑(UInt8.toNat (98 : UInt8)) : Int),
                                                (↑(UInt8.toNat (99 : UInt8)) : Int),
                                                (↑(UInt8.toNat (100 : UInt8)) : Int),
                                                (↑(UInt8.toNat (101 : UInt8)) : Int),
                                                (↑(UInt8.toNat (102 : UInt8)) : Int)])).length ≤
                                      (9223372036854775807 : Nat) ∧
                                    (0 : Int) ≤ x.snd ∧
                                      x.snd < (↑(32 : Nat) : Int) ∧
                                        x.snd.toNat < (32 : Nat) ∧
                                          (16 : Int) ≠ (0 : Int) ∧
                                            (0 : Int) ≤ x.snd ∧
                                              x.snd < (↑(32 : Nat) : Int) ∧
                                                x.snd.toNat < (32 : Nat) ∧
                                                  (16 : Int) ≠ (0 : Int) ∧
                                                    (0 : Int) ≤ (s.getD x.snd.toNat (0 : Int)).tmod (16 : Int) ∧
                                                      (s.getD x.snd.toNat (0 : Int)).tmod (16 : Int) ≤
                                                          IntKind.u8.wrap
                                                            (((s.getD x.snd.toNat (0 : Int)).tmod (16 : Int)).add
                                                              (1 : Int)) ∧
                                                        IntKind.u8.wrap
                                                              (((s.getD x.snd.toNat (0 : Int)).tmod (16 : Int)).add
                                                                (1 : Int)) ≤
                                                            (↑((16 : Nat)) : Int) ∧
                                                          (x.fst.append
                                                                      (List.take
                                                                        ((IntKind.u8.wrap
                                                                                ((IntKind.u8.wrap
                                                                                      ((s.getD x.snd.toNat
                                                                                            (0 : Int)).tdiv
                                                                                        (16 : Int))).add
                                                                                  (1 : Int))).toNat.sub
                                                                          (IntKind.u8.wrap
                                                                              ((s.getD x.snd.toNat (0 : Int)).tdiv
                                                                                (16 : Int))).toNat)
                                                                        (List.drop
                                                                          (IntKind.u8.wrap
                                                                              ((s.getD x.snd.toNat (0 : Int)).tdiv
                                                                                (16 : Int))).toNat
                                                                          [(↑(UInt8.toNat (48 : UInt8)) : Int),
                                                                            (↑(UInt8.toNat (49 : UInt8)) : Int),
                                                                            (↑(UInt8.toNat (50 : UInt8)) : Int),
                                                                            (↑(UInt8.toNat (51 : UInt8)) : Int),
                                                                            (↑(UInt8.toNat (52 : UInt8)) : Int),
                                                                            (↑(UInt8.toNat (53 : UInt8)) : Int),
                                                                            (↑(UInt8.toNat (54 : UInt8)) : Int),
                                                                            (↑(UInt8.toNat (55 : UInt8)) : Int),
                                                                            (↑(UInt8.toNat (56 : UInt8)) : Int),
                                                                            (↑(UInt8.toNat (57 : UInt8)) : Int),
                                                                            (↑(UInt8.toNat (97 : UInt8)) : Int),
                                                                            (↑(UInt8.toNat (98 : UInt8)) : Int),
                                                                            (↑(UInt8.toNat (99 : UInt8)) : Int),
                                                                            (↑(UInt8.toNat (100 : UInt8)) : Int),
                                                                            (↑(UInt8.toNat (101 : UInt8)) : Int),
                                                                            (↑(UInt8.toNat (102 : UInt8)) :
                                                                              Int)]))).length.add
                                                                (List.take
                                                                    ((IntKind.u8.wrap
                                                                            (((s.getD x.snd.toNat (0 : Int)).tmod
                                                                                  (16 : Int)).add
                                                                              (1 : Int))).toNat.sub
                                                                      ((s.getD x.snd.toNat (0 : Int)).tmod
                                                                          (16 : Int)).toNat)
                                                                    (List.drop
                                                                      ((s.getD x.snd.toNat (0 : Int)).tmod
                                                                          (16 : Int)).toNat
                                                                      [(↑(UInt8.toNat (48 : UInt8)) : Int),
                                                                        (↑(UInt8.toNat (49 : UInt8)) : Int),
                                                                        (↑(UInt8.toNat (50 : UInt8)) : Int),
                                                                        (↑(UInt8.toNat (51 : UInt8)) : Int),
                                                                        (↑(UInt8.toNat (52 : UInt8)) : Int),
                                                                        (↑(UInt8.toNat (53 : UInt8)) : Int),
                                                                        (↑(UInt8.toNat (54 : UInt8)) : Int),
                                                                        (↑(UInt8.toNat (55 : UInt8)) : Int),
                                                                        (↑(UInt8.toNat (56 : UInt8)) : Int),
                                                                        (↑(UInt8.toNat (57 : UInt8)) : Int),
                                                                        (↑(UInt8.toNat (97 : UInt8)) : Int),
                                                                        (↑(UInt8.toNat (98 : UInt8)) : Int),
                                                                        (↑(UInt8.toNat (99 : UInt8)) : Int),
                                                                        (↑(UInt8.toNat (100 : UInt8)) : Int),
                                                                        (↑(UInt8.toNat (101 : UInt8)) : Int),
                                                                        (↑(UInt8.toNat (102 : UInt8)) : Int)])).length ≤
                                                              (9223372036854775807 : Nat) ∧
                                                            ∃ (y : List Int × Int),
                                                              U.stref04_Text_3 s
                                                                    ((x.fst.append
                                                                          (List.take
                                                                            ((IntKind.u8.wrap
                                                                                    ((IntKind.u8.wrap
                                                                                          ((s.getD x.snd.toNat
                                                                                                (0 : Int)).tdiv
                                                                                            (16 : Int))).add
                                                                                      (1 : Int))).toNat.sub
                                                                              (IntKind.u8.wrap
                                                                                  ((s.getD x.snd.toNat (0 : Int)).tdiv
                                                                                    (16 : Int))).toNat)
                                                                            (List.drop
                                                                              (IntKind.u8.wrap
                                                                                  ((s.getD x.snd.toNat (0 : Int)).tdiv
                                                                                    (16 : Int))).toNat
                                                                              [(↑(UInt8.toNat (48 : UInt8)) : Int),
                                                                                (↑(UInt8.toNat (49 : UInt8)) : Int),
                                                                                (↑(UInt8.toNat (50 : UInt8)) : Int),
                                                                                (↑(UInt8.toNat (51 : UInt8)) : Int),
                                                                                (↑(UInt8.toNat (52 : UInt8)) : Int),
                                                                                (↑(UInt8.toNat (53 : UInt8)) : Int),
                                                                                (↑(UInt8.toNat (54 : UInt8)) : Int),
                                                                                (↑(UInt8.toNat (55 : UInt8)) : Int),
                                                                                (↑(UInt8.toNat (56 : UInt8)) : Int),
                                                                                (↑(UInt8.toNat (57 : UInt8)) : Int),
                                                                                (↑(UInt8.toNat (97 : UInt8)) : Int),
                                                                                (↑(UInt8.toNat (98 : UInt8)) : Int),
                                                                                (↑(UInt8.toNat (99 : UInt8)) : Int),
                                                                                (↑(UInt8.toNat (100 : UInt8)) : Int),
                                                                                (↑(UInt8.toNat (101 : UInt8)) : Int),
                                                                                (↑(UInt8.toNat (102 : UInt8)) :
                                                                                  Int)]))).append
                                                                      (List.take
                                                                        ((IntKind.u8.wrap
                                                                                (((s.getD x.snd.toNat (0 : Int)).tmod
                                                                                      (16 : Int)).add
                                                                                  (1 : Int))).toNat.sub
                                                                          ((s.getD x.snd.toNat (0 : Int)).tmod
                                                                              (16 : Int)).toNat)
                                                                        (List.drop
                                                                          ((s.getD x.snd.toNat (0 : Int)).tmod
                                                                              (16 : Int)).toNat
                                                                          [(↑(UInt8.toNat (48 : UInt8)) : Int),
                                                                            (↑(UInt8.toNat (49 : UInt8)) : Int),
                                                                            (↑(UInt8.toNat (50 : UInt8)) : Int),
                                                                            (↑(UInt8.toNat (51 : UInt8)) : Int),
                                                                            (↑(UInt8.toNat (52 : UInt8)) : Int),
                                                                            (↑(UInt8.toNat (53 : UInt8)) : Int),
                                                                            (↑(UInt8.toNat (54 : UInt8)) : Int),
                                                                            (↑(UInt8.toNat (55 : UInt8)) : Int),
                                                                            (↑(UInt8.toNat (56 : UInt8)) : Int),
                                                                            (↑(UInt8.toNat (57 : UInt8)) : Int),
                                                                            (↑(UInt8.toNat (97 : UInt8)) : Int),
                                                                            (↑(UInt8.toNat (98 : UInt8)) : Int),
                                                                            (↑(UInt8.toNat (99 : UInt8)) : Int),
                                                                            (↑(UInt8.toNat (100 : UInt8)) : Int),
                                                                            (↑(UInt8.toNat (101 : UInt8)) : Int),
                                                                            (↑(UInt8.toNat (102 : UInt8)) : Int)])))
                                                                    (IntKind.i64.wrap (x.snd.add (1 : Int))) =
                                                                  U.stref04_Text_3 s y.fst y.snd ∧
                                                                U.Iref04_Text_3 s y.fst y.snd ∧
                                                                  Nat.sub (32 : Nat) y.snd.toNat <
                                                                    Nat.sub (32 : Nat) x.snd.toNat
          else x.fst = U.text s ∧ True
end Go.Proofs.YtoecpaccpcnkcaaDoor
/- What is owed of the functions, proved in plain Lean. -/
set_option linter.unusedSimpArgs false
set_option linter.unusedVariables false
set_option maxRecDepth 100000
namespace Go.Proofs.YtoecpaccpcnkcaaDoor
open Go.Vc
open Go.Vc.T
theorem okref03_Same (a b : List Int) : vcref03_Same a b := by unfold vcref03_Same; simp only [list_beq, and_true]; rw [Bool.eq_iff_iff]; simp
theorem okmath_bits_Mul64 (x y : Int) (hx : Valid (.int .u64) x) (hy : Valid (.int .u64) y) : vcmath_bits_Mul64 x y :=
  ⟨by omega, by omega, by omega, by omega, by omega, rfl, rfl, trivial⟩
theorem prime_no {n d : Int} (h2 : 2 ≤ d) (h20 : d ≤ 20) (hd : d * d ≤ n) (hm : n % d = 0) : U.prime n = false := by
  unfold U.prime
  rw [Bool.and_eq_false_iff]; left
  rw [List.all_eq_false]
  refine ⟨d.toNat, List.mem_range.2 (by omega), ?_⟩
  have e : ((d.toNat : Nat) : Int) = d := by omega
  rw [decide_eq_true_eq, e]
  omega
theorem prime_yes {n d : Int} (h2 : 2 ≤ d) (hd : n < d * d) (h : ∀ e : Int, 2 ≤ e → e < d → n % e ≠ 0) : U.prime n = decide (n ≥ 2) := by
  unfold U.prime
  have : ((List.range 21).all fun d : Nat => decide (d < 2 ∨ n < (d : Int) * d ∨ n % d ≠ 0)) = true := by
    rw [List.all_eq_true]
    intro e _
    rw [decide_eq_true_eq]
    rcases Int.lt_or_le (e : Int) 2 with h3 | h3
    · left; omega
    · rcases Int.lt_or_le (e : Int) d with h4 | h4
      · right; right; exact h e h3 h4
      · right; left
        have : d * d ≤ (e : Int) * e := Int.mul_le_mul h4 h4 (by omega) (by omega)
        omega
  rw [this]; rfl
theorem okref04_prime (n : Int) (hn : 0 ≤ n ∧ n ≤ 400) : vcref04_prime n := by
  unfold vcref04_prime
  simp only [cond_prop, int_mul, int_add, int_sub, U.Iref04_prime_2, decide_eq_true_eq, decide_eq_false_iff_not, wrap_u64]
  refine ⟨2, ⟨rfl, by omega, by omega, fun e h1 h2 => by omega⟩, ?_⟩
  rintro d ⟨h2, h21, hd⟩
  have hsq : d * d ≤ 21 * 21 := Int.mul_le_mul h21 h21 (by omega) (by omega)
  have hsq0 : 0 ≤ d * d := Int.mul_nonneg (by omega) (by omega)
  rw [Int.emod_eq_of_lt hsq0 (by omega), Int.tmod_eq_emod_of_nonneg hn.1]
  have hdd : (d + 1) % 18446744073709551616 = d + 1 := by omega
  rw [hdd]
  refine ⟨fun hle => ?_, fun hle => ⟨(prime_yes h2 (by omega) hd).symm, trivial⟩⟩
  have h20 : d ≤ 20 := by
    rcases Int.lt_or_le d 21 with h | h
    · omega
    · have : d = 21 := by omega
      subst this; omega
  refine ⟨by omega, fun hm => ⟨(prime_no h2 h20 hle hm).symm, trivial⟩, fun hm => ⟨d + 1, rfl, ⟨by omega, by omega, fun e h3 h4 => ?_⟩, by omega⟩⟩
  rcases Int.lt_or_le e d with h | h
  · exact hd e h3 h
  · have : e = d := by omega
    subst this; exact hm
theorem plist_step : ∀ p : Fin 312, U.plist.filter (fun q => decide (q < ((p.val : Nat) : Int) + 1)) = U.plist.filter (fun q => decide (q < ((p.val : Nat) : Int))) ++ (bif U.prime ((p.val : Nat) : Int) then [((p.val : Nat) : Int)] else []) := by decide +kernel
theorem plist_take : ∀ p : Fin 313, U.plist.filter (fun q => decide (q < ((p.val : Nat) : Int))) = U.plist.take (U.plist.filter (fun q => decide (q < ((p.val : Nat) : Int)))).length := by decide +kernel
theorem plist_all : (U.plist.filter (fun q => decide (q < (312 : Int)))).length = 64 := by decide +kernel
theorem okref04_primes (n : Int) (hn : 0 ≤ n ∧ n ≤ 64) : vcref04_primes n := by
  unfold vcref04_primes
  simp only [cond_prop, int_add, int_sub, nat_add, nat_mul, list_append, U.Iref04_primes_3, decide_eq_true_eq, decide_eq_false_iff_not, wrap_u64, maxLen_eq]
  refine ⟨([], 2), ⟨rfl, by simp, by simp, by decide +kernel, by simp; omega⟩, ?_⟩
  rintro ⟨o, p⟩ ⟨h2, h312, ho, hlen⟩
  simp only [] at *
  refine ⟨fun hlt => ?_, fun hlt => ⟨?_, trivial⟩⟩
  · have hp : p < 312 := by
      rcases Int.lt_or_le p 312 with h | h
      · exact h
      · have : p = 312 := by omega
        subst this; rw [ho, plist_all] at hlt; omega
    have hs := plist_step ⟨p.toNat, by omega⟩
    have e : ((((⟨p.toNat, by omega⟩ : Fin 312).val : Nat)) : Int) = p := by show ((p.toNat : Nat) : Int) = p; omega
    rw [e] at hs
    rw [show (p + 1) % 18446744073709551616 = p + 1 by omega]
    refine ⟨by omega, fun hpr => ⟨by omega, by omega, (_, p + 1), rfl, ⟨by show 2 ≤ p + 1; omega, by show p + 1 ≤ 312; omega, ?_, ?_⟩, by show (312 - (p + 1)).toNat < _; omega⟩, fun hpr => ⟨(o, p + 1), rfl, ⟨by show 2 ≤ p + 1; omega, by show p + 1 ≤ 312; omega, ?_, hlen⟩, by show (312 - (p + 1)).toNat < _; omega⟩⟩
    · show o ++ [p] = _
      rw [hs, hpr, ← ho]; rfl
    · show (((o ++ [p]).length : Nat) : Int) ≤ n
      rw [List.length_append]; show ((o.length + 1 : Nat) : Int) ≤ n; omega
    · show o = _
      rw [hs, hpr, ← ho]; exact (List.append_nil o).symm
  · have ht := plist_take ⟨p.toNat, by omega⟩
    have e : ((((⟨p.toNat, by omega⟩ : Fin 313).val : Nat)) : Int) = p := by show ((p.toNat : Nat) : Int) = p; omega
    rw [e, ← ho] at ht
    rw [ht]; congr 1; omega
theorem nextY_eq (x bit : Int) : IntKind.u64.wrap (x.add (IntKind.u64.wrap (Int.mul 1 (Int.pow 2 (if (IntKind.u64.wrap bit).toNat ≤ IntKind.u64.bits then (IntKind.u64.wrap bit).toNat else IntKind.u64.bits))))) = U.nextY x bit := rfl
theorem okref04_square (p : Int) : vcref04_square p := by
  unfold vcref04_square
  simp only [cond_or, cond_and, nextY_eq, cond_prop, int_sub, int_add, wrap_i64, decide_eq_true_eq, decide_eq_false_iff_not, U.Iref04_square_3]
  refine ⟨(0, 36), ⟨rfl, by simp, by simp, rfl⟩, ?_⟩
  rintro ⟨x, bit⟩ ⟨h0, h1, hx⟩
  simp only [] at *
  refine ⟨fun hb => ?_, fun hb => ⟨?_, trivial⟩⟩
  · have hw : (bit - 1 + 9223372036854775808) % 18446744073709551616 - 9223372036854775808 = bit - 1 := by omega
    have hs : U.sqN p (36 - (bit - 1)).toNat = cond (U.sqUp p (U.nextY x bit)) (U.nextY x bit) x := by
      rw [show (36 - (bit - 1)).toNat = (36 - bit).toNat + 1 by omega, U.sqN, ← hx, show (36 : Int) - (((36 - bit).toNat : Nat) : Int) = bit by omega]
    rw [hw]
    refine ⟨by rw [wrap_u64]; omega, fun hc => ⟨(_, bit - 1), rfl, ⟨by show -1 ≤ bit - 1; omega, by show bit - 1 ≤ 36; omega, ?_⟩, by show (bit - 1 + 1).toNat < _; omega⟩, fun hc => ⟨(x, bit - 1), rfl, ⟨by show -1 ≤ bit - 1; omega, by show bit - 1 ≤ 36; omega, ?_⟩, by show (bit - 1 + 1).toNat < _; omega⟩⟩
    · show U.nextY x bit = _
      rw [hs, show U.sqUp p (U.nextY x bit) = true from hc]; rfl
    · show x = _
      rw [hs, show U.sqUp p (U.nextY x bit) = false from hc]; rfl
  · rw [hx, show (36 - bit).toNat = 37 by omega]; rfl
theorem okref04_cube (p : Int) : vcref04_cube p := by
  unfold vcref04_cube
  simp only [cond_or, cond_and, nextY_eq, cond_prop, int_sub, wrap_i64, decide_eq_true_eq, decide_eq_false_iff_not, U.Iref04_cube_3]
  refine ⟨(0, 36), ⟨rfl, by simp, by simp, rfl⟩, ?_⟩
  rintro ⟨x, bit⟩ ⟨h0, h1, hx⟩
  simp only [] at *
  refine ⟨fun hb => ?_, fun hb => ⟨?_, trivial⟩⟩
  · have hw : (bit - 1 + 9223372036854775808) % 18446744073709551616 - 9223372036854775808 = bit - 1 := by omega
    have hs : U.cbN p (36 - (bit - 1)).toNat = cond (U.cbUp p (U.nextY x bit)) (U.nextY x bit) x := by
      rw [show (36 - (bit - 1)).toNat = (36 - bit).toNat + 1 by omega, U.cbN, ← hx, show (36 : Int) - (((36 - bit).toNat : Nat) : Int) = bit by omega]
    rw [hw]
    refine ⟨by rw [wrap_u64]; omega, by omega, by omega, fun hc => ⟨(_, bit - 1), rfl, ⟨by show -1 ≤ bit - 1; omega, by show bit - 1 ≤ 36; omega, ?_⟩, by show (bit - 1 + 1).toNat < (bit + 1).toNat; omega⟩, fun hc => ⟨(x, bit - 1), rfl, ⟨by show -1 ≤ bit - 1; omega, by show bit - 1 ≤ 36; omega, ?_⟩, by show (bit - 1 + 1).toNat < (bit + 1).toNat; omega⟩⟩
    · show U.nextY x bit = _
      rw [hs, show U.cbUp p (U.nextY x bit) = true from hc]; rfl
    · show x = _
      rw [hs, show U.cbUp p (U.nextY x bit) = false from hc]; rfl
  · rw [hx, show (36 - bit).toNat = 37 by omega]; rfl
theorem okref04_constants : vcref04_constants := by
  unfold vcref04_constants
  have hpl : U.plist.length = 64 := rfl
  simp only [cond_prop, int_add, nat_sub, wrap_i64, decide_eq_true_eq, decide_eq_false_iff_not, U.Iref04_constants_4]
  refine ⟨by omega, (_, 0), ⟨rfl, by simp, by simp, rfl⟩, ?_⟩
  rintro ⟨w, i⟩ ⟨h0, h1, hw⟩
  simp only [] at *
  refine ⟨fun hi => ?_, fun hi => ⟨?_, trivial⟩⟩
  · have hi1 : (i + 1 + 9223372036854775808) % 18446744073709551616 - 9223372036854775808 = i + 1 := by omega
    rw [hi1]
    refine ⟨by omega, by omega, by omega, by omega, by omega, (_, i + 1), rfl, ⟨by show 0 ≤ i + 1; omega, by show i + 1 ≤ 64; omega, ?_⟩, by show 64 - (i + 1).toNat < _; omega⟩
    show w.set i.toNat (U.cube (U.plist.getD i.toNat 0)) = U.pad64 64 ((U.plist.take (i + 1).toNat).map U.cube)
    have hl : ((U.plist.take i.toNat).map U.cube).length = i.toNat := by rw [List.length_map, List.length_take]; omega
    have := @pad64_set 64 ((U.plist.take i.toNat).map U.cube) (U.cube (U.plist.getD i.toNat 0)) (by omega)
    rw [hl] at this
    rw [hw, this, take_at h0 (by omega), getD_at (by omega), List.map_append]; rfl
  · rw [hw, List.take_of_length_le (by omega)]
    unfold U.pad64 U.consts
    rw [List.length_map, hpl]; simp
theorem okref04_First : vcref04_First := by
  unfold vcref04_First
  have hpl : (U.plist.take 8).length = 8 := rfl
  simp only [cond_prop, int_add, nat_sub, wrap_i64, decide_eq_true_eq, decide_eq_false_iff_not, U.Iref04_First_4]
  refine ⟨by omega, (_, 0), ⟨rfl, by simp, by simp, rfl⟩, ?_⟩
  rintro ⟨w, i⟩ ⟨h0, h1, hw⟩
  simp only [] at *
  refine ⟨fun hi => ?_, fun hi => ⟨?_, trivial⟩⟩
  · have hi1 : (i + 1 + 9223372036854775808) % 18446744073709551616 - 9223372036854775808 = i + 1 := by omega
    rw [hi1]
    refine ⟨by omega, by omega, by omega, by omega, by omega, (_, i + 1), rfl, ⟨by show 0 ≤ i + 1; omega, by show i + 1 ≤ 8; omega, ?_⟩, by show 8 - (i + 1).toNat < _; omega⟩
    show w.set i.toNat (U.square ((U.plist.take 8).getD i.toNat 0)) = U.pad64 8 ((U.plist.take (i + 1).toNat).map U.square)
    have hp64 : U.plist.length = 64 := rfl
    have hl : ((U.plist.take i.toNat).map U.square).length = i.toNat := by rw [List.length_map, List.length_take]; omega
    have := @pad64_set 8 ((U.plist.take i.toNat).map U.square) (U.square ((U.plist.take 8).getD i.toNat 0)) (by omega)
    rw [hl] at this
    rw [hw, this, take_at h0 (by omega), getD_at (by omega), List.getElem_take, List.map_append]; rfl
  · rw [hw, show i.toNat = 8 by omega]
    unfold U.pad64 U.first8
    rw [List.length_map, hpl]; simp
theorem okref04_rot (x n : Int) (hn : Valid (.int .u64) n) : vcref04_rot x n := by
  refine ⟨(vU64 hn).1, ?_, rfl, trivial⟩
  rw [wrap_u64]; omega
theorem okref04_Step (h b : List Int) (hl : b.length = 64) : vcref04_Step h b := by
  have : List.take ((↑(64 : Nat) : Int).toNat.sub (Int.toNat 0)) (List.drop (Int.toNat 0) b) = b := by
    show List.take 64 (List.drop 0 b) = b
    rw [List.drop_zero, List.take_of_length_le (by omega)]
  unfold vcref04_Step
  refine ⟨by omega, by omega, by omega, ?_, ?_, trivial⟩
  · have h2 := congrArg List.length this
    refine Nat.le_trans (Nat.le_of_eq ?_) (Nat.le_of_eq h2.symm); omega
  · rw [this]
theorem rs16_len (b : List Int) (t : Nat) : (U.rs16 b t).length = t := by simp [U.rs16]
theorem rschedN_len (b : List Int) : ∀ k, (U.rschedN b k).length = 16 + k
  | 0 => rs16_len b 16
  | k + 1 => by rw [U.rschedN, List.length_append, rschedN_len b k]; rfl
theorem pad64_set_last {n : Nat} {l : List Int} {x y : Int} (h : l.length < n) : (U.pad64 n (l ++ [x])).set l.length y = U.pad64 n (l ++ [y]) := by
  unfold U.pad64
  rw [List.set_append, if_pos (by simp), List.set_append, if_neg (by omega), Nat.sub_self]; simp
theorem pad64_app0 {n : Nat} {l : List Int} (h : l.length < n) : U.pad64 n (l ++ [0]) = U.pad64 n l := by
  unfold U.pad64
  rw [List.length_append, show n - l.length = (n - (l.length + 1)) + 1 by omega, List.replicate_succ]; simp
theorem rrnds_len (k w h : List Int) (h8 : h.length = 8) : ∀ t, (U.rrnds k w t h).length = 8
  | 0 => h8
  | t + 1 => rfl
set_option maxHeartbeats 2000000 in
theorem okref04_step (h b kk : List Int) (h8 : h.length = 8) (hbl : b.length ≤ maxLen) (hl : 64 ≤ b.length) : vcref04_step h b kk := by
  rw [maxLen_eq] at hbl
  unfold vcref04_step
  simp only [cond_prop, int_add, int_sub, nat_sub, int_mul, U.Iref04_step_3, U.Iref04_step_6, U.Iref04_step_10, U.Iref04_step_16, U.Iref04_step_23, wrap_i64, decide_eq_true_eq, decide_eq_false_iff_not]
  refine ⟨(_, 0), ⟨rfl, by simp, by simp, rfl⟩, ?_⟩
  rintro ⟨w, t⟩ ⟨h0, h1, hw⟩
  simp only [] at *
  refine ⟨fun ht => ?_, fun ht => ?_⟩
  · have hlen := rs16_len b t.toNat
    refine ⟨(w, t, 0), ⟨rfl, trivial, h0, ht, by simp, by simp, ?_⟩, ?_⟩
    · show w = U.pad64 64 (U.rs16 b t.toNat ++ [0])
      rw [pad64_app0 (by omega)]; exact hw
    rintro ⟨w, t', i⟩ ⟨htt, h2, h3, h4, h5, hw⟩
    simp only [] at *
    have hlen := rs16_len b t'.toNat
    refine ⟨fun hi => ?_, fun hi => ?_⟩
    · rw [show (4 * t' + 9223372036854775808) % 18446744073709551616 - 9223372036854775808 = 4 * t' by omega, show (4 * t' + i + 9223372036854775808) % 18446744073709551616 - 9223372036854775808 = 4 * t' + i by omega, show (i + 1 + 9223372036854775808) % 18446744073709551616 - 9223372036854775808 = i + 1 by omega]
      refine ⟨by omega, by omega, by omega, by omega, by omega, by omega, by omega, by omega, (_, t', i + 1), rfl, ⟨htt, h2, h3, by show 0 ≤ i + 1; omega, by show i + 1 ≤ 4; omega, ?_⟩, by show 4 - (i + 1).toNat < 4 - i.toNat; omega⟩
      show w.set t'.toNat (U.add32 (IntKind.wrap .u32 (w.getD t'.toNat 0 * 256)) (IntKind.wrap .u32 (b.getD (4 * t' + i).toNat 0))) = U.pad64 64 (U.rs16 b t'.toNat ++ [U.wp b t'.toNat (i + 1).toNat])
      have hg : w.getD t'.toNat 0 = U.wp b t'.toNat i.toNat := by
        rw [hw, pad64_at (by rw [List.length_append]; show t'.toNat < (U.rs16 b t'.toNat).length + 1; omega), getD_at (by rw [List.length_append]; show t'.toNat < (U.rs16 b t'.toNat).length + 1; omega), List.getElem_append_right (by omega)]; simp [hlen]
      rw [hg, show (i + 1).toNat = i.toNat + 1 by omega, U.wp, show (4 * t' + i).toNat = 4 * t'.toNat + i.toNat by omega, hw]
      have := @pad64_set_last 64 (U.rs16 b t'.toNat) (U.wp b t'.toNat i.toNat) (U.add32 (IntKind.wrap .u32 (U.wp b t'.toNat i.toNat * 256)) (IntKind.wrap .u32 (b.getD (4 * t'.toNat + i.toNat) 0))) (by omega)
      rw [hlen] at this; exact this
    · rw [show (t' + 1 + 9223372036854775808) % 18446744073709551616 - 9223372036854775808 = t' + 1 by omega]
      refine ⟨(w, t' + 1), rfl, ⟨by show 0 ≤ t' + 1; omega, by show t' + 1 ≤ 16; omega, ?_⟩, ?_⟩
      · show w = U.pad64 64 (U.rs16 b (t' + 1).toNat)
        rw [hw, show (t' + 1).toNat = t'.toNat + 1 by omega, show i.toNat = 4 by omega]
        have : U.rs16 b (t'.toNat + 1) = U.rs16 b t'.toNat ++ [U.wp b t'.toNat 4] := by simp [U.rs16, List.range_succ]
        rw [this]
      · show 16 - (t' + 1).toNat < 16 - t.toNat
        omega
  · have ht : t = 16 := by omega
    subst ht
    refine ⟨(_, 16), ⟨rfl, by simp, by simp, hw⟩, ?_⟩
    rintro ⟨w, t⟩ ⟨h0, h1, hw⟩
    simp only [] at *
    refine ⟨fun ht => ?_, fun ht => ?_⟩
    · have s : ∀ c : Int, 0 ≤ c → c ≤ 16 → (t - c + 9223372036854775808) % 18446744073709551616 - 9223372036854775808 = t - c := fun c _ _ => by omega
      rw [s 15 (by omega) (by omega), s 2 (by omega) (by omega), s 16 (by omega) (by omega), s 7 (by omega) (by omega), show (t + 1 + 9223372036854775808) % 18446744073709551616 - 9223372036854775808 = t + 1 by omega]
      refine ⟨by omega, by omega, by omega, by omega, by omega, by omega, by omega, by omega, by omega, by omega, by omega, by omega, by omega, by omega, by omega, by omega, by omega, (_, t + 1), rfl, ⟨by show 16 ≤ t + 1; omega, by show t + 1 ≤ 64; omega, ?_⟩, by show 64 - (t + 1).toNat < 64 - t.toNat; omega⟩
      change w.set t.toNat (U.add32 (U.add32 (U.add32 (U.xor32 (U.xor32 (U.rot (w.getD (t - 2).toNat 0) 17) (U.rot (w.getD (t - 2).toNat 0) 19)) (U.shr .u32 (w.getD (t - 2).toNat 0) 10)) (w.getD (t - 7).toNat 0)) (U.xor32 (U.xor32 (U.rot (w.getD (t - 15).toNat 0) 7) (U.rot (w.getD (t - 15).toNat 0) 18)) (U.shr .u32 (w.getD (t - 15).toNat 0) 3))) (w.getD (t - 16).toNat 0)) = U.pad64 64 (U.rschedN b ((t + 1).toNat - 16))
      have hn := rschedN_len b (t - 16).toNat
      rw [show (t + 1).toNat - 16 = (t - 16).toNat + 1 by omega, U.rschedN, hw, show t.toNat - 16 = (t - 16).toNat by omega, pad64_at (by omega), pad64_at (by omega), pad64_at (by omega), pad64_at (by omega)]
      have := @pad64_set 64 (U.rschedN b (t - 16).toNat) (U.rnext (U.rschedN b (t - 16).toNat)) (by omega)
      rw [hn, show 16 + (t - 16).toNat = t.toNat by omega] at this
      rw [← this]
      unfold U.rnext
      rw [hn, show 16 + (t - 16).toNat - 16 = (t - 16).toNat by omega, show 16 + (t - 16).toNat - 15 = (t - 15).toNat by omega, show 16 + (t - 16).toNat - 7 = (t - 7).toNat by omega, show 16 + (t - 16).toNat - 2 = (t - 2).toNat by omega]
    · have hw : w = U.rsched b := by
        rw [hw, show t.toNat - 16 = 48 by omega]
        unfold U.pad64 U.rsched
        rw [rschedN_len]; simp
      refine ⟨(_, _, 0), ⟨rfl, hw, by simp, by simp, rfl⟩, ?_⟩
      rintro ⟨w, v, t⟩ ⟨hw, h0, h1, hv⟩
      simp only [] at *
      refine ⟨fun ht => ?_, fun ht => ?_⟩
      · rw [show (t + 1 + 9223372036854775808) % 18446744073709551616 - 9223372036854775808 = t + 1 by omega]
        refine ⟨by omega, by omega, by decide, by omega, by omega, by decide, by omega, by omega, by decide, by omega, by omega, by decide, by omega, by omega, by decide, by omega, by omega, by decide, by omega, by omega, by decide, by omega, by omega, by omega, by omega, by omega, by omega, by omega, by omega, by decide, (_, _, t + 1), rfl, ⟨hw, by show 0 ≤ t + 1; omega, by show t + 1 ≤ 64; omega, ?_⟩, by show 64 - (t + 1).toNat < 64 - t.toNat; omega⟩
        show _ = U.rrnds kk (U.rsched b) (t + 1).toNat h
        rw [show (t + 1).toNat = t.toNat + 1 by omega, U.rrnds, ← hv, hw]
        rfl
      · have ht : t = 64 := by omega
        subst ht
        have hv8 := rrnds_len kk (U.rsched b) h h8 64
        have hv : v = U.rrnds kk (U.rsched b) 64 h := hv
        rw [← hv] at hv8
        subst hv
        refine ⟨(_, 0), ⟨rfl, by simp, by simp, rfl⟩, ?_⟩
        rintro ⟨v, k⟩ ⟨h0, h1, hv⟩
        simp only [] at *
        have hvl : v.length = 8 := by rw [hv, List.length_append, List.length_zipWith, List.length_take, List.length_drop]; omega
        refine ⟨fun ht => ?_, fun ht => ⟨?_, trivial⟩⟩
        · rw [show (k + 1 + 9223372036854775808) % 18446744073709551616 - 9223372036854775808 = k + 1 by omega]
          refine ⟨by omega, by omega, by omega, by omega, by omega, by omega, by omega, by omega, by omega, (_, k + 1), rfl, ⟨by show 0 ≤ k + 1; omega, by show k + 1 ≤ 8; omega, ?_⟩, by show 8 - (k + 1).toNat < 8 - k.toNat; omega⟩
          show v.set k.toNat (U.add32 (v.getD k.toNat 0) (h.getD k.toNat 0)) = List.zipWith U.add32 ((U.rrnds kk (U.rsched b) 64 h).take (k + 1).toNat) h ++ (U.rrnds kk (U.rsched b) 64 h).drop (k + 1).toNat
          rw [show (k + 1).toNat = k.toNat + 1 by omega, hv, zip_at U.add32 _ h k.toNat (by omega) (by omega)]
          exact zip_step U.add32 _ h k.toNat (by omega) (by omega)
        · rw [hv, List.take_of_length_le (by omega), List.drop_eq_nil_of_le (by omega)]; simp [U.rstep]
theorem zeros_at (n m : Nat) (h : m ≤ U.zeros n) : (n + 1 + m) % 64 = 56 ↔ m = U.zeros n := by unfold U.zeros at *; omega
theorem okref04_Pad (b : List Int) (hl : b.length ≤ 1000000000000) : vcref04_Pad b := by
  unfold vcref04_Pad
  have hz := zeros_lt b.length
  simp only [cond_prop, int_mul, int_sub, nat_add, nat_mul, nat_sub, list_append, maxLen_eq, wrap_i64, wrap_u64, wrap_u8, U.Iref04_Pad_2, U.Iref04_Pad_6, decide_eq_true_eq, decide_eq_false_iff_not, bne_iff_ne, bne_eq_false_iff_eq]
  refine ⟨by omega, by omega, by omega, by omega, _, ⟨rfl, 0, by omega, rfl⟩, ?_⟩
  rintro o ⟨m, hm, ho⟩
  have hol : o.length = b.length + 1 + m := by rw [ho]; simp; omega
  rw [Int.tmod_eq_emod_of_nonneg (by omega)]
  refine ⟨by omega, fun hne => ⟨by omega, by omega, _, rfl, ⟨m + 1, ?_, ?_⟩, ?_⟩, fun he => ?_⟩
  · have := (zeros_at b.length m hm).2; omega
  · show o ++ [0] = _
    rw [ho, List.replicate_succ']; simp
  · show b.length + 1 + U.zeros b.length - (o ++ [0]).length < _
    have := (zeros_at b.length m hm).2
    rw [List.length_append]; show b.length + 1 + U.zeros b.length - (o.length + 1) < _; omega
  · have hmz : m = U.zeros b.length := (zeros_at b.length m hm).1 (by omega)
    subst hmz
    refine ⟨(_, _, _), ⟨rfl, by simp only []; omega, by simp, by simp, by simpa using ho⟩, ?_⟩
    rintro ⟨o, n, i⟩ ⟨hn, h0, h1, ho⟩
    simp only [] at *
    have hol : o.length ≤ b.length + 73 := by
      rw [ho]; simp only [List.length_append, List.length_cons, List.length_replicate, List.length_take, be8_len]; omega
    refine ⟨fun hi => ?_, fun hi => ⟨?_, trivial⟩⟩
    · rw [show (8 * i + 9223372036854775808) % 18446744073709551616 - 9223372036854775808 = 8 * i by omega, show (8 * i) % 18446744073709551616 = 8 * i by omega, show (i - 1 + 9223372036854775808) % 18446744073709551616 - 9223372036854775808 = i - 1 by omega]
      rw [if_pos (by show (8 * i).toNat ≤ 64; omega)]
      refine ⟨by omega, by omega, by omega, (_, n, i - 1), rfl, ⟨hn, by show -1 ≤ i - 1; omega, by show i - 1 ≤ 7; omega, ?_⟩, by show (i - 1 + 1).toNat < (i + 1).toNat; omega⟩
      show o ++ [n.fdiv (Int.pow 2 (8 * i).toNat) % 256] = _
      rw [ho, show (7 - (i - 1)).toNat = (7 - i).toNat + 1 by omega, List.take_succ_eq_append_getElem (by rw [be8_len]; omega)]
      have hg : ∀ (k N j : Nat) (hj : j < (U.be8 k N).length), (U.be8 k N)[j] = ((N / 256 ^ (k - 1 - j) % 256 : Nat) : Int) := by
        intro k
        induction k with
        | zero => intro N j hj; cases hj
        | succ k ih =>
          intro N j hj
          cases j with
          | zero => simp [U.be8]
          | succ j =>
            have hj' : j < (U.be8 k N).length := by simpa [U.be8] using hj
            have := ih N j hj'
            rw [show k + 1 - 1 - (j + 1) = k - 1 - j by omega, ← this]
            simp [U.be8]
      rw [hg, hn]
      have e : ((b.length : Int) * 8) = ((b.length * 8 : Nat) : Int) := by omega
      have e2 : Int.pow 2 (8 * i).toNat = ((256 ^ i.toNat : Nat) : Int) := by
        rw [show (8 * i).toNat = 8 * i.toNat by omega, show (256 : Nat) = 2 ^ 8 from rfl, ← Nat.pow_mul]
        show (2 : Int) ^ _ = _
        push_cast; rfl
      rw [e, e2, Int.fdiv_eq_ediv_of_nonneg _ (Int.natCast_nonneg _), show 8 - 1 - (7 - i).toNat = i.toNat by omega]
      simp only [List.append_assoc, List.cons_append]
      congr 4
    · rw [ho, show (7 - i).toNat = 8 by omega, List.take_of_length_le (by rw [be8_len]; omega)]; rfl
theorem okref04_Sum (b : List Int) (hl : b.length ≤ 1000000000000) : vcref04_Sum b := by
  unfold vcref04_Sum
  have hp := pad_len b
  have hz := zeros_lt b.length
  simp only [cond_prop, int_add, nat_sub, U.Iref04_Sum_4, U.Iref04_Sum_9, decide_eq_true_eq, decide_eq_false_iff_not]
  have hc : (U.chunks 64 (U.pad b)).length * 64 = (U.pad b).length := by rw [chunks_len]; omega
  refine ⟨hl, (_, 0), ⟨rfl, by simp, by simp, 0, by simp, rfl⟩, ?_⟩
  rintro ⟨h, i⟩ ⟨h0, h1, k, hi, hh⟩
  simp only [] at *
  refine ⟨fun hlt => ?_, fun hge => ?_⟩
  · have hk : k < (U.chunks 64 (U.pad b)).length := by omega
    have hw : IntKind.i64.wrap (i + 64) = i + 64 := by rw [wrap_i64]; omega
    have hch := chunks_at hk
    have hcl := chunk64 hp.1 hk
    have hsl : List.take ((i + 64).toNat - i.toNat) (List.drop i.toNat (U.pad b)) = (U.chunks 64 (U.pad b)).getD k [] := by
      rw [hch, show (i + 64).toNat - i.toNat = 64 by omega, show i.toNat = k * 64 by omega]
    rw [hw, hsl, hcl]
    refine ⟨h0, by omega, by omega, by omega, (_, i + 64), rfl, ⟨by show 0 ≤ i + 64; omega, by show i + 64 ≤ _; omega, k + 1, by show i + 64 = _; push_cast; omega, ?_⟩, by show _ - (i + 64).toNat < _; omega⟩
    show U.rstep h ((U.chunks 64 (U.pad b)).getD k []) U.consts = _
    rw [List.take_succ_eq_append_getElem hk, List.foldl_append, ← hh, getD_at hk]; rfl
  · have hk : k = (U.chunks 64 (U.pad b)).length := by omega
    have hI : h = U.rsums b := by rw [hh, hk, List.take_length]; unfold U.rsums; rfl
    refine ⟨(_, _, _), ⟨rfl, hI, by simp, by simp, rfl⟩, ?_⟩
    rintro ⟨h, s, k⟩ ⟨hh, h0, h1, hs⟩
    simp only [] at *
    refine ⟨fun ht => ?_, fun ht => ⟨?_, trivial⟩⟩
    · have hw : IntKind.i64.wrap (k + 1) = k + 1 := by rw [wrap_i64]; omega
      have h4 : IntKind.i64.wrap (Int.tdiv k 4) = k / 4 := by rw [Int.tdiv_eq_ediv_of_nonneg (by omega), wrap_i64]; omega
      have h5 : IntKind.u64.wrap (IntKind.i64.wrap (Int.sub 24 (IntKind.i64.wrap (Int.mul 8 (Int.tmod k 4))))) = 24 - 8 * (k % 4) := by
        rw [Int.tmod_eq_emod_of_nonneg (by omega)]; simp only [wrap_i64, wrap_u64, int_sub, int_mul]; omega
      have h6 : (if (24 - 8 * (k % 4)).toNat ≤ IntKind.u32.bits then (24 - 8 * (k % 4)).toNat else IntKind.u32.bits) = 24 - 8 * (k.toNat % 4) := by
        rw [if_pos (by show _ ≤ 32; omega)]; omega
      rw [hw, h4, h5, h6]
      refine ⟨by omega, by omega, by omega, by omega, by omega, by omega, by omega, by omega, by omega, (_, _, _), rfl, ⟨hh, by show 0 ≤ k + 1; omega, by show k + 1 ≤ 32; omega, ?_⟩, by show 32 - (k + 1).toNat < _; omega⟩
      show s.set k.toNat _ = (U.out32 (U.rsums b)).take (k + 1).toNat ++ List.replicate (32 - (k + 1).toNat) 0
      have := @fill_set (U.out32 (U.rsums b)) k.toNat 32 (out32_len _) (by omega)
      rw [show (k + 1).toNat = k.toNat + 1 by omega, ← this, hs, out32_at _ (by omega), show (k / 4).toNat = k.toNat / 4 by omega, hh]
      unfold U.shr
      rw [show min (24 - 8 * (k.toNat % 4)) IntKind.u32.bits = 24 - 8 * (k.toNat % 4) by show min _ 32 = _; omega]
    · rw [hs, List.take_of_length_le (by rw [out32_len]; omega), show 32 - k.toNat = 0 by omega, List.replicate_zero, List.append_nil]
theorem hex_at (j : Nat) (h : j < 16) : List.take (j + 1 - j) (List.drop j [(↑(UInt8.toNat (48 : UInt8)) : Int), (↑(UInt8.toNat (49 : UInt8)) : Int), (↑(UInt8.toNat (50 : UInt8)) : Int), (↑(UInt8.toNat (51 : UInt8)) : Int), (↑(UInt8.toNat (52 : UInt8)) : Int), (↑(UInt8.toNat (53 : UInt8)) : Int), (↑(UInt8.toNat (54 : UInt8)) : Int), (↑(UInt8.toNat (55 : UInt8)) : Int), (↑(UInt8.toNat (56 : UInt8)) : Int), (↑(UInt8.toNat (57 : UInt8)) : Int), (↑(UInt8.toNat (97 : UInt8)) : Int), (↑(UInt8.toNat (98 : UInt8)) : Int), (↑(UInt8.toNat (99 : UInt8)) : Int), (↑(UInt8.toNat (100 : UInt8)) : Int), (↑(UInt8.toNat (101 : UInt8)) : Int), (↑(UInt8.toNat (102 : UInt8)) : Int)]) = [U.hexs.getD j 0] := by
  have : ∀ k : Fin 16, List.take (k.val + 1 - k.val) (List.drop k.val [(↑(UInt8.toNat (48 : UInt8)) : Int), (↑(UInt8.toNat (49 : UInt8)) : Int), (↑(UInt8.toNat (50 : UInt8)) : Int), (↑(UInt8.toNat (51 : UInt8)) : Int), (↑(UInt8.toNat (52 : UInt8)) : Int), (↑(UInt8.toNat (53 : UInt8)) : Int), (↑(UInt8.toNat (54 : UInt8)) : Int), (↑(UInt8.toNat (55 : UInt8)) : Int), (↑(UInt8.toNat (56 : UInt8)) : Int), (↑(UInt8.toNat (57 : UInt8)) : Int), (↑(UInt8.toNat (97 : UInt8)) : Int), (↑(UInt8.toNat (98 : UInt8)) : Int), (↑(UInt8.toNat (99 : UInt8)) : Int), (↑(UInt8.toNat (100 : UInt8)) : Int), (↑(UInt8.toNat (101 : UInt8)) : Int), (↑(UInt8.toNat (102 : UInt8)) : Int)]) = [U.hexs.getD k.val 0] := by decide
  exact this ⟨j, h⟩
theorem okref04_Text (s : List Int) (hs : ∀ x ∈ s, Valid (.int .u8) x) (hl : s.length = 32) : vcref04_Text s := by
  unfold vcref04_Text
  simp only [cond_prop, int_add, nat_sub, nat_add, list_append, U.Iref04_Text_3, decide_eq_true_eq, decide_eq_false_iff_not]
  refine ⟨(_, _), ⟨rfl, by simp, by simp, rfl⟩, ?_⟩
  rintro ⟨o, k⟩ ⟨h0, h1, ho⟩
  simp only [] at *
  refine ⟨fun ht => ?_, fun ht => ⟨?_, trivial⟩⟩
  · have hb := u8_at hs k.toNat
    have hol : o.length = 2 * k.toNat := by rw [ho, text_len, List.length_take]; omega
    have hg : s.getD k.toNat 0 = s[k.toNat] := getD_at (by omega)
    have hw : IntKind.i64.wrap (k + 1) = k + 1 := by rw [wrap_i64]; omega
    generalize hx : s.getD k.toNat 0 = x at *
    have e1 : IntKind.u8.wrap (Int.tdiv x 16) = x / 16 := by rw [Int.tdiv_eq_ediv_of_nonneg hb.1, wrap_u8]; omega
    have e2 : IntKind.u8.wrap (x / 16 + 1) = x / 16 + 1 := by rw [wrap_u8]; omega
    have e3 : Int.tmod x 16 = x % 16 := Int.tmod_eq_emod_of_nonneg hb.1
    have e4 : IntKind.u8.wrap (x % 16 + 1) = x % 16 + 1 := by rw [wrap_u8]; omega
    rw [hw, e1, e2, e3, e4, show (x / 16 + 1).toNat = (x / 16).toNat + 1 by omega, show (x % 16 + 1).toNat = (x % 16).toNat + 1 by omega]
    have t1 := hex_at (x / 16).toNat (by omega)
    have t2 := hex_at (x % 16).toNat (by omega)
    rw [t1, t2]
    refine ⟨by omega, by omega, by omega, by omega, by omega, by omega, by omega, by omega, by omega, by omega, by omega, ?_, by omega, by omega, by omega, by omega, by omega, by omega, by omega, by omega, by omega, by omega, by omega, ?_, (_, k + 1), rfl, ⟨by show 0 ≤ k + 1; omega, by show k + 1 ≤ 32; omega, ?_⟩, by show 32 - (k + 1).toNat < 32 - k.toNat; omega⟩
    · show o.length + 1 ≤ _; omega
    · rw [List.length_append]; show o.length + 1 + 1 ≤ _; omega
    · show (o ++ [U.hexs.getD (x / 16).toNat 0]) ++ [U.hexs.getD (x % 16).toNat 0] = U.text (s.take (k + 1).toNat)
      have hcat : ∀ a b : List Int, U.text (a ++ b) = U.text a ++ U.text b := fun a b => List.flatMap_append
      rw [take_at h0 (by omega), hcat, ho, ← hg]
      simp [U.text]
  · rw [ho, List.take_of_length_le (by omega)]
end Go.Proofs.YtoecpaccpcnkcaaDoor
/- The functions' summaries hold of the program. -/
set_option linter.unusedSimpArgs false
set_option maxRecDepth 100000
set_option linter.unusedVariables false
namespace Go.Proofs.YtoecpaccpcnkcaaDoor
open Go.Vc
theorem wref03_Same (x : DenL [tBytes, tBytes]) : Owes Tryd.prog (cfgOf Qlaw04_alive) (Lref03_Same x.1 x.2) 17 (argVs [tBytes, tBytes] x) [] (dref03_Same x.1 x.2) = vcref03_Same x.1 x.2 := by kernel_rfl
theorem qref03_Same : Pok 17 [tBytes, tBytes] (fun x => dref03_Same x.1 x.2) := by
  refine pk (L := fun x => Lref03_Same x.1 x.2) (l := Qlaw04_alive) aQlaw04_alive (fun _ => rfl) ?_
  intro x hv hp
  rw [wref03_Same]
  exact okref03_Same x.1 x.2 
theorem pref03_Same : SumOk Tryd.prog gl 17 sref03_Same := qref03_Same
theorem aQref03_Same : AllOk Qref03_Same := .cons pref03_Same aQlaw04_alive
theorem pmath_bits_Add64 : SumOk Tryd.prog gl 37 smath_bits_Add64 := add64Ok_of (fn := Tryd.f37) (by kernel_rfl) (by kernel_rfl) (by kernel_rfl) (by kernel_rfl) (by rfl)
theorem aQmath_bits_Add64 : AllOk Qmath_bits_Add64 := .cons pmath_bits_Add64 aQref03_Same
theorem wmath_bits_Mul64 (x : DenL [.int .u64, .int .u64]) : Owes Tryd.prog (cfgOf Qmath_bits_Add64) (Lmath_bits_Mul64 x.1 x.2) 32 (argVs [.int .u64, .int .u64] x) [] (dmath_bits_Mul64 x.1 x.2) = vcmath_bits_Mul64 x.1 x.2 := by kernel_rfl
theorem qmath_bits_Mul64 : Pok 32 [.int .u64, .int .u64] (fun x => dmath_bits_Mul64 x.1 x.2) := by
  refine pk (L := fun x => Lmath_bits_Mul64 x.1 x.2) (l := Qmath_bits_Add64) aQmath_bits_Add64 (fun _ => rfl) ?_
  intro x hv hp
  rw [wmath_bits_Mul64]
  exact okmath_bits_Mul64 x.1 x.2 hv.1 hv.2
theorem pmath_bits_Mul64 : SumOk Tryd.prog gl 32 smath_bits_Mul64 := qmath_bits_Mul64
theorem aQmath_bits_Mul64 : AllOk Qmath_bits_Mul64 := .cons pmath_bits_Mul64 aQmath_bits_Add64
theorem wref04_prime (x : DenL [.int .u64]) : Owes Tryd.prog (cfgOf Qmath_bits_Mul64) (Lref04_prime x) 31 (argVs [.int .u64] x) [] (dref04_prime x) = vcref04_prime x := by kernel_rfl
theorem qref04_prime : Pok 31 [.int .u64] (fun x => dref04_prime x) := by
  refine pk (L := fun x => Lref04_prime x) (l := Qmath_bits_Mul64) aQmath_bits_Mul64 (fun _ => rfl) ?_
  intro x hv hp
  rw [wref04_prime]
  exact okref04_prime x (hp (0 ≤ x ∧ x ≤ 400) (by simp [dref04_prime]))
theorem pref04_prime : SumOk Tryd.prog gl 31 sref04_prime := qref04_prime
theorem aQref04_prime : AllOk Qref04_prime := .cons pref04_prime aQmath_bits_Mul64
theorem wref04_primes (x : DenL [.int .i64]) : Owes Tryd.prog (cfgOf Qref04_prime) (Lref04_primes x) 23 (argVs [.int .i64] x) [] (dref04_primes x) = vcref04_primes x := by kernel_rfl
theorem qref04_primes : Pok 23 [.int .i64] (fun x => dref04_primes x) := by
  refine pk (L := fun x => Lref04_primes x) (l := Qref04_prime) aQref04_prime (fun _ => rfl) ?_
  intro x hv hp
  rw [wref04_primes]
  exact okref04_primes x (hp (0 ≤ x ∧ x ≤ 64) (by simp [dref04_primes]))
theorem pref04_primes : SumOk Tryd.prog gl 23 sref04_primes := qref04_primes
theorem aQref04_primes : AllOk Qref04_primes := .cons pref04_primes aQref04_prime
theorem wref04_square (x : DenL [.int .u64]) : Owes Tryd.prog (cfgOf Qref04_primes) (Lref04_square x) 24 (argVs [.int .u64] x) [] (dref04_square x) = vcref04_square x := by kernel_rfl
theorem qref04_square : Pok 24 [.int .u64] (fun x => dref04_square x) := by
  refine pk (L := fun x => Lref04_square x) (l := Qref04_primes) aQref04_primes (fun _ => rfl) ?_
  intro x hv hp
  rw [wref04_square]
  exact okref04_square x 
theorem pref04_square : SumOk Tryd.prog gl 24 sref04_square := qref04_square
theorem aQref04_square : AllOk Qref04_square := .cons pref04_square aQref04_primes
theorem wref04_cube (x : DenL [.int .u64]) : Owes Tryd.prog (cfgOf Qref04_square) (Lref04_cube x) 33 (argVs [.int .u64] x) [] (dref04_cube x) = vcref04_cube x := by kernel_rfl
theorem qref04_cube : Pok 33 [.int .u64] (fun x => dref04_cube x) := by
  refine pk (L := fun x => Lref04_cube x) (l := Qref04_square) aQref04_square (fun _ => rfl) ?_
  intro x hv hp
  rw [wref04_cube]
  exact okref04_cube x 
theorem pref04_cube : SumOk Tryd.prog gl 33 sref04_cube := qref04_cube
theorem aQref04_cube : AllOk Qref04_cube := .cons pref04_cube aQref04_square
theorem wref04_constants (x : DenL []) : Owes Tryd.prog (cfgOf Qref04_cube) (Lref04_constants ) 25 (argVs [] x) [] (dref04_constants ) = vcref04_constants  := by kernel_rfl
theorem qref04_constants : Pok 25 [] (fun x => dref04_constants ) := by
  refine pk (L := fun x => Lref04_constants ) (l := Qref04_cube) aQref04_cube (fun _ => rfl) ?_
  intro x hv hp
  rw [wref04_constants]
  exact okref04_constants  
theorem pref04_constants : SumOk Tryd.prog gl 25 sref04_constants := qref04_constants
theorem aQref04_constants : AllOk Qref04_constants := .cons pref04_constants aQref04_cube
theorem wref04_First (x : DenL []) : Owes Tryd.prog (cfgOf Qref04_constants) (Lref04_First ) 12 (argVs [] x) [] (dref04_First ) = vcref04_First  := by kernel_rfl
theorem qref04_First : Pok 12 [] (fun x => dref04_First ) := by
  refine pk (L := fun x => Lref04_First ) (l := Qref04_constants) aQref04_constants (fun _ => rfl) ?_
  intro x hv hp
  rw [wref04_First]
  exact okref04_First  
theorem pref04_First : SumOk Tryd.prog gl 12 sref04_First := qref04_First
theorem aQref04_First : AllOk Qref04_First := .cons pref04_First aQref04_constants
theorem wref04_rot (x : DenL [.int .u32, .int .u64]) : Owes Tryd.prog (cfgOf Qref04_First) (Lref04_rot x.1 x.2) 34 (argVs [.int .u32, .int .u64] x) [] (dref04_rot x.1 x.2) = vcref04_rot x.1 x.2 := by kernel_rfl
theorem qref04_rot : Pok 34 [.int .u32, .int .u64] (fun x => dref04_rot x.1 x.2) := by
  refine pk (L := fun x => Lref04_rot x.1 x.2) (l := Qref04_First) aQref04_First (fun _ => rfl) ?_
  intro x hv hp
  rw [wref04_rot]
  exact okref04_rot x.1 x.2 hv.2
theorem pref04_rot : SumOk Tryd.prog gl 34 sref04_rot := qref04_rot
theorem aQref04_rot : AllOk Qref04_rot := .cons pref04_rot aQref04_First
theorem wref04_step (x : DenL [tW8, tBytes, tW64]) : Owes Tryd.prog (cfgOf Qref04_rot) (Lref04_step x.1 x.2.1 x.2.2) 26 (argVs [tW8, tBytes, tW64] x) [] (dref04_step x.1 x.2.1 x.2.2) = vcref04_step x.1 x.2.1 x.2.2 := by kernel_rfl
theorem qref04_step : Pok 26 [tW8, tBytes, tW64] (fun x => dref04_step x.1 x.2.1 x.2.2) := by
  refine pk (L := fun x => Lref04_step x.1 x.2.1 x.2.2) (l := Qref04_rot) aQref04_rot (fun _ => rfl) ?_
  intro x hv hp
  rw [wref04_step]
  exact okref04_step x.1 x.2.1 x.2.2 hv.1.2 hv.2.1.2 (hp (64 ≤ List.length x.2.1) (by simp [dref04_step]))
theorem pref04_step : SumOk Tryd.prog gl 26 sref04_step := qref04_step
theorem aQref04_step : AllOk Qref04_step := .cons pref04_step aQref04_rot
theorem wref04_Step (x : DenL [tW8, tK64]) : Owes Tryd.prog (cfgOf Qref04_step) (Lref04_Step x.1 x.2) 19 (argVs [tW8, tK64] x) [] (dref04_Step x.1 x.2) = vcref04_Step x.1 x.2 := by kernel_rfl
theorem qref04_Step : Pok 19 [tW8, tK64] (fun x => dref04_Step x.1 x.2) := by
  refine pk (L := fun x => Lref04_Step x.1 x.2) (l := Qref04_step) aQref04_step (fun _ => rfl) ?_
  intro x hv hp
  rw [wref04_Step]
  exact okref04_Step x.1 x.2 hv.2.2
theorem pref04_Step : SumOk Tryd.prog gl 19 sref04_Step := qref04_Step
theorem aQref04_Step : AllOk Qref04_Step := .cons pref04_Step aQref04_step
theorem wref04_Pad (x : DenL [tBytes]) : Owes Tryd.prog (cfgOf Qref04_Step) (Lref04_Pad x) 18 (argVs [tBytes] x) [] (dref04_Pad x) = vcref04_Pad x := by kernel_rfl
theorem qref04_Pad : Pok 18 [tBytes] (fun x => dref04_Pad x) := by
  refine pk (L := fun x => Lref04_Pad x) (l := Qref04_Step) aQref04_Step (fun _ => rfl) ?_
  intro x hv hp
  rw [wref04_Pad]
  exact okref04_Pad x (hp (List.length x ≤ 1000000000000) (by simp [dref04_Pad]))
theorem pref04_Pad : SumOk Tryd.prog gl 18 sref04_Pad := qref04_Pad
theorem aQref04_Pad : AllOk Qref04_Pad := .cons pref04_Pad aQref04_Step
theorem wref04_Sum (x : DenL [tBytes]) : Owes Tryd.prog (cfgOf Qref04_Pad) (Lref04_Sum x) 14 (argVs [tBytes] x) [] (dref04_Sum x) = vcref04_Sum x := by kernel_rfl
theorem qref04_Sum : Pok 14 [tBytes] (fun x => dref04_Sum x) := by
  refine pk (L := fun x => Lref04_Sum x) (l := Qref04_Pad) aQref04_Pad (fun _ => rfl) ?_
  intro x hv hp
  rw [wref04_Sum]
  exact okref04_Sum x (hp (List.length x ≤ 1000000000000) (by simp [dref04_Sum]))
theorem pref04_Sum : SumOk Tryd.prog gl 14 sref04_Sum := qref04_Sum
theorem aQref04_Sum : AllOk Qref04_Sum := .cons pref04_Sum aQref04_Pad
theorem wref04_Text (x : DenL [tS32]) : Owes Tryd.prog (cfgOf Qref04_Sum) (Lref04_Text x) 16 (argVs [tS32] x) [] (dref04_Text x) = vcref04_Text x := by kernel_rfl
theorem qref04_Text : Pok 16 [tS32] (fun x => dref04_Text x) := by
  refine pk (L := fun x => Lref04_Text x) (l := Qref04_Sum) aQref04_Sum (fun _ => rfl) ?_
  intro x hv hp
  rw [wref04_Text]
  exact okref04_Text x hv.1 hv.2
theorem pref04_Text : SumOk Tryd.prog gl 16 sref04_Text := qref04_Text
theorem aQref04_Text : AllOk Qref04_Text := .cons pref04_Text aQref04_Sum
end Go.Proofs.YtoecpaccpcnkcaaDoor
