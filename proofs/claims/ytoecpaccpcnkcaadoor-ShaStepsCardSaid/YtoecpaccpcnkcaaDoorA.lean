/- What functions of this seat compute, in plain Lean. -/
import Derived.Test.YtoecpaccpcnkcaaDoorZ
set_option linter.unusedVariables false
set_option linter.unusedSimpArgs false
set_option maxRecDepth 100000
namespace Go.Proofs.YtoecpaccpcnkcaaDoor
open Go.Vc
abbrev tBytes : Ty := .slice (.int .u8)
abbrev tPieces : Ty := .slice tBytes
abbrev tW8 : Ty := .arr 8 (.int .u32)
abbrev tW64 : Ty := .arr 64 (.int .u32)
abbrev tK64 : Ty := .arr 64 (.int .u8)
abbrev tS32 : Ty := .arr 32 (.int .u8)
abbrev tQs : Ty := .slice (.int .u64)
def rK (k : IntKind) (x : Int) : Done := ⟨[], .one (.int k x), [], []⟩
namespace U
def sA (n : Nat) (fr : Bool) (t : Ty) (l : List t.den) : Option SV := some (.v ⟨true, [.arr n fr t l]⟩)
def yld : Option SV := some (.one .yld)
def shl (k : IntKind) (x : Int) (n : Nat) : Int := k.wrap (Int.mul x (Int.pow 2 (min n k.bits)))
def shr (k : IntKind) (x : Int) (n : Nat) : Int := Int.fdiv x (Int.pow 2 (min n k.bits))
def rotl (x k : Int) : Int :=
  let s := T.andK .u64 (IntKind.wrap .u64 k) 31
  T.orK .u32 (shl .u32 x s.toNat) (shr .u32 x (IntKind.wrap .u64 (Int.sub 32 s)).toNat)
def right (x n : Int) : Int := rotl x (IntKind.wrap .i64 (Int.sub 0 n))
def rot (x n : Int) : Int := IntKind.wrap .u32 (Int.add (shr .u32 x n.toNat) (shl .u32 x (IntKind.wrap .u64 (Int.sub 32 n)).toNat))
def add32 (a b : Int) : Int := IntKind.wrap .u32 (Int.add a b)
abbrev xor32 := T.xorK .u32
abbrev and32 := T.andK .u32
abbrev or32 := T.orK .u32
def not32 (a : Int) : Int := T.xorK .u32 4294967295 a
def word (l : List Int) : Int := ((l.getD 0 0 * 256 + l.getD 1 0) * 256 + l.getD 2 0) * 256 + l.getD 3 0
def S1 (e : Int) : Int := xor32 (xor32 (right e 6) (right e 11)) (right e 25)
def S0 (a : Int) : Int := xor32 (xor32 (right a 2) (right a 13)) (right a 22)
def s0 (x : Int) : Int := xor32 (xor32 (right x 7) (right x 18)) (shr .u32 x 3)
def s1 (y : Int) : Int := xor32 (xor32 (right y 17) (right y 19)) (shr .u32 y 10)
abbrev St8 := Int × Int × Int × Int × Int × Int × Int × Int
def one (k w : Int) : St8 → Int := fun (a, b, c, d, e, f, g, i) => add32 (add32 (add32 (add32 i (S1 e)) (xor32 g (and32 e (xor32 f g)))) k) w
def two : St8 → Int := fun (a, b, c, d, e, f, g, i) => add32 (S0 a) (or32 (and32 a b) (and32 c (or32 a b)))
def rnd (k w : Int) : St8 → St8 := fun s => (add32 (one k w s) (two s), s.1, s.2.1, s.2.2.1, add32 s.2.2.2.1 (one k w s), s.2.2.2.2.1, s.2.2.2.2.2.1, s.2.2.2.2.2.2.1)
def rnds (w : List Int) : Nat → St8 → St8
  | 0, s => s
  | t + 1, s => rnd (shaRoots.getD t 0) (w.getD t 0) (rnds w t s)
def st8 (h : List Int) : St8 := (h.getD 0 0, h.getD 1 0, h.getD 2 0, h.getD 3 0, h.getD 4 0, h.getD 5 0, h.getD 6 0, h.getD 7 0)
def ls8 : St8 → List Int := fun (a, b, c, d, e, f, g, i) => [a, b, c, d, e, f, g, i]
def wnext (l : List Int) : Int := add32 (add32 (add32 (l.getD (l.length - 16) 0) (s0 (l.getD (l.length - 15) 0))) (l.getD (l.length - 7) 0)) (s1 (l.getD (l.length - 2) 0))
def sched16 (b : List Int) (t : Nat) : List Int := (List.range t).map fun t => word (b.drop (4 * t))
def schedN (b : List Int) : Nat → List Int
  | 0 => sched16 b 16
  | k + 1 => schedN b k ++ [wnext (schedN b k)]
def sched (b : List Int) : List Int := schedN b 48
def pad64 (n : Nat) (l : List Int) : List Int := l ++ List.replicate (n - l.length) 0
def step (h b : List Int) : List Int := List.zipWith add32 h (ls8 (rnds (sched b) 64 (st8 h)))
def chunks (n : Nat) (l : List Int) : List (List Int) := (List.range ((l.length + n - 1) / n)).map fun k => (l.drop (k * n)).take n
def be8 : Nat → Nat → List Int
  | 0, _ => []
  | k + 1, n => ((n / 256 ^ k % 256 : Nat) : Int) :: be8 k n
def zeros (n : Nat) : Nat := (119 - n % 64) % 64
def pad (b : List Int) : List Int := b ++ (128 :: (List.replicate (zeros b.length) 0 ++ be8 8 (b.length * 8)))
def out32 (h : List Int) : List Int := (List.range 32).map fun k => IntKind.wrap .u8 (shr .u32 (h.getD (k / 4) 0) (24 - 8 * (k % 4)))
def sums (b : List Int) : List Int := (chunks 64 (pad b)).foldl step shaFirst
def sum (b : List Int) : List Int := out32 (sums b)
def hexs : List Int := [48, 49, 50, 51, 52, 53, 54, 55, 56, 57, 97, 98, 99, 100, 101, 102]
def text (s : List Int) : List Int := s.flatMap fun x => [hexs.getD (x / 16).toNat 0, hexs.getD (x % 16).toNat 0]
end U
namespace U
def stslices_Concat_byte_byte_3 (l : List (List Int)) (n : Int) (i : Int) : St2 := ⟨⟨[sL false tBytes l] ++ U.n 2 ++ [sI n] ++ U.n 5 ++ [sL false tBytes l] ++ [sI l.length] ++ [sI i] ++ U.n 24, [], []⟩, 0, []⟩
def Islices_Concat_byte_byte_3 (l : List (List Int))  (n : Int) (i : Int) : Prop := at_ l i ∧ n = (l.take i.toNat).flatten.length
def stslices_Concat_byte_byte_11 (l : List (List Int)) (o : List Int) (i : Int) : St2 := ⟨⟨U.n 6 ++ [own 0] ++ U.n 18 ++ [sL false tBytes l] ++ [sI l.length] ++ [sI i] ++ U.n 8, [], [(0, .row 5 (.int .u8) true true o)]⟩, 1, []⟩
def Islices_Concat_byte_byte_11 (l : List (List Int))  (o : List Int) (i : Int) : Prop := at_ l i ∧ o = (l.take i.toNat).flatten
def stslices_Chunk_byte_byte_1_1 (s : List Int) (n : Int) (i : Int) (k : Nat) : St2 := ⟨⟨[yld] ++ [sP 0 0] ++ [sP 1 0] ++ U.n 1 ++ [sI i] ++ U.n 26, [], [(0, .obj [.psl false (.int .u8) s]), (1, .obj [.int .i64 n])]⟩, 2, [0, k]⟩
def Islices_Chunk_byte_byte_1_1 (s : List Int) (n : Int)  (i : Int) (k : Nat) : Prop := i = k * n ∧ i < s.length + n
def stsha_Pad_5 (b : List Int) (o : List Int) (n : Int) (i : Int) : St2 := ⟨⟨U.n 4 ++ [own 0] ++ [sK .u64 n] ++ [sI i] ++ U.n 31, [], [(0, .row 5 (.int .u8) true true o)]⟩, 1, []⟩
def Isha_Pad_5 (b : List Int)  (o : List Int) (n : Int) (i : Int) : Prop := ∃ k : Nat, k ≤ 8 ∧ n = ((b.length * 8 / 256 ^ k : Nat) : Int) ∧ i = b.length + zeros b.length + 8 - k ∧ o = b ++ (128 :: (List.replicate (zeros b.length + (8 - k)) 0 ++ be8 k (b.length * 8)))
def stsha_schedule_2 (b : List Int) (w : List Int) (t : Int) : St2 := ⟨⟨[sL false (.int .u8) b] ++ U.n 1 ++ [sP 0 0] ++ U.n 4 ++ [sI t] ++ U.n 52, [], [(0, .obj [.arr 64 true (.int .u32) w])]⟩, 1, []⟩
def Isha_schedule_2 (b : List Int)  (w : List Int) (t : Int) : Prop := 0 ≤ t ∧ t ≤ 16 ∧ w = pad64 64 (sched16 b t.toNat)
def stsha_schedule_7 (b : List Int) (w : List Int) (t : Int) : St2 := ⟨⟨U.n 2 ++ [sP 0 0] ++ U.n 1 ++ [sI t] ++ U.n 55, [], [(0, .obj [.arr 64 true (.int .u32) w])]⟩, 1, []⟩
def Isha_schedule_7 (b : List Int)  (w : List Int) (t : Int) : Prop := 16 ≤ t ∧ t ≤ 64 ∧ w = pad64 64 (schedN b (t.toNat - 16))
def stsha_step_3 (h bl : List Int) (a : Int) (b : Int) (c : Int) (d : Int) (e : Int) (f : Int) (g : Int) (i : Int) (t : Int) : St2 := ⟨⟨U.n 2 ++ [sP 0 0] ++ U.n 1 ++ [sP 1 0] ++ [sK .u32 a] ++ [sK .u32 b] ++ [sK .u32 c] ++ [sK .u32 d] ++ [sK .u32 e] ++ [sK .u32 f] ++ [sK .u32 g] ++ [sK .u32 i] ++ U.n 23 ++ [sA 64 true (.int .u32) (sched bl)] ++ [sI t] ++ U.n 79, [], [(0, .obj [.arr 8 true (.int .u32) h]), (1, .obj [.arr 8 true (.int .u32) (List.replicate 8 0)])]⟩, 2, []⟩
def Isha_step_3 (h bl : List Int)  (a : Int) (b : Int) (c : Int) (d : Int) (e : Int) (f : Int) (g : Int) (i : Int) (t : Int) : Prop := 0 ≤ t ∧ t ≤ 64 ∧ (a, b, c, d, e, f, g, i) = rnds (sched bl) t.toNat (st8 h)
def stsha_step_10 (h bl : List Int) (v : List Int) (hh : List Int) (k : Int) : St2 := ⟨⟨U.n 2 ++ [sP 0 0] ++ U.n 1 ++ [sP 1 0] ++ U.n 99 ++ [sA 8 true (.int .u32) v] ++ [sI k] ++ U.n 11, [], [(0, .obj [.arr 8 true (.int .u32) hh]), (1, .obj [.arr 8 true (.int .u32) (List.replicate 8 0)])]⟩, 2, []⟩
def Isha_step_10 (h bl : List Int)  (v : List Int) (hh : List Int) (k : Int) : Prop := 0 ≤ k ∧ k ≤ 8 ∧ v = ls8 (rnds (sched bl) 64 (st8 h)) ∧ hh = List.zipWith add32 (h.take k.toNat) v ++ h.drop k.toNat
def stsha_Sum_3 (b : List Int) (h : List Int) (k : Nat) : St2 := ⟨⟨U.n 2 ++ [sP 0 0] ++ [sP 1 0] ++ U.n 27, [], [(0, .obj [.arr 32 true (.int .u8) (List.replicate 32 0)]), (1, .obj [.arr 8 true (.int .u32) h])]⟩, 2, []⟩
def Isha_Sum_3 (b : List Int)  (h : List Int) (k : Nat) : Prop := h = ((chunks 64 (pad b)).take k).foldl step shaFirst
def stsha_Sum_6 (b : List Int) (s : List Int) (h : List Int) (k : Int) : St2 := ⟨⟨U.n 2 ++ [sP 0 0] ++ [sP 1 0] ++ U.n 10 ++ [sI k] ++ U.n 16, [], [(0, .obj [.arr 32 true (.int .u8) s]), (1, .obj [.arr 8 true (.int .u32) h])]⟩, 2, []⟩
def Isha_Sum_6 (b : List Int)  (s : List Int) (h : List Int) (k : Int) : Prop := 0 ≤ k ∧ k ≤ 32 ∧ h = sums b ∧ s = (out32 h).take k.toNat ++ List.replicate (32 - k.toNat) 0
def stsha_Text_3 (s : List Int) (o : List Int) (i : Int) : St2 := ⟨⟨U.n 3 ++ [own 0] ++ U.n 3 ++ [sA 32 true (.int .u8) s] ++ [sI i] ++ U.n 14, [], [(0, .row 5 (.int .u8) true true o)]⟩, 1, []⟩
def Isha_Text_3 (s : List Int)  (o : List Int) (i : Int) : Prop := 0 ≤ i ∧ i ≤ 32 ∧ o = text (s.take i.toNat)
end U
def lpslices_Concat_byte_byte_3 (l : List (List Int)) : Vc.Loop := ⟨{ keep := [0, 3, 9, 10, 11] }, Int × Int, fun x => U.stslices_Concat_byte_byte_3 l x.1 x.2, fun x0 x => U.Islices_Concat_byte_byte_3 l  x.1 x.2, fun x => l.length - x.2.toNat⟩
def lpslices_Concat_byte_byte_11 (l : List (List Int)) : Vc.Loop := ⟨{ keep := [6, 25, 26, 27], wake := [(6, 5)] }, List Int × Int, fun x => U.stslices_Concat_byte_byte_11 l x.1 x.2, fun x0 x => U.Islices_Concat_byte_byte_11 l  x.1 x.2, fun x => l.length - x.2.toNat⟩
def lpslices_Chunk_byte_byte_1_1 (s : List Int) (n : Int) : Vc.Loop := ⟨{ keep := [0, 1, 2, 4] }, Int × Nat, fun x => U.stslices_Chunk_byte_byte_1_1 s n x.1 x.2, fun x0 x => U.Islices_Chunk_byte_byte_1_1 s n  x.1 x.2, fun x => ((s.length : Int) + n - x.1).toNat⟩
def lpsha_Pad_5 (b : List Int) : Vc.Loop := ⟨{ keep := [4, 5, 6] }, List Int × Int × Int, fun x => U.stsha_Pad_5 b x.1 x.2.1 x.2.2, fun x0 x => U.Isha_Pad_5 b  x.1 x.2.1 x.2.2, fun x => x.2.1.toNat⟩
def lpsha_schedule_2 (b : List Int) : Vc.Loop := ⟨{ keep := [0, 2, 7] }, List Int × Int, fun x => U.stsha_schedule_2 b x.1 x.2, fun x0 x => U.Isha_schedule_2 b  x.1 x.2, fun x => 16 - x.2.toNat⟩
def lpsha_schedule_7 (b : List Int) : Vc.Loop := ⟨{ keep := [2, 4] }, List Int × Int, fun x => U.stsha_schedule_7 b x.1 x.2, fun x0 x => U.Isha_schedule_7 b  x.1 x.2, fun x => 64 - x.2.toNat⟩
def lpsha_step_3 (h bl : List Int) : Vc.Loop := ⟨{ keep := [2, 4, 5, 6, 7, 8, 9, 10, 11, 12, 36, 37] }, Int × Int × Int × Int × Int × Int × Int × Int × Int, fun x => U.stsha_step_3 h bl x.1 x.2.1 x.2.2.1 x.2.2.2.1 x.2.2.2.2.1 x.2.2.2.2.2.1 x.2.2.2.2.2.2.1 x.2.2.2.2.2.2.2.1 x.2.2.2.2.2.2.2.2, fun x0 x => U.Isha_step_3 h bl  x.1 x.2.1 x.2.2.1 x.2.2.2.1 x.2.2.2.2.1 x.2.2.2.2.2.1 x.2.2.2.2.2.2.1 x.2.2.2.2.2.2.2.1 x.2.2.2.2.2.2.2.2, fun x => 64 - x.2.2.2.2.2.2.2.2.toNat⟩
def lpsha_step_10 (h bl : List Int) : Vc.Loop := ⟨{ keep := [2, 4, 104, 105] }, List Int × List Int × Int, fun x => U.stsha_step_10 h bl x.1 x.2.1 x.2.2, fun x0 x => U.Isha_step_10 h bl  x.1 x.2.1 x.2.2, fun x => 8 - x.2.2.toNat⟩
def lpsha_Sum_3 (b : List Int) : Vc.Loop := ⟨{ keep := [2, 3] }, List Int × Nat, fun x => U.stsha_Sum_3 b x.1 x.2, fun x0 x => U.Isha_Sum_3 b  x.1 x.2, fun x => x.2⟩
def lpsha_Sum_6 (b : List Int) : Vc.Loop := ⟨{ keep := [2, 3, 14] }, List Int × List Int × Int, fun x => U.stsha_Sum_6 b x.1 x.2.1 x.2.2, fun x0 x => U.Isha_Sum_6 b  x.1 x.2.1 x.2.2, fun x => 32 - x.2.2.toNat⟩
def lpsha_Text_3 (s : List Int) : Vc.Loop := ⟨{ keep := [3, 7, 8] }, List Int × Int, fun x => U.stsha_Text_3 s x.1 x.2, fun x0 x => U.Isha_Text_3 s  x.1 x.2, fun x => 32 - x.2.toNat⟩
def dmath_bits_RotateLeft32 (x : Int) (k : Int) : Done := rK .u32 (U.rotl x k)
def smath_bits_RotateLeft32 : Vc.Sum := .pure [.int .u32, .int .i64] false fun x => dmath_bits_RotateLeft32 x.1 x.2
def Lmath_bits_RotateLeft32 (x : Int) (k : Int) : Nat → List V → Nat → Option Vc.Loop := noKeep
def Qmath_bits_RotateLeft32 : List (Nat × Ent) := (36, .sum smath_bits_RotateLeft32) :: []
def dsha_right (x : Int) (n : Int) : Done := rK .u32 (U.right x n)
def ssha_right : Vc.Sum := .pure [.int .u32, .int .i64] false fun x => dsha_right x.1 x.2
def Lsha_right (x : Int) (n : Int) : Nat → List V → Nat → Option Vc.Loop := noKeep
def Qsha_right : List (Nat × Ent) := (30, .sum ssha_right) :: Qmath_bits_RotateLeft32
def dsha_word (b : List Int) : Done := ⟨[4 ≤ b.length], .one (.int .u32 (U.word b)), [], []⟩
def ssha_word : Vc.Sum := .pure [tBytes] false fun x => dsha_word x
def Lsha_word (b : List Int) : Nat → List V → Nat → Option Vc.Loop := noKeep
def Qsha_word : List (Nat × Ent) := (35, .sum ssha_word) :: Qsha_right
def dslices_Concat_byte_byte (l : List (List Int)) : Done := ⟨[l.flatten.length ≤ 70000000000000], .one (.own 0), [], [.row 5 (.int .u8) true true l.flatten]⟩
def sslices_Concat_byte_byte : Vc.Sum := .pure [tPieces] false fun x => dslices_Concat_byte_byte x
def Lslices_Concat_byte_byte (l : List (List Int)) : Nat → List V → Nat → Option Vc.Loop := fun f v k => cond (Nat.beq f 20 && Nat.beq k 3) (some (lpslices_Concat_byte_byte_3 l)) <| cond (Nat.beq f 20 && Nat.beq k 11) (some (lpslices_Concat_byte_byte_11 l)) <| none
def Qslices_Concat_byte_byte : List (Nat × Ent) := (20, .sum sslices_Concat_byte_byte) :: Qsha_word
def elslices_Chunk_byte_byte_1 (s : List Int) (n : Int) : List (DenL [tBytes]) := U.chunks n.toNat s
def prslices_Chunk_byte_byte_1 (s : List Int) (n : Int) : List Prop := [1 ≤ n, n ≤ 4294967296, s.length ≤ 4611686018427387904]
def sslices_Chunk_byte_byte_1 : SeqD := ⟨[tBytes, .int .i64], [tBytes], fun x => prslices_Chunk_byte_byte_1 x.1 x.2, fun x => elslices_Chunk_byte_byte_1 x.1 x.2⟩
def Lslices_Chunk_byte_byte_1 (s : List Int) (n : Int) : Nat → List V → Nat → Option Vc.Loop := fun f v k => cond (Nat.beq f 28 && Nat.beq k 1) (some (lpslices_Chunk_byte_byte_1_1 s n)) <| none
def Qslices_Chunk_byte_byte_1 : List (Nat × Ent) := (28, .seq sslices_Chunk_byte_byte_1) :: Qslices_Concat_byte_byte
def dsha_Pad (b : List Int) : Done := ⟨[b.length ≤ 1000000000000], .one (.psl true (.int .u8) (U.pad b)), [], []⟩
def ssha_Pad : Vc.Sum := .pure [tBytes] false fun x => dsha_Pad x
def Lsha_Pad (b : List Int) : Nat → List V → Nat → Option Vc.Loop := fun f v k => cond (Nat.beq f 9 && Nat.beq k 5) (some (lpsha_Pad_5 b)) <| none
def Qsha_Pad : List (Nat × Ent) := (9, .sum ssha_Pad) :: Qslices_Chunk_byte_byte_1
def dsha_schedule (b : List Int) : Done := ⟨[64 ≤ b.length], .v (.of true tW64 (U.sched b)), [], []⟩
def ssha_schedule : Vc.Sum := .pure [tBytes] false fun x => dsha_schedule x
def Lsha_schedule (b : List Int) : Nat → List V → Nat → Option Vc.Loop := fun f v k => cond (Nat.beq f 29 && Nat.beq k 2) (some (lpsha_schedule_2 b)) <| cond (Nat.beq f 29 && Nat.beq k 7) (some (lpsha_schedule_7 b)) <| none
def Qsha_schedule : List (Nat × Ent) := (29, .sum ssha_schedule) :: Qsha_Pad
def dsha_step (h : List Int) (b : List Int) : Done := ⟨[64 ≤ b.length], .v (.of false tW8 (U.step h b)), [], []⟩
def ssha_step : Vc.Sum := .pure [tW8, tBytes] true fun x => dsha_step x.1 x.2
def Lsha_step (h : List Int) (b : List Int) : Nat → List V → Nat → Option Vc.Loop := fun f v k => cond (Nat.beq f 22 && Nat.beq k 3) (some (lpsha_step_3 h b)) <| cond (Nat.beq f 22 && Nat.beq k 10) (some (lpsha_step_10 h b)) <| none
def Qsha_step : List (Nat × Ent) := (22, .sum ssha_step) :: Qsha_schedule
def dsha_Step (h : List Int) (b : List Int) : Done := ⟨[], .v (.of false tW8 (U.step h b)), [], []⟩
def ssha_Step : Vc.Sum := .pure [tW8, tK64] true fun x => dsha_Step x.1 x.2
def Lsha_Step (h : List Int) (b : List Int) : Nat → List V → Nat → Option Vc.Loop := noKeep
def Qsha_Step : List (Nat × Ent) := (13, .sum ssha_Step) :: Qsha_step
def dsha_Sum (b : List Int) : Done := ⟨[b.length ≤ 1000000000000], .v (.of true tS32 (U.sum b)), [], []⟩
def ssha_Sum : Vc.Sum := .pure [tBytes] false fun x => dsha_Sum x
def Lsha_Sum (b : List Int) : Nat → List V → Nat → Option Vc.Loop := fun f v k => cond (Nat.beq f 11 && Nat.beq k 3) (some (lpsha_Sum_3 b)) <| cond (Nat.beq f 11 && Nat.beq k 6) (some (lpsha_Sum_6 b)) <| none
def Qsha_Sum : List (Nat × Ent) := (11, .sum ssha_Sum) :: Qsha_Step
def dsha_Join (l : List (List Int)) : Done := ⟨[l.flatten.length ≤ 1000000000000], .v (.of true tS32 (U.sum l.flatten)), [], []⟩
def ssha_Join : Vc.Sum := .pure [tPieces] false fun x => dsha_Join x
def Lsha_Join (l : List (List Int)) : Nat → List V → Nat → Option Vc.Loop := noKeep
def Qsha_Join : List (Nat × Ent) := (10, .sum ssha_Join) :: Qsha_Sum
def dsha_Text (s : List Int) : Done := ⟨[], .one (.str (U.text s)), [], []⟩
def ssha_Text : Vc.Sum := .pure [tS32] false fun x => dsha_Text x
def Lsha_Text (s : List Int) : Nat → List V → Nat → Option Vc.Loop := fun f v k => cond (Nat.beq f 15 && Nat.beq k 3) (some (lpsha_Text_3 s)) <| none
def Qsha_Text : List (Nat × Ent) := (15, .sum ssha_Text) :: Qsha_Join
end Go.Proofs.YtoecpaccpcnkcaaDoor
/- What is owed of the functions, in plain Lean (printed by a program of this project). -/
set_option maxRecDepth 100000
set_option linter.unusedVariables false
namespace Go.Proofs.YtoecpaccpcnkcaaDoor
open Go.Vc
def vcmath_bits_RotateLeft32 (x : Int) (k : Int) : Prop :=
  (0 : Int) ≤
      IntKind.u64.wrap
        (↑((BitVec.ofInt IntKind.u64.bits (IntKind.u64.wrap k)).and (BitVec.ofInt IntKind.u64.bits (31 : Int))).toNat :
          Int) ∧
    (0 : Int) ≤
        IntKind.u64.wrap
          (Int.sub (32 : Int)
            (IntKind.u64.wrap
              (↑((BitVec.ofInt IntKind.u64.bits (IntKind.u64.wrap k)).and
                      (BitVec.ofInt IntKind.u64.bits (31 : Int))).toNat :
                Int))) ∧
      IntKind.u32.wrap
            (↑((BitVec.ofInt IntKind.u32.bits
                        (IntKind.u32.wrap
                          (x.mul
                            (Int.pow (2 : Int)
                              (if
                                  (IntKind.u64.wrap
                                        (↑((BitVec.ofInt IntKind.u64.bits (IntKind.u64.wrap k)).and
                                                (BitVec.ofInt IntKind.u64.bits (31 : Int))).toNat :
                                          Int)).toNat ≤
                                    IntKind.u32.bits then
                                (IntKind.u64.wrap
                                    (↑((BitVec.ofInt IntKind.u64.bits (IntKind.u64.wrap k)).and
                                            (BitVec.ofInt IntKind.u64.bits (31 : Int))).toNat :
                                      Int)).toNat
                              else IntKind.u32.bits))))).or
                    (BitVec.ofInt IntKind.u32.bits
                      (x.fdiv
                        (Int.pow (2 : Int)
                          (if
                              (IntKind.u64.wrap
                                    (Int.sub (32 : Int)
                                      (IntKind.u64.wrap
                                        (↑((BitVec.ofInt IntKind.u64.bits (IntKind.u64.wrap k)).and
                                                (BitVec.ofInt IntKind.u64.bits (31 : Int))).toNat :
                                          Int)))).toNat ≤
                                IntKind.u32.bits then
                            (IntKind.u64.wrap
                                (Int.sub (32 : Int)
                                  (IntKind.u64.wrap
                                    (↑((BitVec.ofInt IntKind.u64.bits (IntKind.u64.wrap k)).and
                                            (BitVec.ofInt IntKind.u64.bits (31 : Int))).toNat :
                                      Int)))).toNat
                          else IntKind.u32.bits))))).toNat :
              Int) =
          U.rotl x k ∧
        True
def vcsha_right (x : Int) (n : Int) : Prop := U.rotl x (IntKind.i64.wrap (Int.sub (0 : Int) n)) = U.right x n ∧ True
def vcsha_word (b : List Int) : Prop :=
  (0 : Int) ≤ (0 : Int) ∧
    (0 : Int) < (↑b.length : Int) ∧
      (0 : Int) ≤ (24 : Int) ∧
        (0 : Int) ≤ (1 : Int) ∧
          (1 : Int) < (↑b.length : Int) ∧
            (0 : Int) ≤ (16 : Int) ∧
              (0 : Int) ≤ (2 : Int) ∧
                (2 : Int) < (↑b.length : Int) ∧
                  (0 : Int) ≤ (8 : Int) ∧
                    (0 : Int) ≤ (3 : Int) ∧
                      (3 : Int) < (↑b.length : Int) ∧
                        IntKind.u32.wrap
                              (↑((BitVec.ofInt IntKind.u32.bits
                                          (IntKind.u32.wrap
                                            (↑((BitVec.ofInt IntKind.u32.bits
                                                        (IntKind.u32.wrap
                                                          (↑((BitVec.ofInt IntKind.u32.bits
                                                                      (IntKind.u32.wrap
                                                                        ((IntKind.u32.wrap
                                                                              (b.getD (Int.toNat (0 : Int))
                                                                                (0 : Int))).mul
                                                                          (Int.pow (2 : Int)
                                                                            (if
                                                                                Int.toNat (24 : Int) ≤
                                                                                  IntKind.u32.bits then
                                                                              Int.toNat (24 : Int)
                                                                            else IntKind.u32.bits))))).or
                                                                  (BitVec.ofInt IntKind.u32.bits
                                                                    (IntKind.u32.wrap
                                                                      ((IntKind.u32.wrap
                                                                            (b.getD (Int.toNat (1 : Int))
                                                                              (0 : Int))).mul
                                                                        (Int.pow (2 : Int)
                                                                          (if
                                                                              Int.toNat (16 : Int) ≤
                                                                                IntKind.u32.bits then
                                                                            Int.toNat (16 : Int)
                                                                          else IntKind.u32.bits)))))).toNat :
                                                            Int))).or
                                                    (BitVec.ofInt IntKind.u32.bits
                                                      (IntKind.u32.wrap
                                                        ((IntKind.u32.wrap (b.getD (Int.toNat (2 : Int)) (0 : Int))).mul
                                                          (Int.pow (2 : Int)
                                                            (if Int.toNat (8 : Int) ≤ IntKind.u32.bits then
                                                              Int.toNat (8 : Int)
                                                            else IntKind.u32.bits)))))).toNat :
                                              Int))).or
                                      (BitVec.ofInt IntKind.u32.bits
                                        (IntKind.u32.wrap (b.getD (Int.toNat (3 : Int)) (0 : Int))))).toNat :
                                Int) =
                            U.word b ∧
                          True
def vcslices_Concat_byte_byte (l : List (List Int)) : Prop :=
  ∃ (x0 : Int × Int),
    (U.stslices_Concat_byte_byte_3 l (0 : Int) (0 : Int) = U.stslices_Concat_byte_byte_3 l x0.fst x0.snd ∧
        U.Islices_Concat_byte_byte_3 l x0.fst x0.snd) ∧
      ∀ (x : Int × Int),
        U.Islices_Concat_byte_byte_3 l x.fst x.snd →
          bif decide (x.snd < (↑l.length : Int)) then
            (0 : Int) ≤ x.snd ∧
              x.snd < (↑l.length : Int) ∧
                bif decide (IntKind.i64.wrap (x.fst.add (↑(l.getD x.snd.toNat []).length : Int)) < (0 : Int)) then False
                else
                  ∃ (y : Int × Int),
                    U.stslices_Concat_byte_byte_3 l
                          (IntKind.i64.wrap (x.fst.add (↑(l.getD x.snd.toNat []).length : Int)))
                          (IntKind.i64.wrap (x.snd.add (1 : Int))) =
                        U.stslices_Concat_byte_byte_3 l y.fst y.snd ∧
                      U.Islices_Concat_byte_byte_3 l y.fst y.snd ∧ l.length.sub y.snd.toNat < l.length.sub x.snd.toNat
          else
            bif decide (x.fst < (0 : Int)) then False
            else
              bif
                  decide
                    (IntKind.i64.wrap (x.fst.sub (IntKind.i64.wrap (Int.sub (0 : Int) (0 : Int)))) > (0 : Int)) then
                (0 : Int) ≤ (0 : Int) ∧
                  (0 : Int) ≤ (0 : Int) ∧
                    (0 : Int) ≤ (0 : Int) ∧
                      (0 : Int) < IntKind.i64.wrap (x.fst.sub (IntKind.i64.wrap (Int.sub (0 : Int) (0 : Int)))) ∧
                        (IntKind.i64.wrap (x.fst.sub (IntKind.i64.wrap (Int.sub (0 : Int) (0 : Int))))).mul
                              (↑(1 : Nat) : Int) ≤
                            (140737488355328 : Int) ∧
                          IntKind.i64.wrap (x.fst.sub (IntKind.i64.wrap (Int.sub (0 : Int) (0 : Int)))) ≤
                              (↑maxLen : Int) ∧
                            (0 : Int) ≤ (0 : Int) ∧
                              (0 : Int) ≤ (0 : Int) ∧
                                (0 : Int) ≤
                                    (↑(List.replicate
                                            (IntKind.i64.wrap
                                                (x.fst.sub (IntKind.i64.wrap (Int.sub (0 : Int) (0 : Int))))).toNat
                                            (0 : Int)).length :
                                      Int) ∧
                                  ∃ (x0 : List Int × Int),
                                    (U.stslices_Concat_byte_byte_11 l [] (0 : Int) =
                                          U.stslices_Concat_byte_byte_11 l x0.fst x0.snd ∧
                                        U.Islices_Concat_byte_byte_11 l x0.fst x0.snd) ∧
                                      ∀ (x : List Int × Int),
                                        U.Islices_Concat_byte_byte_11 l x.fst x.snd →
                                          bif decide (x.snd < (↑l.length : Int)) then
                                            (0 : Int) ≤ x.snd ∧
                                              x.snd < (↑l.length : Int) ∧
                                                (x.fst.length.add (l.getD x.snd.toNat []).length).mul (1 : Nat) ≤
                                                    (140737488355328 : Nat) ∧
                                                  x.fst.length.add (l.getD x.snd.toNat []).length ≤ maxLen ∧
                                                    ∃ (y : List Int × Int),
                                                      U.stslices_Concat_byte_byte_11 l
                                                            (x.fst.append (l.getD x.snd.toNat []))
                                                            (IntKind.i64.wrap (x.snd.add (1 : Int))) =
                                                          U.stslices_Concat_byte_byte_11 l y.fst y.snd ∧
                                                        U.Islices_Concat_byte_byte_11 l y.fst y.snd ∧
                                                          l.length.sub y.snd.toNat < l.length.sub x.snd.toNat
                                          else x.fst = l.flatten ∧ True
              else
                ∃ (x0 : List Int × Int),
                  (U.stslices_Concat_byte_byte_11 l [] (0 : Int) = U.stslices_Concat_byte_byte_11 l x0.fst x0.snd ∧
                      U.Islices_Concat_byte_byte_11 l x0.fst x0.snd) ∧
                    ∀ (x : List Int × Int),
                      U.Islices_Concat_byte_byte_11 l x.fst x.snd →
                        bif decide (x.snd < (↑l.length : Int)) then
                          (0 : Int) ≤ x.snd ∧
                            x.snd < (↑l.length : Int) ∧
                              (x.fst.length.add (l.getD x.snd.toNat []).length).mul (1 : Nat) ≤
                                  (140737488355328 : Nat) ∧
                                x.fst.length.add (l.getD x.snd.toNat []).length ≤ maxLen ∧
                                  ∃ (y : List Int × Int),
                                    U.stslices_Concat_byte_byte_11 l (x.fst.append (l.getD x.snd.toNat []))
                                          (IntKind.i64.wrap (x.snd.add (1 : Int))) =
                                        U.stslices_Concat_byte_byte_11 l y.fst y.snd ∧
                                      U.Islices_Concat_byte_byte_11 l y.fst y.snd ∧
                                        l.length.sub y.snd.toNat < l.length.sub x.snd.toNat
                        else x.fst = l.flatten ∧ True
def vcslices_Chunk_byte_byte_1 (s : List Int) (n : Int) : Prop :=
  ∃ (x0 : Int × Nat),
    (U.stslices_Chunk_byte_byte_1_1 s n (0 : Int) (0 : Nat) = U.stslices_Chunk_byte_byte_1_1 s n x0.fst x0.snd ∧
        U.Islices_Chunk_byte_byte_1_1 s n x0.fst x0.snd) ∧
      ∀ (x : Int × Nat),
        U.Islices_Chunk_byte_byte_1_1 s n x.fst x.snd →
          bif decide (x.fst < (↑s.length : Int)) then
            (0 : Int) ≤ x.fst ∧
              x.fst ≤ (↑s.length : Int) ∧
                (↑s.length : Int) ≤ (↑s.length : Int) ∧
                  (0 : Int) ≤ x.fst ∧
                    x.fst ≤
                        IntKind.i64.wrap
                          (x.fst.add
                            (minI n
                              (↑(List.take ((↑s.length : Int).toNat.sub x.fst.toNat) (List.drop x.fst.toNat s)).length :
                                Int))) ∧
                      IntKind.i64.wrap
                            (x.fst.add
                              (minI n
                                (↑(List.take ((↑s.length : Int).toNat.sub x.fst.toNat)
                                        (List.drop x.fst.toNat s)).length :
                                  Int))) ≤
                          IntKind.i64.wrap
                            (x.fst.add
                              (minI n
                                (↑(List.take ((↑s.length : Int).toNat.sub x.fst.toNat)
                                        (List.drop x.fst.toNat s)).length :
                                  Int))) ∧
                        IntKind.i64.wrap
                              (x.fst.add
                                (minI n
                                  (↑(List.take ((↑s.length : Int).toNat.sub x.fst.toNat)
                                          (List.drop x.fst.toNat s)).length :
                                    Int))) ≤
                            (↑s.length : Int) ∧
                          x.snd < (U.chunks n.toNat s).length ∧
                            (U.chunks n.toNat s).getD x.snd [] =
                                List.take
                                  ((IntKind.i64.wrap
                                          (x.fst.add
                                            (minI n
                                              (↑(List.take ((↑s.length : Int).toNat.sub x.fst.toNat)
                                                      (List.drop x.fst.toNat s)).length :
                                                Int)))).toNat.sub
                                    x.fst.toNat)
                                  (List.drop x.fst.toNat s) ∧
                              (∃ (y : Int × Nat),
                                  U.stslices_Chunk_byte_byte_1_1 s n (IntKind.i64.wrap (x.fst.add n))
                                        (x.snd.add (1 : Nat)) =
                                      U.stslices_Chunk_byte_byte_1_1 s n y.fst y.snd ∧
                                    U.Islices_Chunk_byte_byte_1_1 s n y.fst y.snd ∧
                                      (((↑s.length : Int).add n).sub y.fst).toNat <
                                        (((↑s.length : Int).add n).sub x.fst).toNat) ∧
                                true = true
          else x.snd = (U.chunks n.toNat s).length
def vcsha_Pad (b : List Int) : Prop :=
  (64 : Int) ≠ (0 : Int) ∧
    (64 : Int) ≠ (0 : Int) ∧
      (0 : Int) ≤
          IntKind.i64.wrap
            (((IntKind.i64.wrap (Int.sub (119 : Int) ((↑b.length : Int).tmod (64 : Int)))).tmod (64 : Int)).add
              (8 : Int)) ∧
        IntKind.i64.wrap
              (((IntKind.i64.wrap (Int.sub (119 : Int) ((↑b.length : Int).tmod (64 : Int)))).tmod (64 : Int)).add
                (8 : Int)) ≤
            IntKind.i64.wrap
              (((IntKind.i64.wrap (Int.sub (119 : Int) ((↑b.length : Int).tmod (64 : Int)))).tmod (64 : Int)).add
                (8 : Int)) ∧
          (IntKind.i64.wrap
                    (((IntKind.i64.wrap (Int.sub (119 : Int) ((↑b.length : Int).tmod (64 : Int)))).tmod (64 : Int)).add
                      (8 : Int))).mul
                (↑(1 : Nat) : Int) ≤
              (140737488355328 : Int) ∧
            IntKind.i64.wrap
                  (((IntKind.i64.wrap (Int.sub (119 : Int) ((↑b.length : Int).tmod (64 : Int)))).tmod (64 : Int)).add
                    (8 : Int)) ≤
                (9223372036854775807 : Int) ∧
              (b.append
                      ((128 : Int) ::
                        (List.replicate
                              (IntKind.i64.wrap
                                  (((IntKind.i64.wrap (Int.sub (119 : Int) ((↑b.length : Int).tmod (64 : Int)))).tmod
                                        (64 : Int)).add
                                    (8 : Int))).toNat
                              (0 : Int)).append
                          [])).length ≤
                  (70000000000000 : Nat) ∧
                ∃ (x0 : List Int × Int × Int),
                  (U.stsha_Pad_5 b
                          (b.append
                            ((128 : Int) ::
                              (List.replicate
                                    (IntKind.i64.wrap
                                        (((IntKind.i64.wrap
                                                  (Int.sub (119 : Int) ((↑b.length : Int).tmod (64 : Int)))).tmod
                                              (64 : Int)).add
                                          (8 : Int))).toNat
                                    (0 : Int)).append
                                []))
                          (IntKind.u64.wrap ((IntKind.u64.wrap (↑b.length : Int)).mul (8 : Int)))
                          (IntKind.i64.wrap
                            ((↑(b.append
                                        ((128 : Int) ::
                                          (List.replicate
                                                (IntKind.i64.wrap
                                                    (((IntKind.i64.wrap
                                                              (Int.sub (119 : Int)
                                                                ((↑b.length : Int).tmod (64 : Int)))).tmod
                                                          (64 : Int)).add
                                                      (8 : Int))).toNat
                                                (0 : Int)).append
                                            [])).length :
                                  Int).sub
                              (1 : Int))) =
                        U.stsha_Pad_5 b x0.fst x0.snd.fst x0.snd.snd ∧
                      U.Isha_Pad_5 b x0.fst x0.snd.fst x0.snd.snd) ∧
                    ∀ (x : List Int × Int × Int),
                      U.Isha_Pad_5 b x.fst x.snd.fst x.snd.snd →
                        bif decide (x.snd.fst > (0 : Int)) then
                          (0 : Int) ≤ x.snd.snd ∧
                            x.snd.snd < (↑x.fst.length : Int) ∧
                              x.snd.snd.toNat < x.fst.length ∧
                                (0 : Int) ≤ (8 : Int) ∧
                                  ∃ (y : List Int × Int × Int),
                                    U.stsha_Pad_5 b (x.fst.set x.snd.snd.toNat (IntKind.u8.wrap x.snd.fst))
                                          (x.snd.fst.fdiv
                                            (Int.pow (2 : Int)
                                              (if Int.toNat (8 : Int) ≤ IntKind.u64.bits then Int.toNat (8 : Int)
                                              else IntKind.u64.bits)))
                                          (IntKind.i64.wrap (x.snd.snd.sub (1 : Int))) =
                                        U.stsha_Pad_5 b y.fst y.snd.fst y.snd.snd ∧
                                      U.Isha_Pad_5 b y.fst y.snd.fst y.snd.snd ∧ y.snd.fst.toNat < x.snd.fst.toNat
                        else x.fst = U.pad b ∧ True
def vcsha_schedule (b : List Int) : Prop :=
  ∃ (x0 : List Int × Int),
    (U.stsha_schedule_2 b
            [(0 : Int), (0 : Int), (0 : Int), (0 : Int), (0 : Int), (0 : Int), (0 : Int), (0 : Int), (0 : Int),
              (0 : Int), (0 : Int), (0 : Int), (0 : Int), (0 : Int), (0 : Int), (0 : Int), (0 : Int), (0 : Int),
              (0 : Int), (0 : Int), (0 : Int), (0 : Int), (0 : Int), (0 : Int), (0 : Int), (0 : Int), (0 : Int),
              (0 : Int), (0 : Int), (0 : Int), (0 : Int), (0 : Int), (0 : Int), (0 : Int), (0 : Int), (0 : Int),
              (0 : Int), (0 : Int), (0 : Int), (0 : Int), (0 : Int), (0 : Int), (0 : Int), (0 : Int), (0 : Int),
              (0 : Int), (0 : Int), (0 : Int), (0 : Int), (0 : Int), (0 : Int), (0 : Int), (0 : Int), (0 : Int),
              (0 : Int), (0 : Int), (0 : Int), (0 : Int), (0 : Int), (0 : Int), (0 : Int), (0 : Int), (0 : Int),
              (0 : Int)]
            (0 : Int) =
          U.stsha_schedule_2 b x0.fst x0.snd ∧
        U.Isha_schedule_2 b x0.fst x0.snd) ∧
      ∀ (x : List Int × Int),
        U.Isha_schedule_2 b x.fst x.snd →
          bif decide (x.snd < (16 : Int)) then
            (0 : Int) ≤ IntKind.i64.wrap (Int.mul (4 : Int) x.snd) ∧
              IntKind.i64.wrap (Int.mul (4 : Int) x.snd) ≤ (↑b.length : Int) ∧
                (↑b.length : Int) ≤ (↑b.length : Int) ∧
                  (4 : Nat) ≤
                      (List.take ((↑b.length : Int).toNat.sub (IntKind.i64.wrap (Int.mul (4 : Int) x.snd)).toNat)
                          (List.drop (IntKind.i64.wrap (Int.mul (4 : Int) x.snd)).toNat b)).length ∧
                    (0 : Int) ≤ x.snd ∧
                      x.snd < (↑(64 : Nat) : Int) ∧
                        x.snd.toNat < (64 : Nat) ∧
                          ∃ (y : List Int × Int),
                            U.stsha_schedule_2 b
                                  (x.fst.set x.snd.toNat
                                    (U.word
                                      (List.take
                                        ((↑b.length : Int).toNat.sub (IntKind.i64.wrap (Int.mul (4 : Int) x.snd)).toNat)
                                        (List.drop (IntKind.i64.wrap (Int.mul (4 : Int) x.snd)).toNat b))))
                                  (IntKind.i64.wrap (x.snd.add (1 : Int))) =
                                U.stsha_schedule_2 b y.fst y.snd ∧
                              U.Isha_schedule_2 b y.fst y.snd ∧
                                Nat.sub (16 : Nat) y.snd.toNat < Nat.sub (16 : Nat) x.snd.toNat
          else
            ∃ (x0 : List Int × Int),
              (U.stsha_schedule_7 b x.fst (16 : Int) = U.stsha_schedule_7 b x0.fst x0.snd ∧
                  U.Isha_schedule_7 b x0.fst x0.snd) ∧
                ∀ (x : List Int × Int),
                  U.Isha_schedule_7 b x.fst x.snd →
                    bif decide (x.snd < (64 : Int)) then
                      (0 : Int) ≤ IntKind.i64.wrap (x.snd.sub (15 : Int)) ∧
                        IntKind.i64.wrap (x.snd.sub (15 : Int)) < (↑(64 : Nat) : Int) ∧
                          (IntKind.i64.wrap (x.snd.sub (15 : Int))).toNat < (64 : Nat) ∧
                            (0 : Int) ≤ IntKind.i64.wrap (x.snd.sub (2 : Int)) ∧
                              IntKind.i64.wrap (x.snd.sub (2 : Int)) < (↑(64 : Nat) : Int) ∧
                                (IntKind.i64.wrap (x.snd.sub (2 : Int))).toNat < (64 : Nat) ∧
                                  (0 : Int) ≤ IntKind.i64.wrap (x.snd.sub (16 : Int)) ∧
                                    IntKind.i64.wrap (x.snd.sub (16 : Int)) < (↑(64 : Nat) : Int) ∧
                                      (IntKind.i64.wrap (x.snd.sub (16 : Int))).toNat < (64 : Nat) ∧
                                        (0 : Int) ≤ (3 : Int) ∧
                                          (0 : Int) ≤ IntKind.i64.wrap (x.snd.sub (7 : Int)) ∧
                                            IntKind.i64.wrap (x.snd.sub (7 : Int)) < (↑(64 : Nat) : Int) ∧
                                              (IntKind.i64.wrap (x.snd.sub (7 : Int))).toNat < (64 : Nat) ∧
                                                (0 : Int) ≤ (10 : Int) ∧
                                                  (0 : Int) ≤ x.snd ∧
                                                    x.snd < (↑(64 : Nat) : Int) ∧
                                                      x.snd.toNat < (64 : Nat) ∧
                                                        ∃ (y : List Int × Int),
                                                          U.stsha_schedule_7 b
                                                                (x.fst.set x.snd.toNat
                                                                  (IntKind.u32.wrap
                                                                    ((IntKind.u32.wrap
                                                                          ((IntKind.u32.wrap
                                                                                ((x.fst.getD
                                                                                      (IntKind.i64.wrap
                                                                                          (x.snd.sub (16 : Int))).toNat
                                                                                      (0 : Int)).add
                                                                                  (IntKind.u32.wrap
                                                                                    (↑((BitVec.ofInt IntKind.u32.bits
                                                                                                (IntKind.u32.wrap
                                                                                                  (↑((BitVec.ofInt
                                                                                                              IntKind.u32.bits
                                                                                                              (U.right
                                                                                                                (x.fst.getD
                                                                                                                  (IntKind.i64.wrap
                                                                                                                      (x.snd.sub
                                                                                                                        (15 :
                                                                                                                          Int))).toNat
                                                                                                                  (0 :
                                                                                                                    Int))
                                                                                                                (7 :
                                                                                                                  Int))).xor
                                                                                                          (BitVec.ofInt
                                                                                                            IntKind.u32.bits
                                                                                                            (U.right
                                                                                                              (x.fst.getD
                                                                                                                (IntKind.i64.wrap
                                                                                                                    (x.snd.sub
                                                                                                                      (15 :
                                                                                                                        Int))).toNat
                                                                                                                (0 :
                                                                                                                  Int))
                                                                                                              (18 :
                                                                                                                Int)))).toNat :
                                                                                                    Int))).xor
                                                                                            (BitVec.ofInt
                                                                                              IntKind.u32.bits
                                                                                              ((x.fst.getD
                                                                                                    (IntKind.i64.wrap
                                                                                                        (x.snd.sub
                                                                                                          (15 :
                                                                                                            Int))).toNat
                                                                                                    (0 : Int)).fdiv
                                                                                                (Int.pow (2 : Int)
                                                                                                  (if
                                                                                                      Int.toNat
                                                                                                          (3 : Int) ≤
                                                                                                        IntKind.u32.bits then
                                                                                                    Int.toNat (3 : Int)
                                                                                                  else
                                                                                                    IntKind.u32.bits))))).toNat :
                                                                                      Int)))).add
                                                                            (x.fst.getD
                                                                              (IntKind.i64.wrap
                                                                                  (x.snd.sub (7 : Int))).toNat
                                                                              (0 : Int)))).add
                                                                      (IntKind.u32.wrap
                                                                        (↑((BitVec.ofInt IntKind.u32.bits
                                                                                    (IntKind.u32.wrap
                                                                                      (↑((BitVec.ofInt IntKind.u32.bits
                                                                                                  (U.right
                                                                                                    (x.fst.getD
                                                                                                      (IntKind.i64.wrap
                                                                                                          (x.snd.sub
                                                                                                            (2 :
                                                                                                              Int))).toNat
                                                                                                      (0 : Int))
                                                                                                    (17 : Int))).xor
                                                                                              (BitVec.ofInt
                                                                                                IntKind.u32.bits
                                                                                                (U.right
                                                                                                  (x.fst.getD
                                                                                                    (IntKind.i64.wrap
                                                                                                        (x.snd.sub
                                                                                                          (2 :
                                                                                                            Int))).toNat
                                                                                                    (0 : Int))
                                                                                                  (19 : Int)))).toNat :
                                                                                        Int))).xor
                                                                                (BitVec.ofInt IntKind.u32.bits
                                                                                  ((x.fst.getD
                                                                                        (IntKind.i64.wrap
                                                                                            (x.snd.sub (2 : Int))).toNat
                                                                                        (0 : Int)).fdiv
                                                                                    (Int.pow (2 : Int)
                                                                                      (if
                                                                                          Int.toNat (10 : Int) ≤
                                                                                            IntKind.u32.bits then
                                                                                        Int.toNat (10 : Int)
                                                                                      else IntKind.u32.bits))))).toNat :
                                                                          Int)))))
                                                                (IntKind.i64.wrap (x.snd.add (1 : Int))) =
                                                              U.stsha_schedule_7 b y.fst y.snd ∧
                                                            U.Isha_schedule_7 b y.fst y.snd ∧
                                                              Nat.sub (64 : Nat) y.snd.toNat <
                                                                Nat.sub (64 : Nat) x.snd.toNat
                    else x.fst = U.sched b ∧ True
def vcsha_step (h : List Int) (b : List Int) : Prop :=
  (0 : Int) ≤ (0 : Int) ∧
    (0 : Int) < (↑(8 : Nat) : Int) ∧
      Int.toNat (0 : Int) < (8 : Nat) ∧
        (0 : Int) ≤ (1 : Int) ∧
          (1 : Int) < (↑(8 : Nat) : Int) ∧
            Int.toNat (1 : Int) < (8 : Nat) ∧
              (0 : Int) ≤ (2 : Int) ∧
                (2 : Int) < (↑(8 : Nat) : Int) ∧
                  Int.toNat (2 : Int) < (8 : Nat) ∧
                    (0 : Int) ≤ (3 : Int) ∧
                      (3 : Int) < (↑(8 : Nat) : Int) ∧
                        Int.toNat (3 : Int) < (8 : Nat) ∧
                          (0 : Int) ≤ (4 : Int) ∧
                            (4 : Int) < (↑(8 : Nat) : Int) ∧
                              Int.toNat (4 : Int) < (8 : Nat) ∧
                                (0 : Int) ≤ (5 : Int) ∧
                                  (5 : Int) < (↑(8 : Nat) : Int) ∧
                                    Int.toNat (5 : Int) < (8 : Nat) ∧
                                      (0 : Int) ≤ (6 : Int) ∧
                                        (6 : Int) < (↑(8 : Nat) : Int) ∧
                                          Int.toNat (6 : Int) < (8 : Nat) ∧
                                            (0 : Int) ≤ (7 : Int) ∧
                                              (7 : Int) < (↑(8 : Nat) : Int) ∧
                                                Int.toNat (7 : Int) < (8 : Nat) ∧
                                                  (64 : Nat) ≤ b.length ∧
                                                    ∃ (x0 : Int × Int × Int × Int × Int × Int × Int × Int × Int),
                                                      (U.stsha_step_3 h b (h.getD (Int.toNat (0 : Int)) (0 : Int))
                                                              (h.getD (Int.toNat (1 : Int)) (0 : Int))
                                                              (h.getD (Int.toNat (2 : Int)) (0 : Int))
                                                              (h.getD (Int.toNat (3 : Int)) (0 : Int))
                                                              (h.getD (Int.toNat (4 : Int)) (0 : Int))
                                                              (h.getD (Int.toNat (5 : Int)) (0 : Int))
                                                              (h.getD (Int.toNat (6 : Int)) (0 : Int))
                                                              (h.getD (Int.toNat (7 : Int)) (0 : Int)) (0 : Int) =
                                                            U.stsha_step_3 h b x0.fst x0.snd.fst x0.snd.snd.fst
                                                              x0.snd.snd.snd.fst x0.snd.snd.snd.snd.fst
                                                              x0.snd.snd.snd.snd.snd.fst x0.snd.snd.snd.snd.snd.snd.fst
                                                              x0.snd.snd.snd.snd.snd.snd.snd.fst
                                                              x0.snd.snd.snd.snd.snd.snd.snd.snd ∧
                                                          U.Isha_step_3 h b x0.fst x0.snd.fst x0.snd.snd.fst
                                                            x0.snd.snd.snd.fst x0.snd.snd.snd.snd.fst
                                                            x0.snd.snd.snd.snd.snd.fst x0.snd.snd.snd.snd.snd.snd.fst
                                                            x0.snd.snd.snd.snd.snd.snd.snd.fst
                                                            x0.snd.snd.snd.snd.snd.snd.snd.snd) ∧
                                                        ∀ (x : Int × Int × Int × Int × Int × Int × Int × Int × Int),
                                                          U.Isha_step_3 h b x.fst x.snd.fst x.snd.snd.fst
                                                              x.snd.snd.snd.fst x.snd.snd.snd.snd.fst
                                                              x.snd.snd.snd.snd.snd.fst x.snd.snd.snd.snd.snd.snd.fst
                                                              x.snd.snd.snd.snd.snd.snd.snd.fst
                                                              x.snd.snd.snd.snd.snd.snd.snd.snd →
                                                            bif
                                                                decide
                                                                  (x.snd.snd.snd.snd.snd.snd.snd.snd < (64 : Int)) then
                                                              (0 : Int) ≤ x.snd.snd.snd.snd.snd.snd.snd.snd ∧
                                                                x.snd.snd.snd.snd.snd.snd.snd.snd <
                                                                    (↑(64 : Nat) : Int) ∧
                                                                  (0 : Int) ≤ x.snd.snd.snd.snd.snd.snd.snd.snd ∧
                                                                    x.snd.snd.snd.snd.snd.snd.snd.snd <
                                                                        (↑(64 : Nat) : Int) ∧
                                                                      ∃ (y :
                                                                        Int ×
                                                                          Int ×
                                                                            Int × Int × Int × Int × Int × Int × Int),
                                                                        U.stsha_step_3 h b
                                                                              (IntKind.u32.wrap
                                                                                ((IntKind.u32.wrap
                                                                                      ((IntKind.u32.wrap
                                                                                            ((IntKind.u32.wrap
                                                                                                  ((IntKind.u32.wrap
                                                                                                        (x.snd.snd.snd.snd.snd.snd.snd.fst.add
                                                                                                          (IntKind.u32.wrap
                                                                                                            (↑((BitVec.ofInt
                                                                                                                        IntKind.u32.bits
                                                                                                                        (IntKind.u32.wrap
                                                                                                                          (↑((BitVec.ofInt
                                                                                                                                      IntKind.u32.bits
                                                                                                                                      (U.right
                                                                                                                                        x.snd.snd.snd.snd.fst
                                                                                                                                        (6 :
                                                                                                                                          Int))).xor
                                                                                                                                  (BitVec.ofInt
                                                                                                                                    IntKind.u32.bits
                                                                                                                                    (U.right
                                                                                                                                      x.snd.snd.snd.snd.fst
                                                                                                                                      (11 :
                                                                                                                                        Int)))).toNat :
                                                                                                                            Int))).xor
                                                                                                                    (BitVec.ofInt
                                                                                                                      IntKind.u32.bits
                                                                                                                      (U.right
                                                                                                                        x.snd.snd.snd.snd.fst
                                                                                                                        (25 :
                                                                                                                          Int)))).toNat :
                                                                                                              Int)))).add
                                                                                                    (IntKind.u32.wrap
                                                                                                      (↑((BitVec.ofInt
                                                                                                                  IntKind.u32.bits
                                                                                                                  x.snd.snd.snd.snd.snd.snd.fst).xor
                                                                                                              (BitVec.ofInt
                                                                                                                IntKind.u32.bits
                                                                                                                (IntKind.u32.wrap
                                                                                                                  (↑((BitVec.ofInt
                                                                                                                              IntKind.u32.bits
                                                                                                                              x.snd.snd.snd.snd.fst).and
                                                                                                                          (BitVec.ofInt
                                                                                                                            IntKind.u32.bits
                                                                                                                            (IntKind.u32.wrap
                                                                                                                              (↑((BitVec.ofInt
                                                                                                                                          IntKind.u32.bits
                                                                                                                                          x.snd.snd.snd.snd.snd.fst).xor
                                                                                                                                      (BitVec.ofInt
                                                                                                                                        IntKind.u32.bits
                                                                                                                                        x.snd.snd.snd.snd.snd.snd.fst)).toNat :
                                                                                                                                Int)))).toNat :
                                                                                                                    Int)))).toNat :
                                                                                                        Int)))).add
                                                                                              ([(1116352408 : Int),
                                                                                                    (1899447441 : Int),
                                                                                                    (3049323471 : Int),
                                                                                                    (3921009573 : Int),
                                                                                                    (961987163 : Int),
                                                                                                    (1508970993 : Int),
                                                                                                    (2453635748 : Int),
                                                                                                    (2870763221 : Int),
                                                                                                    (3624381080 : Int),
                                                                                                    (310598401 : Int),
                                                                                                    (607225278 : Int),
                                                                                                    (1426881987 : Int),
                                                                                                    (1925078388 : Int),
                                                                                                    (2162078206 : Int),
                                                                                                    (2614888103 : Int),
                                                                                                    (3248222580 : Int),
                                                                                                    (3835390401 : Int),
                                                                                                    (4022224774 : Int),
                                                                                                    (264347078 : Int),
                                                                                                    (604807628 : Int),
                                                                                                    (770255983 : Int),
                                                                                                    (1249150122 : Int),
                                                                                                    (1555081692 : Int),
                                                                                                    (1996064986 : Int),
                                                                                                    (2554220882 : Int),
                                                                                                    (2821834349 : Int),
                                                                                                    (2952996808 : Int),
                                                                                                    (3210313671 : Int),
                                                                                                    (3336571891 : Int),
                                                                                                    (3584528711 : Int),
                                                                                                    (113926993 : Int),
                                                                                                    (338241895 : Int),
                                                                                                    (666307205 : Int),
                                                                                                    (773529912 : Int),
                                                                                                    (1294757372 : Int),
                                                                                                    (1396182291 : Int),
                                                                                                    (1695183700 : Int),
                                                                                                    (1986661051 : Int),
                                                                                                    (2177026350 : Int),
                                                                                                    (2456956037 : Int),
                                                                                                    (2730485921 : Int),
                                                                                                    (2820302411 : Int),
                                                                                                    (3259730800 : Int),
                                                                                                    (3345764771 : Int),
                                                                                                    (3516065817 : Int),
                                                                                                    (3600352804 : Int),
                                                                                                    (4094571909 : Int),
                                                                                                    (275423344 : Int),
                                                                                                    (430227734 : Int),
                                                                                                    (506948616 : Int),
                                                                                                    (659060556 : Int),
                                                                                                    (883997877 : Int),
                                                                                                    (958139571 : Int),
                                                                                                    (1322822218 : Int),
                                                                                                    (1537002063 : Int),
                                                                                                    (1747873779 : Int),
                                                                                                    (1955562222 : Int),
                                                                                                    (2024104815 : Int),
                                                                                                    (2227730452 : Int),
                                                                                                    (2361852424 : Int),
                                                                                                    (2428436474 : Int),
                                                                                                    (2756734187 : Int),
                                                                                                    (3204031479 : Int),
                                                                                                    (3329325298 :
                                                                                                      Int)].getD
                                                                                                x.snd.snd.snd.snd.snd.snd.snd.snd.toNat
                                                                                                (0 : Int)))).add
                                                                                        ((U.sched b).getD
                                                                                          x.snd.snd.snd.snd.snd.snd.snd.snd.toNat
                                                                                          (0 : Int)))).add
                                                                                  (IntKind.u32.wrap
                                                                                    ((IntKind.u32.wrap
                                                                                          (↑((BitVec.ofInt
                                                                                                      IntKind.u32.bits
                                                                                                      (IntKind.u32.wrap
                                                                                                        (↑((BitVec.ofInt
                                                                                                                    IntKind.u32.bits
                                                                                                                    (U.right
                                                                                                                      x.fst
                                                                                                                      (2 :
                                                                                                                        Int))).xor
                                                                                                                (BitVec.ofInt
                                                                                                                  IntKind.u32.bits
                                                                                                                  (U.right
                                                                                                                    x.fst
                                                                                                                    (13 :
                                                                                                                      Int)))).toNat :
                                                                                                          Int))).xor
                                                                                                  (BitVec.ofInt
                                                                                                    IntKind.u32.bits
                                                                                                    (U.right x.fst
                                                                                                      (22 :
                                                                                                        Int)))).toNat :
                                                                                            Int)).add
                                                                                      (IntKind.u32.wrap
                                                                                        (↑((BitVec.ofInt
                                                                                                    IntKind.u32.bits
                                                                                                    (IntKind.u32.wrap
                                                                                                      (↑((BitVec.ofInt
                                                                                                                  IntKind.u32.bits
                                                                                                                  x.fst).and
                                                                                                              (BitVec.ofInt
                                                                                                                IntKind.u32.bits
                                                                                                                x.snd.fst)).toNat :
                                                                                                        Int))).or
                                                                                                (BitVec.ofInt
                                                                                                  IntKind.u32.bits
                                                                                                  (IntKind.u32.wrap
                                                                                                    (↑((BitVec.ofInt
                                                                                                                IntKind.u32.bits
                                                                                                                x.snd.snd.fst).and
                                                                                                            (BitVec.ofInt
                                                                                                              IntKind.u32.bits
                                                                                                              (IntKind.u32.wrap
                                                                                                                (↑((BitVec.ofInt
                                                                                                                            IntKind.u32.bits
                                                                                                                            x.fst).or
                                                                                                                        (BitVec.ofInt
                                                                                                                          IntKind.u32.bits
                                                                                                                          x.snd.fst)).toNat :
                                                                                                                  Int)))).toNat :
                                                                                                      Int)))).toNat :
                                                                                          Int))))))
                                                                              x.fst x.snd.fst x.snd.snd.fst
                                                                              (IntKind.u32.wrap
                                                                                (x.snd.snd.snd.fst.add
                                                                                  (IntKind.u32.wrap
                                                                                    ((IntKind.u32.wrap
                                                                                          ((IntKind.u32.wrap
                                                                                                ((IntKind.u32.wrap
                                                                                                      (x.snd.snd.snd.snd.snd.snd.snd.fst.add
                                                                                                        (IntKind.u32.wrap
                                                                                                          (↑((BitVec.ofInt
                                                                                                                      IntKind.u32.bits
                                                                                                                      (IntKind.u32.wrap
                                                                                                                        (↑((BitVec.ofInt
                                                                                                                                    IntKind.u32.bits
                                                                                                                                    (U.right
                                                                                                                                      x.snd.snd.snd.snd.fst
                                                                                                                                      (6 :
                                                                                                                                        Int))).xor
                                                                                                                                (BitVec.ofInt
                                                                                                                                  IntKind.u32.bits
                                                                                                                                  (U.right
                                                                                                                                    x.snd.snd.snd.snd.fst
                                                                                                                                    (11 :
                                                                                                                                      Int)))).toNat :
                                                                                                                          Int))).xor
                                                                                                                  (BitVec.ofInt
                                                                                                                    IntKind.u32.bits
                                                                                                                    (U.right
                                                                                                                      x.snd.snd.snd.snd.fst
                                                                                                                      (25 :
                                                                                                                        Int)))).toNat :
                                                                                                            Int)))).add
                                                                                                  (IntKind.u32.wrap
                                                                                                    (↑((BitVec.ofInt
                                                                                                                IntKind.u32.bits
                                                                                                                x.snd.snd.snd.snd.snd.snd.fst).xor
                                                                                                            (BitVec.ofInt
                                                                                                              IntKind.u32.bits
                                                                                                              (IntKind.u32.wrap
                                                                                                                (↑((BitVec.ofInt
                                                                                                                            IntKind.u32.bits
                                                                                                                            x.snd.snd.snd.snd.fst).and
                                                                                                                        (BitVec.ofInt
                                                                                                                          IntKind.u32.bits
                                                                                                                          (IntKind.u32.wrap
                                                                                                                            (↑((BitVec.ofInt
                                                                                                                                        IntKind.u32.bits
                                                                                                                                        x.snd.snd.snd.snd.snd.fst).xor
                                                                                                                                    (BitVec.ofInt
                                                                                                                                      IntKind.u32.bits
                                                                                                                                      x.snd.snd.snd.snd.snd.snd.fst)).toNat :
                                                                                                                              Int)))).toNat :
                                                                                                                  Int)))).toNat :
                                                                                                      Int)))).add
                                                                                            ([(1116352408 : Int),
                                                                                                  (1899447441 : Int),
                                                                                                  (3049323471 : Int),
                                                                                                  (3921009573 : Int),
                                                                                                  (961987163 : Int),
                                                                                                  (1508970993 : Int),
                                                                                                  (2453635748 : Int),
                                                                                                  (2870763221 : Int),
                                                                                                  (3624381080 : Int),
                                                                                                  (310598401 : Int),
                                                                                                  (607225278 : Int),
                                                                                                  (1426881987 : Int),
                                                                                                  (1925078388 : Int),
                                                                                                  (2162078206 : Int),
                                                                                                  (2614888103 : Int),
                                                                                                  (3248222580 : Int),
                                                                                                  (3835390401 : Int),
                                                                                                  (4022224774 : Int),
                                                                                                  (264347078 : Int),
                                                                                                  (604807628 : Int),
                                                                                                  (770255983 : Int),
                                                                                                  (1249150122 : Int),
                                                                                                  (1555081692 : Int),
                                                                                                  (1996064986 : Int),
                                                                                                  (2554220882 : Int),
                                                                                                  (2821834349 : Int),
                                                                                                  (2952996808 : Int),
                                                                                                  (3210313671 : Int),
                                                                                                  (3336571891 : Int),
                                                                                                  (3584528711 : Int),
                                                                                                  (113926993 : Int),
                                                                                                  (338241895 : Int),
                                                                                                  (666307205 : Int),
                                                                                                  (773529912 : Int),
                                                                                                  (1294757372 : Int),
                                                                                                  (1396182291 : Int),
                                                                                                  (1695183700 : Int),
                                                                                                  (1986661051 : Int),
                                                                                                  (2177026350 : Int),
                                                                                                  (2456956037 : Int),
                                                                                                  (2730485921 : Int),
                                                                                                  (2820302411 : Int),
                                                                                                  (3259730800 : Int),
                                                                                                  (3345764771 : Int),
                                                                                                  (3516065817 : Int),
                                                                                                  (3600352804 : Int),
                                                                                                  (4094571909 : Int),
                                                                                                  (275423344 : Int),
                                                                                                  (430227734 : Int),
                                                                                                  (506948616 : Int),
                                                                                                  (659060556 : Int),
                                                                                                  (883997877 : Int),
                                                                                                  (958139571 : Int),
                                                                                                  (1322822218 : Int),
                                                                                                  (1537002063 : Int),
                                                                                                  (1747873779 : Int),
                                                                                                  (1955562222 : Int),
                                                                                                  (2024104815 : Int),
                                                                                                  (2227730452 : Int),
                                                                                                  (2361852424 : Int),
                                                                                                  (2428436474 : Int),
                                                                                                  (2756734187 : Int),
                                                                                                  (3204031479 : Int),
                                                                                                  (3329325298 :
                                                                                                    Int)].getD
                                                                                              x.snd.snd.snd.snd.snd.snd.snd.snd.toNat
                                                                                              (0 : Int)))).add
                                                                                      ((U.sched b).getD
                                                                                        x.snd.snd.snd.snd.snd.snd.snd.snd.toNat
                                                                                        (0 : Int))))))
                                                                              x.snd.snd.snd.snd.fst
                                                                              x.snd.snd.snd.snd.snd.fst
                                                                              x.snd.snd.snd.snd.snd.snd.fst
                                                                              (IntKind.i64.wrap
                                                                                (x.snd.snd.snd.snd.snd.snd.snd.snd.add
                                                                                  (1 : Int))) =
                                                                            U.stsha_step_3 h b y.fst y.snd.fst
                                                                              y.snd.snd.fst y.snd.snd.snd.fst
                                                                              y.snd.snd.snd.snd.fst
                                                                              y.snd.snd.snd.snd.snd.fst
                                                                              y.snd.snd.snd.snd.snd.snd.fst
                                                                              y.snd.snd.snd.snd.snd.snd.snd.fst
                                                                              y.snd.snd.snd.snd.snd.snd.snd.snd ∧
                                                                          U.Isha_step_3 h b y.fst y.snd.fst
                                                                              y.snd.snd.fst y.snd.snd.snd.fst
                                                                              y.snd.snd.snd.snd.fst
                                                                              y.snd.snd.snd.snd.snd.fst
                                                                              y.snd.snd.snd.snd.snd.snd.fst
                                                                              y.snd.snd.snd.snd.snd.snd.snd.fst
                                                                              y.snd.snd.snd.snd.snd.snd.snd.snd ∧
                                                                            Nat.sub (64 : Nat)
                                                                                y.snd.snd.snd.snd.snd.snd.snd.snd.toNat <
                                                                              Nat.sub (64 : Nat)
                                                                                x.snd.snd.snd.snd.snd.snd.snd.snd.toNat
                                                            else
                                                              ∃ (x0 : List Int × List Int × Int),
                                                                (U.stsha_step_10 h b
                                                                        (((((((([(0 : Int), (0 : Int), (0 : Int),
                                                                                                          (0 : Int),
                                                                                                          (0 : Int),
                                                                                                          (0 : Int),
                                                                                                          (0 : Int),
                                                                                                          (0 : Int)].set
                                                                                                      (0 : Nat)
                                                                                                      x.fst).set
                                                                                                  (1 : Nat)
                                                                                                  x.snd.fst).set
                                                                                              (2 : Nat)
                                                                                              x.snd.snd.fst).set
                                                                                          (3 : Nat)
                                                                                          x.snd.snd.snd.fst).set
                                                                                      (4 : Nat)
                                                                                      x.snd.snd.snd.snd.fst).set
                                                                                  (5 : Nat)
                                                                                  x.snd.snd.snd.snd.snd.fst).set
                                                                              (6 : Nat)
                                                                              x.snd.snd.snd.snd.snd.snd.fst).set
                                                                          (7 : Nat) x.snd.snd.snd.snd.snd.snd.snd.fst)
                                                                        h (0 : Int) =
                                                                      U.stsha_step_10 h b x0.fst x0.snd.fst x0.snd.snd ∧
                                                                    U.Isha_step_10 h b x0.fst x0.snd.fst x0.snd.snd) ∧
                                                                  ∀ (x : List Int × List Int × Int),
                                                                    U.Isha_step_10 h b x.fst x.snd.fst x.snd.snd →
                                                                      bif decide (x.snd.snd < (8 : Int)) then
                                                                        (0 : Int) ≤ x.snd.snd ∧
                                                                          x.snd.snd < (↑(8 : Nat) : Int) ∧
                                                                            (0 : Int) ≤ x.snd.snd ∧
                                                                              x.snd.snd < (↑(8 : Nat) : Int) ∧
                                                                                x.snd.snd.toNat < (8 : Nat) ∧
                                                                                  (0 : Int) ≤ x.snd.snd ∧
                                                                                    x.snd.snd < (↑(8 : Nat) : Int) ∧
                                                                                      x.snd.snd.toNat < (8 : Nat) ∧
                                                                                        ∃ (y :
                                                                                          List Int × List Int × Int),
                                                                                          U.stsha_step_10 h b x.fst
                                                                                                (x.snd.fst.set
                                                                                                  x.snd.snd.toNat
                                                                                                  (IntKind.u32.wrap
                                                                                                    ((x.snd.fst.getD
                                                                                                          x.snd.snd.toNat
                                                                                                          (0 : Int)).add
                                                                                                      (x.fst.getD
                                                                                                        x.snd.snd.toNat
                                                                                                        (0 : Int)))))
                                                                                                (IntKind.i64.wrap
                                                                                                  (x.snd.snd.add
                                                                                                    (1 : Int))) =
                                                                                              U.stsha_step_10 h b y.fst
                                                                                                y.snd.fst y.snd.snd ∧
                                                                                            U.Isha_step_10 h b y.fst
                                                                                                y.snd.fst y.snd.snd ∧
                                                                                              Nat.sub (8 : Nat)
                                                                                                  y.snd.snd.toNat <
                                                                                                Nat.sub (8 : Nat)
                                                                                                  x.snd.snd.toNat
                                                                      else
                                                                        x.snd.fst =
                                                                            List.zipWith U.add32 h
                                                                              (U.ls8
                                                                                (U.rnds (U.sched b) (64 : Nat)
                                                                                  (U.st8 h))) ∧
                                                                          True
def vcsha_Step (h : List Int) (b : List Int) : Prop :=
  (0 : Int) ≤ (0 : Int) ∧
    (0 : Int) ≤ (↑(64 : Nat) : Int) ∧
      (↑(64 : Nat) : Int) ≤ (↑(64 : Nat) : Int) ∧
        (64 : Nat) ≤
            (List.take ((↑(64 : Nat) : Int).toNat.sub (Int.toNat (0 : Int)))
                (List.drop (Int.toNat (0 : Int)) b)).length ∧
          List.zipWith U.add32 h
                (U.ls8
                  (U.rnds
                    (U.sched
                      (List.take ((↑(64 : Nat) : Int).toNat.sub (Int.toNat (0 : Int)))
                        (List.drop (Int.toNat (0 : Int)) b)))
                    (64 : Nat) (U.st8 h))) =
              List.zipWith U.add32 h (U.ls8 (U.rnds (U.sched b) (64 : Nat) (U.st8 h))) ∧
            True
def vcsha_Sum (b : List Int) : Prop :=
  b.length ≤ (1000000000000 : Nat) ∧
    bif decide ((64 : Int) < (1 : Int)) then False
    else
      (1 : Int) ≤ (64 : Int) ∧
        (64 : Int) ≤ (4294967296 : Int) ∧
          (U.pad b).length ≤ (4611686018427387904 : Nat) ∧
            ∃ (x0 : List Int × Nat),
              (U.stsha_Sum_3 b
                      [(1779033703 : Int), (3144134277 : Int), (1013904242 : Int), (2773480762 : Int),
                        (1359893119 : Int), (2600822924 : Int), (528734635 : Int), (1541459225 : Int)]
                      x0.snd =
                    U.stsha_Sum_3 b x0.fst x0.snd ∧
                  U.Isha_Sum_3 b x0.fst x0.snd ∧ x0.snd = (0 : Nat)) ∧
                (∀ (x : List Int × Nat),
                    U.Isha_Sum_3 b x.fst x.snd →
                      x.snd < (U.chunks (Int.toNat (64 : Int)) (U.pad b)).length →
                        (64 : Nat) ≤ ((U.chunks (Int.toNat (64 : Int)) (U.pad b)).getD x.snd []).length ∧
                          ∃ (y : List Int × Nat),
                            U.stsha_Sum_3 b
                                  (List.zipWith U.add32 x.fst
                                    (U.ls8
                                      (U.rnds (U.sched ((U.chunks (Int.toNat (64 : Int)) (U.pad b)).getD x.snd []))
                                        (64 : Nat) (U.st8 x.fst))))
                                  y.snd =
                                U.stsha_Sum_3 b y.fst y.snd ∧
                              U.Isha_Sum_3 b y.fst y.snd ∧ y.snd = x.snd.add (1 : Nat)) ∧
                  ∀ (x : List Int × Nat),
                    U.Isha_Sum_3 b x.fst x.snd →
                      x.snd = (U.chunks (Int.toNat (64 : Int)) (U.pad b)).length →
                        ∃ (x0 : List Int × List Int × Int),
                          (U.stsha_Sum_6 b
                                  [(0 : Int), (0 : Int), (0 : Int), (0 : Int), (0 : Int), (0 : Int), (0 : Int),
                                    (0 : Int), (0 : Int), (0 : Int), (0 : Int), (0 : Int), (0 : Int), (0 : Int),
                                    (0 : Int), (0 : Int), (0 : Int), (0 : Int), (0 : Int), (0 : Int), (0 : Int),
                                    (0 : Int), (0 : Int), (0 : Int), (0 : Int), (0 : Int), (0 : Int), (0 : Int),
                                    (0 : Int), (0 : Int), (0 : Int), (0 : Int)]
                                  x.fst (0 : Int) =
                                U.stsha_Sum_6 b x0.fst x0.snd.fst x0.snd.snd ∧
                              U.Isha_Sum_6 b x0.fst x0.snd.fst x0.snd.snd) ∧
                            ∀ (x : List Int × List Int × Int),
                              U.Isha_Sum_6 b x.fst x.snd.fst x.snd.snd →
                                bif decide (x.snd.snd < (32 : Int)) then
                                  (4 : Int) ≠ (0 : Int) ∧
                                    (0 : Int) ≤ IntKind.i64.wrap (x.snd.snd.tdiv (4 : Int)) ∧
                                      IntKind.i64.wrap (x.snd.snd.tdiv (4 : Int)) < (↑(8 : Nat) : Int) ∧
                                        (IntKind.i64.wrap (x.snd.snd.tdiv (4 : Int))).toNat < (8 : Nat) ∧
                                          (4 : Int) ≠ (0 : Int) ∧
                                            (0 : Int) ≤
                                                IntKind.i64.wrap
                                                  (Int.sub (24 : Int)
                                                    (IntKind.i64.wrap (Int.mul (8 : Int) (x.snd.snd.tmod (4 : Int))))) ∧
                                              (0 : Int) ≤ x.snd.snd ∧
                                                x.snd.snd < (↑(32 : Nat) : Int) ∧
                                                  x.snd.snd.toNat < (32 : Nat) ∧
                                                    ∃ (y : List Int × List Int × Int),
                                                      U.stsha_Sum_6 b
                                                            (x.fst.set x.snd.snd.toNat
                                                              (IntKind.u8.wrap
                                                                ((x.snd.fst.getD
                                                                      (IntKind.i64.wrap
                                                                          (x.snd.snd.tdiv (4 : Int))).toNat
                                                                      (0 : Int)).fdiv
                                                                  (Int.pow (2 : Int)
                                                                    (if
                                                                        (IntKind.i64.wrap
                                                                              (Int.sub (24 : Int)
                                                                                (IntKind.i64.wrap
                                                                                  (Int.mul (8 : Int)
                                                                                    (x.snd.snd.tmod
                                                                                      (4 : Int)))))).toNat ≤
                                                                          IntKind.u32.bits then
                                                                      (IntKind.i64.wrap
                                                                          (Int.sub (24 : Int)
                                                                            (IntKind.i64.wrap
                                                                              (Int.mul (8 : Int)
                                                                                (x.snd.snd.tmod (4 : Int)))))).toNat
                                                                    else IntKind.u32.bits)))))
                                                            x.snd.fst (IntKind.i64.wrap (x.snd.snd.add (1 : Int))) =
                                                          U.stsha_Sum_6 b y.fst y.snd.fst y.snd.snd ∧
                                                        U.Isha_Sum_6 b y.fst y.snd.fst y.snd.snd ∧
                                                          Nat.sub (32 : Nat) y.snd.snd.toNat <
                                                            Nat.sub (32 : Nat) x.snd.snd.toNat
                                else x.fst = U.sum b ∧ True
def vcsha_Join (l : List (List Int)) : Prop :=
  l.flatten.length ≤ (70000000000000 : Nat) ∧
    l.flatten.length ≤ (1000000000000 : Nat) ∧ U.sum l.flatten = U.sum l.flatten ∧ True
def vcsha_Text (s : List Int) : Prop :=
  (0 : Int) ≤ (0 : Int) ∧
    (0 : Int) ≤ (64 : Int) ∧
      Int.mul (64 : Int) (↑(1 : Nat) : Int) ≤ (140737488355328 : Int) ∧
        (64 : Int) ≤ (9223372036854775807 : Int) ∧
          ∃ (x0 : List Int × Int),
            (U.stsha_Text_3 s [] (0 : Int) = U.stsha_Text_3 s x0.fst x0.snd ∧ U.Isha_Text_3 s x0.fst x0.snd) ∧
              ∀ (x : List Int × Int),
                U.Isha_Text_3 s x.fst x.snd →
                  bif decide (x.snd < (32 : Int)) then
                    (0 : Int) ≤ x.snd ∧
                      x.snd < (↑(32 : Nat) : Int) ∧
                        (0 : Int) ≤ (4 : Int) ∧
                          (0 : Int) ≤
                              (s.getD x.snd.toNat (0 : Int)).fdiv
                                (Int.pow (2 : Int)
                                  (if Int.toNat (4 : Int) ≤ IntKind.u8.bits then Int.toNat (4 : Int)
                                  else IntKind.u8.bits)) ∧
                            (s.getD x.snd.toNat (0 : Int)).fdiv
                                  (Int.pow (2 : Int)
                                    (if Int.toNat (4 : Int) ≤ IntKind.u8.bits then Int.toNat (4 : Int)
                                    else IntKind.u8.bits)) <
                                (↑((16 : Nat)) : Int) ∧
                              (0 : Int) ≤
                                  IntKind.u8.wrap
                                    (↑((BitVec.ofInt IntKind.u8.bits (s.getD x.snd.toNat (0 : Int))).and
                                            (BitVec.ofInt IntKind.u8.bits (15 : Int))).toNat :
                                      Int) ∧
                                IntKind.u8.wrap
                                      (↑((BitVec.ofInt IntKind.u8.bits (s.getD x.snd.toNat (0 : Int))).and
                                              (BitVec.ofInt IntKind.u8.bits (15 : Int))).toNat :
                                        Int) <
                                    (↑((16 : Nat)) : Int) ∧
                                  (x.fst.length.add ((2 : Nat))).mul (1 : Nat) ≤ (140737488355328 : Nat) ∧
                                    x.fst.length.add ((2 : Nat)) ≤ maxLen ∧
                                      ∃ (y : List Int × Int),
                                        U.stsha_Text_3 s
                                              (x.fst.append
                                                (([(0 : Int), (0 : Int)].set (0 : Nat)
                                                      ([(↑(UInt8.toNat (48 : UInt8)) : Int),
                                                            (↑(UInt8.toNat (49 : UInt8)) : Int),
                                                            (↑(UInt8.toNat (50 : UInt8)) : Int),
                                                            (↑(UInt8.toNat (51 : UInt8)) : Int),
                                                            (↑(UInt8.toNat (52 : UInt8)) : Int),
                                                            (↑(UInt8.toNat (53 : UInt8)) : Int),
                                                            (↑(UInt8.toNat (54 : UInt8)) : Int),
                                                            (↑(UInt8.toNat (55 : UInt8)) : Int),
                                                            (↑(UInt8.toNat (56 : UInt8)) : Int),
                                                            (↑(UInt8.toNat (57 : UInt8)) : Int),
                                                            (↑(UInt8.toNat (97 : UInt8)) : Int),
                                                            (↑(UInt8.toNat (98 : UInt8)) : Int),
                                                            (↑(UInt8.toNat (99 : UInt8)) : Int),
                                                            (↑(UInt8.toNat (100 : UInt8)) : Int),
                                                            (↑(UInt8.toNat (101 : UInt8)) : Int),
                                                            (↑(UInt8.toNat (102 : UInt8)) : Int)].getD
                                                        ((s.getD x.snd.toNat (0 : Int)).fdiv
                                                            (Int.pow (2 : Int)
                                                              (if Int.toNat (4 : Int) ≤ IntKind.u8.bits then
                                                                Int.toNat (4 : Int)
                                                              else IntKind.u8.bits))).toNat
                                                        (0 : Int))).set
                                                  (1 : Nat)
                                                  ([(↑(UInt8.toNat (48 : UInt8)) : Int),
                                                        (↑(UInt8.toNat (49 : UInt8)) : Int),
                                                        (↑(UInt8.toNat (50 : UInt8)) : Int),
                                                        (↑(UInt8.toNat (51 : UInt8)) : Int),
                                                        (↑(UInt8.toNat (52 : UInt8)) : Int),
                                                        (↑(UInt8.toNat (53 : UInt8)) : Int),
                                                        (↑(UInt8.toNat (54 : UInt8)) : Int),
                                                        (↑(UInt8.toNat (55 : UInt8)) : Int),
                                                        (↑(UInt8.toNat (56 : UInt8)) : Int),
                                                        (↑(UInt8.toNat (57 : UInt8)) : Int),
                                                        (↑(UInt8.toNat (97 : UInt8)) : Int),
                                                        (↑(UInt8.toNat (98 : UInt8)) : Int),
                                                        (↑(UInt8.toNat (99 : UInt8)) : Int),
                                                        (↑(UInt8.toNat (100 : UInt8)) : Int),
                                                        (↑(UInt8.toNat (101 : UInt8)) : Int),
                                                        (↑(UInt8.toNat (102 : UInt8)) : Int)].getD
                                                    (IntKind.u8.wrap
                                                        (↑((BitVec.ofInt IntKind.u8.bits
                                                                    (s.getD x.snd.toNat (0 : Int))).and
                                                                (BitVec.ofInt IntKind.u8.bits (15 : Int))).toNat :
                                                          Int)).toNat
                                                    (0 : Int))))
                                              (IntKind.i64.wrap (x.snd.add (1 : Int))) =
                                            U.stsha_Text_3 s y.fst y.snd ∧
                                          U.Isha_Text_3 s y.fst y.snd ∧
                                            Nat.sub (32 : Nat) y.snd.toNat < Nat.sub (32 : Nat) x.snd.toNat
                  else x.fst = U.text s ∧ True
end Go.Proofs.YtoecpaccpcnkcaaDoor
/- What is owed of the functions, proved in plain Lean. -/
set_option linter.unusedSimpArgs false
set_option linter.unusedVariables false
set_option maxRecDepth 100000
namespace Go.Proofs.YtoecpaccpcnkcaaDoor
open Go.Vc
open Go.Vc.T
theorem or32_disj {a b : Int} (k : Nat) (ha : 0 ≤ a) (hb : 0 ≤ b) (hbk : b < 2 ^ k) (h : 2 ^ k * a + b < 4294967296) : T.orK .u32 (2 ^ k * a) b = 2 ^ k * a + b := by
  obtain ⟨m, rfl⟩ := Int.eq_ofNat_of_zero_le ha
  obtain ⟨n, rfl⟩ := Int.eq_ofNat_of_zero_le hb
  have e : ((2 : Int) ^ k * (m : Int)) = ((2 ^ k * m : Nat) : Int) := by push_cast; rfl
  have e2 : ((2 : Int) ^ k) = ((2 ^ k : Nat) : Int) := by push_cast; rfl
  rw [e] at h ⊢
  rw [e2] at hbk
  have hbk : n < 2 ^ k := by omega
  have hor := Nat.two_pow_add_eq_or_of_lt hbk m
  generalize 2 ^ k * m = q at *
  unfold T.orK
  have b0 : (IntKind.u32).bits = 32 := rfl
  rw [b0, BitVec.ofInt_natCast, BitVec.ofInt_natCast, wrap_u32, BitVec.toNat_or, BitVec.toNat_ofNat, BitVec.toNat_ofNat, Nat.mod_eq_of_lt (by omega), Nat.mod_eq_of_lt (by omega), ← hor]
  omega
theorem u8_at {b : List Int} (hb : ∀ x ∈ b, Valid (.int .u8) x) (i : Nat) : 0 ≤ b.getD i 0 ∧ b.getD i 0 ≤ 255 := by
  by_cases h : i < b.length
  · rw [getD_at h]; exact vU8 (hb _ (List.getElem_mem h))
  · rw [List.getD_eq_getElem?_getD, List.getElem?_eq_none (by omega)]; simp
theorem u32_at {b : List Int} (hb : ∀ x ∈ b, Valid (.int .u32) x) (i : Nat) : 0 ≤ b.getD i 0 ∧ b.getD i 0 ≤ 4294967295 := by
  by_cases h : i < b.length
  · rw [getD_at h]; exact vU32 (hb _ (List.getElem_mem h))
  · rw [List.getD_eq_getElem?_getD, List.getElem?_eq_none (by omega)]; simp
theorem okmath_bits_RotateLeft32 (x k : Int) : vcmath_bits_RotateLeft32 x k := by
  refine ⟨?_, ?_, rfl, trivial⟩ <;> (rw [wrap_u64]; omega)
theorem oksha_right (x n : Int) : vcsha_right x n := ⟨rfl, trivial⟩
theorem oksha_word (b : List Int) (hb : ∀ x ∈ b, Valid (.int .u8) x) (hl : 4 ≤ b.length) : vcsha_word b := by
  unfold vcsha_word
  have h0 := u8_at hb 0
  have h1 := u8_at hb 1
  have h2 := u8_at hb 2
  have h3 := u8_at hb 3
  refine ⟨by omega, by omega, by omega, by omega, by omega, by omega, by omega, by omega, by omega, by omega, by omega, ?_, trivial⟩
  have p24 : Int.pow 2 (if Int.toNat 24 ≤ IntKind.u32.bits then Int.toNat 24 else IntKind.u32.bits) = 2 ^ 24 := by decide +kernel
  have p16 : Int.pow 2 (if Int.toNat 16 ≤ IntKind.u32.bits then Int.toNat 16 else IntKind.u32.bits) = 2 ^ 16 := by decide +kernel
  have p8 : Int.pow 2 (if Int.toNat 8 ≤ IntKind.u32.bits then Int.toNat 8 else IntKind.u32.bits) = 2 ^ 8 := by decide +kernel
  simp only [p24, p16, p8, orK_eq, int_mul, show Int.toNat 0 = 0 from rfl, show Int.toNat 1 = 1 from rfl, show Int.toNat 2 = 2 from rfl, show Int.toNat 3 = 3 from rfl]
  unfold U.word
  generalize b.getD 0 0 = w0 at *
  generalize b.getD 1 0 = w1 at *
  generalize b.getD 2 0 = w2 at *
  generalize b.getD 3 0 = w3 at *
  simp only [wrap_u32]
  rw [show w0 % 4294967296 * 2 ^ 24 % 4294967296 = 2 ^ 24 * w0 by omega, show w1 % 4294967296 * 2 ^ 16 % 4294967296 = 2 ^ 16 * w1 by omega, show w2 % 4294967296 * 2 ^ 8 % 4294967296 = 2 ^ 8 * w2 by omega, show w3 % 4294967296 = w3 by omega]
  rw [or32_disj 24 (by omega) (by omega) (by omega) (by omega), show (2 : Int) ^ 24 * w0 + 2 ^ 16 * w1 = 2 ^ 16 * (2 ^ 8 * w0 + w1) by omega, or32_disj 16 (by omega) (by omega) (by omega) (by omega),
    show (2 : Int) ^ 16 * (2 ^ 8 * w0 + w1) + 2 ^ 8 * w2 = 2 ^ 8 * (2 ^ 16 * w0 + 2 ^ 8 * w1 + w2) by omega, or32_disj 8 (by omega) (by omega) (by omega) (by omega)]
  omega
theorem flat_take {l : List (List Int)} {i : Int} (h0 : 0 ≤ i) (h : i < l.length) : (l.take (i + 1).toNat).flatten = (l.take i.toNat).flatten ++ l.getD i.toNat [] := by
  rw [take_at h0 h, getD_at (by omega), List.flatten_append]; simp only [List.flatten_cons, List.flatten_nil, List.append_nil]
theorem flat_le (l : List (List Int)) (i : Nat) : (l.take i).flatten.length ≤ l.flatten.length := by
  conv => rhs; rw [← List.take_append_drop i l]
  rw [List.flatten_append, List.length_append]; omega
theorem okslices_Concat_byte_byte (l : List (List Int)) (hl : l.length ≤ maxLen) (hf : l.flatten.length ≤ 70000000000000) : vcslices_Concat_byte_byte l := by
  unfold vcslices_Concat_byte_byte
  rw [maxLen_eq] at hl
  simp only [cond_prop, int_add, int_sub, nat_sub, nat_add, nat_mul, list_append, int_mul, U.Islices_Concat_byte_byte_3, U.Islices_Concat_byte_byte_11, U.at_, maxLen_eq, wrap_i64, decide_eq_true_eq, decide_eq_false_iff_not]
  have two : ∃ (x0 : List Int × Int), (U.stslices_Concat_byte_byte_11 l [] 0 = U.stslices_Concat_byte_byte_11 l x0.fst x0.snd ∧ (0 ≤ x0.snd ∧ x0.snd ≤ l.length) ∧ x0.fst = (l.take x0.snd.toNat).flatten) := ⟨([], 0), rfl, by simp, by simp⟩
  refine ⟨(_, _), ⟨rfl, by simp⟩, fun ⟨n, i⟩ ⟨⟨h0, h1⟩, h2⟩ => ⟨fun hi => ?_, fun hi => ?_⟩⟩
  · have hi : i < l.length := hi
    have ht := flat_take h0 hi
    have hle := flat_le l (i + 1).toNat
    have hle := flat_le l i.toNat
    have he := congrArg List.length ht
    rw [List.length_append] at he
    refine ⟨h0, hi, fun h => ?_, fun _ => ⟨(_, _), rfl, ⟨⟨?_, ?_⟩, ?_⟩, ?_⟩⟩ <;> simp only [] at * <;> first | omega | skip
    rw [show (i + 1 + 9223372036854775808) % 18446744073709551616 - 9223372036854775808 = i + 1 by omega]
    omega
  · have hi : ¬ i < l.length := hi
    have hii : i = l.length := by simp only [] at *; omega
    have hle := flat_le l i.toNat
    refine ⟨fun h => ?_, fun h => ⟨fun h7 => ⟨by omega, by omega, by omega, ?_, ?_, ?_, by omega, by omega, ?_, ([], 0), ⟨rfl, by simp⟩, ?_⟩, fun h7 => ⟨([], 0), ⟨rfl, by simp⟩, ?_⟩⟩⟩ <;> (try (simp only [] at *; omega))
    all_goals
      rintro ⟨o, j⟩ ⟨⟨h3, h4⟩, h5⟩
      refine ⟨fun hj => ?_, fun hj => ⟨?_, trivial⟩⟩
      · have hj : j < l.length := hj
        have ht := flat_take h3 hj
        have hle := flat_le l (j + 1).toNat
        have he := congrArg List.length ht
        rw [List.length_append] at he
        simp only [] at *
        subst h5
        refine ⟨h3, hj, by omega, by omega, (_, _), rfl, ⟨⟨?_, ?_⟩, ?_⟩, ?_⟩ <;> simp only [] <;> first | omega | skip
        rw [show (j + 1 + 9223372036854775808) % 18446744073709551616 - 9223372036854775808 = j + 1 by omega]
        exact ht.symm
      · have h5 : o = _ := h5
        rw [h5]; simp only [] at *; rw [take_end (by omega)]
theorem chunks_len (m : Nat) (l : List Int) : (U.chunks m l).length = (l.length + m - 1) / m := by simp [U.chunks]
theorem chunks_at {m : Nat} {l : List Int} {k : Nat} (h : k < (U.chunks m l).length) : (U.chunks m l).getD k [] = (l.drop (k * m)).take m := by
  rw [getD_at h]; simp [U.chunks]
theorem okslices_Chunk_byte_byte_1 (s : List Int) (n : Int) (h1 : 1 ≤ n) (h2 : n ≤ 4294967296) (h3 : s.length ≤ 4611686018427387904) : vcslices_Chunk_byte_byte_1 s n := by
  obtain ⟨m, rfl⟩ := Int.eq_ofNat_of_zero_le (show 0 ≤ n by omega)
  have hm : 0 < m := by omega
  unfold vcslices_Chunk_byte_byte_1
  simp only [cond_prop, int_add, int_sub, nat_sub, nat_add, nat_mul, minI_eq, U.Islices_Chunk_byte_byte_1_1, wrap_i64, decide_eq_true_eq, decide_eq_false_iff_not, List.length_take, List.length_drop]
  refine ⟨(0, 0), ⟨rfl, ?_⟩, ?_⟩
  · simp only []; omega
  · rintro ⟨i, k⟩ ⟨e, hlt⟩
    simp only [] at *
    have e : i = ((k * m : Nat) : Int) := by rw [e]; push_cast; rfl
    have hr : ((m : Int)).toNat = m := by omega
    have hs : ((s.length : Int)).toNat = s.length := by omega
    have hk1 : ((k + 1 : Nat) : Int) * (m : Int) = ((k * m : Nat) : Int) + m := by push_cast; rw [Int.add_mul]; omega
    rw [hr, hs]
    refine ⟨fun hi => ?_, fun hi => ?_⟩
    · have hkc : k < (U.chunks m s).length := by
        rw [chunks_len]
        have := (Nat.le_div_iff_mul_le hm (x := k + 1) (y := s.length + m - 1)).2 (by rw [Nat.succ_mul]; omega)
        omega
      have hit : i.toNat = k * m := by omega
      refine ⟨by omega, by omega, by omega, by omega, by omega, by omega, by omega, hkc, ?_, ⟨(i + m, k + 1), ?_, ⟨?_, ?_⟩, ?_⟩, trivial⟩
      · rw [chunks_at hkc, hit]
        have hd : (s.drop (k * m)).length = s.length - k * m := List.length_drop
        by_cases hb : m ≤ s.length - k * m
        · congr 1; omega
        · rw [List.take_of_length_le (i := m) (by omega), List.take_of_length_le (by omega)]
      · rw [show (i + (m : Int) + 9223372036854775808) % 18446744073709551616 - 9223372036854775808 = i + m by omega]
      · show i + (m : Int) = ((k + 1 : Nat) : Int) * m; omega
      · show i + (m : Int) < _; omega
      · show (s.length + (m : Int) - (i + m)).toNat < _; omega
    · rw [chunks_len]
      refine (Nat.div_eq_of_lt_le ?_ ?_).symm
      · show k * m ≤ _; omega
      · rw [Nat.succ_mul]; omega
theorem zeros_lt (n : Nat) : U.zeros n < 64 := by unfold U.zeros; omega
theorem be8_small (k N : Nat) (h : N < 256 ^ k) : ∀ j, U.be8 (k + j) N = List.replicate j 0 ++ U.be8 k N
  | 0 => rfl
  | j + 1 => by
    have h2 : N < 256 ^ (k + j) := Nat.lt_of_lt_of_le h (Nat.pow_le_pow_right (by omega) (by omega))
    rw [show k + (j + 1) = (k + j) + 1 from rfl, U.be8, be8_small k N h j, Nat.div_eq_of_lt h2]; simp [List.replicate_succ]
theorem oksha_Pad (b : List Int) (hl : b.length ≤ 1000000000000) : vcsha_Pad b := by
  unfold vcsha_Pad
  have hz := zeros_lt b.length
  have hw : IntKind.i64.wrap (((IntKind.i64.wrap (Int.sub 119 (Int.tmod (b.length : Int) 64))).tmod 64).add 8) = (U.zeros b.length : Int) + 8 := by
    simp only [int_add, int_sub, wrap_i64]
    rw [Int.tmod_eq_emod_of_nonneg (show 0 ≤ (b.length : Int) by omega), Int.tmod_eq_emod_of_nonneg (by omega)]
    unfold U.zeros; omega
  rw [hw]
  have hn : ((U.zeros b.length : Int) + 8).toNat = U.zeros b.length + 8 := by omega
  rw [hn]
  have h8 : (if Int.toNat 8 ≤ IntKind.u64.bits then Int.toNat 8 else IntKind.u64.bits) = 8 := by decide
  generalize hN : b.length * 8 = N at *
  simp only [cond_prop, int_add, int_sub, int_mul, list_append, h8, List.append_nil, List.length_append, List.length_cons, List.length_replicate, decide_eq_true_eq, decide_eq_false_iff_not, U.Isha_Pad_5, wrap_i64, wrap_u64, hN]
  refine ⟨by omega, by omega, by omega, by omega, by omega, by omega, by omega, (_, _, _), ⟨rfl, 0, by omega, ?_, ?_, ?_⟩, ?_⟩
  · rw [show N / 256 ^ 0 = N by simp]; simp only []; omega
  · simp only []; omega
  · simp [U.be8]
  · rintro ⟨o, n, i⟩ ⟨k, hk, hn, hi, ho⟩
    simp only [] at *
    have hol : o.length = b.length + (U.zeros b.length + 8 + 1) := by
      have : ∀ k, (U.be8 k N).length = k := fun k => by induction k with | zero => rfl | succ k ih => rw [U.be8, List.length_cons, ih]
      rw [ho]; simp only [List.length_append, List.length_cons, List.length_replicate, this]; omega
    refine ⟨fun hpos => ?_, fun hpos => ⟨?_, trivial⟩⟩
    · have hge : 256 ^ k ≤ N := by
        rcases Nat.lt_or_ge N (256 ^ k) with h | h
        · rw [Nat.div_eq_of_lt h] at hn; omega
        · exact h
      have hk8 : k < 8 := by
        rcases Nat.lt_or_ge k 8 with h | h
        · exact h
        · have : 256 ^ 8 ≤ 256 ^ k := Nat.pow_le_pow_right (by omega) h
          omega
      have hdiv : N / 256 ^ (k + 1) = N / 256 ^ k / 256 := by rw [Nat.pow_succ, Nat.div_div_eq_div_mul]
      have hfd : n.fdiv (Int.pow 2 8) = ((N / 256 ^ (k + 1) : Nat) : Int) := by
        rw [show Int.pow 2 8 = 256 from by decide, Int.fdiv_eq_ediv_of_nonneg _ (by omega), hdiv]; omega
      refine ⟨by omega, by omega, by omega, by omega, (_, _, _), rfl, ⟨k + 1, by omega, hfd, ?_, ?_⟩, ?_⟩
      · simp only []; omega
      · simp only [wrap_u8]
        rw [ho, show i.toNat = b.length + (1 + (U.zeros b.length + (8 - (k + 1)))) by omega, List.set_append, if_neg (by omega), show U.zeros b.length + (8 - k) = (U.zeros b.length + (8 - (k + 1))) + 1 by omega, List.replicate_succ', show b.length + (1 + (U.zeros b.length + (8 - (k + 1)))) - b.length = (U.zeros b.length + (8 - (k + 1))) + 1 by omega, List.set_cons_succ, List.append_assoc, List.set_append, if_neg (by simp), List.length_replicate, Nat.sub_self, U.be8]
        simp only [List.cons_append, List.nil_append, List.set_cons_zero]
        rw [hn]; simp
      · show (n.fdiv (Int.pow 2 8)).toNat < n.toNat
        rw [hfd, hdiv]; omega
    · have h0 : N < 256 ^ k := by
        rcases Nat.lt_or_ge N (256 ^ k) with h | h
        · exact h
        · have := Nat.div_pos h (Nat.pow_pos (by omega : 0 < 256)); omega
      have hb := be8_small k N h0 (8 - k)
      rw [show k + (8 - k) = 8 by omega] at hb
      unfold U.pad
      rw [hN, hb, ho, ← List.append_assoc (List.replicate (U.zeros b.length) 0), List.replicate_append_replicate]
theorem pad64_set {n : Nat} {l : List Int} {x : Int} (h : l.length < n) : (U.pad64 n l).set l.length x = U.pad64 n (l ++ [x]) := by
  unfold U.pad64
  rw [List.set_append, if_neg (by omega), Nat.sub_self, show n - l.length = (n - (l ++ [x]).length) + 1 by simp; omega, List.replicate_succ, List.set_cons_zero, List.append_assoc]; rfl
theorem pad64_at {n j : Nat} {l : List Int} (h : j < l.length) : (U.pad64 n l).getD j 0 = l.getD j 0 := by
  unfold U.pad64; rw [getD_at h, getD_at (by rw [List.length_append]; omega), List.getElem_append_left h]
theorem sched16_len (b : List Int) (t : Nat) : (U.sched16 b t).length = t := by simp [U.sched16]
theorem schedN_len (b : List Int) : ∀ k, (U.schedN b k).length = 16 + k
  | 0 => sched16_len b 16
  | k + 1 => by rw [U.schedN, List.length_append, schedN_len b k]; rfl
theorem oksha_schedule (b : List Int) (hv : b.length ≤ maxLen) (hl : 64 ≤ b.length) : vcsha_schedule b := by
  unfold vcsha_schedule
  rw [maxLen_eq] at hv
  simp only [cond_prop, int_add, int_sub, nat_sub, int_mul, U.Isha_schedule_2, U.Isha_schedule_7, wrap_i64, decide_eq_true_eq, decide_eq_false_iff_not]
  refine ⟨(_, _), ⟨rfl, by simp, by simp, ?_⟩, ?_⟩
  · rfl
  rintro ⟨w, t⟩ ⟨h0, h1, hw⟩
  simp only [] at *
  refine ⟨fun ht => ?_, fun ht => ?_⟩
  · rw [show (4 * t + 9223372036854775808) % 18446744073709551616 - 9223372036854775808 = 4 * t by omega, show (t + 1 + 9223372036854775808) % 18446744073709551616 - 9223372036854775808 = t + 1 by omega, show ((b.length : Int)).toNat = b.length by omega]
    have hd : (b.drop (4 * t).toNat).length = b.length - (4 * t).toNat := List.length_drop
    rw [List.take_of_length_le (by omega)]
    refine ⟨by omega, by omega, by omega, by omega, by omega, by omega, by omega, (_, _), rfl, ⟨by show 0 ≤ t + 1; omega, by show t + 1 ≤ 16; omega, ?_⟩, by show 16 - (t + 1).toNat < _; omega⟩
    show w.set t.toNat _ = U.pad64 64 (U.sched16 b (t + 1).toNat)
    have hs : U.sched16 b (t + 1).toNat = U.sched16 b t.toNat ++ [U.word (b.drop (4 * t).toNat)] := by
      rw [show (t + 1).toNat = t.toNat + 1 by omega, show (4 * t).toNat = 4 * t.toNat by omega]
      simp [U.sched16, List.range_succ]
    rw [hs, hw]
    have := @pad64_set 64 (U.sched16 b t.toNat) (U.word (b.drop (4 * t).toNat)) (by rw [sched16_len]; omega)
    rw [sched16_len] at this; exact this
  · have ht : t = 16 := by omega
    subst ht
    refine ⟨(_, _), ⟨rfl, by simp, by simp, hw⟩, ?_⟩
    rintro ⟨w, t⟩ ⟨h0, h1, hw⟩
    simp only [] at *
    refine ⟨fun ht => ?_, fun ht => ⟨?_, trivial⟩⟩
    · have e : ∀ c : Int, -16 ≤ c → c ≤ 16 → (t + c + 9223372036854775808) % 18446744073709551616 - 9223372036854775808 = t + c := fun c _ _ => by omega
      have s : ∀ c : Int, 0 ≤ c → c ≤ 16 → (t - c + 9223372036854775808) % 18446744073709551616 - 9223372036854775808 = t - c := fun c _ _ => by omega
      rw [s 15 (by omega) (by omega), s 2 (by omega) (by omega), s 16 (by omega) (by omega), s 7 (by omega) (by omega), e 1 (by omega) (by omega)]
      refine ⟨by omega, by omega, by omega, by omega, by omega, by omega, by omega, by omega, by omega, by omega, by omega, by omega, by omega, by omega, by omega, by omega, by omega, (_, _), rfl, ⟨by show 16 ≤ t + 1; omega, by show t + 1 ≤ 64; omega, ?_⟩, by show 64 - (t + 1).toNat < _; omega⟩
      change w.set t.toNat (U.add32 (U.add32 (U.add32 (w.getD (t - 16).toNat 0) (U.s0 (w.getD (t - 15).toNat 0))) (w.getD (t - 7).toNat 0)) (U.s1 (w.getD (t - 2).toNat 0))) = U.pad64 64 (U.schedN b ((t + 1).toNat - 16))
      have hn := schedN_len b (t - 16).toNat
      rw [show (t + 1).toNat - 16 = (t - 16).toNat + 1 by omega, U.schedN, hw, show t.toNat - 16 = (t - 16).toNat by omega, pad64_at (by omega), pad64_at (by omega), pad64_at (by omega), pad64_at (by omega)]
      have := @pad64_set 64 (U.schedN b (t.toNat - 16)) (U.wnext (U.schedN b (t.toNat - 16))) (by rw [schedN_len]; omega)
      rw [show t.toNat - 16 = (t - 16).toNat by omega, hn, show 16 + (t - 16).toNat = t.toNat by omega] at this
      rw [← this]
      unfold U.wnext
      rw [hn, show 16 + (t - 16).toNat - 16 = (t - 16).toNat by omega, show 16 + (t - 16).toNat - 15 = (t - 15).toNat by omega, show 16 + (t - 16).toNat - 7 = (t - 7).toNat by omega, show 16 + (t - 16).toNat - 2 = (t - 2).toNat by omega]
    · rw [hw, show t.toNat - 16 = 48 by omega]
      unfold U.pad64 U.sched
      rw [schedN_len]; simp
theorem zip_step (f : Int → Int → Int) : ∀ (h v : List Int) (k : Nat), k < h.length → k < v.length → (List.zipWith f (h.take k) v ++ h.drop k).set k (f (h.getD k 0) (v.getD k 0)) = List.zipWith f (h.take (k + 1)) v ++ h.drop (k + 1)
  | a :: h, c :: v, 0, _, _ => by simp
  | a :: h, c :: v, k + 1, h1, h2 => by
    have := zip_step f h v k (by simpa using h1) (by simpa using h2)
    simpa using this
  | [], _, _, h1, _ => by simp at h1
  | _ :: _, [], _, _, h2 => by simp at h2
theorem zip_at (f : Int → Int → Int) : ∀ (h v : List Int) (k : Nat), k < h.length → k < v.length → (List.zipWith f (h.take k) v ++ h.drop k).getD k 0 = h.getD k 0
  | a :: h, c :: v, 0, _, _ => by simp
  | a :: h, c :: v, k + 1, h1, h2 => by
    have := zip_at f h v k (by simpa using h1) (by simpa using h2)
    simpa using this
  | [], _, _, h1, _ => by simp at h1
  | _ :: _, [], _, _, h2 => by simp at h2
set_option maxHeartbeats 1000000 in
theorem oksha_step (h b : List Int) (h8 : h.length = 8) (hl : 64 ≤ b.length) : vcsha_step h b := by
  unfold vcsha_step
  simp only [cond_prop, nat_sub, U.Isha_step_3, U.Isha_step_10, decide_eq_true_eq, decide_eq_false_iff_not]
  refine ⟨by omega, by omega, by decide, by omega, by omega, by decide, by omega, by omega, by decide, by omega, by omega, by decide, by omega, by omega, by decide, by omega, by omega, by decide, by omega, by omega, by decide, by omega, by omega, by decide, hl, (_, _, _, _, _, _, _, _, _), ⟨rfl, by simp, by simp, rfl⟩, ?_⟩
  rintro ⟨a, b', c, d, e, f, g, i, t⟩ ⟨h0, h1, hI⟩
  simp only [] at *
  refine ⟨fun ht => ?_, fun ht => ?_⟩
  · have hw : IntKind.i64.wrap (Int.add t 1) = t + 1 := by rw [wrap_i64, int_add]; omega
    rw [hw]
    refine ⟨by omega, by omega, by omega, by omega, (_, _, _, _, _, _, _, _, _), rfl, ⟨by show 0 ≤ t + 1; omega, by show t + 1 ≤ 64; omega, ?_⟩, by show 64 - (t + 1).toNat < _; omega⟩
    show _ = U.rnds (U.sched b) (t + 1).toNat (U.st8 h)
    rw [show (t + 1).toNat = t.toNat + 1 by omega, U.rnds, ← hI]
    rfl
  · have ht : t = 64 := by omega
    subst ht
    have hI : (a, b', c, d, e, f, g, i) = U.rnds (U.sched b) 64 (U.st8 h) := hI
    generalize U.rnds (U.sched b) 64 (U.st8 h) = r at *
    subst hI
    refine ⟨(_, _, _), ⟨rfl, by simp, by simp, rfl, by simp⟩, ?_⟩
    rintro ⟨v, hh, k⟩ ⟨h0, h1, hv, hh'⟩
    simp only [] at *
    have hvl : v.length = 8 := by rw [hv]; rfl
    have hw : k < 8 → IntKind.i64.wrap (Int.add k 1) = k + 1 := fun _ => by rw [wrap_i64, int_add]; omega
    refine ⟨fun ht => ?_, fun ht => ⟨?_, trivial⟩⟩
    · rw [hw ht]
      refine ⟨by omega, by omega, by omega, by omega, by omega, by omega, by omega, by omega, (_, _, _), rfl, ⟨by show 0 ≤ k + 1; omega, by show k + 1 ≤ 8; omega, hv, ?_⟩, by show 8 - (k + 1).toNat < _; omega⟩
      show hh.set k.toNat (U.add32 (hh.getD k.toNat 0) (v.getD k.toNat 0)) = List.zipWith U.add32 (h.take (k + 1).toNat) v ++ h.drop (k + 1).toNat
      rw [show (k + 1).toNat = k.toNat + 1 by omega, hh', zip_at U.add32 h v k.toNat (by omega) (by omega)]
      exact zip_step U.add32 h v k.toNat (by omega) (by omega)
    · rw [hh', List.take_of_length_le (by omega), List.drop_eq_nil_of_le (by omega), hv]; simp
theorem oksha_Step (h b : List Int) (hl : b.length = 64) : vcsha_Step h b := by
  have : List.take ((↑(64 : Nat) : Int).toNat.sub (Int.toNat 0)) (List.drop (Int.toNat 0) b) = b := by
    show List.take 64 (List.drop 0 b) = b
    rw [List.drop_zero, List.take_of_length_le (by omega)]
  unfold vcsha_Step
  refine ⟨by omega, by omega, by omega, ?_, ?_, trivial⟩
  · have h2 := congrArg List.length this
    refine Nat.le_trans (Nat.le_of_eq ?_) (Nat.le_of_eq h2.symm); omega
  · rw [this]
theorem pad_len (b : List Int) : (U.pad b).length % 64 = 0 ∧ (U.pad b).length = b.length + U.zeros b.length + 9 := by
  have : ∀ k n, (U.be8 k n).length = k := fun k n => by induction k with | zero => rfl | succ k ih => rw [U.be8, List.length_cons, ih]
  have h : (U.pad b).length = b.length + U.zeros b.length + 9 := by
    unfold U.pad; simp only [List.length_append, List.length_cons, List.length_replicate, this]; omega
  refine ⟨?_, h⟩
  rw [h]; unfold U.zeros; omega
theorem chunk64 {l : List Int} (h : l.length % 64 = 0) {k : Nat} (hk : k < (U.chunks 64 l).length) : ((U.chunks 64 l).getD k []).length = 64 := by
  rw [chunks_at hk]
  rw [chunks_len] at hk
  rw [List.length_take, List.length_drop]; omega
theorem out32_len (h : List Int) : (U.out32 h).length = 32 := by simp [U.out32]
theorem out32_at (h : List Int) {k : Nat} (hk : k < 32) : (U.out32 h).getD k 0 = IntKind.wrap .u8 (U.shr .u32 (h.getD (k / 4) 0) (24 - 8 * (k % 4))) := by
  rw [getD_at (by rw [out32_len]; exact hk)]; simp [U.out32]
theorem fill_set {l : List Int} {k n : Nat} (h : l.length = n) (hk : k < n) : (l.take k ++ List.replicate (n - k) 0).set k (l.getD k 0) = l.take (k + 1) ++ List.replicate (n - (k + 1)) 0 := by
  have hl : (l.take k).length = k := by rw [List.length_take]; omega
  rw [List.set_append, if_neg (by omega), hl, Nat.sub_self, show n - k = (n - (k + 1)) + 1 by omega, List.replicate_succ, List.set_cons_zero, List.take_succ_eq_append_getElem (by omega), getD_at (by omega), List.append_assoc]; rfl
theorem oksha_Sum (b : List Int) (hl : b.length ≤ 1000000000000) : vcsha_Sum b := by
  unfold vcsha_Sum
  have hp := pad_len b
  have hz := zeros_lt b.length
  have e64 : Int.toNat 64 = 64 := rfl
  rw [e64]
  simp only [cond_prop, nat_sub, nat_add, U.Isha_Sum_3, U.Isha_Sum_6, decide_eq_true_eq, decide_eq_false_iff_not]
  refine ⟨hl, fun h => by omega, fun _ => ⟨by omega, by omega, by omega, (_, 0), ⟨rfl, by rfl, rfl⟩, ?_, ?_⟩⟩
  · rintro ⟨h, k⟩ hI hk
    simp only [] at *
    refine ⟨by rw [chunk64 hp.1 hk]; omega, (_, k + 1), rfl, ?_, rfl⟩
    show U.step h ((U.chunks 64 (U.pad b)).getD k []) = _
    rw [List.take_succ_eq_append_getElem hk, List.foldl_append, ← hI, getD_at hk]; rfl
  · rintro ⟨h, k⟩ hI hk
    simp only [] at *
    have hI : h = U.sums b := by rw [hI, hk, List.take_length]; rfl
    refine ⟨(_, _, _), ⟨rfl, by simp, by simp, hI, rfl⟩, ?_⟩
    rintro ⟨s, h, k⟩ ⟨h0, h1, hh, hs⟩
    simp only [] at *
    refine ⟨fun ht => ?_, fun ht => ⟨?_, trivial⟩⟩
    · have hw : IntKind.i64.wrap (Int.add k 1) = k + 1 := by rw [wrap_i64, int_add]; omega
      have h4 : IntKind.i64.wrap (Int.tdiv k 4) = k / 4 := by rw [Int.tdiv_eq_ediv_of_nonneg (by omega), wrap_i64]; omega
      have h5 : IntKind.i64.wrap (Int.sub 24 (IntKind.i64.wrap (Int.mul 8 (Int.tmod k 4)))) = 24 - 8 * (k % 4) := by
        rw [Int.tmod_eq_emod_of_nonneg (by omega)]; simp only [wrap_i64, int_sub, int_mul]; omega
      have h6 : (if (24 - 8 * (k % 4)).toNat ≤ IntKind.u32.bits then (24 - 8 * (k % 4)).toNat else IntKind.u32.bits) = 24 - 8 * (k.toNat % 4) := by
        rw [if_pos (by show _ ≤ 32; omega)]; omega
      rw [hw, h4, h5, h6]
      refine ⟨by omega, by omega, by omega, by omega, by omega, by omega, by omega, by omega, by omega, (_, _, _), rfl, ⟨by show 0 ≤ k + 1; omega, by show k + 1 ≤ 32; omega, hh, ?_⟩, by show 32 - (k + 1).toNat < _; omega⟩
      show s.set k.toNat _ = (U.out32 h).take (k + 1).toNat ++ List.replicate (32 - (k + 1).toNat) 0
      have := @fill_set (U.out32 h) k.toNat 32 (out32_len h) (by omega)
      rw [show (k + 1).toNat = k.toNat + 1 by omega, ← this, hs, out32_at h (by omega), show (k / 4).toNat = k.toNat / 4 by omega]
      unfold U.shr
      rw [show min (24 - 8 * (k.toNat % 4)) IntKind.u32.bits = 24 - 8 * (k.toNat % 4) by show min _ 32 = _; omega]
    · rw [hs, List.take_of_length_le (by rw [out32_len]; omega), show 32 - k.toNat = 0 by omega, List.replicate_zero, List.append_nil, hh]; rfl
theorem oksha_Join (l : List (List Int)) (h : l.flatten.length ≤ 1000000000000) : vcsha_Join l := ⟨by omega, h, rfl, trivial⟩
theorem text_len (s : List Int) : (U.text s).length = 2 * s.length := by
  unfold U.text; induction s with
  | nil => rfl
  | cons a s ih => rw [List.flatMap_cons, List.length_append, ih]; simp; omega
theorem and15 {x : Int} (h : 0 ≤ x ∧ x ≤ 255) : T.andK .u8 x 15 = x % 16 := by
  have : ∀ k : Fin 256, T.andK .u8 ((k.val : Nat) : Int) 15 = ((k.val : Nat) : Int) % 16 := by decide +kernel
  have := this ⟨x.toNat, by omega⟩
  rwa [show (((⟨x.toNat, by omega⟩ : Fin 256).val : Nat) : Int) = x by show ((x.toNat : Nat) : Int) = x; omega] at this
theorem oksha_Text (s : List Int) (hs : ∀ x ∈ s, Valid (.int .u8) x) (hl : s.length = 32) : vcsha_Text s := by
  unfold vcsha_Text
  have h4 : (if Int.toNat 4 ≤ IntKind.u8.bits then Int.toNat 4 else IntKind.u8.bits) = 4 := by decide
  simp only [cond_prop, nat_sub, nat_add, nat_mul, list_append, h4, andK_eq, U.Isha_Text_3, maxLen_eq, decide_eq_true_eq, decide_eq_false_iff_not]
  refine ⟨by omega, by omega, by decide, by omega, (_, _), ⟨rfl, by simp, by simp, rfl⟩, ?_⟩
  rintro ⟨o, k⟩ ⟨h0, h1, ho⟩
  simp only [] at *
  refine ⟨fun ht => ?_, fun ht => ⟨?_, trivial⟩⟩
  · have hw : IntKind.i64.wrap (Int.add k 1) = k + 1 := by rw [wrap_i64, int_add]; omega
    have hb := u8_at hs k.toNat
    have h16 : (s.getD k.toNat 0).fdiv (Int.pow 2 4) = s.getD k.toNat 0 / 16 := by
      rw [show Int.pow 2 4 = 16 from by decide, Int.fdiv_eq_ediv_of_nonneg _ (by omega)]
    have hol : o.length = 2 * k.toNat := by rw [ho, text_len, List.length_take]; omega
    rw [hw, h16, and15 hb]
    refine ⟨by omega, by omega, by omega, by omega, by omega, by omega, by omega, by omega, by omega, (_, _), rfl, ⟨by show 0 ≤ k + 1; omega, by show k + 1 ≤ 32; omega, ?_⟩, by show 32 - (k + 1).toNat < _; omega⟩
    show o ++ _ = U.text (s.take (k + 1).toNat)
    have hcat : ∀ a b : List Int, U.text (a ++ b) = U.text a ++ U.text b := fun a b => List.flatMap_append
    rw [take_at h0 (by omega), hcat, ho, ← getD_at (d := 0) (by omega)]
    rfl
  · rw [ho, List.take_of_length_le (by omega)]
end Go.Proofs.YtoecpaccpcnkcaaDoor
/- The functions' summaries hold of the program. -/
set_option linter.unusedSimpArgs false
set_option maxRecDepth 100000
set_option linter.unusedVariables false
namespace Go.Proofs.YtoecpaccpcnkcaaDoor
open Go.Vc
theorem wmath_bits_RotateLeft32 (x : DenL [.int .u32, .int .i64]) : Owes Tryd.prog (cfgOf []) (Lmath_bits_RotateLeft32 x.1 x.2) 36 (argVs [.int .u32, .int .i64] x) [] (dmath_bits_RotateLeft32 x.1 x.2) = vcmath_bits_RotateLeft32 x.1 x.2 := by kernel_rfl
theorem qmath_bits_RotateLeft32 : Pok 36 [.int .u32, .int .i64] (fun x => dmath_bits_RotateLeft32 x.1 x.2) := by
  refine pk (L := fun x => Lmath_bits_RotateLeft32 x.1 x.2) (l := []) allNil (fun _ => rfl) ?_
  intro x hv hp
  rw [wmath_bits_RotateLeft32]
  exact okmath_bits_RotateLeft32 x.1 x.2 
theorem pmath_bits_RotateLeft32 : SumOk Tryd.prog gl 36 smath_bits_RotateLeft32 := qmath_bits_RotateLeft32
theorem aQmath_bits_RotateLeft32 : AllOk Qmath_bits_RotateLeft32 := .cons pmath_bits_RotateLeft32 allNil
theorem wsha_right (x : DenL [.int .u32, .int .i64]) : Owes Tryd.prog (cfgOf Qmath_bits_RotateLeft32) (Lsha_right x.1 x.2) 30 (argVs [.int .u32, .int .i64] x) [] (dsha_right x.1 x.2) = vcsha_right x.1 x.2 := by kernel_rfl
theorem qsha_right : Pok 30 [.int .u32, .int .i64] (fun x => dsha_right x.1 x.2) := by
  refine pk (L := fun x => Lsha_right x.1 x.2) (l := Qmath_bits_RotateLeft32) aQmath_bits_RotateLeft32 (fun _ => rfl) ?_
  intro x hv hp
  rw [wsha_right]
  exact oksha_right x.1 x.2 
theorem psha_right : SumOk Tryd.prog gl 30 ssha_right := qsha_right
theorem aQsha_right : AllOk Qsha_right := .cons psha_right aQmath_bits_RotateLeft32
theorem wsha_word (x : DenL [tBytes]) : Owes Tryd.prog (cfgOf Qsha_right) (Lsha_word x) 35 (argVs [tBytes] x) [] (dsha_word x) = vcsha_word x := by kernel_rfl
theorem qsha_word : Pok 35 [tBytes] (fun x => dsha_word x) := by
  refine pk (L := fun x => Lsha_word x) (l := Qsha_right) aQsha_right (fun _ => rfl) ?_
  intro x hv hp
  rw [wsha_word]
  exact oksha_word x hv.1 (hp (4 ≤ List.length x) (by simp [dsha_word]))
theorem psha_word : SumOk Tryd.prog gl 35 ssha_word := qsha_word
theorem aQsha_word : AllOk Qsha_word := .cons psha_word aQsha_right
theorem wslices_Concat_byte_byte (x : DenL [tPieces]) : Owes Tryd.prog (cfgOf Qsha_word) (Lslices_Concat_byte_byte x) 20 (argVs [tPieces] x) [] (dslices_Concat_byte_byte x) = vcslices_Concat_byte_byte x := by kernel_rfl
theorem qslices_Concat_byte_byte : Pok 20 [tPieces] (fun x => dslices_Concat_byte_byte x) := by
  refine pk (L := fun x => Lslices_Concat_byte_byte x) (l := Qsha_word) aQsha_word (fun _ => rfl) ?_
  intro x hv hp
  rw [wslices_Concat_byte_byte]
  exact okslices_Concat_byte_byte x hv.2 (hp (x.flatten.length ≤ 70000000000000) (by simp [dslices_Concat_byte_byte]))
theorem pslices_Concat_byte_byte : SumOk Tryd.prog gl 20 sslices_Concat_byte_byte := qslices_Concat_byte_byte
theorem aQslices_Concat_byte_byte : AllOk Qslices_Concat_byte_byte := .cons pslices_Concat_byte_byte aQsha_word
theorem wslices_Chunk_byte_byte_1 (x : DenL [tBytes, .int .i64]) : OwesSeq Tryd.prog (cfgOf Qslices_Concat_byte_byte) (Lslices_Chunk_byte_byte_1 x.1 x.2) 28 sslices_Chunk_byte_byte_1 x = vcslices_Chunk_byte_byte_1 x.1 x.2 := by kernel_rfl
theorem pslices_Chunk_byte_byte_1 : SeqOk Tryd.prog gl 28 sslices_Chunk_byte_byte_1 := by
  refine pkq (L := fun x => Lslices_Chunk_byte_byte_1 x.1 x.2) (l := Qslices_Concat_byte_byte) aQslices_Concat_byte_byte (by kernel_rfl) ?_
  intro x hv hp
  exact Eq.mpr (wslices_Chunk_byte_byte_1 x) (okslices_Chunk_byte_byte_1 x.1 x.2 (hp (1 ≤ x.2) (by simp [sslices_Chunk_byte_byte_1, prslices_Chunk_byte_byte_1])) (hp (x.2 ≤ 4294967296) (by simp [sslices_Chunk_byte_byte_1, prslices_Chunk_byte_byte_1])) (hp (x.1.length ≤ 4611686018427387904) (by simp [sslices_Chunk_byte_byte_1, prslices_Chunk_byte_byte_1])))
theorem aQslices_Chunk_byte_byte_1 : AllOk Qslices_Chunk_byte_byte_1 := .cons pslices_Chunk_byte_byte_1 aQslices_Concat_byte_byte
theorem wsha_Pad (x : DenL [tBytes]) : Owes Tryd.prog (cfgOf Qslices_Chunk_byte_byte_1) (Lsha_Pad x) 9 (argVs [tBytes] x) [] (dsha_Pad x) = vcsha_Pad x := by kernel_rfl
theorem qsha_Pad : Pok 9 [tBytes] (fun x => dsha_Pad x) := by
  refine pk (L := fun x => Lsha_Pad x) (l := Qslices_Chunk_byte_byte_1) aQslices_Chunk_byte_byte_1 (fun _ => rfl) ?_
  intro x hv hp
  rw [wsha_Pad]
  exact oksha_Pad x (hp (List.length x ≤ 1000000000000) (by simp [dsha_Pad]))
theorem psha_Pad : SumOk Tryd.prog gl 9 ssha_Pad := qsha_Pad
theorem aQsha_Pad : AllOk Qsha_Pad := .cons psha_Pad aQslices_Chunk_byte_byte_1
theorem wsha_schedule (x : DenL [tBytes]) : Owes Tryd.prog (cfgOf Qsha_Pad) (Lsha_schedule x) 29 (argVs [tBytes] x) [] (dsha_schedule x) = vcsha_schedule x := by kernel_rfl
theorem qsha_schedule : Pok 29 [tBytes] (fun x => dsha_schedule x) := by
  refine pk (L := fun x => Lsha_schedule x) (l := Qsha_Pad) aQsha_Pad (fun _ => rfl) ?_
  intro x hv hp
  rw [wsha_schedule]
  exact oksha_schedule x hv.2 (hp (64 ≤ List.length x) (by simp [dsha_schedule]))
theorem psha_schedule : SumOk Tryd.prog gl 29 ssha_schedule := qsha_schedule
theorem aQsha_schedule : AllOk Qsha_schedule := .cons psha_schedule aQsha_Pad
theorem wsha_step (x : DenL [tW8, tBytes]) : Owes Tryd.prog (cfgOf Qsha_schedule) (Lsha_step x.1 x.2) 22 (argVs [tW8, tBytes] x) [] (dsha_step x.1 x.2) = vcsha_step x.1 x.2 := by kernel_rfl
theorem qsha_step : Pok 22 [tW8, tBytes] (fun x => dsha_step x.1 x.2) := by
  refine pk (L := fun x => Lsha_step x.1 x.2) (l := Qsha_schedule) aQsha_schedule (fun _ => rfl) ?_
  intro x hv hp
  rw [wsha_step]
  exact oksha_step x.1 x.2 hv.1.2 (hp (64 ≤ List.length x.2) (by simp [dsha_step]))
theorem psha_step : SumOk Tryd.prog gl 22 ssha_step := qsha_step
theorem aQsha_step : AllOk Qsha_step := .cons psha_step aQsha_schedule
theorem wsha_Step (x : DenL [tW8, tK64]) : Owes Tryd.prog (cfgOf Qsha_step) (Lsha_Step x.1 x.2) 13 (argVs [tW8, tK64] x) [] (dsha_Step x.1 x.2) = vcsha_Step x.1 x.2 := by kernel_rfl
theorem qsha_Step : Pok 13 [tW8, tK64] (fun x => dsha_Step x.1 x.2) := by
  refine pk (L := fun x => Lsha_Step x.1 x.2) (l := Qsha_step) aQsha_step (fun _ => rfl) ?_
  intro x hv hp
  rw [wsha_Step]
  exact oksha_Step x.1 x.2 hv.2.2
theorem psha_Step : SumOk Tryd.prog gl 13 ssha_Step := qsha_Step
theorem aQsha_Step : AllOk Qsha_Step := .cons psha_Step aQsha_step
theorem wsha_Sum (x : DenL [tBytes]) : Owes Tryd.prog (cfgOf Qsha_Step) (Lsha_Sum x) 11 (argVs [tBytes] x) [] (dsha_Sum x) = vcsha_Sum x := by kernel_rfl
theorem qsha_Sum : Pok 11 [tBytes] (fun x => dsha_Sum x) := by
  refine pk (L := fun x => Lsha_Sum x) (l := Qsha_Step) aQsha_Step (fun _ => rfl) ?_
  intro x hv hp
  rw [wsha_Sum]
  exact oksha_Sum x (hp (List.length x ≤ 1000000000000) (by simp [dsha_Sum]))
theorem psha_Sum : SumOk Tryd.prog gl 11 ssha_Sum := qsha_Sum
theorem aQsha_Sum : AllOk Qsha_Sum := .cons psha_Sum aQsha_Step
theorem wsha_Join (x : DenL [tPieces]) : Owes Tryd.prog (cfgOf Qsha_Sum) (Lsha_Join x) 10 (argVs [tPieces] x) [] (dsha_Join x) = vcsha_Join x := by kernel_rfl
theorem qsha_Join : Pok 10 [tPieces] (fun x => dsha_Join x) := by
  refine pk (L := fun x => Lsha_Join x) (l := Qsha_Sum) aQsha_Sum (fun _ => rfl) ?_
  intro x hv hp
  rw [wsha_Join]
  exact oksha_Join x (hp (x.flatten.length ≤ 1000000000000) (by simp [dsha_Join]))
theorem psha_Join : SumOk Tryd.prog gl 10 ssha_Join := qsha_Join
theorem aQsha_Join : AllOk Qsha_Join := .cons psha_Join aQsha_Sum
theorem wsha_Text (x : DenL [tS32]) : Owes Tryd.prog (cfgOf Qsha_Join) (Lsha_Text x) 15 (argVs [tS32] x) [] (dsha_Text x) = vcsha_Text x := by kernel_rfl
theorem qsha_Text : Pok 15 [tS32] (fun x => dsha_Text x) := by
  refine pk (L := fun x => Lsha_Text x) (l := Qsha_Join) aQsha_Join (fun _ => rfl) ?_
  intro x hv hp
  rw [wsha_Text]
  exact oksha_Text x hv.1 hv.2
theorem psha_Text : SumOk Tryd.prog gl 15 ssha_Text := qsha_Text
theorem aQsha_Text : AllOk Qsha_Text := .cons psha_Text aQsha_Join
end Go.Proofs.YtoecpaccpcnkcaaDoor
