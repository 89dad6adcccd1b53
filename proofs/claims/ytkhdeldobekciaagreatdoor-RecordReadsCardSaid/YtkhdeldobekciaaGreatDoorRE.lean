/- What functions of this seat compute, in plain Lean. -/
import Derived.Test.YtkhdeldobekciaaGreatDoorRD
set_option linter.unusedVariables false
set_option linter.unusedSimpArgs false
set_option maxRecDepth 100000
namespace Go.Proofs.YtkhdeldobekciaaGreatDoor
open Go.Vc
abbrev gJ : Ty := .pair (.int .i64) (.int .i64)
abbrev fM : Ty := .slice gJ
abbrev dA : Ty := .pair (.int .i64) (.pair (.int .i64) (.pair .str (.pair .str (.pair jD (.pair fM (.pair (.int .i64) (.pair (.int .i64) (.pair (.int .i64) (.pair (.int .i64) aI)))))))))
abbrev Range := Int × Int
abbrev Event := Int × Int × List Int × List Int × List Int × List Range × Int × Int × Int × Int × List Int
namespace U
def bK (e : Event) : Int := e.1
def eAt (e : Event) : Int := e.2.1
def dG (e : Event) : List Int := e.2.2.1
def eTo (e : Event) : List Int := e.2.2.2.1
def aU (e : Event) : List Int := e.2.2.2.2.1
def aO (e : Event) : List Range := e.2.2.2.2.2.1
def fV (e : Event) : Int := e.2.2.2.2.2.2.1
def fB (e : Event) : Int := e.2.2.2.2.2.2.2.1
def iq (e : Event) : Int := e.2.2.2.2.2.2.2.2.1
def eN (e : Event) : Int := e.2.2.2.2.2.2.2.2.2.1
def dh (e : Event) : List Int := e.2.2.2.2.2.2.2.2.2.2
def EN : List (List Int) := [[], [98], [98], [98, 116], [98], [98], [98, 102, 100, 121], [98, 105, 109, 102], [98, 116, 105], [98, 105], [110], [98, 110], [98, 115], [110], [105]]
def order : List Int := [98, 116, 105, 115, 109, 102, 100, 110, 121]
def parts (k : Int) : List Int := cond (decide (k < 0) || decide (k >= 15)) [] (EN.getD k.toNat [])
def within (n m : Int) : Bool := decide (n >= 0) && decide (n <= m)
def rise : Int -> List Int -> Bool
 | _, [] => true
 | p, x :: r => (decide (p < x) && decide (x <= 4294967295)) && rise x r
def vW (l : List Int) : Bool := rise 0 l && (decide (l.length >= 1) && decide (l.length <= 60))
def badR (r : Range) : Bool := !(within r.1 4294967295) || !(within r.2 4294967295)
def jQ (l : List Range) : Bool := decide (l.length <= 60) && !(l.any badR)
def uM (f : Int) : Bool := decide (0 <= f) && decide (f <= 31)
def good (c : Int) (e : Event) : Bool :=
 cond (decide (c = 98)) (mG (dG e)) (cond (decide (c = 116)) (mG (eTo e)) (cond (decide (c = 105)) (vW (aU e)) (cond (decide (c = 115)) (jQ (aO e)) (cond (decide (c = 109)) (within (fV e) 2) (cond (decide (c = 102)) (uM (fB e)) (cond (decide (c = 100)) (within (iq e) 1099511627776) (cond (decide (c = 110)) (within (eN e) 1099511627776) (decide ((dh e).length <= 2000)))))))))
def none_ (c : Int) (e : Event) : Bool :=
 cond (decide (c = 98)) (decide (dG e = [])) (cond (decide (c = 116)) (decide (eTo e = [])) (cond (decide (c = 105)) (decide (aU e = [])) (cond (decide (c = 115)) (decide (aO e = [])) (cond (decide (c = 109)) (decide (fV e = 0)) (cond (decide (c = 102)) (decide (fB e = 0)) (cond (decide (c = 100)) (decide (iq e = 0)) (cond (decide (c = 110)) (decide (eN e = 0)) (decide (dh e = [])))))))))
def okC (p : List Int) (e : Event) (c : Int) : Bool := cond (decide (aH p c < 0)) (none_ c e) (good c e)
def bV (e : Event) : Bool := !(decide (parts (bK e) = [])) && (within (eAt e) 1099511627776 && order.all (okC (parts (bK e)) e))
def pairs (l : List Range) : List Int := l.flatMap fun r => num1 r.1 ++ num1 r.2
def nZ (c : Int) (e : Event) : List Int :=
 cond (decide (c = 98)) (text1 (dG e)) (cond (decide (c = 116)) (text1 (eTo e)) (cond (decide (c = 105)) (num1 (aU e).length ++ nums (aU e)) (cond (decide (c = 115)) (num1 (aO e).length ++ pairs (aO e)) (cond (decide (c = 109)) (num1 (fV e)) (cond (decide (c = 102)) (num1 (fB e)) (cond (decide (c = 100)) (num1 (iq e)) (cond (decide (c = 110)) (num1 (eN e)) (text1 (dh e)))))))))
def Aw (e : Event) : List Int := num1 (bK e) ++ (num1 (eAt e) ++ (parts (bK e)).flatMap fun c => nZ c e)
def yK (e : Event) : List Int × Int := cond (bV e) (Aw e, 0) ([], 1)
def zeroE : Event := (0, 0, [], [], [], [], 0, 0, 0, 0, [])
def dO : Nat -> RS -> List Int × RS
 | 0, r => ([], r)
 | n + 1, r => let x := ah r; let y := dO n x.2; (x.1 :: y.1, y.2)
def bQ : Nat -> RS -> List Range × RS
 | 0, r => ([], r)
 | n + 1, r => let x := ah r; let z := ah x.2; let y := bQ n z.2; ((x.1, z.1) :: y.1, y.2)
def dS (c : Int) (x : RS × Event) : RS × Event :=
 let e := x.2
 cond (decide (c = 98)) ((ay x.1).2, bK e, eAt e, (ay x.1).1, eTo e, aU e, aO e, fV e, fB e, iq e, eN e, dh e)
 (cond (decide (c = 116)) ((ay x.1).2, bK e, eAt e, dG e, (ay x.1).1, aU e, aO e, fV e, fB e, iq e, eN e, dh e)
 (cond (decide (c = 105)) ((dO (aA 60 x.1).1.toNat (aA 60 x.1).2).2, bK e, eAt e, dG e, eTo e, aU e ++ (dO (aA 60 x.1).1.toNat (aA 60 x.1).2).1, aO e, fV e, fB e, iq e, eN e, dh e)
 (cond (decide (c = 115)) ((bQ (aA 60 x.1).1.toNat (aA 60 x.1).2).2, bK e, eAt e, dG e, eTo e, aU e, aO e ++ (bQ (aA 60 x.1).1.toNat (aA 60 x.1).2).1, fV e, fB e, iq e, eN e, dh e)
 (cond (decide (c = 109)) ((ah x.1).2, bK e, eAt e, dG e, eTo e, aU e, aO e, (ah x.1).1, fB e, iq e, eN e, dh e)
 (cond (decide (c = 102)) ((ah x.1).2, bK e, eAt e, dG e, eTo e, aU e, aO e, fV e, (ah x.1).1, iq e, eN e, dh e)
 (cond (decide (c = 100)) ((ah x.1).2, bK e, eAt e, dG e, eTo e, aU e, aO e, fV e, fB e, (ah x.1).1, eN e, dh e)
 (cond (decide (c = 110)) ((ah x.1).2, bK e, eAt e, dG e, eTo e, aU e, aO e, fV e, fB e, iq e, (ah x.1).1, dh e)
 (cond (decide (c = 121)) ((ay x.1).2, bK e, eAt e, dG e, eTo e, aU e, aO e, fV e, fB e, iq e, eN e, (ay x.1).1) x))))))))
def lS (b : List Int) : RS × Event := let k := ah (b, 0); let a := ah k.2; (cZ (decide (parts k.1 = [])) a.2, k.1, a.1, [], [], [], [], 0, 0, 0, 0, [])
def og (b : List Int) : RS × Event := (parts (ah (b, 0)).1).foldl (fun x c => dS c x) (lS b)
def Sl (b : List Int) : Int := let f := fU (og b).1; cond (decide (f = 0) && !(bV (og b).2)) 3 f
def aN (b : List Int) : Event × Int := cond (decide (Sl b = 0)) ((og b).2, 0) (zeroE, Sl b)
def aeh (p : List Int) (e : Event) (c : Int) : List Int := cond (decide (aH p c >= 0)) (nZ c e) []
def ah8 (n : Nat) (e : Event) : List Int := num1 (bK e) ++ (num1 (eAt e) ++ (order.take n).flatMap (aeh (parts (bK e)) e))
def Dv (p : List Int) (x : RS × Event) (c : Int) : RS × Event := cond (decide (aH p c >= 0)) (dS c x) x
def bP (n : Nat) (b : List Int) : RS × Event := (order.take n).foldl (Dv (parts (ah (b, 0)).1)) (lS b)
def aS (b : List Int) : RS × Event := cond (decide ((lS b).1.2 = 0)) (bP 9 b) ((lS b).1, zeroE)
def ni (l : List Int) (i : Int) : Int := cond (decide (i = 0)) 0 (l.getD (i - 1).toNat 0)
def IZ (a b : Event) : Bool := decide (bK a = bK b) && (decide (eAt a = eAt b) && (decide (dG a = dG b) && (decide (eTo a = eTo b) && (decide (aU a = aU b) && (decide (aO a = aO b) && (decide (fV a = fV b) && (decide (fB a = fB b) && (decide (iq a = iq b) && (decide (eN a = eN b) && decide (dh a = dh b))))))))))
end U
abbrev rBE (x : List Int × Int) : SV := .tup [one (.psl true (.int .u8) x.1), one (.int .i64 x.2)]
namespace U
def oZ (a b : List Int) (i : Int) : St2 := ⟨⟨[sL false (.int .i64) a] ++ [sL false (.int .i64) b] ++ U.n 3 ++ [sI i] ++ U.n 20, [], []⟩, 0, []⟩
def qV (a b : List Int)  (i : Int) : Prop := at_ a i /\ a.length = b.length /\ a.take i.toNat = b.take i.toNat
def o7 (a b : List Range) (i : Int) : St2 := ⟨⟨[sL false gJ a] ++ [sL false gJ b] ++ U.n 3 ++ [sI i] ++ U.n 20, [], []⟩, 0, []⟩
def qW (a b : List Range)  (i : Int) : Prop := at_ a i /\ a.length = b.length /\ a.take i.toNat = b.take i.toNat
def qX (l : List Int) (i : Int) : St2 := ⟨⟨[sL false (.int .i64) l] ++ U.n 4 ++ [sL false (.int .i64) l] ++ [sI l.length] ++ [sI i] ++ U.n 32, [], []⟩, 0, []⟩
def uN (l : List Int)  (i : Int) : Prop := at_ l i /\ 0 <= ni l i /\ rise 0 l = rise (ni l i) (l.drop i.toNat)
def uO (l : List Range) (i : Int) : St2 := ⟨⟨[sL false gJ l] ++ [sF 94 []] ++ U.n 5 ++ [sI l.length] ++ [sI i] ++ U.n 10, [], []⟩, 0, []⟩
def xw (l : List Range)  (i : Int) : Prop := at_ l i /\ (l.drop i.toNat).any badR = l.any badR
def jd (e : Event) (i : Int) : St2 := ⟨⟨U.n 1 ++ [sP 0 0] ++ U.n 1 ++ [sS (parts e.1)] ++ U.n 16 ++ [own 1] ++ [sI 9] ++ [sI i] ++ U.n 17, [], [(0, .obj [.int .i64 e.1, .int .i64 e.2.1, .str e.2.2.1, .str e.2.2.2.1, .psl false (.int .i64) e.2.2.2.2.1, .psl false gJ e.2.2.2.2.2.1, .int .i64 e.2.2.2.2.2.2.1, .int .i64 e.2.2.2.2.2.2.2.1, .int .i64 e.2.2.2.2.2.2.2.2.1, .int .i64 e.2.2.2.2.2.2.2.2.2.1, .psl false (.int .u8) e.2.2.2.2.2.2.2.2.2.2]), (1, .row 5 (.int .u8) true false order)]⟩, 2, []⟩
def kR (e : Event)  (i : Int) : Prop := 0 <= i /\ i <= 9 /\ parts e.1 ≠ [] /\ within (eAt e) 1099511627776 = true /\ (order.drop i.toNat).all (okC (parts e.1) e) = order.all (okC (parts e.1) e)
def o8 (b : List Int) (e : Event) (o : List Int) (i : Int) : St2 := ⟨⟨[sL true (.int .u8) o] ++ U.n 43 ++ [sL false gJ (aO e)] ++ [sI (aO e).length] ++ [sI i] ++ U.n 46, [], []⟩, 0, []⟩
def qY (b : List Int) (e : Event)  (o : List Int) (i : Int) : Prop := at_ (aO e) i /\ o = b ++ (num1 (aO e).length ++ pairs ((aO e).take i.toNat))
def lq (e : Event) (o : List Int) (i : Int) : St2 := ⟨⟨U.n 1 ++ [sP 0 0] ++ U.n 2 ++ [sL true (.int .u8) o] ++ U.n 14 ++ [own 1] ++ [sI (parts e.1).length] ++ [sI i] ++ U.n 9, [], [(0, .obj [.int .i64 e.1, .int .i64 e.2.1, .str e.2.2.1, .str e.2.2.2.1, .psl false (.int .i64) e.2.2.2.2.1, .psl false gJ e.2.2.2.2.2.1, .int .i64 e.2.2.2.2.2.2.1, .int .i64 e.2.2.2.2.2.2.2.1, .int .i64 e.2.2.2.2.2.2.2.2.1, .int .i64 e.2.2.2.2.2.2.2.2.2.1, .psl false (.int .u8) e.2.2.2.2.2.2.2.2.2.2]), (1, .row 5 (.int .u8) true false (parts e.1))]⟩, 2, []⟩
def ny (e : Event)  (o : List Int) (i : Int) : Prop := at_ (parts e.1) i /\ bV e = true /\ o = num1 (bK e) ++ (num1 (eAt e) ++ ((parts e.1).take i.toNat).flatMap fun c => nZ c e)
def vX  (l : List Int) (r : Int) (e : Event) (p : List Int) (n : Int) (i : Int) : St2 := ⟨⟨[sP 1 0] ++ [sP 2 0] ++ U.n 24 ++ [sI n] ++ [sI i] ++ U.n 72, [], [(0, .obj [.int .i64 0, .int .i64 0, .str [], .str [], .aF, .aF, .int .i64 0, .int .i64 0, .int .i64 0, .int .i64 0, .aF]), (1, .obj [.psl false tU8 l, .int .i64 r]), (2, .obj [.int .i64 e.1, .int .i64 e.2.1, .str e.2.2.1, .str e.2.2.2.1, .own 6, .own 5, .int .i64 e.2.2.2.2.2.2.1, .int .i64 e.2.2.2.2.2.2.2.1, .int .i64 e.2.2.2.2.2.2.2.2.1, .int .i64 e.2.2.2.2.2.2.2.2.2.1, .psl false (.int .u8) e.2.2.2.2.2.2.2.2.2.2]), (3, .row 5 (.int .u8) true false p), (4, .dead), (5, .row 71 gJ true true (aO e)), (6, .row 3 (.int .i64) true true (aU e))]⟩, 7, []⟩
def xR  (l' : List Int) (r' : Int) (e' : Event) (p' : List Int) (n' : Int) (i' : Int) (l : List Int) (r : Int) (e : Event) (p : List Int) (n : Int) (i : Int) : Prop :=  n = n' /\ p = p' /\ 0 <= i /\ i <= n /\ n <= 60 /\ i' = 0 /\ (aU e).length = (aU e').length + i.toNat /\ e = (bK e', eAt e', dG e', eTo e', aU e, aO e', fV e', fB e', iq e', eN e', dh e') /\ aU e' ++ (dO n.toNat (l', r')).1 = aU e ++ (dO (n - i).toNat (l, r)).1 /\ (dO n.toNat (l', r')).2 = (dO (n - i).toNat (l, r)).2
def tq  (l : List Int) (r : Int) (e : Event) (p : List Int) (n : Int) (i : Int) : St2 := ⟨⟨[sP 1 0] ++ [sP 2 0] ++ U.n 42 ++ [sI n] ++ [sI i] ++ U.n 54, [], [(0, .obj [.int .i64 0, .int .i64 0, .str [], .str [], .aF, .aF, .int .i64 0, .int .i64 0, .int .i64 0, .int .i64 0, .aF]), (1, .obj [.psl false tU8 l, .int .i64 r]), (2, .obj [.int .i64 e.1, .int .i64 e.2.1, .str e.2.2.1, .str e.2.2.2.1, .own 4, .own 6, .int .i64 e.2.2.2.2.2.2.1, .int .i64 e.2.2.2.2.2.2.2.1, .int .i64 e.2.2.2.2.2.2.2.2.1, .int .i64 e.2.2.2.2.2.2.2.2.2.1, .psl false (.int .u8) e.2.2.2.2.2.2.2.2.2.2]), (3, .row 5 (.int .u8) true false p), (4, .row 3 (.int .i64) true true (aU e)), (5, .dead), (6, .row 71 gJ true true (aO e))]⟩, 7, []⟩
def vY  (l' : List Int) (r' : Int) (e' : Event) (p' : List Int) (n' : Int) (i' : Int) (l : List Int) (r : Int) (e : Event) (p : List Int) (n : Int) (i : Int) : Prop :=  n = n' /\ p = p' /\ 0 <= i /\ i <= n /\ n <= 60 /\ i' = 0 /\ (aO e).length = (aO e').length + i.toNat /\ e = (bK e', eAt e', dG e', eTo e', aU e', aO e, fV e', fB e', iq e', eN e', dh e') /\ aO e' ++ (bQ n.toNat (l', r')).1 = aO e ++ (bQ (n - i).toNat (l, r)).1 /\ (bQ n.toNat (l', r')).2 = (bQ (n - i).toNat (l, r)).2
def aX (b : List Int) (l : List Int) (r : Int) (e : Event) (i : Int) : St2 := ⟨⟨U.n 2 ++ [sP 0 0] ++ U.n 1 ++ [sP 1 0] ++ [sP 2 0] ++ U.n 19 ++ [own 3] ++ [sI (parts (ah (b, 0)).1).length] ++ [sI i] ++ U.n 21, [], [(0, .obj [.int .i64 0, .int .i64 0, .str [], .str [], .aF, .aF, .int .i64 0, .int .i64 0, .int .i64 0, .int .i64 0, .aF]), (1, .obj [.psl false tU8 l, .int .i64 r]), (2, .obj [.int .i64 e.1, .int .i64 e.2.1, .str e.2.2.1, .str e.2.2.2.1, .own 4, .own 5, .int .i64 e.2.2.2.2.2.2.1, .int .i64 e.2.2.2.2.2.2.2.1, .int .i64 e.2.2.2.2.2.2.2.2.1, .int .i64 e.2.2.2.2.2.2.2.2.2.1, .psl false (.int .u8) e.2.2.2.2.2.2.2.2.2.2]), (3, .row 5 (.int .u8) true false (parts (ah (b, 0)).1)), (4, .row 3 (.int .i64) true true (aU e)), (5, .row 71 gJ true true (aO e))]⟩, 6, []⟩
def dL (b : List Int)  (l : List Int) (r : Int) (e : Event) (i : Int) : Prop := at_ (parts (ah (b, 0)).1) i /\ ((l, r), e) = ((parts (ah (b, 0)).1).take i.toNat).foldl (fun x c => dS c x) (lS b)
def lu (l : List Int) (i : Int) : St2 := ⟨⟨[sL false (.int .i64) l] ++ U.n 2 ++ [sI i] ++ U.n 34, [], []⟩, 0, []⟩
def nC (l : List Int)  (i : Int) : Prop := at_ l i /\ 0 <= ni l i /\ rise 0 l = rise (ni l i) (l.drop i.toNat)
def nD (l : List Range) (i : Int) : St2 := ⟨⟨[sL false gJ l] ++ U.n 2 ++ [sI i] ++ U.n 48, [], []⟩, 0, []⟩
def o9 (l : List Range)  (i : Int) : Prop := at_ l i /\ i <= 61 /\ (l.drop i.toNat).any badR = l.any badR
def qZ (s : List Int) (c : Int) (i : Int) : St2 := ⟨⟨[sS s] ++ [sK .u8 c] ++ U.n 3 ++ [sI i] ++ U.n 11, [], []⟩, 0, []⟩
def uP (s : List Int) (c : Int)  (i : Int) : Prop := at_ s i /\ decide (aH s c >= 0) = decide (aH (s.drop i.toNat) c >= 0)
def nG (e : Event) (gl : List Bool) (nl : List Bool) (i : Int) : St2 := ⟨⟨U.n 3 ++ [sS (parts e.1)] ++ U.n 1 ++ [sP 0 0] ++ [sP 1 0] ++ [sI i] ++ U.n 116, [], [(0, .obj [.arr 9 true .bool gl]), (1, .obj [.arr 9 true .bool nl])]⟩, 2, []⟩
def vZ (e : Event)  (gl : List Bool) (nl : List Bool) (i : Int) : Prop := 0 <= i /\ i <= 9 /\ gl = order.map (fun c => good c e) /\ nl = order.map (fun c => none_ c e) /\ parts e.1 ≠ [] /\ within (eAt e) 1099511627776 = true /\ (order.drop i.toNat).all (okC (parts e.1) e) = order.all (okC (parts e.1) e)
def Xa (b : List Int) (l : List Int) (r : Int) (e : Event) : St2 := ⟨⟨[sP 0 0] ++ U.n 1 ++ [sP 1 0] ++ [sP 2 0] ++ [sS (parts (ah (b, 0)).1)] ++ U.n 93, [], [(0, .obj [.psl false tU8 l, .int .i64 r]), (1, .obj [.int .i64 0, .int .i64 0, .str [], .str [], .aF, .aF, .int .i64 0, .int .i64 0, .int .i64 0, .int .i64 0, .aF]), (2, .obj [.int .i64 e.1, .int .i64 e.2.1, .str e.2.2.1, .str e.2.2.2.1, .aF, .aF, .int .i64 e.2.2.2.2.2.2.1, .int .i64 e.2.2.2.2.2.2.2.1, .int .i64 e.2.2.2.2.2.2.2.2.1, .int .i64 e.2.2.2.2.2.2.2.2.2.1, .aF])]⟩, 3, []⟩
def Ux (b : List Int)  (l : List Int) (r : Int) (e : Event) : Prop := ((l, r), e) = bP 1 b
def Ob (b : List Int) (l : List Int) (r : Int) (e : Event) : St2 := ⟨⟨[sP 0 0] ++ U.n 1 ++ [sP 1 0] ++ [sP 2 0] ++ [sS (parts (ah (b, 0)).1)] ++ U.n 93, [], [(0, .obj [.psl false tU8 l, .int .i64 r]), (1, .obj [.int .i64 0, .int .i64 0, .str [], .str [], .aF, .aF, .int .i64 0, .int .i64 0, .int .i64 0, .int .i64 0, .aF]), (2, .obj [.int .i64 e.1, .int .i64 e.2.1, .str e.2.2.1, .str e.2.2.2.1, .aF, .aF, .int .i64 e.2.2.2.2.2.2.1, .int .i64 e.2.2.2.2.2.2.2.1, .int .i64 e.2.2.2.2.2.2.2.2.1, .int .i64 e.2.2.2.2.2.2.2.2.2.1, .aF])]⟩, 3, []⟩
def Uy (b : List Int)  (l : List Int) (r : Int) (e : Event) : Prop := ((l, r), e) = bP 2 b
def I5 (b : List Int) (l : List Int) (r : Int) (e : Event) : St2 := ⟨⟨[sP 0 0] ++ U.n 1 ++ [sP 1 0] ++ [sP 2 0] ++ [sS (parts (ah (b, 0)).1)] ++ U.n 93, [], [(0, .obj [.psl false tU8 l, .int .i64 r]), (1, .obj [.int .i64 0, .int .i64 0, .str [], .str [], .aF, .aF, .int .i64 0, .int .i64 0, .int .i64 0, .int .i64 0, .aF]), (2, .obj [.int .i64 e.1, .int .i64 e.2.1, .str e.2.2.1, .str e.2.2.2.1, .psl false (.int .i64) e.2.2.2.2.1, .aF, .int .i64 e.2.2.2.2.2.2.1, .int .i64 e.2.2.2.2.2.2.2.1, .int .i64 e.2.2.2.2.2.2.2.2.1, .int .i64 e.2.2.2.2.2.2.2.2.2.1, .aF])]⟩, 3, []⟩
def Uz (b : List Int)  (l : List Int) (r : Int) (e : Event) : Prop := ((l, r), e) = bP 3 b
def I7 (b : List Int) (l : List Int) (r : Int) (e : Event) : St2 := ⟨⟨[sP 0 0] ++ U.n 1 ++ [sP 1 0] ++ [sP 2 0] ++ [sS (parts (ah (b, 0)).1)] ++ U.n 93, [], [(0, .obj [.psl false tU8 l, .int .i64 r]), (1, .obj [.int .i64 0, .int .i64 0, .str [], .str [], .aF, .aF, .int .i64 0, .int .i64 0, .int .i64 0, .int .i64 0, .aF]), (2, .obj [.int .i64 e.1, .int .i64 e.2.1, .str e.2.2.1, .str e.2.2.2.1, .psl false (.int .i64) e.2.2.2.2.1, .psl false gJ e.2.2.2.2.2.1, .int .i64 e.2.2.2.2.2.2.1, .int .i64 e.2.2.2.2.2.2.2.1, .int .i64 e.2.2.2.2.2.2.2.2.1, .int .i64 e.2.2.2.2.2.2.2.2.2.1, .aF])]⟩, 3, []⟩
def UA (b : List Int)  (l : List Int) (r : Int) (e : Event) : Prop := ((l, r), e) = bP 4 b
def Oc (b : List Int) (l : List Int) (r : Int) (e : Event) : St2 := ⟨⟨[sP 0 0] ++ U.n 1 ++ [sP 1 0] ++ [sP 2 0] ++ [sS (parts (ah (b, 0)).1)] ++ U.n 93, [], [(0, .obj [.psl false tU8 l, .int .i64 r]), (1, .obj [.int .i64 0, .int .i64 0, .str [], .str [], .aF, .aF, .int .i64 0, .int .i64 0, .int .i64 0, .int .i64 0, .aF]), (2, .obj [.int .i64 e.1, .int .i64 e.2.1, .str e.2.2.1, .str e.2.2.2.1, .psl false (.int .i64) e.2.2.2.2.1, .psl false gJ e.2.2.2.2.2.1, .int .i64 e.2.2.2.2.2.2.1, .int .i64 e.2.2.2.2.2.2.2.1, .int .i64 e.2.2.2.2.2.2.2.2.1, .int .i64 e.2.2.2.2.2.2.2.2.2.1, .aF])]⟩, 3, []⟩
def UC (b : List Int)  (l : List Int) (r : Int) (e : Event) : Prop := ((l, r), e) = bP 5 b
def Oe (b : List Int) (l : List Int) (r : Int) (e : Event) : St2 := ⟨⟨[sP 0 0] ++ U.n 1 ++ [sP 1 0] ++ [sP 2 0] ++ [sS (parts (ah (b, 0)).1)] ++ U.n 93, [], [(0, .obj [.psl false tU8 l, .int .i64 r]), (1, .obj [.int .i64 0, .int .i64 0, .str [], .str [], .aF, .aF, .int .i64 0, .int .i64 0, .int .i64 0, .int .i64 0, .aF]), (2, .obj [.int .i64 e.1, .int .i64 e.2.1, .str e.2.2.1, .str e.2.2.2.1, .psl false (.int .i64) e.2.2.2.2.1, .psl false gJ e.2.2.2.2.2.1, .int .i64 e.2.2.2.2.2.2.1, .int .i64 e.2.2.2.2.2.2.2.1, .int .i64 e.2.2.2.2.2.2.2.2.1, .int .i64 e.2.2.2.2.2.2.2.2.2.1, .aF])]⟩, 3, []⟩
def UD (b : List Int)  (l : List Int) (r : Int) (e : Event) : Prop := ((l, r), e) = bP 6 b
def Og (b : List Int) (l : List Int) (r : Int) (e : Event) : St2 := ⟨⟨[sP 0 0] ++ U.n 1 ++ [sP 1 0] ++ [sP 2 0] ++ [sS (parts (ah (b, 0)).1)] ++ U.n 93, [], [(0, .obj [.psl false tU8 l, .int .i64 r]), (1, .obj [.int .i64 0, .int .i64 0, .str [], .str [], .aF, .aF, .int .i64 0, .int .i64 0, .int .i64 0, .int .i64 0, .aF]), (2, .obj [.int .i64 e.1, .int .i64 e.2.1, .str e.2.2.1, .str e.2.2.2.1, .psl false (.int .i64) e.2.2.2.2.1, .psl false gJ e.2.2.2.2.2.1, .int .i64 e.2.2.2.2.2.2.1, .int .i64 e.2.2.2.2.2.2.2.1, .int .i64 e.2.2.2.2.2.2.2.2.1, .int .i64 e.2.2.2.2.2.2.2.2.2.1, .aF])]⟩, 3, []⟩
def UE (b : List Int)  (l : List Int) (r : Int) (e : Event) : Prop := ((l, r), e) = bP 7 b
def Oh (b : List Int) (l : List Int) (r : Int) (e : Event) : St2 := ⟨⟨[sP 0 0] ++ U.n 1 ++ [sP 1 0] ++ [sP 2 0] ++ [sS (parts (ah (b, 0)).1)] ++ U.n 93, [], [(0, .obj [.psl false tU8 l, .int .i64 r]), (1, .obj [.int .i64 0, .int .i64 0, .str [], .str [], .aF, .aF, .int .i64 0, .int .i64 0, .int .i64 0, .int .i64 0, .aF]), (2, .obj [.int .i64 e.1, .int .i64 e.2.1, .str e.2.2.1, .str e.2.2.2.1, .psl false (.int .i64) e.2.2.2.2.1, .psl false gJ e.2.2.2.2.2.1, .int .i64 e.2.2.2.2.2.2.1, .int .i64 e.2.2.2.2.2.2.2.1, .int .i64 e.2.2.2.2.2.2.2.2.1, .int .i64 e.2.2.2.2.2.2.2.2.2.1, .aF])]⟩, 3, []⟩
def UF (b : List Int)  (l : List Int) (r : Int) (e : Event) : Prop := ((l, r), e) = bP 8 b
def Oi (b : List Int) (l : List Int) (r : Int) (e : Event) : St2 := ⟨⟨U.n 2 ++ [sP 1 0] ++ [sP 2 0] ++ U.n 94, [], [(0, .obj [.psl false tU8 l, .int .i64 r]), (1, .obj [.int .i64 0, .int .i64 0, .str [], .str [], .aF, .aF, .int .i64 0, .int .i64 0, .int .i64 0, .int .i64 0, .aF]), (2, .obj [.int .i64 e.1, .int .i64 e.2.1, .str e.2.2.1, .str e.2.2.2.1, .psl false (.int .i64) e.2.2.2.2.1, .psl false gJ e.2.2.2.2.2.1, .int .i64 e.2.2.2.2.2.2.1, .int .i64 e.2.2.2.2.2.2.2.1, .int .i64 e.2.2.2.2.2.2.2.2.1, .int .i64 e.2.2.2.2.2.2.2.2.2.1, .psl false (.int .u8) e.2.2.2.2.2.2.2.2.2.2])]⟩, 3, []⟩
def UG (b : List Int)  (l : List Int) (r : Int) (e : Event) : Prop := ((l, r), e) = bP 9 b
def tu (b : List Int) (l : List Int) (r : Int) (e : Event) (i : Int) : St2 := ⟨⟨[sP 0 0] ++ U.n 1 ++ [sP 1 0] ++ [sP 2 0] ++ [sS (parts (ah (b, 0)).1)] ++ [sI i] ++ U.n 92, [], [(0, .obj [.psl false tU8 l, .int .i64 r]), (1, .obj [.int .i64 0, .int .i64 0, .str [], .str [], .aF, .aF, .int .i64 0, .int .i64 0, .int .i64 0, .int .i64 0, .aF]), (2, .obj [.int .i64 e.1, .int .i64 e.2.1, .str e.2.2.1, .str e.2.2.2.1, .own 3, .aF, .int .i64 e.2.2.2.2.2.2.1, .int .i64 e.2.2.2.2.2.2.2.1, .int .i64 e.2.2.2.2.2.2.2.2.1, .int .i64 e.2.2.2.2.2.2.2.2.2.1, .aF]), (3, .row 3 (.int .i64) true true (aU e))]⟩, 4, []⟩
def wo (b : List Int) (l' : List Int) (r' : Int) (e' : Event) (i' : Int) (l : List Int) (r : Int) (e : Event) (i : Int) : Prop :=  aH (parts (ah (b, 0)).1) 105 >= 0 /\ 0 <= i /\ i <= i' /\ i' <= 60 /\ aU e' = [] /\ (aU e).length + i.toNat = i'.toNat /\ ((l', r'), e') = ((aA 60 (bP 2 b).1).2, (bP 2 b).2) /\ i' = (cond (decide ((aA 60 (bP 2 b).1).1 >= 0)) (aA 60 (bP 2 b).1).1 0) /\ e = (bK e', eAt e', dG e', eTo e', aU e, aO e', fV e', fB e', iq e', eN e', dh e') /\ (dO i'.toNat (l', r')).1 = aU e ++ (dO i.toNat (l, r)).1 /\ (dO i'.toNat (l', r')).2 = (dO i.toNat (l, r)).2
def tC (b : List Int) (l : List Int) (r : Int) (e : Event) (i : Int) : St2 := ⟨⟨[sP 0 0] ++ U.n 1 ++ [sP 1 0] ++ [sP 2 0] ++ [sS (parts (ah (b, 0)).1)] ++ U.n 1 ++ [sI i] ++ U.n 91, [], [(0, .obj [.psl false tU8 l, .int .i64 r]), (1, .obj [.int .i64 0, .int .i64 0, .str [], .str [], .aF, .aF, .int .i64 0, .int .i64 0, .int .i64 0, .int .i64 0, .aF]), (2, .obj [.int .i64 e.1, .int .i64 e.2.1, .str e.2.2.1, .str e.2.2.2.1, .psl false (.int .i64) e.2.2.2.2.1, .own 3, .int .i64 e.2.2.2.2.2.2.1, .int .i64 e.2.2.2.2.2.2.2.1, .int .i64 e.2.2.2.2.2.2.2.2.1, .int .i64 e.2.2.2.2.2.2.2.2.2.1, .aF]), (3, .row 71 gJ true true (aO e))]⟩, 4, []⟩
def wu (b : List Int) (l' : List Int) (r' : Int) (e' : Event) (i' : Int) (l : List Int) (r : Int) (e : Event) (i : Int) : Prop :=  aH (parts (ah (b, 0)).1) 115 >= 0 /\ 0 <= i /\ i <= i' /\ i' <= 60 /\ aO e' = [] /\ (aO e).length + i.toNat = i'.toNat /\ ((l', r'), e') = ((aA 60 (bP 3 b).1).2, (bP 3 b).2) /\ i' = (cond (decide ((aA 60 (bP 3 b).1).1 >= 0)) (aA 60 (bP 3 b).1).1 0) /\ e = (bK e', eAt e', dG e', eTo e', aU e', aO e, fV e', fB e', iq e', eN e', dh e') /\ (bQ i'.toNat (l', r')).1 = aO e ++ (bQ i.toNat (l, r)).1 /\ (bQ i'.toNat (l', r')).2 = (bQ i.toNat (l, r)).2
end U
def ZV (a b : List Int) : Vc.Loop := ⟨{ keep := [0, 1, 5] }, Int, fun x => U.oZ a b x, fun x0 x => U.qV a b  x, fun x => a.length - x.toNat⟩
def ZW (a b : List Range) : Vc.Loop := ⟨{ keep := [0, 1, 5] }, Int, fun x => U.o7 a b x, fun x0 x => U.qW a b  x, fun x => a.length - x.toNat⟩
def abv (l : List Int) : Vc.Loop := ⟨{ keep := [0, 5, 6, 7] }, Int, fun x => U.qX l x, fun x0 x => U.uN l  x, fun x => l.length - x.toNat⟩
def aei (l : List Range) : Vc.Loop := ⟨{ keep := [0, 1, 7, 8] }, Int, fun x => U.uO l x, fun x0 x => U.xw l  x, fun x => l.length - x.toNat⟩
def YD (e : Event) : Vc.Loop := ⟨{ keep := [1, 3, 20, 21, 22] }, Int, fun x => U.jd e x, fun x0 x => U.kR e  x, fun x => 9 - x.toNat⟩
def ZX (b : List Int) (e : Event) : Vc.Loop := ⟨{ keep := [0, 44, 45, 46] }, List Int × Int, fun x => U.o8 b e x.1 x.2, fun x0 x => U.qY b e  x.1 x.2, fun x => (U.aO e).length - x.2.toNat⟩
def Xb (e : Event) : Vc.Loop := ⟨{ keep := [1, 4, 19, 20, 21] }, List Int × Int, fun x => U.lq e x.1 x.2, fun x0 x => U.ny e  x.1 x.2, fun x => (U.parts e.1).length - x.2.toNat⟩
def ZY  : Vc.Loop := ⟨{ keep := [0, 1, 26, 27], Nb := [(1, 4, 3)] }, List Int × Int × Event × List Int × Int × Int, fun x => U.vX  x.1 x.2.1 x.2.2.1 x.2.2.2.1 x.2.2.2.2.1 x.2.2.2.2.2, fun x0 x => U.xR  x0.1 x0.2.1 x0.2.2.1 x0.2.2.2.1 x0.2.2.2.2.1 x0.2.2.2.2.2 x.1 x.2.1 x.2.2.1 x.2.2.2.1 x.2.2.2.2.1 x.2.2.2.2.2, fun x => (x.2.2.2.2.1 - x.2.2.2.2.2).toNat⟩
def YE  : Vc.Loop := ⟨{ keep := [0, 1, 44, 45], Nb := [(1, 5, 71)] }, List Int × Int × Event × List Int × Int × Int, fun x => U.tq  x.1 x.2.1 x.2.2.1 x.2.2.2.1 x.2.2.2.2.1 x.2.2.2.2.2, fun x0 x => U.vY  x0.1 x0.2.1 x0.2.2.1 x0.2.2.2.1 x0.2.2.2.2.1 x0.2.2.2.2.2 x.1 x.2.1 x.2.2.1 x.2.2.2.1 x.2.2.2.2.1 x.2.2.2.2.2, fun x => (x.2.2.2.2.1 - x.2.2.2.2.2).toNat⟩
def Xc (b : List Int) : Vc.Loop := ⟨{ keep := [2, 4, 5, 25, 26, 27], Nb := [(5, 4, 3), (5, 5, 71)], Dc := [(5, 10, 27)] }, List Int × Int × Event × Int, fun x => U.aX b x.1 x.2.1 x.2.2.1 x.2.2.2, fun x0 x => U.dL b  x.1 x.2.1 x.2.2.1 x.2.2.2, fun x => (U.parts (U.ah (b, 0)).1).length - x.2.2.2.toNat⟩
def Xd (l : List Int) : Vc.Loop := ⟨{ keep := [0, 3] }, Int, fun x => U.lu l x, fun x0 x => U.nC l  x, fun x => l.length - x.toNat⟩
def YF (l : List Range) : Vc.Loop := ⟨{ keep := [0, 3] }, Int, fun x => U.nD l x, fun x0 x => U.o9 l  x, fun x => l.length - x.toNat⟩
def abw (s : List Int) (c : Int) : Vc.Loop := ⟨{ keep := [0, 1, 5] }, Int, fun x => U.qZ s c x, fun x0 x => U.uP s c  x, fun x => s.length - x.toNat⟩
def YG (e : Event) : Vc.Loop := ⟨{ keep := [3, 5, 6, 7] }, List Bool × List Bool × Int, fun x => U.nG e x.1 x.2.1 x.2.2, fun x0 x => U.vZ e  x.1 x.2.1 x.2.2, fun x => 9 - x.2.2.toNat⟩
def akj (b : List Int) : Vc.Loop := ⟨{ keep := [0, 2, 3, 4] }, List Int × Int × Event, fun x => U.Xa b x.1 x.2.1 x.2.2, fun x0 x => U.Ux b  x.1 x.2.1 x.2.2, fun x => 0⟩
def akk (b : List Int) : Vc.Loop := ⟨{ keep := [0, 2, 3, 4] }, List Int × Int × Event, fun x => U.Ob b x.1 x.2.1 x.2.2, fun x0 x => U.Uy b  x.1 x.2.1 x.2.2, fun x => 0⟩
def akl (b : List Int) : Vc.Loop := ⟨{ keep := [0, 2, 3, 4], Dc := [(3, 4, 25)] }, List Int × Int × Event, fun x => U.I5 b x.1 x.2.1 x.2.2, fun x0 x => U.Uz b  x.1 x.2.1 x.2.2, fun x => 0⟩
def akm (b : List Int) : Vc.Loop := ⟨{ keep := [0, 2, 3, 4], Dc := [(3, 4, 25), (3, 5, 26)] }, List Int × Int × Event, fun x => U.I7 b x.1 x.2.1 x.2.2, fun x0 x => U.UA b  x.1 x.2.1 x.2.2, fun x => 0⟩
def akn (b : List Int) : Vc.Loop := ⟨{ keep := [0, 2, 3, 4], Dc := [(3, 4, 25), (3, 5, 26)] }, List Int × Int × Event, fun x => U.Oc b x.1 x.2.1 x.2.2, fun x0 x => U.UC b  x.1 x.2.1 x.2.2, fun x => 0⟩
def ako (b : List Int) : Vc.Loop := ⟨{ keep := [0, 2, 3, 4], Dc := [(3, 4, 25), (3, 5, 26)] }, List Int × Int × Event, fun x => U.Oe b x.1 x.2.1 x.2.2, fun x0 x => U.UD b  x.1 x.2.1 x.2.2, fun x => 0⟩
def akp (b : List Int) : Vc.Loop := ⟨{ keep := [0, 2, 3, 4], Dc := [(3, 4, 25), (3, 5, 26)] }, List Int × Int × Event, fun x => U.Og b x.1 x.2.1 x.2.2, fun x0 x => U.UE b  x.1 x.2.1 x.2.2, fun x => 0⟩
def akq (b : List Int) : Vc.Loop := ⟨{ keep := [0, 2, 3, 4], Dc := [(3, 4, 25), (3, 5, 26)] }, List Int × Int × Event, fun x => U.Oh b x.1 x.2.1 x.2.2, fun x0 x => U.UF b  x.1 x.2.1 x.2.2, fun x => 0⟩
def akr (b : List Int) : Vc.Loop := ⟨{ keep := [2, 3], Dc := [(3, 4, 25), (3, 5, 26), (3, 10, 27)] }, List Int × Int × Event, fun x => U.Oi b x.1 x.2.1 x.2.2, fun x0 x => U.UG b  x.1 x.2.1 x.2.2, fun x => 0⟩
def YH (b : List Int) : Vc.Loop := ⟨{ keep := [0, 2, 3, 4, 5], Nb := [(3, 4, 3)] }, List Int × Int × Event × Int, fun x => U.tu b x.1 x.2.1 x.2.2.1 x.2.2.2, fun x0 x => U.wo b x0.1 x0.2.1 x0.2.2.1 x0.2.2.2 x.1 x.2.1 x.2.2.1 x.2.2.2, fun x => x.2.2.2.toNat⟩
def YI (b : List Int) : Vc.Loop := ⟨{ keep := [0, 2, 3, 4, 6], Nb := [(3, 5, 71)] }, List Int × Int × Event × Int, fun x => U.tC b x.1 x.2.1 x.2.2.1 x.2.2.2, fun x0 x => U.wu b x0.1 x0.2.1 x0.2.2.1 x0.2.2.2 x.1 x.2.1 x.2.2.1 x.2.2.2, fun x => x.2.2.2.toNat⟩
def KO (a : List Int) (b : List Int) : Done := rB (decide (a = b))
def VE : Vc.Sum := .pure [jD, jD] false fun x => KO x.1 x.2
def VF (a : List Int) (b : List Int) : Nat -> List V -> Nat -> Option Vc.Loop := fun f v k => cond (Nat.beq f 32 && Nat.beq k 4) (some (ZV a b)) <| none
def Dw : List (Nat × Ent) := (32, .sum VE) :: Du
def KP (a : List Range) (b : List Range) : Done := rB (decide (a = b))
def VG : Vc.Sum := .pure [fM, fM] false fun x => KP x.1 x.2
def VH (a : List Range) (b : List Range) : Nat -> List V -> Nat -> Option Vc.Loop := fun f v k => cond (Nat.beq f 33 && Nat.beq k 4) (some (ZW a b)) <| none
def Dx : List (Nat × Ent) := (33, .sum VG) :: Dw
def Fh (n : Int) (m : Int) : Done := rB (U.within n m)
def OZ : Vc.Sum := .pure [.int .i64, .int .i64] false fun x => Fh x.1 x.2
def O1 (n : Int) (m : Int) : Nat -> List V -> Nat -> Option Vc.Loop := bW
def xU : List (Nat × Ent) := (59, .sum OZ) :: Dx
def I8 (k : Int) : Done := ⟨[], .one (.str (U.parts k)), [], []⟩
def Sm : Vc.Sum := .pure [.int .i64] false fun x => I8 x
def Sr (k : Int) : Nat -> List V -> Nat -> Option Vc.Loop := bW
def Az : List (Nat × Ent) := (35, .sum Sm) :: xU
def Oj (l : List Int) : Done := rB (U.vW l)
def YJ : Vc.Sum := .pure [jD] false fun x => Oj x
def YK (l : List Int) : Nat -> List V -> Nat -> Option Vc.Loop := fun f v k => cond (Nat.beq f 80 && Nat.beq k 2) (some (abv l)) <| none
def GU : List (Nat × Ent) := (80, .sum YJ) :: Az
def I9 (r : Range) : Done := rB (U.badR r)
def Sv : Vc.Sum := .pure [gJ] false fun x => I9 x
def Sz (r : Range) : Nat -> List V -> Nat -> Option Vc.Loop := bW
def AA : List (Nat × Ent) := (94, .sum Sv) :: GU
def Ol (l : List Range) : Done := rB (U.jQ l)
def YL : Vc.Sum := .pure [fM] false fun x => Ol x
def YM (l : List Range) : Nat -> List V -> Nat -> Option Vc.Loop := fun f v k => cond (Nat.beq f 102 && Nat.beq k 2) (some (aei l)) <| none
def GV : List (Nat × Ent) := (81, .sum YL) :: AA
def KQ (f : Int) : Done := rB (U.uM f)
def VI : Vc.Sum := .pure [.int .i64] false fun x => KQ x
def VJ (f : Int) : Nat -> List V -> Nat -> Option Vc.Loop := bW
def Dy : List (Nat × Ent) := (82, .sum VI) :: GV
def xA (e : Event) (c : Int) : Done := ⟨[(U.dG e).length <= 1000000000000, (U.eTo e).length <= 1000000000000], .tup [one (.bool (U.good c e)), one (.bool (U.none_ c e))], [], []⟩
def VK : Vc.Sum := .pure [dA, .int .u8] false fun x => xA x.1 x.2
def VL (e : Event) (c : Int) : Nat -> List V -> Nat -> Option Vc.Loop := bW
def Dz : List (Nat × Ent) := (60, .sum VK) :: Dy
def uQ (e : Event) : Done := ⟨[(U.dG e).length <= 1000000000000, (U.eTo e).length <= 1000000000000], .one (.bool (U.bV e)), [], []⟩
def SA : Vc.Sum := .pure [dA] false fun x => uQ x
def SB (e : Event) : Nat -> List V -> Nat -> Option Vc.Loop := fun f v k => cond (Nat.beq f 34 && Nat.beq k 5) (some (YD e)) <| none
def AB : List (Nat × Ent) := (34, .sum SA) :: Dz
def wz (b : List Int) (e : Event) (c : Int) : Done := ⟨[b.length <= 100000000000, (U.aU e).length <= 1000000000, (U.aO e).length <= 1000000000], .one (.psl true (.int .u8) (b ++ U.nZ c e)), [], []⟩
def YN : Vc.Sum := .pure [aI, dA, .int .u8] false fun x => wz x.1 x.2.1 x.2.2
def YO (b : List Int) (e : Event) (c : Int) : Nat -> List V -> Nat -> Option Vc.Loop := fun f v k => cond (Nat.beq f 36 && Nat.beq k 11) (some (ZX b e)) <| none
def GX : List (Nat × Ent) := (36, .sum YN) :: AB
def ru (e : Event) : Done := ⟨[(U.dG e).length <= 1000000000000, (U.eTo e).length <= 1000000000000], rBE (U.yK e), [], []⟩
def O4 : Vc.Sum := .pure [dA] false fun x => ru x
def O5 (e : Event) : Nat -> List V -> Nat -> Option Vc.Loop := fun f v k => cond (Nat.beq f 17 && Nat.beq k 5) (some (Xb e)) <| none
def xW : List (Nat × Ent) := (17, .sum O4) :: GX
def xX (b : List Int) : Done := ⟨[b.length <= 1000000000], .tup [.of false dA (U.aN b).1, one (.int .i64 (U.aN b).2)], [], []⟩
def O6 : Vc.Sum := .pure [aI] true fun x => xX x
def O7 (b : List Int) : Nat -> List V -> Nat -> Option Vc.Loop := fun f v k => cond (Nat.beq f 28 && Nat.beq k 6) (some (Xc b)) <| cond (Nat.beq f 53 && Nat.beq k 7) (some (ZY)) <| cond (Nat.beq f 53 && Nat.beq k 12) (some (YE)) <| none
def xY : List (Nat × Ent) := (28, .sum O6) :: xW
def Ja (f : Int) : Done := rB (U.uM f)
def SC : Vc.Sum := .pure [.int .i64] false fun x => Ja x
def SE (f : Int) : Nat -> List V -> Nat -> Option Vc.Loop := bW
def AL : List (Nat × Ent) := (70, .sum SC) :: xY
def Fj (l : List Int) : Done := rB (U.rise 0 l)
def O8 : Vc.Sum := .pure [jD] false fun x => Fj x
def O9 (l : List Int) : Nat -> List V -> Nat -> Option Vc.Loop := fun f v k => cond (Nat.beq f 67 && Nat.beq k 2) (some (Xd l)) <| none
def xZ : List (Nat × Ent) := (67, .sum O8) :: AL
def Jb (l : List Range) : Done := rB (decide (l.length >= 1) && U.jQ l)
def SG : Vc.Sum := .pure [fM] false fun x => Jb x
def SH (l : List Range) : Nat -> List V -> Nat -> Option Vc.Loop := fun f v k => cond (Nat.beq f 88 && Nat.beq k 2) (some (YF l)) <| none
def AO : List (Nat × Ent) := (88, .sum SG) :: xZ
def Jc (k : Int) : Done := ⟨[], .one (.str (U.parts k)), [], []⟩
def SI : Vc.Sum := .pure [.int .i64] false fun x => Jc x
def SK (k : Int) : Nat -> List V -> Nat -> Option Vc.Loop := bW
def AP : List (Nat × Ent) := (42, .sum SI) :: AO
def KR (n : Int) : Done := rB (U.within n 1099511627776)
def VN : Vc.Sum := .pure [.int .i64] false fun x => KR x
def VO (n : Int) : Nat -> List V -> Nat -> Option Vc.Loop := bW
def DC : List (Nat × Ent) := (66, .sum VN) :: AP
def Om (l : List Range) : Done := rB (U.jQ l)
def YP : Vc.Sum := .pure [fM] false fun x => Om x
def YQ (l : List Range) : Nat -> List V -> Nat -> Option Vc.Loop := bW
def GY : List (Nat × Ent) := (69, .sum YP) :: DC
def Oo (s : List Int) (c : Int) : Done := rB (decide (aH s c >= 0))
def YR : Vc.Sum := .pure [.str, .int .u8] false fun x => Oo x.1 x.2
def YS (s : List Int) (c : Int) : Nat -> List V -> Nat -> Option Vc.Loop := fun f v k => cond (Nat.beq f 43 && Nat.beq k 2) (some (abw s c)) <| none
def GZ : List (Nat × Ent) := (43, .sum YR) :: GY
def uS (e : Event) : Done := ⟨[(U.dG e).length <= 1000000000000, (U.eTo e).length <= 1000000000000], .one (.bool (U.bV e)), [], []⟩
def SL : Vc.Sum := .pure [dA] false fun x => uS x
def SN (e : Event) : Nat -> List V -> Nat -> Option Vc.Loop := fun f v k => cond (Nat.beq f 41 && Nat.beq k 8) (some (YG e)) <| none
def AQ : List (Nat × Ent) := (41, .sum SL) :: GZ
def uT (l : List Int) (e : Int) : Done := ⟨[e = 0, l.length <= 1000000000], .v (.of false dA (U.aS l).2), [.obj [.psl false tU8 (U.aS l).1.1, .int .i64 (U.aS l).1.2]], []⟩
def Pe (l : List Int) (e : Int) : List V := [⟨false, [.ptr 0 0]⟩]
def Pg (l : List Int) (e : Int) : List Entry := [.obj [.psl false tU8 l, .int .i64 e]]
def SQ (l : List Int) (e : Int) : Nat -> List V -> Nat -> Option Vc.Loop := fun f v k => cond (Nat.beq f 57 && Nat.beq k 1000010) (some (akj l)) <| cond (Nat.beq f 57 && Nat.beq k 1000012) (some (akk l)) <| cond (Nat.beq f 57 && Nat.beq k 1000017) (some (akl l)) <| cond (Nat.beq f 57 && Nat.beq k 1000023) (some (akm l)) <| cond (Nat.beq f 57 && Nat.beq k 1000025) (some (akn l)) <| cond (Nat.beq f 57 && Nat.beq k 1000027) (some (ako l)) <| cond (Nat.beq f 57 && Nat.beq k 1000029) (some (akp l)) <| cond (Nat.beq f 57 && Nat.beq k 1000031) (some (akq l)) <| cond (Nat.beq f 57 && Nat.beq k 1000033) (some (akr l)) <| cond (Nat.beq f 57 && Nat.beq k 14) (some (YH l)) <| cond (Nat.beq f 57 && Nat.beq k 19) (some (YI l)) <| none
def Fp : List V -> List Entry -> Option Done
 | [⟨false, [.ptr n1 n2]⟩], [.obj [.psl false t3 l3, .int .i64 e]] => if h3 : t3 = tU8 then cond (Nat.beq n1 0 && Nat.beq n2 0) (some (uT (h3 ▸ l3 : List (Ty.den tU8)) e)) none else none
 | _, _ => none
theorem Jd {args : List V} {es : List Entry} {d : Done} (h : Fp args es = some d) : ∃ l e, args = Pe l e /\ es = Pg l e /\ d = uT l e := by
 unfold Fp at h
 split at h
 ·split at h <;> first | (cases h; done) | skip
  rename_i ht; subst ht
  obtain ⟨hb, hd⟩ := gX h; simp only [Bool.and_eq_true, Nat.beq_eq] at hb; (try obtain ⟨rfl, rfl⟩ := hb); subst hd; (try subst_vars); exact ⟨_, _, rfl, rfl, rfl⟩
 ·cases h
def DF (args : List V) (es : List Entry) : Option Done := orE (Fp args es) (none)
def VP : Vc.Sum := .gen DF
def DI : List (Nat × Ent) := (57, .sum VP) :: AQ
def x9 (b : List Int) : Done := ⟨[b.length <= 1000000000], .tup [.of false dA (U.aN b).1, one (.int .i64 (U.aN b).2)], [], []⟩
def Ph : Vc.Sum := .pure [aI] true fun x => x9 x
def Pj (b : List Int) : Nat -> List V -> Nat -> Option Vc.Loop := bW
def yg : List (Nat × Ent) := (31, .sum Ph) :: DI
def KT (a : Event) (b : Event) : Done := rB (U.IZ a b)
def VQ : Vc.Sum := .pure [dA, dA] false fun x => KT x.1 x.2
def VR (a : Event) (b : Event) : Nat -> List V -> Nat -> Option Vc.Loop := bW
def DJ : List (Nat × Ent) := (16, .sum VQ) :: yg
end Go.Proofs.YtkhdeldobekciaaGreatDoor
