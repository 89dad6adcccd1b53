/- What functions of this seat compute, in plain Lean. -/
import Derived.Test.YtkhdeldobekciaaDoorPD
set_option linter.unusedVariables false
set_option linter.unusedSimpArgs false
set_option maxRecDepth 100000
namespace Go.Proofs.YtkhdeldobekciaaDoor
open Go.Vc
abbrev gQ : Ty := .pair (.int .i64) (.int .i64)
abbrev kE : Ty := .slice gQ
abbrev bI : Ty := .pair (.int .i64) (.pair (.int .i64) (.pair .str (.pair .str (.pair rY (.pair kE (.pair (.int .i64) (.pair (.int .i64) (.pair (.int .i64) (.pair (.int .i64) aG)))))))))
abbrev Range := Int × Int
abbrev Event := Int × Int × List Int × List Int × List Int × List Range × Int × Int × Int × Int × List Int
namespace U
def bP (e : Event) : Int := e.1
def eAt (e : Event) : Int := e.2.1
def cO (e : Event) : List Int := e.2.2.1
def eTo (e : Event) : List Int := e.2.2.2.1
def aT (e : Event) : List Int := e.2.2.2.2.1
def aJ (e : Event) : List Range := e.2.2.2.2.2.1
def jC (e : Event) : Int := e.2.2.2.2.2.2.1
def jw (e : Event) : Int := e.2.2.2.2.2.2.2.1
def lZ (e : Event) : Int := e.2.2.2.2.2.2.2.2.1
def eN (e : Event) : Int := e.2.2.2.2.2.2.2.2.2.1
def gW (e : Event) : List Int := e.2.2.2.2.2.2.2.2.2.2
def AA : List (List Int) := [[], [98], [98], [98, 116], [98], [98], [98, 102, 100, 121], [98, 105, 109, 102], [98, 116, 105], [98, 105], [110], [98, 110], [98, 115], [110], [105]]
def order : List Int := [98, 116, 105, 115, 109, 102, 100, 110, 121]
def parts (k : Int) : List Int := cond (decide (k < 0) || decide (k >= 15)) [] (AA.getD k.toNat [])
def within (n m : Int) : Bool := decide (n >= 0) && decide (n <= m)
def rise : Int -> List Int -> Bool
 | _, [] => true
 | p, x :: r => (decide (p < x) && decide (x <= 4294967295)) && rise x r
def qh (l : List Int) : Bool := rise 0 l && (decide (l.length >= 1) && decide (l.length <= 60))
def badR (r : Range) : Bool := !(within r.1 4294967295) || !(within r.2 4294967295)
def jh (l : List Range) : Bool := decide (l.length <= 60) && !(l.any badR)
def qP (f : Int) : Bool := decide (0 <= f) && decide (f <= 31)
def good (c : Int) (e : Event) : Bool :=
 cond (decide (c = 98)) (lS (cO e)) (cond (decide (c = 116)) (lS (eTo e)) (cond (decide (c = 105)) (qh (aT e)) (cond (decide (c = 115)) (jh (aJ e)) (cond (decide (c = 109)) (within (jC e) 2) (cond (decide (c = 102)) (qP (jw e)) (cond (decide (c = 100)) (within (lZ e) 1099511627776) (cond (decide (c = 110)) (within (eN e) 1099511627776) (decide ((gW e).length <= 2000)))))))))
def none_ (c : Int) (e : Event) : Bool :=
 cond (decide (c = 98)) (decide (cO e = [])) (cond (decide (c = 116)) (decide (eTo e = [])) (cond (decide (c = 105)) (decide (aT e = [])) (cond (decide (c = 115)) (decide (aJ e = [])) (cond (decide (c = 109)) (decide (jC e = 0)) (cond (decide (c = 102)) (decide (jw e = 0)) (cond (decide (c = 100)) (decide (lZ e = 0)) (cond (decide (c = 110)) (decide (eN e = 0)) (decide (gW e = [])))))))))
def okC (p : List Int) (e : Event) (c : Int) : Bool := cond (decide (aA p c < 0)) (none_ c e) (good c e)
def aX (e : Event) : Bool := !(decide (parts (bP e) = [])) && (within (eAt e) 1099511627776 && order.all (okC (parts (bP e)) e))
def pairs (l : List Range) : List Int := l.flatMap fun r => num1 r.1 ++ num1 r.2
def jF (c : Int) (e : Event) : List Int :=
 cond (decide (c = 98)) (text1 (cO e)) (cond (decide (c = 116)) (text1 (eTo e)) (cond (decide (c = 105)) (num1 (aT e).length ++ nums (aT e)) (cond (decide (c = 115)) (num1 (aJ e).length ++ pairs (aJ e)) (cond (decide (c = 109)) (num1 (jC e)) (cond (decide (c = 102)) (num1 (jw e)) (cond (decide (c = 100)) (num1 (lZ e)) (cond (decide (c = 110)) (num1 (eN e)) (text1 (gW e)))))))))
def mW (e : Event) : List Int := num1 (bP e) ++ (num1 (eAt e) ++ (parts (bP e)).flatMap fun c => jF c e)
def dP (e : Event) : List Int × Int := cond (aX e) (mW e, 0) ([], 1)
def zeroE : Event := (0, 0, [], [], [], [], 0, 0, 0, 0, [])
def fP : Nat -> RS -> List Int × RS
 | 0, r => ([], r)
 | n + 1, r => let x := ak r; let y := fP n x.2; (x.1 :: y.1, y.2)
def dV : Nat -> RS -> List Range × RS
 | 0, r => ([], r)
 | n + 1, r => let x := ak r; let z := ak x.2; let y := dV n z.2; ((x.1, z.1) :: y.1, y.2)
def eP (c : Int) (x : RS × Event) : RS × Event :=
 let e := x.2
 cond (decide (c = 98)) ((aO x.1).2, bP e, eAt e, (aO x.1).1, eTo e, aT e, aJ e, jC e, jw e, lZ e, eN e, gW e)
 (cond (decide (c = 116)) ((aO x.1).2, bP e, eAt e, cO e, (aO x.1).1, aT e, aJ e, jC e, jw e, lZ e, eN e, gW e)
 (cond (decide (c = 105)) ((fP (aH 60 x.1).1.toNat (aH 60 x.1).2).2, bP e, eAt e, cO e, eTo e, aT e ++ (fP (aH 60 x.1).1.toNat (aH 60 x.1).2).1, aJ e, jC e, jw e, lZ e, eN e, gW e)
 (cond (decide (c = 115)) ((dV (aH 60 x.1).1.toNat (aH 60 x.1).2).2, bP e, eAt e, cO e, eTo e, aT e, aJ e ++ (dV (aH 60 x.1).1.toNat (aH 60 x.1).2).1, jC e, jw e, lZ e, eN e, gW e)
 (cond (decide (c = 109)) ((ak x.1).2, bP e, eAt e, cO e, eTo e, aT e, aJ e, (ak x.1).1, jw e, lZ e, eN e, gW e)
 (cond (decide (c = 102)) ((ak x.1).2, bP e, eAt e, cO e, eTo e, aT e, aJ e, jC e, (ak x.1).1, lZ e, eN e, gW e)
 (cond (decide (c = 100)) ((ak x.1).2, bP e, eAt e, cO e, eTo e, aT e, aJ e, jC e, jw e, (ak x.1).1, eN e, gW e)
 (cond (decide (c = 110)) ((ak x.1).2, bP e, eAt e, cO e, eTo e, aT e, aJ e, jC e, jw e, lZ e, (ak x.1).1, gW e)
 (cond (decide (c = 121)) ((aO x.1).2, bP e, eAt e, cO e, eTo e, aT e, aJ e, jC e, jw e, lZ e, eN e, (aO x.1).1) x))))))))
def Jh (b : List Int) : RS × Event := let k := ak (b, 0); let a := ak k.2; (gu (decide (parts k.1 = [])) a.2, k.1, a.1, [], [], [], [], 0, 0, 0, 0, [])
def vF (b : List Int) : RS × Event := (parts (ak (b, 0)).1).foldl (fun x c => eP c x) (Jh b)
def Nk (b : List Int) : Int := let f := lU (vF b).1; cond (decide (f = 0) && !(aX (vF b).2)) 3 f
def bC (b : List Int) : Event × Int := cond (decide (Nk b = 0)) ((vF b).2, 0) (zeroE, Nk b)
def Gn (p : List Int) (e : Event) (c : Int) : List Int := cond (decide (aA p c >= 0)) (jF c e) []
def jG (n : Nat) (e : Event) : List Int := num1 (bP e) ++ (num1 (eAt e) ++ (order.take n).flatMap (Gn (parts (bP e)) e))
def l7 (l : List Int) (i : Int) : Int := cond (decide (i = 0)) 0 (l.getD (i - 1).toNat 0)
def great (e : Event) : Bool := decide ((cO e).length > 500) || (decide ((eTo e).length > 500) || (decide ((aT e).length > 200) || (decide ((aJ e).length > 200) || decide ((gW e).length > 5000))))
end U
abbrev rBE (x : List Int × Int) : SV := .tup [one (.psl true (.int .u8) x.1), one (.int .i64 x.2)]
namespace U
def oU (l : List Int) (i : Int) : St2 := ⟨⟨[sL false (.int .i64) l] ++ U.n 4 ++ [sL false (.int .i64) l] ++ [sI l.length] ++ [sI i] ++ U.n 32, [], []⟩, 0, []⟩
def qQ (l : List Int)  (i : Int) : Prop := at_ l i /\ 0 <= l7 l i /\ rise 0 l = rise (l7 l i) (l.drop i.toNat)
def qR (l : List Range) (i : Int) : St2 := ⟨⟨[sL false gQ l] ++ [sF 70 []] ++ U.n 5 ++ [sI l.length] ++ [sI i] ++ U.n 10, [], []⟩, 0, []⟩
def tX (l : List Range)  (i : Int) : Prop := at_ l i /\ (l.drop i.toNat).any badR = l.any badR
def iO (e : Event) (i : Int) : St2 := ⟨⟨U.n 1 ++ [sP 0 0] ++ U.n 1 ++ [sS (parts e.1)] ++ U.n 16 ++ [own 1] ++ [sI 9] ++ [sI i] ++ U.n 17, [], [(0, .obj [.int .i64 e.1, .int .i64 e.2.1, .str e.2.2.1, .str e.2.2.2.1, .psl false (.int .i64) e.2.2.2.2.1, .psl false gQ e.2.2.2.2.2.1, .int .i64 e.2.2.2.2.2.2.1, .int .i64 e.2.2.2.2.2.2.2.1, .int .i64 e.2.2.2.2.2.2.2.2.1, .int .i64 e.2.2.2.2.2.2.2.2.2.1, .psl false (.int .u8) e.2.2.2.2.2.2.2.2.2.2]), (1, .row 5 (.int .u8) true false order)]⟩, 2, []⟩
def kF (e : Event)  (i : Int) : Prop := 0 <= i /\ i <= 9 /\ parts e.1 ≠ [] /\ within (eAt e) 1099511627776 = true /\ (order.drop i.toNat).all (okC (parts e.1) e) = order.all (okC (parts e.1) e)
def nO (b : List Int) (e : Event) (o : List Int) (i : Int) : St2 := ⟨⟨[sL true (.int .u8) o] ++ U.n 43 ++ [sL false gQ (aJ e)] ++ [sI (aJ e).length] ++ [sI i] ++ U.n 46, [], []⟩, 0, []⟩
def oV (b : List Int) (e : Event)  (o : List Int) (i : Int) : Prop := at_ (aJ e) i /\ o = b ++ (num1 (aJ e).length ++ pairs ((aJ e).take i.toNat))
def kQ (e : Event) (o : List Int) (i : Int) : St2 := ⟨⟨U.n 1 ++ [sP 0 0] ++ U.n 2 ++ [sL true (.int .u8) o] ++ U.n 14 ++ [own 1] ++ [sI (parts e.1).length] ++ [sI i] ++ U.n 9, [], [(0, .obj [.int .i64 e.1, .int .i64 e.2.1, .str e.2.2.1, .str e.2.2.2.1, .psl false (.int .i64) e.2.2.2.2.1, .psl false gQ e.2.2.2.2.2.1, .int .i64 e.2.2.2.2.2.2.1, .int .i64 e.2.2.2.2.2.2.2.1, .int .i64 e.2.2.2.2.2.2.2.2.1, .int .i64 e.2.2.2.2.2.2.2.2.2.1, .psl false (.int .u8) e.2.2.2.2.2.2.2.2.2.2]), (1, .row 5 (.int .u8) true false (parts e.1))]⟩, 2, []⟩
def l9 (e : Event)  (o : List Int) (i : Int) : Prop := at_ (parts e.1) i /\ aX e = true /\ o = num1 (bP e) ++ (num1 (eAt e) ++ ((parts e.1).take i.toNat).flatMap fun c => jF c e)
def rZ  (l : List Int) (r : Int) (e : Event) (p : List Int) (n : Int) (i : Int) : St2 := ⟨⟨[sP 1 0] ++ [sP 2 0] ++ U.n 24 ++ [sI n] ++ [sI i] ++ U.n 72, [], [(0, .obj [.int .i64 0, .int .i64 0, .str [], .str [], .bn, .bn, .int .i64 0, .int .i64 0, .int .i64 0, .int .i64 0, .bn]), (1, .obj [.psl false tU8 l, .int .i64 r]), (2, .obj [.int .i64 e.1, .int .i64 e.2.1, .str e.2.2.1, .str e.2.2.2.1, .own 6, .own 5, .int .i64 e.2.2.2.2.2.2.1, .int .i64 e.2.2.2.2.2.2.2.1, .int .i64 e.2.2.2.2.2.2.2.2.1, .int .i64 e.2.2.2.2.2.2.2.2.2.1, .psl false (.int .u8) e.2.2.2.2.2.2.2.2.2.2]), (3, .row 5 (.int .u8) true false p), (4, .dead), (5, .row 58 gQ true true (aJ e)), (6, .row 3 (.int .i64) true true (aT e))]⟩, 7, []⟩
def uG  (l' : List Int) (r' : Int) (e' : Event) (p' : List Int) (n' : Int) (i' : Int) (l : List Int) (r : Int) (e : Event) (p : List Int) (n : Int) (i : Int) : Prop :=  n = n' /\ p = p' /\ 0 <= i /\ i <= n /\ n <= 60 /\ i' = 0 /\ (aT e).length = (aT e').length + i.toNat /\ e = (bP e', eAt e', cO e', eTo e', aT e, aJ e', jC e', jw e', lZ e', eN e', gW e') /\ aT e' ++ (fP n.toNat (l', r')).1 = aT e ++ (fP (n - i).toNat (l, r)).1 /\ (fP n.toNat (l', r')).2 = (fP (n - i).toNat (l, r)).2
def qj  (l : List Int) (r : Int) (e : Event) (p : List Int) (n : Int) (i : Int) : St2 := ⟨⟨[sP 1 0] ++ [sP 2 0] ++ U.n 42 ++ [sI n] ++ [sI i] ++ U.n 54, [], [(0, .obj [.int .i64 0, .int .i64 0, .str [], .str [], .bn, .bn, .int .i64 0, .int .i64 0, .int .i64 0, .int .i64 0, .bn]), (1, .obj [.psl false tU8 l, .int .i64 r]), (2, .obj [.int .i64 e.1, .int .i64 e.2.1, .str e.2.2.1, .str e.2.2.2.1, .own 4, .own 6, .int .i64 e.2.2.2.2.2.2.1, .int .i64 e.2.2.2.2.2.2.2.1, .int .i64 e.2.2.2.2.2.2.2.2.1, .int .i64 e.2.2.2.2.2.2.2.2.2.1, .psl false (.int .u8) e.2.2.2.2.2.2.2.2.2.2]), (3, .row 5 (.int .u8) true false p), (4, .row 3 (.int .i64) true true (aT e)), (5, .dead), (6, .row 58 gQ true true (aJ e))]⟩, 7, []⟩
def su  (l' : List Int) (r' : Int) (e' : Event) (p' : List Int) (n' : Int) (i' : Int) (l : List Int) (r : Int) (e : Event) (p : List Int) (n : Int) (i : Int) : Prop :=  n = n' /\ p = p' /\ 0 <= i /\ i <= n /\ n <= 60 /\ i' = 0 /\ (aJ e).length = (aJ e').length + i.toNat /\ e = (bP e', eAt e', cO e', eTo e', aT e', aJ e, jC e', jw e', lZ e', eN e', gW e') /\ aJ e' ++ (dV n.toNat (l', r')).1 = aJ e ++ (dV (n - i).toNat (l, r)).1 /\ (dV n.toNat (l', r')).2 = (dV (n - i).toNat (l, r)).2
def aP (b : List Int) (l : List Int) (r : Int) (e : Event) (i : Int) : St2 := ⟨⟨U.n 2 ++ [sP 0 0] ++ U.n 1 ++ [sP 1 0] ++ [sP 2 0] ++ U.n 19 ++ [own 3] ++ [sI (parts (ak (b, 0)).1).length] ++ [sI i] ++ U.n 21, [], [(0, .obj [.int .i64 0, .int .i64 0, .str [], .str [], .bn, .bn, .int .i64 0, .int .i64 0, .int .i64 0, .int .i64 0, .bn]), (1, .obj [.psl false tU8 l, .int .i64 r]), (2, .obj [.int .i64 e.1, .int .i64 e.2.1, .str e.2.2.1, .str e.2.2.2.1, .own 4, .own 5, .int .i64 e.2.2.2.2.2.2.1, .int .i64 e.2.2.2.2.2.2.2.1, .int .i64 e.2.2.2.2.2.2.2.2.1, .int .i64 e.2.2.2.2.2.2.2.2.2.1, .psl false (.int .u8) e.2.2.2.2.2.2.2.2.2.2]), (3, .row 5 (.int .u8) true false (parts (ak (b, 0)).1)), (4, .row 3 (.int .i64) true true (aT e)), (5, .row 58 gQ true true (aJ e))]⟩, 6, []⟩
def cZ (b : List Int)  (l : List Int) (r : Int) (e : Event) (i : Int) : Prop := at_ (parts (ak (b, 0)).1) i /\ ((l, r), e) = ((parts (ak (b, 0)).1).take i.toNat).foldl (fun x c => eP c x) (Jh b)
def kR (l : List Int) (i : Int) : St2 := ⟨⟨[sL false (.int .i64) l] ++ U.n 2 ++ [sI i] ++ U.n 34, [], []⟩, 0, []⟩
def mg (l : List Int)  (i : Int) : Prop := at_ l i /\ 0 <= l7 l i /\ rise 0 l = rise (l7 l i) (l.drop i.toNat)
def mD (l : List Range) (i : Int) : St2 := ⟨⟨[sL false gQ l] ++ U.n 2 ++ [sI i] ++ U.n 48, [], []⟩, 0, []⟩
def nP (l : List Range)  (i : Int) : Prop := at_ l i /\ i <= 61 /\ (l.drop i.toNat).any badR = l.any badR
def oW (s : List Int) (c : Int) (i : Int) : St2 := ⟨⟨[sS s] ++ [sK .u8 c] ++ U.n 3 ++ [sI i] ++ U.n 11, [], []⟩, 0, []⟩
def qU (s : List Int) (c : Int)  (i : Int) : Prop := at_ s i /\ decide (aA s c >= 0) = decide (aA (s.drop i.toNat) c >= 0)
def mF (e : Event) (gl : List Bool) (nl : List Bool) (i : Int) : St2 := ⟨⟨U.n 3 ++ [sS (parts e.1)] ++ U.n 1 ++ [sP 0 0] ++ [sP 1 0] ++ [sI i] ++ U.n 116, [], [(0, .obj [.arr 9 true .bool gl]), (1, .obj [.arr 9 true .bool nl])]⟩, 2, []⟩
def sD (e : Event)  (gl : List Bool) (nl : List Bool) (i : Int) : Prop := 0 <= i /\ i <= 9 /\ gl = order.map (fun c => good c e) /\ nl = order.map (fun c => none_ c e) /\ parts e.1 ≠ [] /\ within (eAt e) 1099511627776 = true /\ (order.drop i.toNat).all (okC (parts e.1) e) = order.all (okC (parts e.1) e)
def Nl (e : Event) (o : List Int) : St2 := ⟨⟨U.n 1 ++ [sP 0 0] ++ U.n 2 ++ [sS (parts e.1)] ++ [sL true (.int .u8) o] ++ U.n 108, [], [(0, .obj [.int .i64 e.1, .int .i64 e.2.1, .str e.2.2.1, .str e.2.2.2.1, .psl false (.int .i64) e.2.2.2.2.1, .psl false gQ e.2.2.2.2.2.1, .int .i64 e.2.2.2.2.2.2.1, .int .i64 e.2.2.2.2.2.2.2.1, .int .i64 e.2.2.2.2.2.2.2.2.1, .int .i64 e.2.2.2.2.2.2.2.2.2.1, .psl false (.int .u8) e.2.2.2.2.2.2.2.2.2.2])]⟩, 1, []⟩
def XL (e : Event)  (o : List Int) : Prop := aX e = true /\ o = jG 1 e
def Np (e : Event) (o : List Int) : St2 := ⟨⟨U.n 1 ++ [sP 0 0] ++ U.n 2 ++ [sS (parts e.1)] ++ [sL true (.int .u8) o] ++ U.n 108, [], [(0, .obj [.int .i64 e.1, .int .i64 e.2.1, .str e.2.2.1, .str e.2.2.2.1, .psl false (.int .i64) e.2.2.2.2.1, .psl false gQ e.2.2.2.2.2.1, .int .i64 e.2.2.2.2.2.2.1, .int .i64 e.2.2.2.2.2.2.2.1, .int .i64 e.2.2.2.2.2.2.2.2.1, .int .i64 e.2.2.2.2.2.2.2.2.2.1, .psl false (.int .u8) e.2.2.2.2.2.2.2.2.2.2])]⟩, 1, []⟩
def XM (e : Event)  (o : List Int) : Prop := aX e = true /\ o = jG 2 e
def Hw (e : Event) (o : List Int) : St2 := ⟨⟨U.n 1 ++ [sP 0 0] ++ U.n 2 ++ [sS (parts e.1)] ++ [sL true (.int .u8) o] ++ U.n 108, [], [(0, .obj [.int .i64 e.1, .int .i64 e.2.1, .str e.2.2.1, .str e.2.2.2.1, .psl false (.int .i64) e.2.2.2.2.1, .psl false gQ e.2.2.2.2.2.1, .int .i64 e.2.2.2.2.2.2.1, .int .i64 e.2.2.2.2.2.2.2.1, .int .i64 e.2.2.2.2.2.2.2.2.1, .int .i64 e.2.2.2.2.2.2.2.2.2.1, .psl false (.int .u8) e.2.2.2.2.2.2.2.2.2.2])]⟩, 1, []⟩
def Ti (e : Event)  (o : List Int) : Prop := aX e = true /\ o = jG 3 e
def Hy (e : Event) (o : List Int) : St2 := ⟨⟨U.n 1 ++ [sP 0 0] ++ U.n 2 ++ [sS (parts e.1)] ++ [sL true (.int .u8) o] ++ U.n 108, [], [(0, .obj [.int .i64 e.1, .int .i64 e.2.1, .str e.2.2.1, .str e.2.2.2.1, .psl false (.int .i64) e.2.2.2.2.1, .psl false gQ e.2.2.2.2.2.1, .int .i64 e.2.2.2.2.2.2.1, .int .i64 e.2.2.2.2.2.2.2.1, .int .i64 e.2.2.2.2.2.2.2.2.1, .int .i64 e.2.2.2.2.2.2.2.2.2.1, .psl false (.int .u8) e.2.2.2.2.2.2.2.2.2.2])]⟩, 1, []⟩
def Tj (e : Event)  (o : List Int) : Prop := aX e = true /\ o = jG 4 e
def UO (e : Event) (o : List Int) : St2 := ⟨⟨U.n 1 ++ [sP 0 0] ++ U.n 2 ++ [sS (parts e.1)] ++ [sL true (.int .u8) o] ++ U.n 108, [], [(0, .obj [.int .i64 e.1, .int .i64 e.2.1, .str e.2.2.1, .str e.2.2.2.1, .psl false (.int .i64) e.2.2.2.2.1, .psl false gQ e.2.2.2.2.2.1, .int .i64 e.2.2.2.2.2.2.1, .int .i64 e.2.2.2.2.2.2.2.1, .int .i64 e.2.2.2.2.2.2.2.2.1, .int .i64 e.2.2.2.2.2.2.2.2.2.1, .psl false (.int .u8) e.2.2.2.2.2.2.2.2.2.2])]⟩, 1, []⟩
def Zv (e : Event)  (o : List Int) : Prop := aX e = true /\ o = jG 8 e
def Hz (e : Event) (o : List Int) : St2 := ⟨⟨U.n 5 ++ [sL true (.int .u8) o] ++ U.n 108, [], []⟩, 0, []⟩
def Tm (e : Event)  (o : List Int) : Prop := aX e = true /\ o = jG 9 e
def jL (e : Event) (o : List Int) (i : Int) : St2 := ⟨⟨U.n 1 ++ [sP 0 0] ++ U.n 2 ++ [sS (parts e.1)] ++ [sL true (.int .u8) o] ++ [sI i] ++ U.n 107, [], [(0, .obj [.int .i64 e.1, .int .i64 e.2.1, .str e.2.2.1, .str e.2.2.2.1, .psl false (.int .i64) e.2.2.2.2.1, .psl false gQ e.2.2.2.2.2.1, .int .i64 e.2.2.2.2.2.2.1, .int .i64 e.2.2.2.2.2.2.2.1, .int .i64 e.2.2.2.2.2.2.2.2.1, .int .i64 e.2.2.2.2.2.2.2.2.2.1, .psl false (.int .u8) e.2.2.2.2.2.2.2.2.2.2])]⟩, 1, []⟩
def oN (e : Event)  (o : List Int) (i : Int) : Prop := aX e = true /\ aA (parts e.1) 105 >= 0 /\ at_ (aT e) i /\ o = jG 2 e ++ (num1 (aT e).length ++ nums ((aT e).take i.toNat))
def jM (e : Event) (o : List Int) (i : Int) : St2 := ⟨⟨U.n 1 ++ [sP 0 0] ++ U.n 2 ++ [sS (parts e.1)] ++ [sL true (.int .u8) o] ++ U.n 1 ++ [sI i] ++ U.n 106, [], [(0, .obj [.int .i64 e.1, .int .i64 e.2.1, .str e.2.2.1, .str e.2.2.2.1, .psl false (.int .i64) e.2.2.2.2.1, .psl false gQ e.2.2.2.2.2.1, .int .i64 e.2.2.2.2.2.2.1, .int .i64 e.2.2.2.2.2.2.2.1, .int .i64 e.2.2.2.2.2.2.2.2.1, .int .i64 e.2.2.2.2.2.2.2.2.2.1, .psl false (.int .u8) e.2.2.2.2.2.2.2.2.2.2])]⟩, 1, []⟩
def oO (e : Event)  (o : List Int) (i : Int) : Prop := aX e = true /\ aA (parts e.1) 115 >= 0 /\ at_ (aJ e) i /\ o = jG 3 e ++ (num1 (aJ e).length ++ pairs ((aJ e).take i.toNat))
def fQ (e : Event) (o : List Int) (i : Int) : St2 := ⟨⟨U.n 1 ++ [sP 0 0] ++ U.n 2 ++ [sS (parts e.1)] ++ [sL true (.int .u8) o] ++ U.n 2 ++ [sP 1 0] ++ [sI i] ++ U.n 104, [], [(0, .obj [.int .i64 e.1, .int .i64 e.2.1, .str e.2.2.1, .str e.2.2.2.1, .psl false (.int .i64) e.2.2.2.2.1, .psl false gQ e.2.2.2.2.2.1, .int .i64 e.2.2.2.2.2.2.1, .int .i64 e.2.2.2.2.2.2.2.1, .int .i64 e.2.2.2.2.2.2.2.2.1, .int .i64 e.2.2.2.2.2.2.2.2.2.1, .psl false (.int .u8) e.2.2.2.2.2.2.2.2.2.2]), (1, .obj [.arr 4 true (.int .i64) [e.2.2.2.2.2.2.1, e.2.2.2.2.2.2.2.1, e.2.2.2.2.2.2.2.2.1, e.2.2.2.2.2.2.2.2.2.1]])]⟩, 2, []⟩
def kS (e : Event)  (o : List Int) (i : Int) : Prop := aX e = true /\ 0 <= i /\ i <= 4 /\ o = jG (4 + i.toNat) e
end U
def WE (l : List Int) : Vc.Loop := ⟨{ keep := [0, 5, 6, 7] }, Int, fun x => U.oU l x, fun x0 x => U.qQ l  x, fun x => l.length - x.toNat, fun p => ∀ x, p x, fun _ h => h⟩
def Zw (l : List Range) : Vc.Loop := ⟨{ keep := [0, 1, 7, 8] }, Int, fun x => U.qR l x, fun x0 x => U.tX l  x, fun x => l.length - x.toNat, fun p => ∀ x, p x, fun _ h => h⟩
def Tn (e : Event) : Vc.Loop := ⟨{ keep := [1, 3, 20, 21, 22] }, Int, fun x => U.iO e x, fun x0 x => U.kF e  x, fun x => 9 - x.toNat, fun p => ∀ x, p x, fun _ h => h⟩
def UQ (b : List Int) (e : Event) : Vc.Loop := ⟨{ keep := [0, 44, 45, 46] }, List Int × Int, fun x => U.nO b e x.1 x.2, fun x0 x => U.oV b e  x.1 x.2, fun x => (U.aJ e).length - x.2.toNat, fun p => ∀ x, p x, fun _ h => h⟩
def QJ (e : Event) : Vc.Loop := ⟨{ keep := [1, 4, 19, 20, 21] }, List Int × Int, fun x => U.kQ e x.1 x.2, fun x0 x => U.l9 e  x.1 x.2, fun x => (U.parts e.1).length - x.2.toNat, fun p => ∀ x, p x, fun _ h => h⟩
def UR  : Vc.Loop := ⟨{ keep := [0, 1, 26, 27], Q5 := [(1, 4, 3)] }, List Int × Int × Event × List Int × Int × Int, fun x => U.rZ  x.1 x.2.1 x.2.2.1 x.2.2.2.1 x.2.2.2.2.1 x.2.2.2.2.2, fun x0 x => U.uG  x0.1 x0.2.1 x0.2.2.1 x0.2.2.2.1 x0.2.2.2.2.1 x0.2.2.2.2.2 x.1 x.2.1 x.2.2.1 x.2.2.2.1 x.2.2.2.2.1 x.2.2.2.2.2, fun x => (x.2.2.2.2.1 - x.2.2.2.2.2).toNat, fun p => ∀ x, p x, fun _ h => h⟩
def Tq  : Vc.Loop := ⟨{ keep := [0, 1, 44, 45], Q5 := [(1, 5, 58)] }, List Int × Int × Event × List Int × Int × Int, fun x => U.qj  x.1 x.2.1 x.2.2.1 x.2.2.2.1 x.2.2.2.2.1 x.2.2.2.2.2, fun x0 x => U.su  x0.1 x0.2.1 x0.2.2.1 x0.2.2.2.1 x0.2.2.2.2.1 x0.2.2.2.2.2 x.1 x.2.1 x.2.2.1 x.2.2.2.1 x.2.2.2.2.1 x.2.2.2.2.2, fun x => (x.2.2.2.2.1 - x.2.2.2.2.2).toNat, fun p => ∀ x, p x, fun _ h => h⟩
def QK (b : List Int) : Vc.Loop := ⟨{ keep := [2, 4, 5, 25, 26, 27], Q5 := [(5, 4, 3), (5, 5, 58)], ab1 := [(5, 10, 32)] }, List Int × Int × Event × Int, fun x => U.aP b x.1 x.2.1 x.2.2.1 x.2.2.2, fun x0 x => U.cZ b  x.1 x.2.1 x.2.2.1 x.2.2.2, fun x => (U.parts (U.ak (b, 0)).1).length - x.2.2.2.toNat, fun p => ∀ x, p x, fun _ h => h⟩
def QL (l : List Int) : Vc.Loop := ⟨{ keep := [0, 3] }, Int, fun x => U.kR l x, fun x0 x => U.mg l  x, fun x => l.length - x.toNat, fun p => ∀ x, p x, fun _ h => h⟩
def Tt (l : List Range) : Vc.Loop := ⟨{ keep := [0, 3] }, Int, fun x => U.mD l x, fun x0 x => U.nP l  x, fun x => l.length - x.toNat, fun p => ∀ x, p x, fun _ h => h⟩
def WG (s : List Int) (c : Int) : Vc.Loop := ⟨{ keep := [0, 1, 5] }, Int, fun x => U.oW s c x, fun x0 x => U.qU s c  x, fun x => s.length - x.toNat, fun p => ∀ x, p x, fun _ h => h⟩
def Tv (e : Event) : Vc.Loop := ⟨{ keep := [3, 5, 6, 7] }, List Bool × List Bool × Int, fun x => U.mF e x.1 x.2.1 x.2.2, fun x0 x => U.sD e  x.1 x.2.1 x.2.2, fun x => 9 - x.2.2.toNat, fun p => ∀ x, p x, fun _ h => h⟩
def agr (e : Event) : Vc.Loop := ⟨{ keep := [1, 4, 5] }, List Int, fun x => U.Nl e x, fun x0 x => U.XL e  x, fun x => 0, fun p => ∀ x, p x, fun _ h => h⟩
def ags (e : Event) : Vc.Loop := ⟨{ keep := [1, 4, 5] }, List Int, fun x => U.Np e x, fun x0 x => U.XM e  x, fun x => 0, fun p => ∀ x, p x, fun _ h => h⟩
def afH (e : Event) : Vc.Loop := ⟨{ keep := [1, 4, 5] }, List Int, fun x => U.Hw e x, fun x0 x => U.Ti e  x, fun x => 0, fun p => ∀ x, p x, fun _ h => h⟩
def afI (e : Event) : Vc.Loop := ⟨{ keep := [1, 4, 5] }, List Int, fun x => U.Hy e x, fun x0 x => U.Tj e  x, fun x => 0, fun p => ∀ x, p x, fun _ h => h⟩
def afJ (e : Event) : Vc.Loop := ⟨{ keep := [1, 4, 5] }, List Int, fun x => U.UO e x, fun x0 x => U.Zv e  x, fun x => 0, fun p => ∀ x, p x, fun _ h => h⟩
def afK (e : Event) : Vc.Loop := ⟨{ keep := [5] }, List Int, fun x => U.Hz e x, fun x0 x => U.Tm e  x, fun x => 0, fun p => ∀ x, p x, fun _ h => h⟩
def O8 (e : Event) : Vc.Loop := ⟨{ keep := [1, 4, 5, 6] }, List Int × Int, fun x => U.jL e x.1 x.2, fun x0 x => U.oN e  x.1 x.2, fun x => (U.aT e).length - x.2.toNat, fun p => ∀ x, p x, fun _ h => h⟩
def O9 (e : Event) : Vc.Loop := ⟨{ keep := [1, 4, 5, 7] }, List Int × Int, fun x => U.jM e x.1 x.2, fun x0 x => U.oO e  x.1 x.2, fun x => (U.aJ e).length - x.2.toNat, fun p => ∀ x, p x, fun _ h => h⟩
def Pe (e : Event) : Vc.Loop := ⟨{ keep := [1, 4, 5, 8, 9] }, List Int × Int, fun x => U.fQ e x.1 x.2, fun x0 x => U.kS e  x.1 x.2, fun x => 4 - x.2.toNat, fun p => ∀ x, p x, fun _ h => h⟩
def Bf (n : Int) (m : Int) : Done := rB (U.within n m)
def JQ : Vc.Sum := .pure [.int .i64, .int .i64] false fun x => Bf x.1 x.2
def JR (n : Int) (m : Int) : Nat -> List V -> Nat -> Option Vc.Loop := dw
def uH : List (Nat × Ent) := (43, .sum JQ) :: zA
def Ey (k : Int) : Done := ⟨[], .one (.str (U.parts k)), [], []⟩
def Nq : Vc.Sum := .pure [.int .i64] false fun x => Ey x
def Nr (k : Int) : Nat -> List V -> Nat -> Option Vc.Loop := dw
def xJ : List (Nat × Ent) := (26, .sum Nq) :: uH
def Ji (l : List Int) : Done := rB (U.qh l)
def Tz : Vc.Sum := .pure [rY] false fun x => Ji x
def TA (l : List Int) : Nat -> List V -> Nat -> Option Vc.Loop := fun f v k => cond (Nat.beq f 58 && Nat.beq k 2) (some (WE l)) <| none
def CW : List (Nat × Ent) := (58, .sum Tz) :: xJ
def Ez (r : Range) : Done := rB (U.badR r)
def Ns : Vc.Sum := .pure [gQ] false fun x => Ez x
def Nu (r : Range) : Nat -> List V -> Nat -> Option Vc.Loop := dw
def xK : List (Nat × Ent) := (70, .sum Ns) :: CW
def Jj (l : List Range) : Done := rB (U.jh l)
def TB : Vc.Sum := .pure [kE] false fun x => Jj x
def TF (l : List Range) : Nat -> List V -> Nat -> Option Vc.Loop := fun f v k => cond (Nat.beq f 78 && Nat.beq k 2) (some (Zw l)) <| none
def CX : List (Nat × Ent) := (59, .sum TB) :: xK
def Gp (f : Int) : Done := rB (U.qP f)
def P9 : Vc.Sum := .pure [.int .i64] false fun x => Gp x
def Qa (f : Int) : Nat -> List V -> Nat -> Option Vc.Loop := dw
def zB : List (Nat × Ent) := (60, .sum P9) :: CX
def tY (e : Event) (c : Int) : Done := ⟨[(U.cO e).length <= 1000000000000, (U.eTo e).length <= 1000000000000], .tup [one (.bool (U.good c e)), one (.bool (U.none_ c e))], [], []⟩
def Qb : Vc.Sum := .pure [bI, .int .u8] false fun x => tY x.1 x.2
def Qc (e : Event) (c : Int) : Nat -> List V -> Nat -> Option Vc.Loop := dw
def zC : List (Nat × Ent) := (44, .sum Qb) :: zB
def qV (e : Event) : Done := ⟨[(U.cO e).length <= 1000000000000, (U.eTo e).length <= 1000000000000], .one (.bool (U.aX e)), [], []⟩
def Nv : Vc.Sum := .pure [bI] false fun x => qV x
def Nw (e : Event) : Nat -> List V -> Nat -> Option Vc.Loop := fun f v k => cond (Nat.beq f 25 && Nat.beq k 5) (some (Tn e)) <| none
def xM : List (Nat × Ent) := (25, .sum Nv) :: zC
def sG (b : List Int) (e : Event) (c : Int) : Done := ⟨[b.length <= 100000000000, (U.aT e).length <= 1000000000, (U.aJ e).length <= 1000000000], .one (.psl true (.int .u8) (b ++ U.jF c e)), [], []⟩
def TG : Vc.Sum := .pure [aG, bI, .int .u8] false fun x => sG x.1 x.2.1 x.2.2
def TJ (b : List Int) (e : Event) (c : Int) : Nat -> List V -> Nat -> Option Vc.Loop := fun f v k => cond (Nat.beq f 27 && Nat.beq k 11) (some (UQ b e)) <| none
def CY : List (Nat × Ent) := (27, .sum TG) :: xM
def oZ (e : Event) : Done := ⟨[(U.cO e).length <= 1000000000000, (U.eTo e).length <= 1000000000000], rBE (U.dP e), [], []⟩
def JU : Vc.Sum := .pure [bI] false fun x => oZ x
def JV (e : Event) : Nat -> List V -> Nat -> Option Vc.Loop := fun f v k => cond (Nat.beq f 12 && Nat.beq k 5) (some (QJ e)) <| none
def uI : List (Nat × Ent) := (12, .sum JU) :: CY
def uJ (b : List Int) : Done := ⟨[b.length <= 1000000000], .tup [.of false bI (U.bC b).1, one (.int .i64 (U.bC b).2)], [], []⟩
def JW : Vc.Sum := .pure [aG] true fun x => uJ x
def JX (b : List Int) : Nat -> List V -> Nat -> Option Vc.Loop := fun f v k => cond (Nat.beq f 36 && Nat.beq k 6) (some (QK b)) <| cond (Nat.beq f 53 && Nat.beq k 7) (some (UR)) <| cond (Nat.beq f 53 && Nat.beq k 12) (some (Tq)) <| none
def uK : List (Nat × Ent) := (36, .sum JW) :: uI
def EC (f : Int) : Done := rB (U.qP f)
def Ny : Vc.Sum := .pure [.int .i64] false fun x => EC x
def Nz (f : Int) : Nat -> List V -> Nat -> Option Vc.Loop := dw
def xO : List (Nat × Ent) := (41, .sum Ny) :: uK
def Bg (l : List Int) : Done := rB (U.rise 0 l)
def JY : Vc.Sum := .pure [rY] false fun x => Bg x
def JZ (l : List Int) : Nat -> List V -> Nat -> Option Vc.Loop := fun f v k => cond (Nat.beq f 38 && Nat.beq k 2) (some (QL l)) <| none
def uM : List (Nat × Ent) := (38, .sum JY) :: xO
def ED (l : List Range) : Done := rB (decide (l.length >= 1) && U.jh l)
def NC : Vc.Sum := .pure [kE] false fun x => ED x
def ND (l : List Range) : Nat -> List V -> Nat -> Option Vc.Loop := fun f v k => cond (Nat.beq f 56 && Nat.beq k 2) (some (Tt l)) <| none
def xP : List (Nat × Ent) := (56, .sum NC) :: uM
def EF (k : Int) : Done := ⟨[], .one (.str (U.parts k)), [], []⟩
def NG : Vc.Sum := .pure [.int .i64] false fun x => EF x
def NH (k : Int) : Nat -> List V -> Nat -> Option Vc.Loop := dw
def xQ : List (Nat × Ent) := (21, .sum NG) :: xP
def Gq (n : Int) : Done := rB (U.within n 1099511627776)
def Qd : Vc.Sum := .pure [.int .i64] false fun x => Gq x
def Qe (n : Int) : Nat -> List V -> Nat -> Option Vc.Loop := dw
def zD : List (Nat × Ent) := (37, .sum Qd) :: xQ
def Jk (l : List Range) : Done := rB (U.jh l)
def TK : Vc.Sum := .pure [kE] false fun x => Jk x
def TL (l : List Range) : Nat -> List V -> Nat -> Option Vc.Loop := dw
def CZ : List (Nat × Ent) := (40, .sum TK) :: zD
def Jl (s : List Int) (c : Int) : Done := rB (decide (aA s c >= 0))
def TM : Vc.Sum := .pure [.str, .int .u8] false fun x => Jl x.1 x.2
def TN (s : List Int) (c : Int) : Nat -> List V -> Nat -> Option Vc.Loop := fun f v k => cond (Nat.beq f 23 && Nat.beq k 2) (some (WG s c)) <| none
def C9 : List (Nat × Ent) := (23, .sum TM) :: CZ
def qW (e : Event) : Done := ⟨[(U.cO e).length <= 1000000000000, (U.eTo e).length <= 1000000000000], .one (.bool (U.aX e)), [], []⟩
def NI : Vc.Sum := .pure [bI] false fun x => qW x
def NJ (e : Event) : Nat -> List V -> Nat -> Option Vc.Loop := fun f v k => cond (Nat.beq f 20 && Nat.beq k 8) (some (Tv e)) <| none
def xR : List (Nat × Ent) := (20, .sum NI) :: C9
def o7 (e : Event) : Done := ⟨[(U.cO e).length <= 1000000000000, (U.eTo e).length <= 1000000000000], rBE (U.dP e), [], []⟩
def J3 : Vc.Sum := .pure [bI] false fun x => o7 x
def J4 (e : Event) : Nat -> List V -> Nat -> Option Vc.Loop := fun f v k => cond (Nat.beq f 10 && Nat.beq k 1000007) (some (agr e)) <| cond (Nat.beq f 10 && Nat.beq k 1000009) (some (ags e)) <| cond (Nat.beq f 10 && Nat.beq k 1000015) (some (afH e)) <| cond (Nat.beq f 10 && Nat.beq k 1000021) (some (afI e)) <| cond (Nat.beq f 10 && Nat.beq k 1000027) (some (afJ e)) <| cond (Nat.beq f 10 && Nat.beq k 1000029) (some (afK e)) <| cond (Nat.beq f 10 && Nat.beq k 12) (some (O8 e)) <| cond (Nat.beq f 10 && Nat.beq k 18) (some (O9 e)) <| cond (Nat.beq f 10 && Nat.beq k 23) (some (Pe e)) <| none
def uN : List (Nat × Ent) := (10, .sum J3) :: xR
def EG (e : Event) : Done := rB (U.great e)
def NK : Vc.Sum := .pure [bI] false fun x => EG x
def NM (e : Event) : Nat -> List V -> Nat -> Option Vc.Loop := dw
def xU : List (Nat × Ent) := (6, .sum NK) :: uN
end Go.Proofs.YtkhdeldobekciaaDoor
