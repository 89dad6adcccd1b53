/- What functions of this seat compute, in plain Lean. -/
import Derived.Test.YtkhdeldobekciaaGreatDoorMD
set_option linter.unusedVariables false
set_option linter.unusedSimpArgs false
set_option maxRecDepth 100000
namespace Go.Proofs.YtkhdeldobekciaaGreatDoor
open Go.Vc
abbrev gV : Ty := .pair (.int .i64) (.int .i64)
abbrev kM : Ty := .slice gV
abbrev bD : Ty := .pair (.int .i64) (.pair (.int .i64) (.pair .str (.pair .str (.pair uO (.pair kM (.pair (.int .i64) (.pair (.int .i64) (.pair (.int .i64) (.pair (.int .i64) aF)))))))))
abbrev Range := Int × Int
abbrev Event := Int × Int × List Int × List Int × List Int × List Range × Int × Int × Int × Int × List Int
namespace U
def bQ (e : Event) : Int := e.1
def eAt (e : Event) : Int := e.2.1
def cO (e : Event) : List Int := e.2.2.1
def eTo (e : Event) : List Int := e.2.2.2.1
def aW (e : Event) : List Int := e.2.2.2.2.1
def aN (e : Event) : List Range := e.2.2.2.2.2.1
def jJ (e : Event) : Int := e.2.2.2.2.2.2.1
def jD (e : Event) : Int := e.2.2.2.2.2.2.2.1
def mO (e : Event) : Int := e.2.2.2.2.2.2.2.2.1
def eN (e : Event) : Int := e.2.2.2.2.2.2.2.2.2.1
def gX (e : Event) : List Int := e.2.2.2.2.2.2.2.2.2.2
def Df : List (List Int) := [[], [98], [98], [98, 116], [98], [98], [98, 102, 100, 121], [98, 105, 109, 102], [98, 116, 105], [98, 105], [110], [98, 110], [98, 115], [110], [105]]
def order : List Int := [98, 116, 105, 115, 109, 102, 100, 110, 121]
def parts (k : Int) : List Int := cond (decide (k < 0) || decide (k >= 15)) [] (Df.getD k.toNat [])
def within (n m : Int) : Bool := decide (n >= 0) && decide (n <= m)
def rise : Int -> List Int -> Bool
 | _, [] => true
 | p, x :: r => (decide (p < x) && decide (x <= 4294967295)) && rise x r
def rH (l : List Int) : Bool := rise 0 l && (decide (l.length >= 1) && decide (l.length <= 60))
def badR (r : Range) : Bool := !(within r.1 4294967295) || !(within r.2 4294967295)
def jm (l : List Range) : Bool := decide (l.length <= 60) && !(l.any badR)
def sZ (f : Int) : Bool := decide (0 <= f) && decide (f <= 31)
def good (c : Int) (e : Event) : Bool :=
 cond (decide (c = 98)) (l9 (cO e)) (cond (decide (c = 116)) (l9 (eTo e)) (cond (decide (c = 105)) (rH (aW e)) (cond (decide (c = 115)) (jm (aN e)) (cond (decide (c = 109)) (within (jJ e) 2) (cond (decide (c = 102)) (sZ (jD e)) (cond (decide (c = 100)) (within (mO e) 1099511627776) (cond (decide (c = 110)) (within (eN e) 1099511627776) (decide ((gX e).length <= 2000)))))))))
def none_ (c : Int) (e : Event) : Bool :=
 cond (decide (c = 98)) (decide (cO e = [])) (cond (decide (c = 116)) (decide (eTo e = [])) (cond (decide (c = 105)) (decide (aW e = [])) (cond (decide (c = 115)) (decide (aN e = [])) (cond (decide (c = 109)) (decide (jJ e = 0)) (cond (decide (c = 102)) (decide (jD e = 0)) (cond (decide (c = 100)) (decide (mO e = 0)) (cond (decide (c = 110)) (decide (eN e = 0)) (decide (gX e = [])))))))))
def okC (p : List Int) (e : Event) (c : Int) : Bool := cond (decide (aA p c < 0)) (none_ c e) (good c e)
def bg (e : Event) : Bool := !(decide (parts (bQ e) = [])) && (within (eAt e) 1099511627776 && order.all (okC (parts (bQ e)) e))
def pairs (l : List Range) : List Int := l.flatMap fun r => num1 r.1 ++ num1 r.2
def jO (c : Int) (e : Event) : List Int :=
 cond (decide (c = 98)) (text1 (cO e)) (cond (decide (c = 116)) (text1 (eTo e)) (cond (decide (c = 105)) (num1 (aW e).length ++ nums (aW e)) (cond (decide (c = 115)) (num1 (aN e).length ++ pairs (aN e)) (cond (decide (c = 109)) (num1 (jJ e)) (cond (decide (c = 102)) (num1 (jD e)) (cond (decide (c = 100)) (num1 (mO e)) (cond (decide (c = 110)) (num1 (eN e)) (text1 (gX e)))))))))
def qc (e : Event) : List Int := num1 (bQ e) ++ (num1 (eAt e) ++ (parts (bQ e)).flatMap fun c => jO c e)
def jE (e : Event) : List Int × Int := cond (bg e) (qc e, 0) ([], 1)
def zeroE : Event := (0, 0, [], [], [], [], 0, 0, 0, 0, [])
def fV : Nat -> RS -> List Int × RS
 | 0, r => ([], r)
 | n + 1, r => let x := ak r; let y := fV n x.2; (x.1 :: y.1, y.2)
def dW : Nat -> RS -> List Range × RS
 | 0, r => ([], r)
 | n + 1, r => let x := ak r; let z := ak x.2; let y := dW n z.2; ((x.1, z.1) :: y.1, y.2)
def eP (c : Int) (x : RS × Event) : RS × Event :=
 let e := x.2
 cond (decide (c = 98)) ((aS x.1).2, bQ e, eAt e, (aS x.1).1, eTo e, aW e, aN e, jJ e, jD e, mO e, eN e, gX e)
 (cond (decide (c = 116)) ((aS x.1).2, bQ e, eAt e, cO e, (aS x.1).1, aW e, aN e, jJ e, jD e, mO e, eN e, gX e)
 (cond (decide (c = 105)) ((fV (aH 60 x.1).1.toNat (aH 60 x.1).2).2, bQ e, eAt e, cO e, eTo e, aW e ++ (fV (aH 60 x.1).1.toNat (aH 60 x.1).2).1, aN e, jJ e, jD e, mO e, eN e, gX e)
 (cond (decide (c = 115)) ((dW (aH 60 x.1).1.toNat (aH 60 x.1).2).2, bQ e, eAt e, cO e, eTo e, aW e, aN e ++ (dW (aH 60 x.1).1.toNat (aH 60 x.1).2).1, jJ e, jD e, mO e, eN e, gX e)
 (cond (decide (c = 109)) ((ak x.1).2, bQ e, eAt e, cO e, eTo e, aW e, aN e, (ak x.1).1, jD e, mO e, eN e, gX e)
 (cond (decide (c = 102)) ((ak x.1).2, bQ e, eAt e, cO e, eTo e, aW e, aN e, jJ e, (ak x.1).1, mO e, eN e, gX e)
 (cond (decide (c = 100)) ((ak x.1).2, bQ e, eAt e, cO e, eTo e, aW e, aN e, jJ e, jD e, (ak x.1).1, eN e, gX e)
 (cond (decide (c = 110)) ((ak x.1).2, bQ e, eAt e, cO e, eTo e, aW e, aN e, jJ e, jD e, mO e, (ak x.1).1, gX e)
 (cond (decide (c = 121)) ((aS x.1).2, bQ e, eAt e, cO e, eTo e, aW e, aN e, jJ e, jD e, mO e, eN e, (aS x.1).1) x))))))))
def LV (b : List Int) : RS × Event := let k := ak (b, 0); let a := ak k.2; (gG (decide (parts k.1 = [])) a.2, k.1, a.1, [], [], [], [], 0, 0, 0, 0, [])
def xA (b : List Int) : RS × Event := (parts (ak (b, 0)).1).foldl (fun x c => eP c x) (LV b)
def P6 (b : List Int) : Int := let f := mD (xA b).1; cond (decide (f = 0) && !(bg (xA b).2)) 3 f
def bH (b : List Int) : Event × Int := cond (decide (P6 b = 0)) ((xA b).2, 0) (zeroE, P6 b)
def Jm (p : List Int) (e : Event) (c : Int) : List Int := cond (decide (aA p c >= 0)) (jO c e) []
def jP (n : Nat) (e : Event) : List Int := num1 (bQ e) ++ (num1 (eAt e) ++ (order.take n).flatMap (Jm (parts (bQ e)) e))
def mP (l : List Int) (i : Int) : Int := cond (decide (i = 0)) 0 (l.getD (i - 1).toNat 0)
def great (e : Event) : Bool := decide ((cO e).length > 500) || (decide ((eTo e).length > 500) || (decide ((aW e).length > 200) || (decide ((aN e).length > 200) || decide ((gX e).length > 5000))))
end U
abbrev rBE (x : List Int × Int) : SV := .tup [one (.psl true (.int .u8) x.1), one (.int .i64 x.2)]
namespace U
def qA (l : List Int) (i : Int) : St2 := ⟨⟨[sL false (.int .i64) l] ++ U.n 4 ++ [sL false (.int .i64) l] ++ [sI l.length] ++ [sI i] ++ U.n 32, [], []⟩, 0, []⟩
def tq (l : List Int)  (i : Int) : Prop := at_ l i /\ 0 <= mP l i /\ rise 0 l = rise (mP l i) (l.drop i.toNat)
def tu (l : List Range) (i : Int) : St2 := ⟨⟨[sL false gV l] ++ [sF 94 []] ++ U.n 5 ++ [sI l.length] ++ [sI i] ++ U.n 10, [], []⟩, 0, []⟩
def vT (l : List Range)  (i : Int) : Prop := at_ l i /\ (l.drop i.toNat).any badR = l.any badR
def iR (e : Event) (i : Int) : St2 := ⟨⟨U.n 1 ++ [sP 0 0] ++ U.n 1 ++ [sS (parts e.1)] ++ U.n 16 ++ [own 1] ++ [sI 9] ++ [sI i] ++ U.n 17, [], [(0, .obj [.int .i64 e.1, .int .i64 e.2.1, .str e.2.2.1, .str e.2.2.2.1, .psl false (.int .i64) e.2.2.2.2.1, .psl false gV e.2.2.2.2.2.1, .int .i64 e.2.2.2.2.2.2.1, .int .i64 e.2.2.2.2.2.2.2.1, .int .i64 e.2.2.2.2.2.2.2.2.1, .int .i64 e.2.2.2.2.2.2.2.2.2.1, .psl false (.int .u8) e.2.2.2.2.2.2.2.2.2.2]), (1, .row 5 (.int .u8) true false order)]⟩, 2, []⟩
def kN (e : Event)  (i : Int) : Prop := 0 <= i /\ i <= 9 /\ parts e.1 ≠ [] /\ within (eAt e) 1099511627776 = true /\ (order.drop i.toNat).all (okC (parts e.1) e) = order.all (okC (parts e.1) e)
def oI (b : List Int) (e : Event) (o : List Int) (i : Int) : St2 := ⟨⟨[sL true (.int .u8) o] ++ U.n 43 ++ [sL false gV (aN e)] ++ [sI (aN e).length] ++ [sI i] ++ U.n 46, [], []⟩, 0, []⟩
def qB (b : List Int) (e : Event)  (o : List Int) (i : Int) : Prop := at_ (aN e) i /\ o = b ++ (num1 (aN e).length ++ pairs ((aN e).take i.toNat))
def kX (e : Event) (o : List Int) (i : Int) : St2 := ⟨⟨U.n 1 ++ [sP 0 0] ++ U.n 2 ++ [sL true (.int .u8) o] ++ U.n 14 ++ [own 1] ++ [sI (parts e.1).length] ++ [sI i] ++ U.n 9, [], [(0, .obj [.int .i64 e.1, .int .i64 e.2.1, .str e.2.2.1, .str e.2.2.2.1, .psl false (.int .i64) e.2.2.2.2.1, .psl false gV e.2.2.2.2.2.1, .int .i64 e.2.2.2.2.2.2.1, .int .i64 e.2.2.2.2.2.2.2.1, .int .i64 e.2.2.2.2.2.2.2.2.1, .int .i64 e.2.2.2.2.2.2.2.2.2.1, .psl false (.int .u8) e.2.2.2.2.2.2.2.2.2.2]), (1, .row 5 (.int .u8) true false (parts e.1))]⟩, 2, []⟩
def mQ (e : Event)  (o : List Int) (i : Int) : Prop := at_ (parts e.1) i /\ bg e = true /\ o = num1 (bQ e) ++ (num1 (eAt e) ++ ((parts e.1).take i.toNat).flatMap fun c => jO c e)
def uP  (l : List Int) (r : Int) (e : Event) (p : List Int) (n : Int) (i : Int) : St2 := ⟨⟨[sP 1 0] ++ [sP 2 0] ++ U.n 24 ++ [sI n] ++ [sI i] ++ U.n 72, [], [(0, .obj [.int .i64 0, .int .i64 0, .str [], .str [], .bG, .bG, .int .i64 0, .int .i64 0, .int .i64 0, .int .i64 0, .bG]), (1, .obj [.psl false tU8 l, .int .i64 r]), (2, .obj [.int .i64 e.1, .int .i64 e.2.1, .str e.2.2.1, .str e.2.2.2.1, .own 6, .own 5, .int .i64 e.2.2.2.2.2.2.1, .int .i64 e.2.2.2.2.2.2.2.1, .int .i64 e.2.2.2.2.2.2.2.2.1, .int .i64 e.2.2.2.2.2.2.2.2.2.1, .psl false (.int .u8) e.2.2.2.2.2.2.2.2.2.2]), (3, .row 5 (.int .u8) true false p), (4, .dead), (5, .row 71 gV true true (aN e)), (6, .row 3 (.int .i64) true true (aW e))]⟩, 7, []⟩
def wG  (l' : List Int) (r' : Int) (e' : Event) (p' : List Int) (n' : Int) (i' : Int) (l : List Int) (r : Int) (e : Event) (p : List Int) (n : Int) (i : Int) : Prop :=  n = n' /\ p = p' /\ 0 <= i /\ i <= n /\ n <= 60 /\ i' = 0 /\ (aW e).length = (aW e').length + i.toNat /\ e = (bQ e', eAt e', cO e', eTo e', aW e, aN e', jJ e', jD e', mO e', eN e', gX e') /\ aW e' ++ (fV n.toNat (l', r')).1 = aW e ++ (fV (n - i).toNat (l, r)).1 /\ (fV n.toNat (l', r')).2 = (fV (n - i).toNat (l, r)).2
def rJ  (l : List Int) (r : Int) (e : Event) (p : List Int) (n : Int) (i : Int) : St2 := ⟨⟨[sP 1 0] ++ [sP 2 0] ++ U.n 42 ++ [sI n] ++ [sI i] ++ U.n 54, [], [(0, .obj [.int .i64 0, .int .i64 0, .str [], .str [], .bG, .bG, .int .i64 0, .int .i64 0, .int .i64 0, .int .i64 0, .bG]), (1, .obj [.psl false tU8 l, .int .i64 r]), (2, .obj [.int .i64 e.1, .int .i64 e.2.1, .str e.2.2.1, .str e.2.2.2.1, .own 4, .own 6, .int .i64 e.2.2.2.2.2.2.1, .int .i64 e.2.2.2.2.2.2.2.1, .int .i64 e.2.2.2.2.2.2.2.2.1, .int .i64 e.2.2.2.2.2.2.2.2.2.1, .psl false (.int .u8) e.2.2.2.2.2.2.2.2.2.2]), (3, .row 5 (.int .u8) true false p), (4, .row 3 (.int .i64) true true (aW e)), (5, .dead), (6, .row 71 gV true true (aN e))]⟩, 7, []⟩
def uQ  (l' : List Int) (r' : Int) (e' : Event) (p' : List Int) (n' : Int) (i' : Int) (l : List Int) (r : Int) (e : Event) (p : List Int) (n : Int) (i : Int) : Prop :=  n = n' /\ p = p' /\ 0 <= i /\ i <= n /\ n <= 60 /\ i' = 0 /\ (aN e).length = (aN e').length + i.toNat /\ e = (bQ e', eAt e', cO e', eTo e', aW e', aN e, jJ e', jD e', mO e', eN e', gX e') /\ aN e' ++ (dW n.toNat (l', r')).1 = aN e ++ (dW (n - i).toNat (l, r)).1 /\ (dW n.toNat (l', r')).2 = (dW (n - i).toNat (l, r)).2
def aU (b : List Int) (l : List Int) (r : Int) (e : Event) (i : Int) : St2 := ⟨⟨U.n 2 ++ [sP 0 0] ++ U.n 1 ++ [sP 1 0] ++ [sP 2 0] ++ U.n 19 ++ [own 3] ++ [sI (parts (ak (b, 0)).1).length] ++ [sI i] ++ U.n 21, [], [(0, .obj [.int .i64 0, .int .i64 0, .str [], .str [], .bG, .bG, .int .i64 0, .int .i64 0, .int .i64 0, .int .i64 0, .bG]), (1, .obj [.psl false tU8 l, .int .i64 r]), (2, .obj [.int .i64 e.1, .int .i64 e.2.1, .str e.2.2.1, .str e.2.2.2.1, .own 4, .own 5, .int .i64 e.2.2.2.2.2.2.1, .int .i64 e.2.2.2.2.2.2.2.1, .int .i64 e.2.2.2.2.2.2.2.2.1, .int .i64 e.2.2.2.2.2.2.2.2.2.1, .psl false (.int .u8) e.2.2.2.2.2.2.2.2.2.2]), (3, .row 5 (.int .u8) true false (parts (ak (b, 0)).1)), (4, .row 3 (.int .i64) true true (aW e)), (5, .row 71 gV true true (aN e))]⟩, 6, []⟩
def dA (b : List Int)  (l : List Int) (r : Int) (e : Event) (i : Int) : Prop := at_ (parts (ak (b, 0)).1) i /\ ((l, r), e) = ((parts (ak (b, 0)).1).take i.toNat).foldl (fun x c => eP c x) (LV b)
def kY (l : List Int) (i : Int) : St2 := ⟨⟨[sL false (.int .i64) l] ++ U.n 2 ++ [sI i] ++ U.n 34, [], []⟩, 0, []⟩
def mV (l : List Int)  (i : Int) : Prop := at_ l i /\ 0 <= mP l i /\ rise 0 l = rise (mP l i) (l.drop i.toNat)
def mW (l : List Range) (i : Int) : St2 := ⟨⟨[sL false gV l] ++ U.n 2 ++ [sI i] ++ U.n 48, [], []⟩, 0, []⟩
def oJ (l : List Range)  (i : Int) : Prop := at_ l i /\ i <= 61 /\ (l.drop i.toNat).any badR = l.any badR
def qC (s : List Int) (c : Int) (i : Int) : St2 := ⟨⟨[sS s] ++ [sK .u8 c] ++ U.n 3 ++ [sI i] ++ U.n 11, [], []⟩, 0, []⟩
def tC (s : List Int) (c : Int)  (i : Int) : Prop := at_ s i /\ decide (aA s c >= 0) = decide (aA (s.drop i.toNat) c >= 0)
def mX (e : Event) (gl : List Bool) (nl : List Bool) (i : Int) : St2 := ⟨⟨U.n 3 ++ [sS (parts e.1)] ++ U.n 1 ++ [sP 0 0] ++ [sP 1 0] ++ [sI i] ++ U.n 116, [], [(0, .obj [.arr 9 true .bool gl]), (1, .obj [.arr 9 true .bool nl])]⟩, 2, []⟩
def uS (e : Event)  (gl : List Bool) (nl : List Bool) (i : Int) : Prop := 0 <= i /\ i <= 9 /\ gl = order.map (fun c => good c e) /\ nl = order.map (fun c => none_ c e) /\ parts e.1 ≠ [] /\ within (eAt e) 1099511627776 = true /\ (order.drop i.toNat).all (okC (parts e.1) e) = order.all (okC (parts e.1) e)
def P7 (e : Event) (o : List Int) : St2 := ⟨⟨U.n 1 ++ [sP 0 0] ++ U.n 2 ++ [sS (parts e.1)] ++ [sL true (.int .u8) o] ++ U.n 108, [], [(0, .obj [.int .i64 e.1, .int .i64 e.2.1, .str e.2.2.1, .str e.2.2.2.1, .psl false (.int .i64) e.2.2.2.2.1, .psl false gV e.2.2.2.2.2.1, .int .i64 e.2.2.2.2.2.2.1, .int .i64 e.2.2.2.2.2.2.2.1, .int .i64 e.2.2.2.2.2.2.2.2.1, .int .i64 e.2.2.2.2.2.2.2.2.2.1, .psl false (.int .u8) e.2.2.2.2.2.2.2.2.2.2])]⟩, 1, []⟩
def aaP (e : Event)  (o : List Int) : Prop := bg e = true /\ o = jP 1 e
def P8 (e : Event) (o : List Int) : St2 := ⟨⟨U.n 1 ++ [sP 0 0] ++ U.n 2 ++ [sS (parts e.1)] ++ [sL true (.int .u8) o] ++ U.n 108, [], [(0, .obj [.int .i64 e.1, .int .i64 e.2.1, .str e.2.2.1, .str e.2.2.2.1, .psl false (.int .i64) e.2.2.2.2.1, .psl false gV e.2.2.2.2.2.1, .int .i64 e.2.2.2.2.2.2.1, .int .i64 e.2.2.2.2.2.2.2.1, .int .i64 e.2.2.2.2.2.2.2.2.1, .int .i64 e.2.2.2.2.2.2.2.2.2.1, .psl false (.int .u8) e.2.2.2.2.2.2.2.2.2.2])]⟩, 1, []⟩
def aaQ (e : Event)  (o : List Int) : Prop := bg e = true /\ o = jP 2 e
def J7 (e : Event) (o : List Int) : St2 := ⟨⟨U.n 1 ++ [sP 0 0] ++ U.n 2 ++ [sS (parts e.1)] ++ [sL true (.int .u8) o] ++ U.n 108, [], [(0, .obj [.int .i64 e.1, .int .i64 e.2.1, .str e.2.2.1, .str e.2.2.2.1, .psl false (.int .i64) e.2.2.2.2.1, .psl false gV e.2.2.2.2.2.1, .int .i64 e.2.2.2.2.2.2.1, .int .i64 e.2.2.2.2.2.2.2.1, .int .i64 e.2.2.2.2.2.2.2.2.1, .int .i64 e.2.2.2.2.2.2.2.2.2.1, .psl false (.int .u8) e.2.2.2.2.2.2.2.2.2.2])]⟩, 1, []⟩
def WE (e : Event)  (o : List Int) : Prop := bg e = true /\ o = jP 3 e
def J8 (e : Event) (o : List Int) : St2 := ⟨⟨U.n 1 ++ [sP 0 0] ++ U.n 2 ++ [sS (parts e.1)] ++ [sL true (.int .u8) o] ++ U.n 108, [], [(0, .obj [.int .i64 e.1, .int .i64 e.2.1, .str e.2.2.1, .str e.2.2.2.1, .psl false (.int .i64) e.2.2.2.2.1, .psl false gV e.2.2.2.2.2.1, .int .i64 e.2.2.2.2.2.2.1, .int .i64 e.2.2.2.2.2.2.2.1, .int .i64 e.2.2.2.2.2.2.2.2.1, .int .i64 e.2.2.2.2.2.2.2.2.2.1, .psl false (.int .u8) e.2.2.2.2.2.2.2.2.2.2])]⟩, 1, []⟩
def WG (e : Event)  (o : List Int) : Prop := bg e = true /\ o = jP 4 e
def Ya (e : Event) (o : List Int) : St2 := ⟨⟨U.n 1 ++ [sP 0 0] ++ U.n 2 ++ [sS (parts e.1)] ++ [sL true (.int .u8) o] ++ U.n 108, [], [(0, .obj [.int .i64 e.1, .int .i64 e.2.1, .str e.2.2.1, .str e.2.2.2.1, .psl false (.int .i64) e.2.2.2.2.1, .psl false gV e.2.2.2.2.2.1, .int .i64 e.2.2.2.2.2.2.1, .int .i64 e.2.2.2.2.2.2.2.1, .int .i64 e.2.2.2.2.2.2.2.2.1, .int .i64 e.2.2.2.2.2.2.2.2.2.1, .psl false (.int .u8) e.2.2.2.2.2.2.2.2.2.2])]⟩, 1, []⟩
def acD (e : Event)  (o : List Int) : Prop := bg e = true /\ o = jP 8 e
def J9 (e : Event) (o : List Int) : St2 := ⟨⟨U.n 5 ++ [sL true (.int .u8) o] ++ U.n 108, [], []⟩, 0, []⟩
def WH (e : Event)  (o : List Int) : Prop := bg e = true /\ o = jP 9 e
def jT (e : Event) (o : List Int) (i : Int) : St2 := ⟨⟨U.n 1 ++ [sP 0 0] ++ U.n 2 ++ [sS (parts e.1)] ++ [sL true (.int .u8) o] ++ [sI i] ++ U.n 107, [], [(0, .obj [.int .i64 e.1, .int .i64 e.2.1, .str e.2.2.1, .str e.2.2.2.1, .psl false (.int .i64) e.2.2.2.2.1, .psl false gV e.2.2.2.2.2.1, .int .i64 e.2.2.2.2.2.2.1, .int .i64 e.2.2.2.2.2.2.2.1, .int .i64 e.2.2.2.2.2.2.2.2.1, .int .i64 e.2.2.2.2.2.2.2.2.2.1, .psl false (.int .u8) e.2.2.2.2.2.2.2.2.2.2])]⟩, 1, []⟩
def qg (e : Event)  (o : List Int) (i : Int) : Prop := bg e = true /\ aA (parts e.1) 105 >= 0 /\ at_ (aW e) i /\ o = jP 2 e ++ (num1 (aW e).length ++ nums ((aW e).take i.toNat))
def jU (e : Event) (o : List Int) (i : Int) : St2 := ⟨⟨U.n 1 ++ [sP 0 0] ++ U.n 2 ++ [sS (parts e.1)] ++ [sL true (.int .u8) o] ++ U.n 1 ++ [sI i] ++ U.n 106, [], [(0, .obj [.int .i64 e.1, .int .i64 e.2.1, .str e.2.2.1, .str e.2.2.2.1, .psl false (.int .i64) e.2.2.2.2.1, .psl false gV e.2.2.2.2.2.1, .int .i64 e.2.2.2.2.2.2.1, .int .i64 e.2.2.2.2.2.2.2.1, .int .i64 e.2.2.2.2.2.2.2.2.1, .int .i64 e.2.2.2.2.2.2.2.2.2.1, .psl false (.int .u8) e.2.2.2.2.2.2.2.2.2.2])]⟩, 1, []⟩
def qh (e : Event)  (o : List Int) (i : Int) : Prop := bg e = true /\ aA (parts e.1) 115 >= 0 /\ at_ (aN e) i /\ o = jP 3 e ++ (num1 (aN e).length ++ pairs ((aN e).take i.toNat))
def fZ (e : Event) (o : List Int) (i : Int) : St2 := ⟨⟨U.n 1 ++ [sP 0 0] ++ U.n 2 ++ [sS (parts e.1)] ++ [sL true (.int .u8) o] ++ U.n 2 ++ [sP 1 0] ++ [sI i] ++ U.n 104, [], [(0, .obj [.int .i64 e.1, .int .i64 e.2.1, .str e.2.2.1, .str e.2.2.2.1, .psl false (.int .i64) e.2.2.2.2.1, .psl false gV e.2.2.2.2.2.1, .int .i64 e.2.2.2.2.2.2.1, .int .i64 e.2.2.2.2.2.2.2.1, .int .i64 e.2.2.2.2.2.2.2.2.1, .int .i64 e.2.2.2.2.2.2.2.2.2.1, .psl false (.int .u8) e.2.2.2.2.2.2.2.2.2.2]), (1, .obj [.arr 4 true (.int .i64) [e.2.2.2.2.2.2.1, e.2.2.2.2.2.2.2.1, e.2.2.2.2.2.2.2.2.1, e.2.2.2.2.2.2.2.2.2.1]])]⟩, 2, []⟩
def kZ (e : Event)  (o : List Int) (i : Int) : Prop := bg e = true /\ 0 <= i /\ i <= 4 /\ o = jP (4 + i.toNat) e
end U
def Zy (l : List Int) : Vc.Loop := ⟨{ keep := [0, 5, 6, 7] }, Int, fun x => U.qA l x, fun x0 x => U.tq l  x, fun x => l.length - x.toNat⟩
def acE (l : List Range) : Vc.Loop := ⟨{ keep := [0, 1, 7, 8] }, Int, fun x => U.tu l x, fun x0 x => U.vT l  x, fun x => l.length - x.toNat⟩
def WI (e : Event) : Vc.Loop := ⟨{ keep := [1, 3, 20, 21, 22] }, Int, fun x => U.iR e x, fun x0 x => U.kN e  x, fun x => 9 - x.toNat⟩
def Yb (b : List Int) (e : Event) : Vc.Loop := ⟨{ keep := [0, 44, 45, 46] }, List Int × Int, fun x => U.oI b e x.1 x.2, fun x0 x => U.qB b e  x.1 x.2, fun x => (U.aN e).length - x.2.toNat⟩
def UM (e : Event) : Vc.Loop := ⟨{ keep := [1, 4, 19, 20, 21] }, List Int × Int, fun x => U.kX e x.1 x.2, fun x0 x => U.mQ e  x.1 x.2, fun x => (U.parts e.1).length - x.2.toNat⟩
def Yc  : Vc.Loop := ⟨{ keep := [0, 1, 26, 27], Vj := [(1, 4, 3)] }, List Int × Int × Event × List Int × Int × Int, fun x => U.uP  x.1 x.2.1 x.2.2.1 x.2.2.2.1 x.2.2.2.2.1 x.2.2.2.2.2, fun x0 x => U.wG  x0.1 x0.2.1 x0.2.2.1 x0.2.2.2.1 x0.2.2.2.2.1 x0.2.2.2.2.2 x.1 x.2.1 x.2.2.1 x.2.2.2.1 x.2.2.2.2.1 x.2.2.2.2.2, fun x => (x.2.2.2.2.1 - x.2.2.2.2.2).toNat⟩
def WJ  : Vc.Loop := ⟨{ keep := [0, 1, 44, 45], Vj := [(1, 5, 71)] }, List Int × Int × Event × List Int × Int × Int, fun x => U.rJ  x.1 x.2.1 x.2.2.1 x.2.2.2.1 x.2.2.2.2.1 x.2.2.2.2.2, fun x0 x => U.uQ  x0.1 x0.2.1 x0.2.2.1 x0.2.2.2.1 x0.2.2.2.2.1 x0.2.2.2.2.2 x.1 x.2.1 x.2.2.1 x.2.2.2.1 x.2.2.2.2.1 x.2.2.2.2.2, fun x => (x.2.2.2.2.1 - x.2.2.2.2.2).toNat⟩
def UN (b : List Int) : Vc.Loop := ⟨{ keep := [2, 4, 5, 25, 26, 27], Vj := [(5, 4, 3), (5, 5, 71)], afz := [(5, 10, 27)] }, List Int × Int × Event × Int, fun x => U.aU b x.1 x.2.1 x.2.2.1 x.2.2.2, fun x0 x => U.dA b  x.1 x.2.1 x.2.2.1 x.2.2.2, fun x => (U.parts (U.ak (b, 0)).1).length - x.2.2.2.toNat⟩
def UO (l : List Int) : Vc.Loop := ⟨{ keep := [0, 3] }, Int, fun x => U.kY l x, fun x0 x => U.mV l  x, fun x => l.length - x.toNat⟩
def WL (l : List Range) : Vc.Loop := ⟨{ keep := [0, 3] }, Int, fun x => U.mW l x, fun x0 x => U.oJ l  x, fun x => l.length - x.toNat⟩
def Zz (s : List Int) (c : Int) : Vc.Loop := ⟨{ keep := [0, 1, 5] }, Int, fun x => U.qC s c x, fun x0 x => U.tC s c  x, fun x => s.length - x.toNat⟩
def WM (e : Event) : Vc.Loop := ⟨{ keep := [3, 5, 6, 7] }, List Bool × List Bool × Int, fun x => U.mX e x.1 x.2.1 x.2.2, fun x0 x => U.uS e  x.1 x.2.1 x.2.2, fun x => 9 - x.2.2.toNat⟩
def akk (e : Event) : Vc.Loop := ⟨{ keep := [1, 4, 5] }, List Int, fun x => U.P7 e x, fun x0 x => U.aaP e  x, fun x => 0⟩
def akl (e : Event) : Vc.Loop := ⟨{ keep := [1, 4, 5] }, List Int, fun x => U.P8 e x, fun x0 x => U.aaQ e  x, fun x => 0⟩
def aju (e : Event) : Vc.Loop := ⟨{ keep := [1, 4, 5] }, List Int, fun x => U.J7 e x, fun x0 x => U.WE e  x, fun x => 0⟩
def ajv (e : Event) : Vc.Loop := ⟨{ keep := [1, 4, 5] }, List Int, fun x => U.J8 e x, fun x0 x => U.WG e  x, fun x => 0⟩
def ajw (e : Event) : Vc.Loop := ⟨{ keep := [1, 4, 5] }, List Int, fun x => U.Ya e x, fun x0 x => U.acD e  x, fun x => 0⟩
def ajx (e : Event) : Vc.Loop := ⟨{ keep := [5] }, List Int, fun x => U.J9 e x, fun x0 x => U.WH e  x, fun x => 0⟩
def Sr (e : Event) : Vc.Loop := ⟨{ keep := [1, 4, 5, 6] }, List Int × Int, fun x => U.jT e x.1 x.2, fun x0 x => U.qg e  x.1 x.2, fun x => (U.aW e).length - x.2.toNat⟩
def Sv (e : Event) : Vc.Loop := ⟨{ keep := [1, 4, 5, 7] }, List Int × Int, fun x => U.jU e x.1 x.2, fun x0 x => U.qh e  x.1 x.2, fun x => (U.aN e).length - x.2.toNat⟩
def Sz (e : Event) : Vc.Loop := ⟨{ keep := [1, 4, 5, 8, 9] }, List Int × Int, fun x => U.fZ e x.1 x.2, fun x0 x => U.kZ e  x.1 x.2, fun x => 4 - x.2.toNat⟩
def DI (n : Int) (m : Int) : Done := rB (U.within n m)
def MZ : Vc.Sum := .pure [.int .i64, .int .i64] false fun x => DI x.1 x.2
def Na (n : Int) (m : Int) : Nat -> List V -> Nat -> Option Vc.Loop := bZ
def wH : List (Nat × Ent) := (59, .sum MZ) :: Bl
def GX (k : Int) : Done := ⟨[], .one (.str (U.parts k)), [], []⟩
def P9 : Vc.Sum := .pure [.int .i64] false fun x => GX x
def Qa (k : Int) : Nat -> List V -> Nat -> Option Vc.Loop := bZ
def zi : List (Nat × Ent) := (35, .sum P9) :: wH
def LW (l : List Int) : Done := rB (U.rH l)
def WO : Vc.Sum := .pure [uO] false fun x => LW x
def WQ (l : List Int) : Nat -> List V -> Nat -> Option Vc.Loop := fun f v k => cond (Nat.beq f 80 && Nat.beq k 2) (some (Zy l)) <| none
def EU : List (Nat × Ent) := (80, .sum WO) :: zi
def GY (r : Range) : Done := rB (U.badR r)
def Qb : Vc.Sum := .pure [gV] false fun x => GY x
def Qc (r : Range) : Nat -> List V -> Nat -> Option Vc.Loop := bZ
def zk : List (Nat × Ent) := (94, .sum Qb) :: EU
def LX (l : List Range) : Done := rB (U.jm l)
def WR : Vc.Sum := .pure [kM] false fun x => LX x
def WS (l : List Range) : Nat -> List V -> Nat -> Option Vc.Loop := fun f v k => cond (Nat.beq f 102 && Nat.beq k 2) (some (acE l)) <| none
def EW : List (Nat × Ent) := (81, .sum WR) :: zk
def Jo (f : Int) : Done := rB (U.sZ f)
def TK : Vc.Sum := .pure [.int .i64] false fun x => Jo x
def TL (f : Int) : Nat -> List V -> Nat -> Option Vc.Loop := bZ
def Bo : List (Nat × Ent) := (82, .sum TK) :: EW
def vU (e : Event) (c : Int) : Done := ⟨[(U.cO e).length <= 1000000000000, (U.eTo e).length <= 1000000000000], .tup [one (.bool (U.good c e)), one (.bool (U.none_ c e))], [], []⟩
def TM : Vc.Sum := .pure [bD, .int .u8] false fun x => vU x.1 x.2
def TN (e : Event) (c : Int) : Nat -> List V -> Nat -> Option Vc.Loop := bZ
def Bq : List (Nat × Ent) := (60, .sum TM) :: Bo
def tH (e : Event) : Done := ⟨[(U.cO e).length <= 1000000000000, (U.eTo e).length <= 1000000000000], .one (.bool (U.bg e)), [], []⟩
def Qd : Vc.Sum := .pure [bD] false fun x => tH x
def Qe (e : Event) : Nat -> List V -> Nat -> Option Vc.Loop := fun f v k => cond (Nat.beq f 34 && Nat.beq k 5) (some (WI e)) <| none
def zl : List (Nat × Ent) := (34, .sum Qd) :: Bq
def uT (b : List Int) (e : Event) (c : Int) : Done := ⟨[b.length <= 100000000000, (U.aW e).length <= 1000000000, (U.aN e).length <= 1000000000], .one (.psl true (.int .u8) (b ++ U.jO c e)), [], []⟩
def WT : Vc.Sum := .pure [aF, bD, .int .u8] false fun x => uT x.1 x.2.1 x.2.2
def WU (b : List Int) (e : Event) (c : Int) : Nat -> List V -> Nat -> Option Vc.Loop := fun f v k => cond (Nat.beq f 36 && Nat.beq k 11) (some (Yb b e)) <| none
def EX : List (Nat × Ent) := (36, .sum WT) :: zl
def qE (e : Event) : Done := ⟨[(U.cO e).length <= 1000000000000, (U.eTo e).length <= 1000000000000], rBE (U.jE e), [], []⟩
def Nb : Vc.Sum := .pure [bD] false fun x => qE x
def Nc (e : Event) : Nat -> List V -> Nat -> Option Vc.Loop := fun f v k => cond (Nat.beq f 17 && Nat.beq k 5) (some (UM e)) <| none
def wI : List (Nat × Ent) := (17, .sum Nb) :: EX
def wJ (b : List Int) : Done := ⟨[b.length <= 1000000000], .tup [.of false bD (U.bH b).1, one (.int .i64 (U.bH b).2)], [], []⟩
def Nh : Vc.Sum := .pure [aF] true fun x => wJ x
def Nj (b : List Int) : Nat -> List V -> Nat -> Option Vc.Loop := fun f v k => cond (Nat.beq f 28 && Nat.beq k 6) (some (UN b)) <| cond (Nat.beq f 53 && Nat.beq k 7) (some (Yc)) <| cond (Nat.beq f 53 && Nat.beq k 12) (some (WJ)) <| none
def wK : List (Nat × Ent) := (28, .sum Nh) :: wI
def GZ (f : Int) : Done := rB (U.sZ f)
def Qg : Vc.Sum := .pure [.int .i64] false fun x => GZ x
def Qh (f : Int) : Nat -> List V -> Nat -> Option Vc.Loop := bZ
def zn : List (Nat × Ent) := (70, .sum Qg) :: wK
def DJ (l : List Int) : Done := rB (U.rise 0 l)
def Nk : Vc.Sum := .pure [uO] false fun x => DJ x
def Nl (l : List Int) : Nat -> List V -> Nat -> Option Vc.Loop := fun f v k => cond (Nat.beq f 67 && Nat.beq k 2) (some (UO l)) <| none
def wL : List (Nat × Ent) := (67, .sum Nk) :: zn
def G5 (l : List Range) : Done := rB (decide (l.length >= 1) && U.jm l)
def Qi : Vc.Sum := .pure [kM] false fun x => G5 x
def Qj (l : List Range) : Nat -> List V -> Nat -> Option Vc.Loop := fun f v k => cond (Nat.beq f 88 && Nat.beq k 2) (some (WL l)) <| none
def zo : List (Nat × Ent) := (88, .sum Qi) :: wL
def G6 (k : Int) : Done := ⟨[], .one (.str (U.parts k)), [], []⟩
def Qk : Vc.Sum := .pure [.int .i64] false fun x => G6 x
def Ql (k : Int) : Nat -> List V -> Nat -> Option Vc.Loop := bZ
def zq : List (Nat × Ent) := (42, .sum Qk) :: zo
def Jp (n : Int) : Done := rB (U.within n 1099511627776)
def TP : Vc.Sum := .pure [.int .i64] false fun x => Jp x
def TQ (n : Int) : Nat -> List V -> Nat -> Option Vc.Loop := bZ
def Bv : List (Nat × Ent) := (66, .sum TP) :: zq
def LY (l : List Range) : Done := rB (U.jm l)
def WV : Vc.Sum := .pure [kM] false fun x => LY x
def WW (l : List Range) : Nat -> List V -> Nat -> Option Vc.Loop := bZ
def EY : List (Nat × Ent) := (69, .sum WV) :: Bv
def LZ (s : List Int) (c : Int) : Done := rB (decide (aA s c >= 0))
def WX : Vc.Sum := .pure [.str, .int .u8] false fun x => LZ x.1 x.2
def WY (s : List Int) (c : Int) : Nat -> List V -> Nat -> Option Vc.Loop := fun f v k => cond (Nat.beq f 43 && Nat.beq k 2) (some (Zz s c)) <| none
def EZ : List (Nat × Ent) := (43, .sum WX) :: EY
def tJ (e : Event) : Done := ⟨[(U.cO e).length <= 1000000000000, (U.eTo e).length <= 1000000000000], .one (.bool (U.bg e)), [], []⟩
def Qm : Vc.Sum := .pure [bD] false fun x => tJ x
def Qn (e : Event) : Nat -> List V -> Nat -> Option Vc.Loop := fun f v k => cond (Nat.beq f 41 && Nat.beq k 8) (some (WM e)) <| none
def zu : List (Nat × Ent) := (41, .sum Qm) :: EZ
def qF (e : Event) : Done := ⟨[(U.cO e).length <= 1000000000000, (U.eTo e).length <= 1000000000000], rBE (U.jE e), [], []⟩
def Np : Vc.Sum := .pure [bD] false fun x => qF x
def Nq (e : Event) : Nat -> List V -> Nat -> Option Vc.Loop := fun f v k => cond (Nat.beq f 21 && Nat.beq k 1000007) (some (akk e)) <| cond (Nat.beq f 21 && Nat.beq k 1000009) (some (akl e)) <| cond (Nat.beq f 21 && Nat.beq k 1000015) (some (aju e)) <| cond (Nat.beq f 21 && Nat.beq k 1000021) (some (ajv e)) <| cond (Nat.beq f 21 && Nat.beq k 1000027) (some (ajw e)) <| cond (Nat.beq f 21 && Nat.beq k 1000029) (some (ajx e)) <| cond (Nat.beq f 21 && Nat.beq k 12) (some (Sr e)) <| cond (Nat.beq f 21 && Nat.beq k 18) (some (Sv e)) <| cond (Nat.beq f 21 && Nat.beq k 23) (some (Sz e)) <| none
def wM : List (Nat × Ent) := (21, .sum Np) :: zu
def G7 (e : Event) : Done := rB (U.great e)
def Qo : Vc.Sum := .pure [bD] false fun x => G7 x
def Qp (e : Event) : Nat -> List V -> Nat -> Option Vc.Loop := bZ
def zx : List (Nat × Ent) := (6, .sum Qo) :: wM
end Go.Proofs.YtkhdeldobekciaaGreatDoor
