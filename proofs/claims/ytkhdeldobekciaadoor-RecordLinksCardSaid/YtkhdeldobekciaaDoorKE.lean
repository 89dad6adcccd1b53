/- What functions of this seat compute, in plain Lean. -/
import Derived.Test.YtkhdeldobekciaaDoorKD
set_option linter.unusedVariables false
set_option linter.unusedSimpArgs false
set_option maxRecDepth 100000
namespace Go.Proofs.YtkhdeldobekciaaDoor
open Go.Vc
abbrev lC : Ty := .pair (.int .i64) (.int .i64)
abbrev jL : Ty := .slice lC
abbrev bQ : Ty := .pair (.int .i64) (.pair (.int .i64) (.pair .str (.pair .str (.pair kY (.pair jL (.pair (.int .i64) (.pair (.int .i64) (.pair (.int .i64) (.pair (.int .i64) aN)))))))))
abbrev Range := Int × Int
abbrev Event := Int × Int × List Int × List Int × List Int × List Range × Int × Int × Int × Int × List Int
namespace U
def aV (e : Event) : Int := e.1
def eAt (e : Event) : Int := e.2.1
def bJ (e : Event) : List Int := e.2.2.1
def eTo (e : Event) : List Int := e.2.2.2.1
def aK (e : Event) : List Int := e.2.2.2.2.1
def aG (e : Event) : List Range := e.2.2.2.2.2.1
def eu (e : Event) : Int := e.2.2.2.2.2.2.1
def dH (e : Event) : Int := e.2.2.2.2.2.2.2.1
def eY (e : Event) : Int := e.2.2.2.2.2.2.2.2.1
def eN (e : Event) : Int := e.2.2.2.2.2.2.2.2.2.1
def dQ (e : Event) : List Int := e.2.2.2.2.2.2.2.2.2.2
def zo : List (List Int) := [[], [98], [98], [98, 116], [98], [98], [98, 102, 100, 121], [98, 105, 109, 102], [98, 116, 105], [98, 105], [110], [98, 110], [98, 115], [110], [105]]
def order : List Int := [98, 116, 105, 115, 109, 102, 100, 110, 121]
def parts (k : Int) : List Int := cond (decide (k < 0) || decide (k >= 15)) [] (zo.getD k.toNat [])
def within (n m : Int) : Bool := decide (n >= 0) && decide (n <= m)
def rise : Int -> List Int -> Bool
 | _, [] => true
 | p, x :: r => (decide (p < x) && decide (x <= 4294967295)) && rise x r
def vZ (l : List Int) : Bool := rise 0 l && (decide (l.length >= 1) && decide (l.length <= 60))
def badR (r : Range) : Bool := !(within r.1 4294967295) || !(within r.2 4294967295)
def sN (l : List Range) : Bool := decide (l.length <= 60) && !(l.any badR)
def zq (f : Int) : Bool := decide (0 <= f) && decide (f <= 31)
def good (c : Int) (e : Event) : Bool :=
 cond (decide (c = 98)) (rG (bJ e)) (cond (decide (c = 116)) (rG (eTo e)) (cond (decide (c = 105)) (vZ (aK e)) (cond (decide (c = 115)) (sN (aG e)) (cond (decide (c = 109)) (within (eu e) 2) (cond (decide (c = 102)) (zq (dH e)) (cond (decide (c = 100)) (within (eY e) 1099511627776) (cond (decide (c = 110)) (within (eN e) 1099511627776) (decide ((dQ e).length <= 2000)))))))))
def none_ (c : Int) (e : Event) : Bool :=
 cond (decide (c = 98)) (decide (bJ e = [])) (cond (decide (c = 116)) (decide (eTo e = [])) (cond (decide (c = 105)) (decide (aK e = [])) (cond (decide (c = 115)) (decide (aG e = [])) (cond (decide (c = 109)) (decide (eu e = 0)) (cond (decide (c = 102)) (decide (dH e = 0)) (cond (decide (c = 100)) (decide (eY e = 0)) (cond (decide (c = 110)) (decide (eN e = 0)) (decide (dQ e = [])))))))))
def okC (p : List Int) (e : Event) (c : Int) : Bool := cond (decide (aH p c < 0)) (none_ c e) (good c e)
def bI (e : Event) : Bool := !(decide (parts (aV e) = [])) && (within (eAt e) 1099511627776 && order.all (okC (parts (aV e)) e))
def pairs (l : List Range) : List Int := l.flatMap fun r => num1 r.1 ++ num1 r.2
def jY (c : Int) (e : Event) : List Int :=
 cond (decide (c = 98)) (text1 (bJ e)) (cond (decide (c = 116)) (text1 (eTo e)) (cond (decide (c = 105)) (num1 (aK e).length ++ nums (aK e)) (cond (decide (c = 115)) (num1 (aG e).length ++ pairs (aG e)) (cond (decide (c = 109)) (num1 (eu e)) (cond (decide (c = 102)) (num1 (dH e)) (cond (decide (c = 100)) (num1 (eY e)) (cond (decide (c = 110)) (num1 (eN e)) (text1 (dQ e)))))))))
def nN (e : Event) : List Int := num1 (aV e) ++ (num1 (eAt e) ++ (parts (aV e)).flatMap fun c => jY c e)
def uf (e : Event) : List Int × Int := cond (bI e) (nN e, 0) ([], 1)
def zeroE : Event := (0, 0, [], [], [], [], 0, 0, 0, 0, [])
def dM : Nat -> RS -> List Int × RS
 | 0, r => ([], r)
 | n + 1, r => let x := aj r; let y := dM n x.2; (x.1 :: y.1, y.2)
def cO : Nat -> RS -> List Range × RS
 | 0, r => ([], r)
 | n + 1, r => let x := aj r; let z := aj x.2; let y := cO n z.2; ((x.1, z.1) :: y.1, y.2)
def dR (c : Int) (x : RS × Event) : RS × Event :=
 let e := x.2
 cond (decide (c = 98)) ((aI x.1).2, aV e, eAt e, (aI x.1).1, eTo e, aK e, aG e, eu e, dH e, eY e, eN e, dQ e)
 (cond (decide (c = 116)) ((aI x.1).2, aV e, eAt e, bJ e, (aI x.1).1, aK e, aG e, eu e, dH e, eY e, eN e, dQ e)
 (cond (decide (c = 105)) ((dM (aC 60 x.1).1.toNat (aC 60 x.1).2).2, aV e, eAt e, bJ e, eTo e, aK e ++ (dM (aC 60 x.1).1.toNat (aC 60 x.1).2).1, aG e, eu e, dH e, eY e, eN e, dQ e)
 (cond (decide (c = 115)) ((cO (aC 60 x.1).1.toNat (aC 60 x.1).2).2, aV e, eAt e, bJ e, eTo e, aK e, aG e ++ (cO (aC 60 x.1).1.toNat (aC 60 x.1).2).1, eu e, dH e, eY e, eN e, dQ e)
 (cond (decide (c = 109)) ((aj x.1).2, aV e, eAt e, bJ e, eTo e, aK e, aG e, (aj x.1).1, dH e, eY e, eN e, dQ e)
 (cond (decide (c = 102)) ((aj x.1).2, aV e, eAt e, bJ e, eTo e, aK e, aG e, eu e, (aj x.1).1, eY e, eN e, dQ e)
 (cond (decide (c = 100)) ((aj x.1).2, aV e, eAt e, bJ e, eTo e, aK e, aG e, eu e, dH e, (aj x.1).1, eN e, dQ e)
 (cond (decide (c = 110)) ((aj x.1).2, aV e, eAt e, bJ e, eTo e, aK e, aG e, eu e, dH e, eY e, (aj x.1).1, dQ e)
 (cond (decide (c = 121)) ((aI x.1).2, aV e, eAt e, bJ e, eTo e, aK e, aG e, eu e, dH e, eY e, eN e, (aI x.1).1) x))))))))
def ED (b : List Int) : RS × Event := let k := aj (b, 0); let a := aj k.2; (fH (decide (parts k.1 = [])) a.2, k.1, a.1, [], [], [], [], 0, 0, 0, 0, [])
def oM (b : List Int) : RS × Event := (parts (aj (b, 0)).1).foldl (fun x c => dR c x) (ED b)
def EF (b : List Int) : Int := let f := kZ (oM b).1; cond (decide (f = 0) && !(bI (oM b).2)) 3 f
def aZ (b : List Int) : Event × Int := cond (decide (EF b = 0)) ((oM b).2, 0) (zeroE, EF b)
def WJ (p : List Int) (e : Event) (c : Int) : List Int := cond (decide (aH p c >= 0)) (jY c e) []
def aac (n : Nat) (e : Event) : List Int := num1 (aV e) ++ (num1 (eAt e) ++ (order.take n).flatMap (WJ (parts (aV e)) e))
def wo (l : List Int) (i : Int) : Int := cond (decide (i = 0)) 0 (l.getD (i - 1).toNat 0)
def FN (a b : Event) : Bool := decide (aV a = aV b) && (decide (eAt a = eAt b) && (decide (bJ a = bJ b) && (decide (eTo a = eTo b) && (decide (aK a = aK b) && (decide (aG a = aG b) && (decide (eu a = eu b) && (decide (dH a = dH b) && (decide (eY a = eY b) && (decide (eN a = eN b) && decide (dQ a = dQ b))))))))))
def great (e : Event) : Bool := decide ((bJ e).length > 500) || (decide ((eTo e).length > 500) || (decide ((aK e).length > 200) || (decide ((aG e).length > 200) || decide ((dQ e).length > 5000))))
end U
abbrev rBE (x : List Int × Int) : SV := .tup [one (.psl true (.int .u8) x.1), one (.int .i64 x.2)]
namespace U
def mG (a b : List Int) (i : Int) : St2 := ⟨⟨[sL false (.int .i64) a] ++ [sL false (.int .i64) b] ++ U.n 3 ++ [sI i] ++ U.n 20, [], []⟩, 0, []⟩
def nR (a b : List Int)  (i : Int) : Prop := at_ a i /\ a.length = b.length /\ a.take i.toNat = b.take i.toNat
def mJ (a b : List Range) (i : Int) : St2 := ⟨⟨[sL false lC a] ++ [sL false lC b] ++ U.n 3 ++ [sI i] ++ U.n 20, [], []⟩, 0, []⟩
def nT (a b : List Range)  (i : Int) : Prop := at_ a i /\ a.length = b.length /\ a.take i.toNat = b.take i.toNat
def nU (l : List Int) (i : Int) : St2 := ⟨⟨[sL false (.int .i64) l] ++ U.n 4 ++ [sL false (.int .i64) l] ++ [sI l.length] ++ [sI i] ++ U.n 32, [], []⟩, 0, []⟩
def qc (l : List Int)  (i : Int) : Prop := at_ l i /\ 0 <= wo l i /\ rise 0 l = rise (wo l i) (l.drop i.toNat)
def qg (l : List Range) (i : Int) : St2 := ⟨⟨[sL false lC l] ++ [sF 70 []] ++ U.n 5 ++ [sI l.length] ++ [sI i] ++ U.n 10, [], []⟩, 0, []⟩
def rP (l : List Range)  (i : Int) : Prop := at_ l i /\ (l.drop i.toNat).any badR = l.any badR
def iC (e : Event) (i : Int) : St2 := ⟨⟨U.n 1 ++ [sP 0 0] ++ U.n 1 ++ [sS (parts e.1)] ++ U.n 16 ++ [own 1] ++ [sI 9] ++ [sI i] ++ U.n 17, [], [(0, .obj [.int .i64 e.1, .int .i64 e.2.1, .str e.2.2.1, .str e.2.2.2.1, .psl false (.int .i64) e.2.2.2.2.1, .psl false lC e.2.2.2.2.2.1, .int .i64 e.2.2.2.2.2.2.1, .int .i64 e.2.2.2.2.2.2.2.1, .int .i64 e.2.2.2.2.2.2.2.2.1, .int .i64 e.2.2.2.2.2.2.2.2.2.1, .psl false (.int .u8) e.2.2.2.2.2.2.2.2.2.2]), (1, .row 5 (.int .u8) true false order)]⟩, 2, []⟩
def jM (e : Event)  (i : Int) : Prop := 0 <= i /\ i <= 9 /\ parts e.1 ≠ [] /\ within (eAt e) 1099511627776 = true /\ (order.drop i.toNat).all (okC (parts e.1) e) = order.all (okC (parts e.1) e)
def mM (b : List Int) (e : Event) (o : List Int) (i : Int) : St2 := ⟨⟨[sL true (.int .u8) o] ++ U.n 43 ++ [sL false lC (aG e)] ++ [sI (aG e).length] ++ [sI i] ++ U.n 46, [], []⟩, 0, []⟩
def nV (b : List Int) (e : Event)  (o : List Int) (i : Int) : Prop := at_ (aG e) i /\ o = b ++ (num1 (aG e).length ++ pairs ((aG e).take i.toNat))
def jZ (e : Event) (o : List Int) (i : Int) : St2 := ⟨⟨U.n 1 ++ [sP 0 0] ++ U.n 2 ++ [sL true (.int .u8) o] ++ U.n 14 ++ [own 1] ++ [sI (parts e.1).length] ++ [sI i] ++ U.n 9, [], [(0, .obj [.int .i64 e.1, .int .i64 e.2.1, .str e.2.2.1, .str e.2.2.2.1, .psl false (.int .i64) e.2.2.2.2.1, .psl false lC e.2.2.2.2.2.1, .int .i64 e.2.2.2.2.2.2.1, .int .i64 e.2.2.2.2.2.2.2.1, .int .i64 e.2.2.2.2.2.2.2.2.1, .int .i64 e.2.2.2.2.2.2.2.2.2.1, .psl false (.int .u8) e.2.2.2.2.2.2.2.2.2.2]), (1, .row 5 (.int .u8) true false (parts e.1))]⟩, 2, []⟩
def lD (e : Event)  (o : List Int) (i : Int) : Prop := at_ (parts e.1) i /\ bI e = true /\ o = num1 (aV e) ++ (num1 (eAt e) ++ ((parts e.1).take i.toNat).flatMap fun c => jY c e)
def qL  (l : List Int) (r : Int) (e : Event) (p : List Int) (n : Int) (i : Int) : St2 := ⟨⟨[sP 1 0] ++ [sP 2 0] ++ U.n 24 ++ [sI n] ++ [sI i] ++ U.n 72, [], [(0, .obj [.int .i64 0, .int .i64 0, .str [], .str [], .bf, .bf, .int .i64 0, .int .i64 0, .int .i64 0, .int .i64 0, .bf]), (1, .obj [.psl false tU8 l, .int .i64 r]), (2, .obj [.int .i64 e.1, .int .i64 e.2.1, .str e.2.2.1, .str e.2.2.2.1, .own 6, .own 5, .int .i64 e.2.2.2.2.2.2.1, .int .i64 e.2.2.2.2.2.2.2.1, .int .i64 e.2.2.2.2.2.2.2.2.1, .int .i64 e.2.2.2.2.2.2.2.2.2.1, .psl false (.int .u8) e.2.2.2.2.2.2.2.2.2.2]), (3, .row 5 (.int .u8) true false p), (4, .dead), (5, .row 58 lC true true (aG e)), (6, .row 3 (.int .i64) true true (aK e))]⟩, 7, []⟩
def sO  (l' : List Int) (r' : Int) (e' : Event) (p' : List Int) (n' : Int) (i' : Int) (l : List Int) (r : Int) (e : Event) (p : List Int) (n : Int) (i : Int) : Prop :=  n = n' /\ p = p' /\ 0 <= i /\ i <= n /\ n <= 60 /\ i' = 0 /\ (aK e).length = (aK e').length + i.toNat /\ e = (aV e', eAt e', bJ e', eTo e', aK e, aG e', eu e', dH e', eY e', eN e', dQ e') /\ aK e' ++ (dM n.toNat (l', r')).1 = aK e ++ (dM (n - i).toNat (l, r)).1 /\ (dM n.toNat (l', r')).2 = (dM (n - i).toNat (l, r)).2
def oU  (l : List Int) (r : Int) (e : Event) (p : List Int) (n : Int) (i : Int) : St2 := ⟨⟨[sP 1 0] ++ [sP 2 0] ++ U.n 42 ++ [sI n] ++ [sI i] ++ U.n 54, [], [(0, .obj [.int .i64 0, .int .i64 0, .str [], .str [], .bf, .bf, .int .i64 0, .int .i64 0, .int .i64 0, .int .i64 0, .bf]), (1, .obj [.psl false tU8 l, .int .i64 r]), (2, .obj [.int .i64 e.1, .int .i64 e.2.1, .str e.2.2.1, .str e.2.2.2.1, .own 4, .own 6, .int .i64 e.2.2.2.2.2.2.1, .int .i64 e.2.2.2.2.2.2.2.1, .int .i64 e.2.2.2.2.2.2.2.2.1, .int .i64 e.2.2.2.2.2.2.2.2.2.1, .psl false (.int .u8) e.2.2.2.2.2.2.2.2.2.2]), (3, .row 5 (.int .u8) true false p), (4, .row 3 (.int .i64) true true (aK e)), (5, .dead), (6, .row 58 lC true true (aG e))]⟩, 7, []⟩
def qM  (l' : List Int) (r' : Int) (e' : Event) (p' : List Int) (n' : Int) (i' : Int) (l : List Int) (r : Int) (e : Event) (p : List Int) (n : Int) (i : Int) : Prop :=  n = n' /\ p = p' /\ 0 <= i /\ i <= n /\ n <= 60 /\ i' = 0 /\ (aG e).length = (aG e').length + i.toNat /\ e = (aV e', eAt e', bJ e', eTo e', aK e', aG e, eu e', dH e', eY e', eN e', dQ e') /\ aG e' ++ (cO n.toNat (l', r')).1 = aG e ++ (cO (n - i).toNat (l, r)).1 /\ (cO n.toNat (l', r')).2 = (cO (n - i).toNat (l, r)).2
def aP (b : List Int) (l : List Int) (r : Int) (e : Event) (i : Int) : St2 := ⟨⟨U.n 2 ++ [sP 0 0] ++ U.n 1 ++ [sP 1 0] ++ [sP 2 0] ++ U.n 19 ++ [own 3] ++ [sI (parts (aj (b, 0)).1).length] ++ [sI i] ++ U.n 21, [], [(0, .obj [.int .i64 0, .int .i64 0, .str [], .str [], .bf, .bf, .int .i64 0, .int .i64 0, .int .i64 0, .int .i64 0, .bf]), (1, .obj [.psl false tU8 l, .int .i64 r]), (2, .obj [.int .i64 e.1, .int .i64 e.2.1, .str e.2.2.1, .str e.2.2.2.1, .own 4, .own 5, .int .i64 e.2.2.2.2.2.2.1, .int .i64 e.2.2.2.2.2.2.2.1, .int .i64 e.2.2.2.2.2.2.2.2.1, .int .i64 e.2.2.2.2.2.2.2.2.2.1, .psl false (.int .u8) e.2.2.2.2.2.2.2.2.2.2]), (3, .row 5 (.int .u8) true false (parts (aj (b, 0)).1)), (4, .row 3 (.int .i64) true true (aK e)), (5, .row 58 lC true true (aG e))]⟩, 6, []⟩
def bZ (b : List Int)  (l : List Int) (r : Int) (e : Event) (i : Int) : Prop := at_ (parts (aj (b, 0)).1) i /\ ((l, r), e) = ((parts (aj (b, 0)).1).take i.toNat).foldl (fun x c => dR c x) (ED b)
end U
def Rl (a b : List Int) : Vc.Loop := ⟨{ keep := [0, 1, 5] }, Int, fun x => U.mG a b x, fun x0 x => U.nR a b  x, fun x => a.length - x.toNat⟩
def Rn (a b : List Range) : Vc.Loop := ⟨{ keep := [0, 1, 5] }, Int, fun x => U.mJ a b x, fun x0 x => U.nT a b  x, fun x => a.length - x.toNat⟩
def TT (l : List Int) : Vc.Loop := ⟨{ keep := [0, 5, 6, 7] }, Int, fun x => U.nU l x, fun x0 x => U.qc l  x, fun x => l.length - x.toNat⟩
def WL (l : List Range) : Vc.Loop := ⟨{ keep := [0, 1, 7, 8] }, Int, fun x => U.qg l x, fun x0 x => U.rP l  x, fun x => l.length - x.toNat⟩
def Qh (e : Event) : Vc.Loop := ⟨{ keep := [1, 3, 20, 21, 22] }, Int, fun x => U.iC e x, fun x0 x => U.jM e  x, fun x => 9 - x.toNat⟩
def Ro (b : List Int) (e : Event) : Vc.Loop := ⟨{ keep := [0, 44, 45, 46] }, List Int × Int, fun x => U.mM b e x.1 x.2, fun x0 x => U.nV b e  x.1 x.2, fun x => (U.aG e).length - x.2.toNat⟩
def Oy (e : Event) : Vc.Loop := ⟨{ keep := [1, 4, 19, 20, 21] }, List Int × Int, fun x => U.jZ e x.1 x.2, fun x0 x => U.lD e  x.1 x.2, fun x => (U.parts e.1).length - x.2.toNat⟩
def Rq  : Vc.Loop := ⟨{ keep := [0, 1, 26, 27], OQ := [(1, 4, 3)] }, List Int × Int × Event × List Int × Int × Int, fun x => U.qL  x.1 x.2.1 x.2.2.1 x.2.2.2.1 x.2.2.2.2.1 x.2.2.2.2.2, fun x0 x => U.sO  x0.1 x0.2.1 x0.2.2.1 x0.2.2.2.1 x0.2.2.2.2.1 x0.2.2.2.2.2 x.1 x.2.1 x.2.2.1 x.2.2.2.1 x.2.2.2.2.1 x.2.2.2.2.2, fun x => (x.2.2.2.2.1 - x.2.2.2.2.2).toNat⟩
def Qi  : Vc.Loop := ⟨{ keep := [0, 1, 44, 45], OQ := [(1, 5, 58)] }, List Int × Int × Event × List Int × Int × Int, fun x => U.oU  x.1 x.2.1 x.2.2.1 x.2.2.2.1 x.2.2.2.2.1 x.2.2.2.2.2, fun x0 x => U.qM  x0.1 x0.2.1 x0.2.2.1 x0.2.2.2.1 x0.2.2.2.2.1 x0.2.2.2.2.2 x.1 x.2.1 x.2.2.1 x.2.2.2.1 x.2.2.2.2.1 x.2.2.2.2.2, fun x => (x.2.2.2.2.1 - x.2.2.2.2.2).toNat⟩
def Oz (b : List Int) : Vc.Loop := ⟨{ keep := [2, 4, 5, 25, 26, 27], OQ := [(5, 4, 3), (5, 5, 58)], Zc := [(5, 10, 32)] }, List Int × Int × Event × Int, fun x => U.aP b x.1 x.2.1 x.2.2.1 x.2.2.2, fun x0 x => U.bZ b  x.1 x.2.1 x.2.2.1 x.2.2.2, fun x => (U.parts (U.aj (b, 0)).1).length - x.2.2.2.toNat⟩
def EG (a : List Int) (b : List Int) : Done := rB (decide (a = b))
def Nz : Vc.Sum := .pure [kY, kY] false fun x => EG x.1 x.2
def NC (a : List Int) (b : List Int) : Nat -> List V -> Nat -> Option Vc.Loop := fun f v k => cond (Nat.beq f 18 && Nat.beq k 4) (some (Rl a b)) <| none
def yh : List (Nat × Ent) := (18, .sum Nz) :: yg
def EH (a : List Range) (b : List Range) : Done := rB (decide (a = b))
def ND : Vc.Sum := .pure [jL, jL] false fun x => EH x.1 x.2
def NG (a : List Range) (b : List Range) : Nat -> List V -> Nat -> Option Vc.Loop := fun f v k => cond (Nat.beq f 19 && Nat.beq k 4) (some (Rn a b)) <| none
def yj : List (Nat × Ent) := (19, .sum ND) :: yh
def zJ (n : Int) (m : Int) : Done := rB (U.within n m)
def Ie : Vc.Sum := .pure [.int .i64, .int .i64] false fun x => zJ x.1 x.2
def Ig (n : Int) (m : Int) : Nat -> List V -> Nat -> Option Vc.Loop := dO
def sQ : List (Nat × Ent) := (43, .sum Ie) :: yj
def CY (k : Int) : Done := ⟨[], .one (.str (U.parts k)), [], []⟩
def J7 : Vc.Sum := .pure [.int .i64] false fun x => CY x
def J8 (k : Int) : Nat -> List V -> Nat -> Option Vc.Loop := dO
def wu : List (Nat × Ent) := (26, .sum J7) :: sQ
def He (l : List Int) : Done := rB (U.vZ l)
def Qj : Vc.Sum := .pure [kY] false fun x => He x
def Qk (l : List Int) : Nat -> List V -> Nat -> Option Vc.Loop := fun f v k => cond (Nat.beq f 58 && Nat.beq k 2) (some (TT l)) <| none
def AO : List (Nat × Ent) := (58, .sum Qj) :: wu
def CZ (r : Range) : Done := rB (U.badR r)
def J9 : Vc.Sum := .pure [lC] false fun x => CZ x
def Ko (r : Range) : Nat -> List V -> Nat -> Option Vc.Loop := dO
def wz : List (Nat × Ent) := (70, .sum J9) :: AO
def Hf (l : List Range) : Done := rB (U.sN l)
def Ql : Vc.Sum := .pure [jL] false fun x => Hf x
def Qm (l : List Range) : Nat -> List V -> Nat -> Option Vc.Loop := fun f v k => cond (Nat.beq f 78 && Nat.beq k 2) (some (WL l)) <| none
def AP : List (Nat × Ent) := (59, .sum Ql) :: wz
def EI (f : Int) : Done := rB (U.zq f)
def NH : Vc.Sum := .pure [.int .i64] false fun x => EI x
def NI (f : Int) : Nat -> List V -> Nat -> Option Vc.Loop := dO
def yt : List (Nat × Ent) := (60, .sum NH) :: AP
def rQ (e : Event) (c : Int) : Done := ⟨[(U.bJ e).length <= 1000000000000, (U.eTo e).length <= 1000000000000], .tup [one (.bool (U.good c e)), one (.bool (U.none_ c e))], [], []⟩
def NJ : Vc.Sum := .pure [bQ, .int .u8] false fun x => rQ x.1 x.2
def NK (e : Event) (c : Int) : Nat -> List V -> Nat -> Option Vc.Loop := dO
def yu : List (Nat × Ent) := (44, .sum NJ) :: yt
def qh (e : Event) : Done := ⟨[(U.bJ e).length <= 1000000000000, (U.eTo e).length <= 1000000000000], .one (.bool (U.bI e)), [], []⟩
def Kq : Vc.Sum := .pure [bQ] false fun x => qh x
def Kr (e : Event) : Nat -> List V -> Nat -> Option Vc.Loop := fun f v k => cond (Nat.beq f 25 && Nat.beq k 5) (some (Qh e)) <| none
def wB : List (Nat × Ent) := (25, .sum Kq) :: yu
def qN (b : List Int) (e : Event) (c : Int) : Done := ⟨[b.length <= 100000000000, (U.aK e).length <= 1000000000, (U.aG e).length <= 1000000000], .one (.psl true (.int .u8) (b ++ U.jY c e)), [], []⟩
def Qn : Vc.Sum := .pure [aN, bQ, .int .u8] false fun x => qN x.1 x.2.1 x.2.2
def Qo (b : List Int) (e : Event) (c : Int) : Nat -> List V -> Nat -> Option Vc.Loop := fun f v k => cond (Nat.beq f 27 && Nat.beq k 11) (some (Ro b e)) <| none
def AQ : List (Nat × Ent) := (27, .sum Qn) :: wB
def nX (e : Event) : Done := ⟨[(U.bJ e).length <= 1000000000000, (U.eTo e).length <= 1000000000000], rBE (U.uf e), [], []⟩
def Ih : Vc.Sum := .pure [bQ] false fun x => nX x
def Ii (e : Event) : Nat -> List V -> Nat -> Option Vc.Loop := fun f v k => cond (Nat.beq f 12 && Nat.beq k 5) (some (Oy e)) <| none
def sU : List (Nat × Ent) := (12, .sum Ih) :: AQ
def sV (b : List Int) : Done := ⟨[b.length <= 1000000000], .tup [.of false bQ (U.aZ b).1, one (.int .i64 (U.aZ b).2)], [], []⟩
def Ij : Vc.Sum := .pure [aN] true fun x => sV x
def Ik (b : List Int) : Nat -> List V -> Nat -> Option Vc.Loop := fun f v k => cond (Nat.beq f 36 && Nat.beq k 6) (some (Oz b)) <| cond (Nat.beq f 53 && Nat.beq k 7) (some (Rq)) <| cond (Nat.beq f 53 && Nat.beq k 12) (some (Qi)) <| none
def sW : List (Nat × Ent) := (36, .sum Ij) :: sU
def EJ (a : Event) (b : Event) : Done := rB (U.FN a b)
def NM : Vc.Sum := .pure [bQ, bQ] false fun x => EJ x.1 x.2
def NP (a : Event) (b : Event) : Nat -> List V -> Nat -> Option Vc.Loop := dO
def yw : List (Nat × Ent) := (9, .sum NM) :: sW
def C9 (e : Event) : Done := rB (U.great e)
def Kt : Vc.Sum := .pure [bQ] false fun x => C9 x
def Ku (e : Event) : Nat -> List V -> Nat -> Option Vc.Loop := dO
def wC : List (Nat × Ent) := (6, .sum Kt) :: yw
end Go.Proofs.YtkhdeldobekciaaDoor
