/- What functions of this seat compute, in plain Lean. -/
import Derived.Test.YtllmhikoaklpbaaDoorD
set_option linter.unusedVariables false
set_option linter.unusedSimpArgs false
set_option maxRecDepth 100000
namespace Go.Proofs.YtllmhikoaklpbaaDoor
open Go.Vc
abbrev tRange : Ty := .pair (.int .i64) (.int .i64)
abbrev tRanges : Ty := .slice tRange
abbrev tEvent : Ty := .pair (.int .i64) (.pair (.int .i64) (.pair .str (.pair .str (.pair tInts (.pair tRanges (.pair (.int .i64) (.pair (.int .i64) (.pair (.int .i64) (.pair (.int .i64) tBytes)))))))))
abbrev Range := Int × Int
abbrev Event := Int × Int × List Int × List Int × List Int × List Range × Int × Int × Int × Int × List Int
namespace U
def eKind (e : Event) : Int := e.1
def eAt (e : Event) : Int := e.2.1
def eBox (e : Event) : List Int := e.2.2.1
def eTo (e : Event) : List Int := e.2.2.2.1
def eIDs (e : Event) : List Int := e.2.2.2.2.1
def eSet (e : Event) : List Range := e.2.2.2.2.2.1
def eMode (e : Event) : Int := e.2.2.2.2.2.2.1
def eFlags (e : Event) : Int := e.2.2.2.2.2.2.2.1
def eDate (e : Event) : Int := e.2.2.2.2.2.2.2.2.1
def eN (e : Event) : Int := e.2.2.2.2.2.2.2.2.2.1
def eBody (e : Event) : List Int := e.2.2.2.2.2.2.2.2.2.2
def partsT : List (List Int) := [[], [98], [98], [98, 116], [98], [98], [98, 102, 100, 121], [98, 105, 109, 102], [98, 116, 105], [98, 105], [110], [98, 110], [98, 115], [110], [105]]
def order : List Int := [98, 116, 105, 115, 109, 102, 100, 110, 121]
def parts (k : Int) : List Int := cond (decide (k < 0) || decide (k ≥ 15)) [] (partsT.getD k.toNat [])
def within (n m : Int) : Bool := decide (n ≥ 0) && decide (n ≤ m)
def rise : Int → List Int → Bool
  | _, [] => true
  | p, x :: r => (decide (p < x) && decide (x ≤ 4294967295)) && rise x r
def idsOk (l : List Int) : Bool := rise 0 l && (decide (l.length ≥ 1) && decide (l.length ≤ 60))
def badR (r : Range) : Bool := !(within r.1 4294967295) || !(within r.2 4294967295)
def setOk (l : List Range) : Bool := decide (l.length ≤ 60) && !(l.any badR)
def fRight (f : Int) : Bool := decide (0 ≤ f) && decide (f ≤ 31)
def good (c : Int) (e : Event) : Bool :=
  cond (decide (c = 98)) (rightN (eBox e)) (cond (decide (c = 116)) (rightN (eTo e)) (cond (decide (c = 105)) (idsOk (eIDs e)) (cond (decide (c = 115)) (setOk (eSet e)) (cond (decide (c = 109)) (within (eMode e) 2) (cond (decide (c = 102)) (fRight (eFlags e)) (cond (decide (c = 100)) (within (eDate e) 1099511627776) (cond (decide (c = 110)) (within (eN e) 1099511627776) (decide ((eBody e).length ≤ 2000)))))))))
def none_ (c : Int) (e : Event) : Bool :=
  cond (decide (c = 98)) (decide (eBox e = [])) (cond (decide (c = 116)) (decide (eTo e = [])) (cond (decide (c = 105)) (decide (eIDs e = [])) (cond (decide (c = 115)) (decide (eSet e = [])) (cond (decide (c = 109)) (decide (eMode e = 0)) (cond (decide (c = 102)) (decide (eFlags e = 0)) (cond (decide (c = 100)) (decide (eDate e = 0)) (cond (decide (c = 110)) (decide (eN e = 0)) (decide (eBody e = [])))))))))
def okC (p : List Int) (e : Event) (c : Int) : Bool := cond (decide (idxB p c < 0)) (none_ c e) (good c e)
def evRight (e : Event) : Bool := !(decide (parts (eKind e) = [])) && (within (eAt e) 1099511627776 && order.all (okC (parts (eKind e)) e))
def pairs (l : List Range) : List Int := l.flatMap fun r => num1 r.1 ++ num1 r.2
def lay1 (c : Int) (e : Event) : List Int :=
  cond (decide (c = 98)) (text1 (eBox e)) (cond (decide (c = 116)) (text1 (eTo e)) (cond (decide (c = 105)) (num1 (eIDs e).length ++ nums (eIDs e)) (cond (decide (c = 115)) (num1 (eSet e).length ++ pairs (eSet e)) (cond (decide (c = 109)) (num1 (eMode e)) (cond (decide (c = 102)) (num1 (eFlags e)) (cond (decide (c = 100)) (num1 (eDate e)) (cond (decide (c = 110)) (num1 (eN e)) (text1 (eBody e)))))))))
def encB (e : Event) : List Int := num1 (eKind e) ++ (num1 (eAt e) ++ (parts (eKind e)).flatMap fun c => lay1 c e)
def encE (e : Event) : List Int × Int := cond (evRight e) (encB e, 0) ([], 1)
def zeroE : Event := (0, 0, [], [], [], [], 0, 0, 0, 0, [])
def readNums : Nat → RS → List Int × RS
  | 0, r => ([], r)
  | n + 1, r => let x := rNum r; let y := readNums n x.2; (x.1 :: y.1, y.2)
def readRanges : Nat → RS → List Range × RS
  | 0, r => ([], r)
  | n + 1, r => let x := rNum r; let z := rNum x.2; let y := readRanges n z.2; ((x.1, z.1) :: y.1, y.2)
def readC (c : Int) (x : RS × Event) : RS × Event :=
  let e := x.2
  cond (decide (c = 98)) ((rText x.1).2, eKind e, eAt e, (rText x.1).1, eTo e, eIDs e, eSet e, eMode e, eFlags e, eDate e, eN e, eBody e)
  (cond (decide (c = 116)) ((rText x.1).2, eKind e, eAt e, eBox e, (rText x.1).1, eIDs e, eSet e, eMode e, eFlags e, eDate e, eN e, eBody e)
  (cond (decide (c = 105)) ((readNums (rCount 60 x.1).1.toNat (rCount 60 x.1).2).2, eKind e, eAt e, eBox e, eTo e, eIDs e ++ (readNums (rCount 60 x.1).1.toNat (rCount 60 x.1).2).1, eSet e, eMode e, eFlags e, eDate e, eN e, eBody e)
  (cond (decide (c = 115)) ((readRanges (rCount 60 x.1).1.toNat (rCount 60 x.1).2).2, eKind e, eAt e, eBox e, eTo e, eIDs e, eSet e ++ (readRanges (rCount 60 x.1).1.toNat (rCount 60 x.1).2).1, eMode e, eFlags e, eDate e, eN e, eBody e)
  (cond (decide (c = 109)) ((rNum x.1).2, eKind e, eAt e, eBox e, eTo e, eIDs e, eSet e, (rNum x.1).1, eFlags e, eDate e, eN e, eBody e)
  (cond (decide (c = 102)) ((rNum x.1).2, eKind e, eAt e, eBox e, eTo e, eIDs e, eSet e, eMode e, (rNum x.1).1, eDate e, eN e, eBody e)
  (cond (decide (c = 100)) ((rNum x.1).2, eKind e, eAt e, eBox e, eTo e, eIDs e, eSet e, eMode e, eFlags e, (rNum x.1).1, eN e, eBody e)
  (cond (decide (c = 110)) ((rNum x.1).2, eKind e, eAt e, eBox e, eTo e, eIDs e, eSet e, eMode e, eFlags e, eDate e, (rNum x.1).1, eBody e)
  (cond (decide (c = 121)) ((rText x.1).2, eKind e, eAt e, eBox e, eTo e, eIDs e, eSet e, eMode e, eFlags e, eDate e, eN e, (rText x.1).1) x))))))))
def dec0 (b : List Int) : RS × Event := let k := rNum (b, 0); let a := rNum k.2; (rFail (decide (parts k.1 = [])) a.2, k.1, a.1, [], [], [], [], 0, 0, 0, 0, [])
def dec1 (b : List Int) : RS × Event := (parts (rNum (b, 0)).1).foldl (fun x c => readC c x) (dec0 b)
def decF (b : List Int) : Int := let f := rDone (dec1 b).1; cond (decide (f = 0) && !(evRight (dec1 b).2)) 3 f
def decE (b : List Int) : Event × Int := cond (decide (decF b = 0)) ((dec1 b).2, 0) (zeroE, decF b)
def hasC (p : List Int) (e : Event) (c : Int) : List Int := cond (decide (idxB p c ≥ 0)) (lay1 c e) []
def encP (n : Nat) (e : Event) : List Int := num1 (eKind e) ++ (num1 (eAt e) ++ (order.take n).flatMap (hasC (parts (eKind e)) e))
def stepC (p : List Int) (x : RS × Event) (c : Int) : RS × Event := cond (decide (idxB p c ≥ 0)) (readC c x) x
def readP (n : Nat) (b : List Int) : RS × Event := (order.take n).foldl (stepC (parts (rNum (b, 0)).1)) (dec0 b)
def refRead (b : List Int) : RS × Event := cond (decide ((dec0 b).1.2 = 0)) (readP 9 b) ((dec0 b).1, zeroE)
def prevI (l : List Int) (i : Int) : Int := cond (decide (i = 0)) 0 (l.getD (i - 1).toNat 0)
def evSame (a b : Event) : Bool := decide (eKind a = eKind b) && (decide (eAt a = eAt b) && (decide (eBox a = eBox b) && (decide (eTo a = eTo b) && (decide (eIDs a = eIDs b) && (decide (eSet a = eSet b) && (decide (eMode a = eMode b) && (decide (eFlags a = eFlags b) && (decide (eDate a = eDate b) && (decide (eN a = eN b) && decide (eBody a = eBody b))))))))))
def great (e : Event) : Bool := decide ((eBox e).length > 500) || (decide ((eTo e).length > 500) || (decide ((eIDs e).length > 200) || (decide ((eSet e).length > 200) || decide ((eBody e).length > 5000))))
end U
abbrev rBE (x : List Int × Int) : SV := .tup [one (.psl true (.int .u8) x.1), one (.int .i64 x.2)]
namespace U
def stslices_Equal_int_int_4 (a b : List Int) (i : Int) : St2 := ⟨⟨[sL false (.int .i64) a] ++ [sL false (.int .i64) b] ++ U.n 10 ++ [sI a.length] ++ [sI i] ++ U.n 12, [], []⟩, 0, []⟩
def Islices_Equal_int_int_4 (a b : List Int)  (i : Int) : Prop := at_ a i ∧ a.length = b.length ∧ a.take i.toNat = b.take i.toNat
def stslices_Equal_api_Range_api_Range_4 (a b : List Range) (i : Int) : St2 := ⟨⟨[sL false tRange a] ++ [sL false tRange b] ++ U.n 10 ++ [sI a.length] ++ [sI i] ++ U.n 12, [], []⟩, 0, []⟩
def Islices_Equal_api_Range_api_Range_4 (a b : List Range)  (i : Int) : Prop := at_ a i ∧ a.length = b.length ∧ a.take i.toNat = b.take i.toNat
def stref09_Ints_4 (a b : List Int) (i : Int) : St2 := ⟨⟨[sL false (.int .i64) a] ++ [sL false (.int .i64) b] ++ U.n 3 ++ [sI i] ++ U.n 20, [], []⟩, 0, []⟩
def Iref09_Ints_4 (a b : List Int)  (i : Int) : Prop := at_ a i ∧ a.length = b.length ∧ a.take i.toNat = b.take i.toNat
def stref09_Same_4 (a b : List Range) (i : Int) : St2 := ⟨⟨[sL false tRange a] ++ [sL false tRange b] ++ U.n 3 ++ [sI i] ++ U.n 20, [], []⟩, 0, []⟩
def Iref09_Same_4 (a b : List Range)  (i : Int) : Prop := at_ a i ∧ a.length = b.length ∧ a.take i.toNat = b.take i.toNat
def stevent_ids_2 (l : List Int) (i : Int) : St2 := ⟨⟨[sL false (.int .i64) l] ++ U.n 4 ++ [sL false (.int .i64) l] ++ [sI l.length] ++ [sI i] ++ U.n 32, [], []⟩, 0, []⟩
def Ievent_ids_2 (l : List Int)  (i : Int) : Prop := at_ l i ∧ 0 ≤ prevI l i ∧ rise 0 l = rise (prevI l i) (l.drop i.toNat)
def stIndexFuncR (l : List Range) (i : Int) : St2 := ⟨⟨[sL false tRange l] ++ [sF 69 []] ++ U.n 5 ++ [sI l.length] ++ [sI i] ++ U.n 10, [], []⟩, 0, []⟩
def IIndexFuncR (l : List Range)  (i : Int) : Prop := at_ l i ∧ (l.drop i.toNat).any badR = l.any badR
def stevent_Right_5 (e : Event) (i : Int) : St2 := ⟨⟨U.n 1 ++ [sP 0 0] ++ U.n 1 ++ [sS (parts e.1)] ++ U.n 16 ++ [own 1] ++ [sI 9] ++ [sI i] ++ U.n 17, [], [(0, .obj [.int .i64 e.1, .int .i64 e.2.1, .str e.2.2.1, .str e.2.2.2.1, .psl false (.int .i64) e.2.2.2.2.1, .psl false tRange e.2.2.2.2.2.1, .int .i64 e.2.2.2.2.2.2.1, .int .i64 e.2.2.2.2.2.2.2.1, .int .i64 e.2.2.2.2.2.2.2.2.1, .int .i64 e.2.2.2.2.2.2.2.2.2.1, .psl false (.int .u8) e.2.2.2.2.2.2.2.2.2.2]), (1, .row 5 (.int .u8) true false order)]⟩, 2, []⟩
def Ievent_Right_5 (e : Event)  (i : Int) : Prop := 0 ≤ i ∧ i ≤ 9 ∧ parts e.1 ≠ [] ∧ within (eAt e) 1099511627776 = true ∧ (order.drop i.toNat).all (okC (parts e.1) e) = order.all (okC (parts e.1) e)
def stevent_lay_11 (b : List Int) (e : Event) (o : List Int) (i : Int) : St2 := ⟨⟨[sL true (.int .u8) o] ++ U.n 43 ++ [sL false tRange (eSet e)] ++ [sI (eSet e).length] ++ [sI i] ++ U.n 46, [], []⟩, 0, []⟩
def Ievent_lay_11 (b : List Int) (e : Event)  (o : List Int) (i : Int) : Prop := at_ (eSet e) i ∧ o = b ++ (num1 (eSet e).length ++ pairs ((eSet e).take i.toNat))
def stevent_Encode_5 (e : Event) (o : List Int) (i : Int) : St2 := ⟨⟨U.n 1 ++ [sP 0 0] ++ U.n 2 ++ [sL true (.int .u8) o] ++ U.n 14 ++ [own 1] ++ [sI (parts e.1).length] ++ [sI i] ++ U.n 9, [], [(0, .obj [.int .i64 e.1, .int .i64 e.2.1, .str e.2.2.1, .str e.2.2.2.1, .psl false (.int .i64) e.2.2.2.2.1, .psl false tRange e.2.2.2.2.2.1, .int .i64 e.2.2.2.2.2.2.1, .int .i64 e.2.2.2.2.2.2.2.1, .int .i64 e.2.2.2.2.2.2.2.2.1, .int .i64 e.2.2.2.2.2.2.2.2.2.1, .psl false (.int .u8) e.2.2.2.2.2.2.2.2.2.2]), (1, .row 5 (.int .u8) true false (parts e.1))]⟩, 2, []⟩
def Ievent_Encode_5 (e : Event)  (o : List Int) (i : Int) : Prop := at_ (parts e.1) i ∧ evRight e = true ∧ o = num1 (eKind e) ++ (num1 (eAt e) ++ ((parts e.1).take i.toNat).flatMap fun c => lay1 c e)
def stevent_read_7  (l : List Int) (r : Int) (e : Event) (p : List Int) (n : Int) (i : Int) : St2 := ⟨⟨[sP 1 0] ++ [sP 2 0] ++ U.n 24 ++ [sI n] ++ [sI i] ++ U.n 72, [], [(0, .obj [.int .i64 0, .int .i64 0, .str [], .str [], .nils, .nils, .int .i64 0, .int .i64 0, .int .i64 0, .int .i64 0, .nils]), (1, .obj [.psl false tU8 l, .int .i64 r]), (2, .obj [.int .i64 e.1, .int .i64 e.2.1, .str e.2.2.1, .str e.2.2.2.1, .own 6, .own 5, .int .i64 e.2.2.2.2.2.2.1, .int .i64 e.2.2.2.2.2.2.2.1, .int .i64 e.2.2.2.2.2.2.2.2.1, .int .i64 e.2.2.2.2.2.2.2.2.2.1, .psl false (.int .u8) e.2.2.2.2.2.2.2.2.2.2]), (3, .row 5 (.int .u8) true false p), (4, .dead), (5, .row 61 tRange true true (eSet e)), (6, .row 3 (.int .i64) true true (eIDs e))]⟩, 7, []⟩
def Ievent_read_7  (l' : List Int) (r' : Int) (e' : Event) (p' : List Int) (n' : Int) (i' : Int) (l : List Int) (r : Int) (e : Event) (p : List Int) (n : Int) (i : Int) : Prop :=  n = n' ∧ p = p' ∧ 0 ≤ i ∧ i ≤ n ∧ n ≤ 60 ∧ i' = 0 ∧ (eIDs e).length = (eIDs e').length + i.toNat ∧ e = (eKind e', eAt e', eBox e', eTo e', eIDs e, eSet e', eMode e', eFlags e', eDate e', eN e', eBody e') ∧ eIDs e' ++ (readNums n.toNat (l', r')).1 = eIDs e ++ (readNums (n - i).toNat (l, r)).1 ∧ (readNums n.toNat (l', r')).2 = (readNums (n - i).toNat (l, r)).2
def stevent_read_12  (l : List Int) (r : Int) (e : Event) (p : List Int) (n : Int) (i : Int) : St2 := ⟨⟨[sP 1 0] ++ [sP 2 0] ++ U.n 42 ++ [sI n] ++ [sI i] ++ U.n 54, [], [(0, .obj [.int .i64 0, .int .i64 0, .str [], .str [], .nils, .nils, .int .i64 0, .int .i64 0, .int .i64 0, .int .i64 0, .nils]), (1, .obj [.psl false tU8 l, .int .i64 r]), (2, .obj [.int .i64 e.1, .int .i64 e.2.1, .str e.2.2.1, .str e.2.2.2.1, .own 4, .own 6, .int .i64 e.2.2.2.2.2.2.1, .int .i64 e.2.2.2.2.2.2.2.1, .int .i64 e.2.2.2.2.2.2.2.2.1, .int .i64 e.2.2.2.2.2.2.2.2.2.1, .psl false (.int .u8) e.2.2.2.2.2.2.2.2.2.2]), (3, .row 5 (.int .u8) true false p), (4, .row 3 (.int .i64) true true (eIDs e)), (5, .dead), (6, .row 61 tRange true true (eSet e))]⟩, 7, []⟩
def Ievent_read_12  (l' : List Int) (r' : Int) (e' : Event) (p' : List Int) (n' : Int) (i' : Int) (l : List Int) (r : Int) (e : Event) (p : List Int) (n : Int) (i : Int) : Prop :=  n = n' ∧ p = p' ∧ 0 ≤ i ∧ i ≤ n ∧ n ≤ 60 ∧ i' = 0 ∧ (eSet e).length = (eSet e').length + i.toNat ∧ e = (eKind e', eAt e', eBox e', eTo e', eIDs e', eSet e, eMode e', eFlags e', eDate e', eN e', eBody e') ∧ eSet e' ++ (readRanges n.toNat (l', r')).1 = eSet e ++ (readRanges (n - i).toNat (l, r)).1 ∧ (readRanges n.toNat (l', r')).2 = (readRanges (n - i).toNat (l, r)).2
def stevent_Decode_6 (b : List Int) (l : List Int) (r : Int) (e : Event) (i : Int) : St2 := ⟨⟨U.n 2 ++ [sP 0 0] ++ U.n 1 ++ [sP 1 0] ++ [sP 2 0] ++ U.n 19 ++ [own 3] ++ [sI (parts (rNum (b, 0)).1).length] ++ [sI i] ++ U.n 21, [], [(0, .obj [.int .i64 0, .int .i64 0, .str [], .str [], .nils, .nils, .int .i64 0, .int .i64 0, .int .i64 0, .int .i64 0, .nils]), (1, .obj [.psl false tU8 l, .int .i64 r]), (2, .obj [.int .i64 e.1, .int .i64 e.2.1, .str e.2.2.1, .str e.2.2.2.1, .own 4, .own 5, .int .i64 e.2.2.2.2.2.2.1, .int .i64 e.2.2.2.2.2.2.2.1, .int .i64 e.2.2.2.2.2.2.2.2.1, .int .i64 e.2.2.2.2.2.2.2.2.2.1, .psl false (.int .u8) e.2.2.2.2.2.2.2.2.2.2]), (3, .row 5 (.int .u8) true false (parts (rNum (b, 0)).1)), (4, .row 3 (.int .i64) true true (eIDs e)), (5, .row 61 tRange true true (eSet e))]⟩, 6, []⟩
def Ievent_Decode_6 (b : List Int)  (l : List Int) (r : Int) (e : Event) (i : Int) : Prop := at_ (parts (rNum (b, 0)).1) i ∧ ((l, r), e) = ((parts (rNum (b, 0)).1).take i.toNat).foldl (fun x c => readC c x) (dec0 b)
def stref09_Rising_2 (l : List Int) (i : Int) : St2 := ⟨⟨[sL false (.int .i64) l] ++ U.n 2 ++ [sI i] ++ U.n 34, [], []⟩, 0, []⟩
def Iref09_Rising_2 (l : List Int)  (i : Int) : Prop := at_ l i ∧ 0 ≤ prevI l i ∧ rise 0 l = rise (prevI l i) (l.drop i.toNat)
def stref09_Right_2 (l : List Range) (i : Int) : St2 := ⟨⟨[sL false tRange l] ++ U.n 2 ++ [sI i] ++ U.n 48, [], []⟩, 0, []⟩
def Iref09_Right_2 (l : List Range)  (i : Int) : Prop := at_ l i ∧ i ≤ 61 ∧ (l.drop i.toNat).any badR = l.any badR
def stref12_has_2 (s : List Int) (c : Int) (i : Int) : St2 := ⟨⟨[sS s] ++ [sK .u8 c] ++ U.n 3 ++ [sI i] ++ U.n 11, [], []⟩, 0, []⟩
def Iref12_has_2 (s : List Int) (c : Int)  (i : Int) : Prop := at_ s i ∧ decide (idxB s c ≥ 0) = decide (idxB (s.drop i.toNat) c ≥ 0)
def stref12_Right_8 (e : Event) (gl : List Bool) (nl : List Bool) (i : Int) : St2 := ⟨⟨U.n 3 ++ [sS (parts e.1)] ++ U.n 1 ++ [sP 0 0] ++ [sP 1 0] ++ [sI i] ++ U.n 116, [], [(0, .obj [.arr 9 true .bool gl]), (1, .obj [.arr 9 true .bool nl])]⟩, 2, []⟩
def Iref12_Right_8 (e : Event)  (gl : List Bool) (nl : List Bool) (i : Int) : Prop := 0 ≤ i ∧ i ≤ 9 ∧ gl = order.map (fun c => good c e) ∧ nl = order.map (fun c => none_ c e) ∧ parts e.1 ≠ [] ∧ within (eAt e) 1099511627776 = true ∧ (order.drop i.toNat).all (okC (parts e.1) e) = order.all (okC (parts e.1) e)
def stEnc7 (e : Event) (o : List Int) : St2 := ⟨⟨U.n 1 ++ [sP 0 0] ++ U.n 2 ++ [sS (parts e.1)] ++ [sL true (.int .u8) o] ++ U.n 108, [], [(0, .obj [.int .i64 e.1, .int .i64 e.2.1, .str e.2.2.1, .str e.2.2.2.1, .psl false (.int .i64) e.2.2.2.2.1, .psl false tRange e.2.2.2.2.2.1, .int .i64 e.2.2.2.2.2.2.1, .int .i64 e.2.2.2.2.2.2.2.1, .int .i64 e.2.2.2.2.2.2.2.2.1, .int .i64 e.2.2.2.2.2.2.2.2.2.1, .psl false (.int .u8) e.2.2.2.2.2.2.2.2.2.2])]⟩, 1, []⟩
def IEnc7 (e : Event)  (o : List Int) : Prop := evRight e = true ∧ o = encP 1 e
def stEnc9 (e : Event) (o : List Int) : St2 := ⟨⟨U.n 1 ++ [sP 0 0] ++ U.n 2 ++ [sS (parts e.1)] ++ [sL true (.int .u8) o] ++ U.n 108, [], [(0, .obj [.int .i64 e.1, .int .i64 e.2.1, .str e.2.2.1, .str e.2.2.2.1, .psl false (.int .i64) e.2.2.2.2.1, .psl false tRange e.2.2.2.2.2.1, .int .i64 e.2.2.2.2.2.2.1, .int .i64 e.2.2.2.2.2.2.2.1, .int .i64 e.2.2.2.2.2.2.2.2.1, .int .i64 e.2.2.2.2.2.2.2.2.2.1, .psl false (.int .u8) e.2.2.2.2.2.2.2.2.2.2])]⟩, 1, []⟩
def IEnc9 (e : Event)  (o : List Int) : Prop := evRight e = true ∧ o = encP 2 e
def stEnc15 (e : Event) (o : List Int) : St2 := ⟨⟨U.n 1 ++ [sP 0 0] ++ U.n 2 ++ [sS (parts e.1)] ++ [sL true (.int .u8) o] ++ U.n 108, [], [(0, .obj [.int .i64 e.1, .int .i64 e.2.1, .str e.2.2.1, .str e.2.2.2.1, .psl false (.int .i64) e.2.2.2.2.1, .psl false tRange e.2.2.2.2.2.1, .int .i64 e.2.2.2.2.2.2.1, .int .i64 e.2.2.2.2.2.2.2.1, .int .i64 e.2.2.2.2.2.2.2.2.1, .int .i64 e.2.2.2.2.2.2.2.2.2.1, .psl false (.int .u8) e.2.2.2.2.2.2.2.2.2.2])]⟩, 1, []⟩
def IEnc15 (e : Event)  (o : List Int) : Prop := evRight e = true ∧ o = encP 3 e
def stEnc21 (e : Event) (o : List Int) : St2 := ⟨⟨U.n 1 ++ [sP 0 0] ++ U.n 2 ++ [sS (parts e.1)] ++ [sL true (.int .u8) o] ++ U.n 108, [], [(0, .obj [.int .i64 e.1, .int .i64 e.2.1, .str e.2.2.1, .str e.2.2.2.1, .psl false (.int .i64) e.2.2.2.2.1, .psl false tRange e.2.2.2.2.2.1, .int .i64 e.2.2.2.2.2.2.1, .int .i64 e.2.2.2.2.2.2.2.1, .int .i64 e.2.2.2.2.2.2.2.2.1, .int .i64 e.2.2.2.2.2.2.2.2.2.1, .psl false (.int .u8) e.2.2.2.2.2.2.2.2.2.2])]⟩, 1, []⟩
def IEnc21 (e : Event)  (o : List Int) : Prop := evRight e = true ∧ o = encP 4 e
def stEnc27 (e : Event) (o : List Int) : St2 := ⟨⟨U.n 1 ++ [sP 0 0] ++ U.n 2 ++ [sS (parts e.1)] ++ [sL true (.int .u8) o] ++ U.n 108, [], [(0, .obj [.int .i64 e.1, .int .i64 e.2.1, .str e.2.2.1, .str e.2.2.2.1, .psl false (.int .i64) e.2.2.2.2.1, .psl false tRange e.2.2.2.2.2.1, .int .i64 e.2.2.2.2.2.2.1, .int .i64 e.2.2.2.2.2.2.2.1, .int .i64 e.2.2.2.2.2.2.2.2.1, .int .i64 e.2.2.2.2.2.2.2.2.2.1, .psl false (.int .u8) e.2.2.2.2.2.2.2.2.2.2])]⟩, 1, []⟩
def IEnc27 (e : Event)  (o : List Int) : Prop := evRight e = true ∧ o = encP 8 e
def stEnc29 (e : Event) (o : List Int) : St2 := ⟨⟨U.n 5 ++ [sL true (.int .u8) o] ++ U.n 108, [], []⟩, 0, []⟩
def IEnc29 (e : Event)  (o : List Int) : Prop := evRight e = true ∧ o = encP 9 e
def stref12_Encode_12 (e : Event) (o : List Int) (i : Int) : St2 := ⟨⟨U.n 1 ++ [sP 0 0] ++ U.n 2 ++ [sS (parts e.1)] ++ [sL true (.int .u8) o] ++ [sI i] ++ U.n 107, [], [(0, .obj [.int .i64 e.1, .int .i64 e.2.1, .str e.2.2.1, .str e.2.2.2.1, .psl false (.int .i64) e.2.2.2.2.1, .psl false tRange e.2.2.2.2.2.1, .int .i64 e.2.2.2.2.2.2.1, .int .i64 e.2.2.2.2.2.2.2.1, .int .i64 e.2.2.2.2.2.2.2.2.1, .int .i64 e.2.2.2.2.2.2.2.2.2.1, .psl false (.int .u8) e.2.2.2.2.2.2.2.2.2.2])]⟩, 1, []⟩
def Iref12_Encode_12 (e : Event)  (o : List Int) (i : Int) : Prop := evRight e = true ∧ idxB (parts e.1) 105 ≥ 0 ∧ at_ (eIDs e) i ∧ o = encP 2 e ++ (num1 (eIDs e).length ++ nums ((eIDs e).take i.toNat))
def stref12_Encode_18 (e : Event) (o : List Int) (i : Int) : St2 := ⟨⟨U.n 1 ++ [sP 0 0] ++ U.n 2 ++ [sS (parts e.1)] ++ [sL true (.int .u8) o] ++ U.n 1 ++ [sI i] ++ U.n 106, [], [(0, .obj [.int .i64 e.1, .int .i64 e.2.1, .str e.2.2.1, .str e.2.2.2.1, .psl false (.int .i64) e.2.2.2.2.1, .psl false tRange e.2.2.2.2.2.1, .int .i64 e.2.2.2.2.2.2.1, .int .i64 e.2.2.2.2.2.2.2.1, .int .i64 e.2.2.2.2.2.2.2.2.1, .int .i64 e.2.2.2.2.2.2.2.2.2.1, .psl false (.int .u8) e.2.2.2.2.2.2.2.2.2.2])]⟩, 1, []⟩
def Iref12_Encode_18 (e : Event)  (o : List Int) (i : Int) : Prop := evRight e = true ∧ idxB (parts e.1) 115 ≥ 0 ∧ at_ (eSet e) i ∧ o = encP 3 e ++ (num1 (eSet e).length ++ pairs ((eSet e).take i.toNat))
def stref12_Encode_23 (e : Event) (o : List Int) (i : Int) : St2 := ⟨⟨U.n 1 ++ [sP 0 0] ++ U.n 2 ++ [sS (parts e.1)] ++ [sL true (.int .u8) o] ++ U.n 2 ++ [sP 1 0] ++ [sI i] ++ U.n 104, [], [(0, .obj [.int .i64 e.1, .int .i64 e.2.1, .str e.2.2.1, .str e.2.2.2.1, .psl false (.int .i64) e.2.2.2.2.1, .psl false tRange e.2.2.2.2.2.1, .int .i64 e.2.2.2.2.2.2.1, .int .i64 e.2.2.2.2.2.2.2.1, .int .i64 e.2.2.2.2.2.2.2.2.1, .int .i64 e.2.2.2.2.2.2.2.2.2.1, .psl false (.int .u8) e.2.2.2.2.2.2.2.2.2.2]), (1, .obj [.arr 4 true (.int .i64) [e.2.2.2.2.2.2.1, e.2.2.2.2.2.2.2.1, e.2.2.2.2.2.2.2.2.1, e.2.2.2.2.2.2.2.2.2.1]])]⟩, 2, []⟩
def Iref12_Encode_23 (e : Event)  (o : List Int) (i : Int) : Prop := evRight e = true ∧ 0 ≤ i ∧ i ≤ 4 ∧ o = encP (4 + i.toNat) e
def stRead10 (b : List Int) (l : List Int) (r : Int) (e : Event) : St2 := ⟨⟨[sP 0 0] ++ U.n 1 ++ [sP 1 0] ++ [sP 2 0] ++ [sS (parts (rNum (b, 0)).1)] ++ U.n 93, [], [(0, .obj [.psl false tU8 l, .int .i64 r]), (1, .obj [.int .i64 0, .int .i64 0, .str [], .str [], .nils, .nils, .int .i64 0, .int .i64 0, .int .i64 0, .int .i64 0, .nils]), (2, .obj [.int .i64 e.1, .int .i64 e.2.1, .str e.2.2.1, .str e.2.2.2.1, .nils, .nils, .int .i64 e.2.2.2.2.2.2.1, .int .i64 e.2.2.2.2.2.2.2.1, .int .i64 e.2.2.2.2.2.2.2.2.1, .int .i64 e.2.2.2.2.2.2.2.2.2.1, .nils])]⟩, 3, []⟩
def IRead10 (b : List Int)  (l : List Int) (r : Int) (e : Event) : Prop := ((l, r), e) = readP 1 b
def stRead12 (b : List Int) (l : List Int) (r : Int) (e : Event) : St2 := ⟨⟨[sP 0 0] ++ U.n 1 ++ [sP 1 0] ++ [sP 2 0] ++ [sS (parts (rNum (b, 0)).1)] ++ U.n 93, [], [(0, .obj [.psl false tU8 l, .int .i64 r]), (1, .obj [.int .i64 0, .int .i64 0, .str [], .str [], .nils, .nils, .int .i64 0, .int .i64 0, .int .i64 0, .int .i64 0, .nils]), (2, .obj [.int .i64 e.1, .int .i64 e.2.1, .str e.2.2.1, .str e.2.2.2.1, .nils, .nils, .int .i64 e.2.2.2.2.2.2.1, .int .i64 e.2.2.2.2.2.2.2.1, .int .i64 e.2.2.2.2.2.2.2.2.1, .int .i64 e.2.2.2.2.2.2.2.2.2.1, .nils])]⟩, 3, []⟩
def IRead12 (b : List Int)  (l : List Int) (r : Int) (e : Event) : Prop := ((l, r), e) = readP 2 b
def stRead17 (b : List Int) (l : List Int) (r : Int) (e : Event) : St2 := ⟨⟨[sP 0 0] ++ U.n 1 ++ [sP 1 0] ++ [sP 2 0] ++ [sS (parts (rNum (b, 0)).1)] ++ U.n 93, [], [(0, .obj [.psl false tU8 l, .int .i64 r]), (1, .obj [.int .i64 0, .int .i64 0, .str [], .str [], .nils, .nils, .int .i64 0, .int .i64 0, .int .i64 0, .int .i64 0, .nils]), (2, .obj [.int .i64 e.1, .int .i64 e.2.1, .str e.2.2.1, .str e.2.2.2.1, .psl false (.int .i64) e.2.2.2.2.1, .nils, .int .i64 e.2.2.2.2.2.2.1, .int .i64 e.2.2.2.2.2.2.2.1, .int .i64 e.2.2.2.2.2.2.2.2.1, .int .i64 e.2.2.2.2.2.2.2.2.2.1, .nils])]⟩, 3, []⟩
def IRead17 (b : List Int)  (l : List Int) (r : Int) (e : Event) : Prop := ((l, r), e) = readP 3 b
def stRead23 (b : List Int) (l : List Int) (r : Int) (e : Event) : St2 := ⟨⟨[sP 0 0] ++ U.n 1 ++ [sP 1 0] ++ [sP 2 0] ++ [sS (parts (rNum (b, 0)).1)] ++ U.n 93, [], [(0, .obj [.psl false tU8 l, .int .i64 r]), (1, .obj [.int .i64 0, .int .i64 0, .str [], .str [], .nils, .nils, .int .i64 0, .int .i64 0, .int .i64 0, .int .i64 0, .nils]), (2, .obj [.int .i64 e.1, .int .i64 e.2.1, .str e.2.2.1, .str e.2.2.2.1, .psl false (.int .i64) e.2.2.2.2.1, .psl false tRange e.2.2.2.2.2.1, .int .i64 e.2.2.2.2.2.2.1, .int .i64 e.2.2.2.2.2.2.2.1, .int .i64 e.2.2.2.2.2.2.2.2.1, .int .i64 e.2.2.2.2.2.2.2.2.2.1, .nils])]⟩, 3, []⟩
def IRead23 (b : List Int)  (l : List Int) (r : Int) (e : Event) : Prop := ((l, r), e) = readP 4 b
def stRead25 (b : List Int) (l : List Int) (r : Int) (e : Event) : St2 := ⟨⟨[sP 0 0] ++ U.n 1 ++ [sP 1 0] ++ [sP 2 0] ++ [sS (parts (rNum (b, 0)).1)] ++ U.n 93, [], [(0, .obj [.psl false tU8 l, .int .i64 r]), (1, .obj [.int .i64 0, .int .i64 0, .str [], .str [], .nils, .nils, .int .i64 0, .int .i64 0, .int .i64 0, .int .i64 0, .nils]), (2, .obj [.int .i64 e.1, .int .i64 e.2.1, .str e.2.2.1, .str e.2.2.2.1, .psl false (.int .i64) e.2.2.2.2.1, .psl false tRange e.2.2.2.2.2.1, .int .i64 e.2.2.2.2.2.2.1, .int .i64 e.2.2.2.2.2.2.2.1, .int .i64 e.2.2.2.2.2.2.2.2.1, .int .i64 e.2.2.2.2.2.2.2.2.2.1, .nils])]⟩, 3, []⟩
def IRead25 (b : List Int)  (l : List Int) (r : Int) (e : Event) : Prop := ((l, r), e) = readP 5 b
def stRead27 (b : List Int) (l : List Int) (r : Int) (e : Event) : St2 := ⟨⟨[sP 0 0] ++ U.n 1 ++ [sP 1 0] ++ [sP 2 0] ++ [sS (parts (rNum (b, 0)).1)] ++ U.n 93, [], [(0, .obj [.psl false tU8 l, .int .i64 r]), (1, .obj [.int .i64 0, .int .i64 0, .str [], .str [], .nils, .nils, .int .i64 0, .int .i64 0, .int .i64 0, .int .i64 0, .nils]), (2, .obj [.int .i64 e.1, .int .i64 e.2.1, .str e.2.2.1, .str e.2.2.2.1, .psl false (.int .i64) e.2.2.2.2.1, .psl false tRange e.2.2.2.2.2.1, .int .i64 e.2.2.2.2.2.2.1, .int .i64 e.2.2.2.2.2.2.2.1, .int .i64 e.2.2.2.2.2.2.2.2.1, .int .i64 e.2.2.2.2.2.2.2.2.2.1, .nils])]⟩, 3, []⟩
def IRead27 (b : List Int)  (l : List Int) (r : Int) (e : Event) : Prop := ((l, r), e) = readP 6 b
def stRead29 (b : List Int) (l : List Int) (r : Int) (e : Event) : St2 := ⟨⟨[sP 0 0] ++ U.n 1 ++ [sP 1 0] ++ [sP 2 0] ++ [sS (parts (rNum (b, 0)).1)] ++ U.n 93, [], [(0, .obj [.psl false tU8 l, .int .i64 r]), (1, .obj [.int .i64 0, .int .i64 0, .str [], .str [], .nils, .nils, .int .i64 0, .int .i64 0, .int .i64 0, .int .i64 0, .nils]), (2, .obj [.int .i64 e.1, .int .i64 e.2.1, .str e.2.2.1, .str e.2.2.2.1, .psl false (.int .i64) e.2.2.2.2.1, .psl false tRange e.2.2.2.2.2.1, .int .i64 e.2.2.2.2.2.2.1, .int .i64 e.2.2.2.2.2.2.2.1, .int .i64 e.2.2.2.2.2.2.2.2.1, .int .i64 e.2.2.2.2.2.2.2.2.2.1, .nils])]⟩, 3, []⟩
def IRead29 (b : List Int)  (l : List Int) (r : Int) (e : Event) : Prop := ((l, r), e) = readP 7 b
def stRead31 (b : List Int) (l : List Int) (r : Int) (e : Event) : St2 := ⟨⟨[sP 0 0] ++ U.n 1 ++ [sP 1 0] ++ [sP 2 0] ++ [sS (parts (rNum (b, 0)).1)] ++ U.n 93, [], [(0, .obj [.psl false tU8 l, .int .i64 r]), (1, .obj [.int .i64 0, .int .i64 0, .str [], .str [], .nils, .nils, .int .i64 0, .int .i64 0, .int .i64 0, .int .i64 0, .nils]), (2, .obj [.int .i64 e.1, .int .i64 e.2.1, .str e.2.2.1, .str e.2.2.2.1, .psl false (.int .i64) e.2.2.2.2.1, .psl false tRange e.2.2.2.2.2.1, .int .i64 e.2.2.2.2.2.2.1, .int .i64 e.2.2.2.2.2.2.2.1, .int .i64 e.2.2.2.2.2.2.2.2.1, .int .i64 e.2.2.2.2.2.2.2.2.2.1, .nils])]⟩, 3, []⟩
def IRead31 (b : List Int)  (l : List Int) (r : Int) (e : Event) : Prop := ((l, r), e) = readP 8 b
def stRead33 (b : List Int) (l : List Int) (r : Int) (e : Event) : St2 := ⟨⟨U.n 2 ++ [sP 1 0] ++ [sP 2 0] ++ U.n 94, [], [(0, .obj [.psl false tU8 l, .int .i64 r]), (1, .obj [.int .i64 0, .int .i64 0, .str [], .str [], .nils, .nils, .int .i64 0, .int .i64 0, .int .i64 0, .int .i64 0, .nils]), (2, .obj [.int .i64 e.1, .int .i64 e.2.1, .str e.2.2.1, .str e.2.2.2.1, .psl false (.int .i64) e.2.2.2.2.1, .psl false tRange e.2.2.2.2.2.1, .int .i64 e.2.2.2.2.2.2.1, .int .i64 e.2.2.2.2.2.2.2.1, .int .i64 e.2.2.2.2.2.2.2.2.1, .int .i64 e.2.2.2.2.2.2.2.2.2.1, .psl false (.int .u8) e.2.2.2.2.2.2.2.2.2.2])]⟩, 3, []⟩
def IRead33 (b : List Int)  (l : List Int) (r : Int) (e : Event) : Prop := ((l, r), e) = readP 9 b
def stref12_Read_14 (b : List Int) (l : List Int) (r : Int) (e : Event) (i : Int) : St2 := ⟨⟨[sP 0 0] ++ U.n 1 ++ [sP 1 0] ++ [sP 2 0] ++ [sS (parts (rNum (b, 0)).1)] ++ [sI i] ++ U.n 92, [], [(0, .obj [.psl false tU8 l, .int .i64 r]), (1, .obj [.int .i64 0, .int .i64 0, .str [], .str [], .nils, .nils, .int .i64 0, .int .i64 0, .int .i64 0, .int .i64 0, .nils]), (2, .obj [.int .i64 e.1, .int .i64 e.2.1, .str e.2.2.1, .str e.2.2.2.1, .own 3, .nils, .int .i64 e.2.2.2.2.2.2.1, .int .i64 e.2.2.2.2.2.2.2.1, .int .i64 e.2.2.2.2.2.2.2.2.1, .int .i64 e.2.2.2.2.2.2.2.2.2.1, .nils]), (3, .row 3 (.int .i64) true true (eIDs e))]⟩, 4, []⟩
def Iref12_Read_14 (b : List Int) (l' : List Int) (r' : Int) (e' : Event) (i' : Int) (l : List Int) (r : Int) (e : Event) (i : Int) : Prop :=  idxB (parts (rNum (b, 0)).1) 105 ≥ 0 ∧ 0 ≤ i ∧ i ≤ i' ∧ i' ≤ 60 ∧ eIDs e' = [] ∧ (eIDs e).length + i.toNat = i'.toNat ∧ ((l', r'), e') = ((rCount 60 (readP 2 b).1).2, (readP 2 b).2) ∧ i' = (cond (decide ((rCount 60 (readP 2 b).1).1 ≥ 0)) (rCount 60 (readP 2 b).1).1 0) ∧ e = (eKind e', eAt e', eBox e', eTo e', eIDs e, eSet e', eMode e', eFlags e', eDate e', eN e', eBody e') ∧ (readNums i'.toNat (l', r')).1 = eIDs e ++ (readNums i.toNat (l, r)).1 ∧ (readNums i'.toNat (l', r')).2 = (readNums i.toNat (l, r)).2
def stref12_Read_19 (b : List Int) (l : List Int) (r : Int) (e : Event) (i : Int) : St2 := ⟨⟨[sP 0 0] ++ U.n 1 ++ [sP 1 0] ++ [sP 2 0] ++ [sS (parts (rNum (b, 0)).1)] ++ U.n 1 ++ [sI i] ++ U.n 91, [], [(0, .obj [.psl false tU8 l, .int .i64 r]), (1, .obj [.int .i64 0, .int .i64 0, .str [], .str [], .nils, .nils, .int .i64 0, .int .i64 0, .int .i64 0, .int .i64 0, .nils]), (2, .obj [.int .i64 e.1, .int .i64 e.2.1, .str e.2.2.1, .str e.2.2.2.1, .psl false (.int .i64) e.2.2.2.2.1, .own 3, .int .i64 e.2.2.2.2.2.2.1, .int .i64 e.2.2.2.2.2.2.2.1, .int .i64 e.2.2.2.2.2.2.2.2.1, .int .i64 e.2.2.2.2.2.2.2.2.2.1, .nils]), (3, .row 61 tRange true true (eSet e))]⟩, 4, []⟩
def Iref12_Read_19 (b : List Int) (l' : List Int) (r' : Int) (e' : Event) (i' : Int) (l : List Int) (r : Int) (e : Event) (i : Int) : Prop :=  idxB (parts (rNum (b, 0)).1) 115 ≥ 0 ∧ 0 ≤ i ∧ i ≤ i' ∧ i' ≤ 60 ∧ eSet e' = [] ∧ (eSet e).length + i.toNat = i'.toNat ∧ ((l', r'), e') = ((rCount 60 (readP 3 b).1).2, (readP 3 b).2) ∧ i' = (cond (decide ((rCount 60 (readP 3 b).1).1 ≥ 0)) (rCount 60 (readP 3 b).1).1 0) ∧ e = (eKind e', eAt e', eBox e', eTo e', eIDs e', eSet e, eMode e', eFlags e', eDate e', eN e', eBody e') ∧ (readRanges i'.toNat (l', r')).1 = eSet e ++ (readRanges i.toNat (l, r)).1 ∧ (readRanges i'.toNat (l', r')).2 = (readRanges i.toNat (l, r)).2
end U
def lpslices_Equal_int_int_4 (a b : List Int) : Vc.Loop := ⟨{ keep := [0, 1, 12, 13] }, Int, fun x => U.stslices_Equal_int_int_4 a b x, fun x0 x => U.Islices_Equal_int_int_4 a b  x, fun x => a.length - x.toNat⟩
def lpslices_Equal_api_Range_api_Range_4 (a b : List Range) : Vc.Loop := ⟨{ keep := [0, 1, 12, 13] }, Int, fun x => U.stslices_Equal_api_Range_api_Range_4 a b x, fun x0 x => U.Islices_Equal_api_Range_api_Range_4 a b  x, fun x => a.length - x.toNat⟩
def lpref09_Ints_4 (a b : List Int) : Vc.Loop := ⟨{ keep := [0, 1, 5] }, Int, fun x => U.stref09_Ints_4 a b x, fun x0 x => U.Iref09_Ints_4 a b  x, fun x => a.length - x.toNat⟩
def lpref09_Same_4 (a b : List Range) : Vc.Loop := ⟨{ keep := [0, 1, 5] }, Int, fun x => U.stref09_Same_4 a b x, fun x0 x => U.Iref09_Same_4 a b  x, fun x => a.length - x.toNat⟩
def lpevent_ids_2 (l : List Int) : Vc.Loop := ⟨{ keep := [0, 5, 6, 7] }, Int, fun x => U.stevent_ids_2 l x, fun x0 x => U.Ievent_ids_2 l  x, fun x => l.length - x.toNat⟩
def lpIndexFuncR (l : List Range) : Vc.Loop := ⟨{ keep := [0, 1, 7, 8] }, Int, fun x => U.stIndexFuncR l x, fun x0 x => U.IIndexFuncR l  x, fun x => l.length - x.toNat⟩
def lpevent_Right_5 (e : Event) : Vc.Loop := ⟨{ keep := [1, 3, 20, 21, 22] }, Int, fun x => U.stevent_Right_5 e x, fun x0 x => U.Ievent_Right_5 e  x, fun x => 9 - x.toNat⟩
def lpevent_lay_11 (b : List Int) (e : Event) : Vc.Loop := ⟨{ keep := [0, 44, 45, 46] }, List Int × Int, fun x => U.stevent_lay_11 b e x.1 x.2, fun x0 x => U.Ievent_lay_11 b e  x.1 x.2, fun x => (U.eSet e).length - x.2.toNat⟩
def lpevent_Encode_5 (e : Event) : Vc.Loop := ⟨{ keep := [1, 4, 19, 20, 21] }, List Int × Int, fun x => U.stevent_Encode_5 e x.1 x.2, fun x0 x => U.Ievent_Encode_5 e  x.1 x.2, fun x => (U.parts e.1).length - x.2.toNat⟩
def lpevent_read_7  : Vc.Loop := ⟨{ keep := [0, 1, 26, 27], wakeO := [(1, 4, 3)] }, List Int × Int × Event × List Int × Int × Int, fun x => U.stevent_read_7  x.1 x.2.1 x.2.2.1 x.2.2.2.1 x.2.2.2.2.1 x.2.2.2.2.2, fun x0 x => U.Ievent_read_7  x0.1 x0.2.1 x0.2.2.1 x0.2.2.2.1 x0.2.2.2.2.1 x0.2.2.2.2.2 x.1 x.2.1 x.2.2.1 x.2.2.2.1 x.2.2.2.2.1 x.2.2.2.2.2, fun x => (x.2.2.2.2.1 - x.2.2.2.2.2).toNat⟩
def lpevent_read_12  : Vc.Loop := ⟨{ keep := [0, 1, 44, 45], wakeO := [(1, 5, 61)] }, List Int × Int × Event × List Int × Int × Int, fun x => U.stevent_read_12  x.1 x.2.1 x.2.2.1 x.2.2.2.1 x.2.2.2.2.1 x.2.2.2.2.2, fun x0 x => U.Ievent_read_12  x0.1 x0.2.1 x0.2.2.1 x0.2.2.2.1 x0.2.2.2.2.1 x0.2.2.2.2.2 x.1 x.2.1 x.2.2.1 x.2.2.2.1 x.2.2.2.2.1 x.2.2.2.2.2, fun x => (x.2.2.2.2.1 - x.2.2.2.2.2).toNat⟩
def lpevent_Decode_6 (b : List Int) : Vc.Loop := ⟨{ keep := [2, 4, 5, 25, 26, 27], wakeO := [(5, 4, 3), (5, 5, 61)], calmO := [(5, 10, 22)] }, List Int × Int × Event × Int, fun x => U.stevent_Decode_6 b x.1 x.2.1 x.2.2.1 x.2.2.2, fun x0 x => U.Ievent_Decode_6 b  x.1 x.2.1 x.2.2.1 x.2.2.2, fun x => (U.parts (U.rNum (b, 0)).1).length - x.2.2.2.toNat⟩
def lpref09_Rising_2 (l : List Int) : Vc.Loop := ⟨{ keep := [0, 3] }, Int, fun x => U.stref09_Rising_2 l x, fun x0 x => U.Iref09_Rising_2 l  x, fun x => l.length - x.toNat⟩
def lpref09_Right_2 (l : List Range) : Vc.Loop := ⟨{ keep := [0, 3] }, Int, fun x => U.stref09_Right_2 l x, fun x0 x => U.Iref09_Right_2 l  x, fun x => l.length - x.toNat⟩
def lpref12_has_2 (s : List Int) (c : Int) : Vc.Loop := ⟨{ keep := [0, 1, 5] }, Int, fun x => U.stref12_has_2 s c x, fun x0 x => U.Iref12_has_2 s c  x, fun x => s.length - x.toNat⟩
def lpref12_Right_8 (e : Event) : Vc.Loop := ⟨{ keep := [3, 5, 6, 7] }, List Bool × List Bool × Int, fun x => U.stref12_Right_8 e x.1 x.2.1 x.2.2, fun x0 x => U.Iref12_Right_8 e  x.1 x.2.1 x.2.2, fun x => 9 - x.2.2.toNat⟩
def lpEnc7 (e : Event) : Vc.Loop := ⟨{ keep := [1, 4, 5] }, List Int, fun x => U.stEnc7 e x, fun x0 x => U.IEnc7 e  x, fun x => 0⟩
def lpEnc9 (e : Event) : Vc.Loop := ⟨{ keep := [1, 4, 5] }, List Int, fun x => U.stEnc9 e x, fun x0 x => U.IEnc9 e  x, fun x => 0⟩
def lpEnc15 (e : Event) : Vc.Loop := ⟨{ keep := [1, 4, 5] }, List Int, fun x => U.stEnc15 e x, fun x0 x => U.IEnc15 e  x, fun x => 0⟩
def lpEnc21 (e : Event) : Vc.Loop := ⟨{ keep := [1, 4, 5] }, List Int, fun x => U.stEnc21 e x, fun x0 x => U.IEnc21 e  x, fun x => 0⟩
def lpEnc27 (e : Event) : Vc.Loop := ⟨{ keep := [1, 4, 5] }, List Int, fun x => U.stEnc27 e x, fun x0 x => U.IEnc27 e  x, fun x => 0⟩
def lpEnc29 (e : Event) : Vc.Loop := ⟨{ keep := [5] }, List Int, fun x => U.stEnc29 e x, fun x0 x => U.IEnc29 e  x, fun x => 0⟩
def lpref12_Encode_12 (e : Event) : Vc.Loop := ⟨{ keep := [1, 4, 5, 6] }, List Int × Int, fun x => U.stref12_Encode_12 e x.1 x.2, fun x0 x => U.Iref12_Encode_12 e  x.1 x.2, fun x => (U.eIDs e).length - x.2.toNat⟩
def lpref12_Encode_18 (e : Event) : Vc.Loop := ⟨{ keep := [1, 4, 5, 7] }, List Int × Int, fun x => U.stref12_Encode_18 e x.1 x.2, fun x0 x => U.Iref12_Encode_18 e  x.1 x.2, fun x => (U.eSet e).length - x.2.toNat⟩
def lpref12_Encode_23 (e : Event) : Vc.Loop := ⟨{ keep := [1, 4, 5, 8, 9] }, List Int × Int, fun x => U.stref12_Encode_23 e x.1 x.2, fun x0 x => U.Iref12_Encode_23 e  x.1 x.2, fun x => 4 - x.2.toNat⟩
def lpRead10 (b : List Int) : Vc.Loop := ⟨{ keep := [0, 2, 3, 4] }, List Int × Int × Event, fun x => U.stRead10 b x.1 x.2.1 x.2.2, fun x0 x => U.IRead10 b  x.1 x.2.1 x.2.2, fun x => 0⟩
def lpRead12 (b : List Int) : Vc.Loop := ⟨{ keep := [0, 2, 3, 4] }, List Int × Int × Event, fun x => U.stRead12 b x.1 x.2.1 x.2.2, fun x0 x => U.IRead12 b  x.1 x.2.1 x.2.2, fun x => 0⟩
def lpRead17 (b : List Int) : Vc.Loop := ⟨{ keep := [0, 2, 3, 4], calmO := [(3, 4, 24)] }, List Int × Int × Event, fun x => U.stRead17 b x.1 x.2.1 x.2.2, fun x0 x => U.IRead17 b  x.1 x.2.1 x.2.2, fun x => 0⟩
def lpRead23 (b : List Int) : Vc.Loop := ⟨{ keep := [0, 2, 3, 4], calmO := [(3, 4, 24), (3, 5, 25)] }, List Int × Int × Event, fun x => U.stRead23 b x.1 x.2.1 x.2.2, fun x0 x => U.IRead23 b  x.1 x.2.1 x.2.2, fun x => 0⟩
def lpRead25 (b : List Int) : Vc.Loop := ⟨{ keep := [0, 2, 3, 4], calmO := [(3, 4, 24), (3, 5, 25)] }, List Int × Int × Event, fun x => U.stRead25 b x.1 x.2.1 x.2.2, fun x0 x => U.IRead25 b  x.1 x.2.1 x.2.2, fun x => 0⟩
def lpRead27 (b : List Int) : Vc.Loop := ⟨{ keep := [0, 2, 3, 4], calmO := [(3, 4, 24), (3, 5, 25)] }, List Int × Int × Event, fun x => U.stRead27 b x.1 x.2.1 x.2.2, fun x0 x => U.IRead27 b  x.1 x.2.1 x.2.2, fun x => 0⟩
def lpRead29 (b : List Int) : Vc.Loop := ⟨{ keep := [0, 2, 3, 4], calmO := [(3, 4, 24), (3, 5, 25)] }, List Int × Int × Event, fun x => U.stRead29 b x.1 x.2.1 x.2.2, fun x0 x => U.IRead29 b  x.1 x.2.1 x.2.2, fun x => 0⟩
def lpRead31 (b : List Int) : Vc.Loop := ⟨{ keep := [0, 2, 3, 4], calmO := [(3, 4, 24), (3, 5, 25)] }, List Int × Int × Event, fun x => U.stRead31 b x.1 x.2.1 x.2.2, fun x0 x => U.IRead31 b  x.1 x.2.1 x.2.2, fun x => 0⟩
def lpRead33 (b : List Int) : Vc.Loop := ⟨{ keep := [2, 3], calmO := [(3, 4, 24), (3, 5, 25), (3, 10, 22)] }, List Int × Int × Event, fun x => U.stRead33 b x.1 x.2.1 x.2.2, fun x0 x => U.IRead33 b  x.1 x.2.1 x.2.2, fun x => 0⟩
def lpref12_Read_14 (b : List Int) : Vc.Loop := ⟨{ keep := [0, 2, 3, 4, 5], wakeO := [(3, 4, 3)] }, List Int × Int × Event × Int, fun x => U.stref12_Read_14 b x.1 x.2.1 x.2.2.1 x.2.2.2, fun x0 x => U.Iref12_Read_14 b x0.1 x0.2.1 x0.2.2.1 x0.2.2.2 x.1 x.2.1 x.2.2.1 x.2.2.2, fun x => x.2.2.2.toNat⟩
def lpref12_Read_19 (b : List Int) : Vc.Loop := ⟨{ keep := [0, 2, 3, 4, 6], wakeO := [(3, 5, 61)] }, List Int × Int × Event × Int, fun x => U.stref12_Read_19 b x.1 x.2.1 x.2.2.1 x.2.2.2, fun x0 x => U.Iref12_Read_19 b x0.1 x0.2.1 x0.2.2.1 x0.2.2.2 x.1 x.2.1 x.2.2.1 x.2.2.2, fun x => x.2.2.2.toNat⟩
def dslices_Equal_int_int (a : List Int) (b : List Int) : Done := rB (decide (a = b))
def sslices_Equal_int_int : Vc.Sum := .pure [tInts, tInts] false fun x => dslices_Equal_int_int x.1 x.2
def Lslices_Equal_int_int (a : List Int) (b : List Int) : Nat → List V → Nat → Option Vc.Loop := fun f v k => cond (Nat.beq f 42 && Nat.beq k 4) (some (lpslices_Equal_int_int_4 a b)) <| none
def Qslices_Equal_int_int : List (Nat × Ent) := (42, .sum sslices_Equal_int_int) :: Qref03_Same
def dslices_Equal_api_Range_api_Range (a : List Range) (b : List Range) : Done := rB (decide (a = b))
def sslices_Equal_api_Range_api_Range : Vc.Sum := .pure [tRanges, tRanges] false fun x => dslices_Equal_api_Range_api_Range x.1 x.2
def Lslices_Equal_api_Range_api_Range (a : List Range) (b : List Range) : Nat → List V → Nat → Option Vc.Loop := fun f v k => cond (Nat.beq f 43 && Nat.beq k 4) (some (lpslices_Equal_api_Range_api_Range_4 a b)) <| none
def Qslices_Equal_api_Range_api_Range : List (Nat × Ent) := (43, .sum sslices_Equal_api_Range_api_Range) :: Qslices_Equal_int_int
def dref09_Ints (a : List Int) (b : List Int) : Done := rB (decide (a = b))
def sref09_Ints : Vc.Sum := .pure [tInts, tInts] false fun x => dref09_Ints x.1 x.2
def Lref09_Ints (a : List Int) (b : List Int) : Nat → List V → Nat → Option Vc.Loop := fun f v k => cond (Nat.beq f 27 && Nat.beq k 4) (some (lpref09_Ints_4 a b)) <| none
def Qref09_Ints : List (Nat × Ent) := (27, .sum sref09_Ints) :: Qslices_Equal_api_Range_api_Range
def dref09_Same (a : List Range) (b : List Range) : Done := rB (decide (a = b))
def sref09_Same : Vc.Sum := .pure [tRanges, tRanges] false fun x => dref09_Same x.1 x.2
def Lref09_Same (a : List Range) (b : List Range) : Nat → List V → Nat → Option Vc.Loop := fun f v k => cond (Nat.beq f 28 && Nat.beq k 4) (some (lpref09_Same_4 a b)) <| none
def Qref09_Same : List (Nat × Ent) := (28, .sum sref09_Same) :: Qref09_Ints
def devent_within (n : Int) (m : Int) : Done := rB (U.within n m)
def sevent_within : Vc.Sum := .pure [.int .i64, .int .i64] false fun x => devent_within x.1 x.2
def Levent_within (n : Int) (m : Int) : Nat → List V → Nat → Option Vc.Loop := noKeep
def Qevent_within : List (Nat × Ent) := (34, .sum sevent_within) :: Qref09_Same
def devent_Parts (k : Int) : Done := ⟨[], .one (.str (U.parts k)), [], []⟩
def sevent_Parts : Vc.Sum := .pure [.int .i64] false fun x => devent_Parts x
def Levent_Parts (k : Int) : Nat → List V → Nat → Option Vc.Loop := noKeep
def Qevent_Parts : List (Nat × Ent) := (17, .sum sevent_Parts) :: Qevent_within
def devent_ids (l : List Int) : Done := rB (U.idsOk l)
def sevent_ids : Vc.Sum := .pure [tInts] false fun x => devent_ids x
def Levent_ids (l : List Int) : Nat → List V → Nat → Option Vc.Loop := fun f v k => cond (Nat.beq f 59 && Nat.beq k 2) (some (lpevent_ids_2 l)) <| none
def Qevent_ids : List (Nat × Ent) := (59, .sum sevent_ids) :: Qevent_Parts
def devent_set_1 (r : Range) : Done := rB (U.badR r)
def sevent_set_1 : Vc.Sum := .pure [tRange] false fun x => devent_set_1 x
def Levent_set_1 (r : Range) : Nat → List V → Nat → Option Vc.Loop := noKeep
def Qevent_set_1 : List (Nat × Ent) := (69, .sum sevent_set_1) :: Qevent_ids
def devent_set (l : List Range) : Done := rB (U.setOk l)
def sevent_set : Vc.Sum := .pure [tRanges] false fun x => devent_set x
def Levent_set (l : List Range) : Nat → List V → Nat → Option Vc.Loop := fun f v k => cond (Nat.beq f 75 && Nat.beq k 2) (some (lpIndexFuncR l)) <| none
def Qevent_set : List (Nat × Ent) := (60, .sum sevent_set) :: Qevent_set_1
def dflag_Right (f : Int) : Done := rB (U.fRight f)
def sflag_Right : Vc.Sum := .pure [.int .i64] false fun x => dflag_Right x
def Lflag_Right (f : Int) : Nat → List V → Nat → Option Vc.Loop := noKeep
def Qflag_Right : List (Nat × Ent) := (61, .sum sflag_Right) :: Qevent_set
def devent_part (e : Event) (c : Int) : Done := ⟨[(U.eBox e).length ≤ 1000000000000, (U.eTo e).length ≤ 1000000000000], .tup [one (.bool (U.good c e)), one (.bool (U.none_ c e))], [], []⟩
def sevent_part : Vc.Sum := .pure [tEvent, .int .u8] false fun x => devent_part x.1 x.2
def Levent_part (e : Event) (c : Int) : Nat → List V → Nat → Option Vc.Loop := noKeep
def Qevent_part : List (Nat × Ent) := (35, .sum sevent_part) :: Qflag_Right
def devent_Right (e : Event) : Done := ⟨[(U.eBox e).length ≤ 1000000000000, (U.eTo e).length ≤ 1000000000000], .one (.bool (U.evRight e)), [], []⟩
def sevent_Right : Vc.Sum := .pure [tEvent] false fun x => devent_Right x
def Levent_Right (e : Event) : Nat → List V → Nat → Option Vc.Loop := fun f v k => cond (Nat.beq f 15 && Nat.beq k 5) (some (lpevent_Right_5 e)) <| none
def Qevent_Right : List (Nat × Ent) := (15, .sum sevent_Right) :: Qevent_part
def devent_lay (b : List Int) (e : Event) (c : Int) : Done := ⟨[b.length ≤ 100000000000, (U.eIDs e).length ≤ 1000000000, (U.eSet e).length ≤ 1000000000], .one (.psl true (.int .u8) (b ++ U.lay1 c e)), [], []⟩
def sevent_lay : Vc.Sum := .pure [tBytes, tEvent, .int .u8] false fun x => devent_lay x.1 x.2.1 x.2.2
def Levent_lay (b : List Int) (e : Event) (c : Int) : Nat → List V → Nat → Option Vc.Loop := fun f v k => cond (Nat.beq f 30 && Nat.beq k 11) (some (lpevent_lay_11 b e)) <| none
def Qevent_lay : List (Nat × Ent) := (30, .sum sevent_lay) :: Qevent_Right
def devent_Encode (e : Event) : Done := ⟨[(U.eBox e).length ≤ 1000000000000, (U.eTo e).length ≤ 1000000000000], rBE (U.encE e), [], []⟩
def sevent_Encode : Vc.Sum := .pure [tEvent] false fun x => devent_Encode x
def Levent_Encode (e : Event) : Nat → List V → Nat → Option Vc.Loop := fun f v k => cond (Nat.beq f 12 && Nat.beq k 5) (some (lpevent_Encode_5 e)) <| none
def Qevent_Encode : List (Nat × Ent) := (12, .sum sevent_Encode) :: Qevent_lay
def devent_Decode (b : List Int) : Done := ⟨[b.length ≤ 1000000000], .tup [.of false tEvent (U.decE b).1, one (.int .i64 (U.decE b).2)], [], []⟩
def sevent_Decode : Vc.Sum := .pure [tBytes] true fun x => devent_Decode x
def Levent_Decode (b : List Int) : Nat → List V → Nat → Option Vc.Loop := fun f v k => cond (Nat.beq f 8 && Nat.beq k 6) (some (lpevent_Decode_6 b)) <| cond (Nat.beq f 23 && Nat.beq k 7) (some (lpevent_read_7)) <| cond (Nat.beq f 23 && Nat.beq k 12) (some (lpevent_read_12)) <| none
def Qevent_Decode : List (Nat × Ent) := (8, .sum sevent_Decode) :: Qevent_Encode
def devent_Same (a : Event) (b : Event) : Done := rB (U.evSame a b)
def sevent_Same : Vc.Sum := .pure [tEvent, tEvent] false fun x => devent_Same x.1 x.2
def Levent_Same (a : Event) (b : Event) : Nat → List V → Nat → Option Vc.Loop := noKeep
def Qevent_Same : List (Nat × Ent) := (19, .sum sevent_Same) :: Qevent_Decode
def dref08_Right (f : Int) : Done := rB (U.fRight f)
def sref08_Right : Vc.Sum := .pure [.int .i64] false fun x => dref08_Right x
def Lref08_Right (f : Int) : Nat → List V → Nat → Option Vc.Loop := noKeep
def Qref08_Right : List (Nat × Ent) := (41, .sum sref08_Right) :: Qevent_Same
def dref09_Rising (l : List Int) : Done := rB (U.rise 0 l)
def sref09_Rising : Vc.Sum := .pure [tInts] false fun x => dref09_Rising x
def Lref09_Rising (l : List Int) : Nat → List V → Nat → Option Vc.Loop := fun f v k => cond (Nat.beq f 38 && Nat.beq k 2) (some (lpref09_Rising_2 l)) <| none
def Qref09_Rising : List (Nat × Ent) := (38, .sum sref09_Rising) :: Qref08_Right
def dref09_Right (l : List Range) : Done := rB (decide (l.length ≥ 1) && U.setOk l)
def sref09_Right : Vc.Sum := .pure [tRanges] false fun x => dref09_Right x
def Lref09_Right (l : List Range) : Nat → List V → Nat → Option Vc.Loop := fun f v k => cond (Nat.beq f 64 && Nat.beq k 2) (some (lpref09_Right_2 l)) <| none
def Qref09_Right : List (Nat × Ent) := (64, .sum sref09_Right) :: Qref09_Rising
def dref12_Parts (k : Int) : Done := ⟨[], .one (.str (U.parts k)), [], []⟩
def sref12_Parts : Vc.Sum := .pure [.int .i64] false fun x => dref12_Parts x
def Lref12_Parts (k : Int) : Nat → List V → Nat → Option Vc.Loop := noKeep
def Qref12_Parts : List (Nat × Ent) := (18, .sum sref12_Parts) :: Qref09_Right
def dref12_time (n : Int) : Done := rB (U.within n 1099511627776)
def sref12_time : Vc.Sum := .pure [.int .i64] false fun x => dref12_time x
def Lref12_time (n : Int) : Nat → List V → Nat → Option Vc.Loop := noKeep
def Qref12_time : List (Nat × Ent) := (37, .sum sref12_time) :: Qref12_Parts
def dref12_set (l : List Range) : Done := rB (U.setOk l)
def sref12_set : Vc.Sum := .pure [tRanges] false fun x => dref12_set x
def Lref12_set (l : List Range) : Nat → List V → Nat → Option Vc.Loop := noKeep
def Qref12_set : List (Nat × Ent) := (40, .sum sref12_set) :: Qref12_time
def dref12_has (s : List Int) (c : Int) : Done := rB (decide (idxB s c ≥ 0))
def sref12_has : Vc.Sum := .pure [.str, .int .u8] false fun x => dref12_has x.1 x.2
def Lref12_has (s : List Int) (c : Int) : Nat → List V → Nat → Option Vc.Loop := fun f v k => cond (Nat.beq f 32 && Nat.beq k 2) (some (lpref12_has_2 s c)) <| none
def Qref12_has : List (Nat × Ent) := (32, .sum sref12_has) :: Qref12_set
def dref12_Right (e : Event) : Done := ⟨[(U.eBox e).length ≤ 1000000000000, (U.eTo e).length ≤ 1000000000000], .one (.bool (U.evRight e)), [], []⟩
def sref12_Right : Vc.Sum := .pure [tEvent] false fun x => dref12_Right x
def Lref12_Right (e : Event) : Nat → List V → Nat → Option Vc.Loop := fun f v k => cond (Nat.beq f 16 && Nat.beq k 8) (some (lpref12_Right_8 e)) <| none
def Qref12_Right : List (Nat × Ent) := (16, .sum sref12_Right) :: Qref12_has
def dref12_Encode (e : Event) : Done := ⟨[(U.eBox e).length ≤ 1000000000000, (U.eTo e).length ≤ 1000000000000], rBE (U.encE e), [], []⟩
def sref12_Encode : Vc.Sum := .pure [tEvent] false fun x => dref12_Encode x
def Lref12_Encode (e : Event) : Nat → List V → Nat → Option Vc.Loop := fun f v k => cond (Nat.beq f 14 && Nat.beq k 1000007) (some (lpEnc7 e)) <| cond (Nat.beq f 14 && Nat.beq k 1000009) (some (lpEnc9 e)) <| cond (Nat.beq f 14 && Nat.beq k 1000015) (some (lpEnc15 e)) <| cond (Nat.beq f 14 && Nat.beq k 1000021) (some (lpEnc21 e)) <| cond (Nat.beq f 14 && Nat.beq k 1000027) (some (lpEnc27 e)) <| cond (Nat.beq f 14 && Nat.beq k 1000029) (some (lpEnc29 e)) <| cond (Nat.beq f 14 && Nat.beq k 12) (some (lpref12_Encode_12 e)) <| cond (Nat.beq f 14 && Nat.beq k 18) (some (lpref12_Encode_18 e)) <| cond (Nat.beq f 14 && Nat.beq k 23) (some (lpref12_Encode_23 e)) <| none
def Qref12_Encode : List (Nat × Ent) := (14, .sum sref12_Encode) :: Qref12_Right
def dref12_ReadR (l : List Int) (e : Int) : Done := ⟨[e = 0, l.length ≤ 1000000000], .v (.of false tEvent (U.refRead l).2), [.obj [.psl false tU8 (U.refRead l).1.1, .int .i64 (U.refRead l).1.2]], []⟩
def arref12_ReadR (l : List Int) (e : Int) : List V := [⟨false, [.ptr 0 0]⟩]
def esref12_ReadR (l : List Int) (e : Int) : List Entry := [.obj [.psl false tU8 l, .int .i64 e]]
def Lref12_ReadR (l : List Int) (e : Int) : Nat → List V → Nat → Option Vc.Loop := fun f v k => cond (Nat.beq f 25 && Nat.beq k 1000010) (some (lpRead10 l)) <| cond (Nat.beq f 25 && Nat.beq k 1000012) (some (lpRead12 l)) <| cond (Nat.beq f 25 && Nat.beq k 1000017) (some (lpRead17 l)) <| cond (Nat.beq f 25 && Nat.beq k 1000023) (some (lpRead23 l)) <| cond (Nat.beq f 25 && Nat.beq k 1000025) (some (lpRead25 l)) <| cond (Nat.beq f 25 && Nat.beq k 1000027) (some (lpRead27 l)) <| cond (Nat.beq f 25 && Nat.beq k 1000029) (some (lpRead29 l)) <| cond (Nat.beq f 25 && Nat.beq k 1000031) (some (lpRead31 l)) <| cond (Nat.beq f 25 && Nat.beq k 1000033) (some (lpRead33 l)) <| cond (Nat.beq f 25 && Nat.beq k 14) (some (lpref12_Read_14 l)) <| cond (Nat.beq f 25 && Nat.beq k 19) (some (lpref12_Read_19 l)) <| none
def alref12_ReadR : List V → List Entry → Option Done
  | [⟨false, [.ptr n1 n2]⟩], [.obj [.psl false t3 l3, .int .i64 e]] => if h3 : t3 = tU8 then cond (Nat.beq n1 0 && Nat.beq n2 0) (some (dref12_ReadR (h3 ▸ l3 : List (Ty.den tU8)) e)) none else none
  | _, _ => none
theorem alref12_ReadR_eq {args : List V} {es : List Entry} {d : Done} (h : alref12_ReadR args es = some d) : ∃ l e, args = arref12_ReadR l e ∧ es = esref12_ReadR l e ∧ d = dref12_ReadR l e := by
  unfold alref12_ReadR at h
  split at h
  · split at h <;> first | (cases h; done) | skip
    rename_i ht; subst ht
    obtain ⟨hb, hd⟩ := cond_some h; simp only [Bool.and_eq_true, Nat.beq_eq] at hb; (try obtain ⟨rfl, rfl⟩ := hb); subst hd; (try subst_vars); exact ⟨_, _, rfl, rfl, rfl⟩
  · cases h
def Fref12_Read (args : List V) (es : List Entry) : Option Done := orE (alref12_ReadR args es) (none)
def sref12_Read : Vc.Sum := .gen Fref12_Read
def Qref12_Read : List (Nat × Ent) := (25, .sum sref12_Read) :: Qref12_Encode
def dref12_Decode (b : List Int) : Done := ⟨[b.length ≤ 1000000000], .tup [.of false tEvent (U.decE b).1, one (.int .i64 (U.decE b).2)], [], []⟩
def sref12_Decode : Vc.Sum := .pure [tBytes] true fun x => dref12_Decode x
def Lref12_Decode (b : List Int) : Nat → List V → Nat → Option Vc.Loop := noKeep
def Qref12_Decode : List (Nat × Ent) := (9, .sum sref12_Decode) :: Qref12_Read
def dref12_Same (a : Event) (b : Event) : Done := rB (U.evSame a b)
def sref12_Same : Vc.Sum := .pure [tEvent, tEvent] false fun x => dref12_Same x.1 x.2
def Lref12_Same (a : Event) (b : Event) : Nat → List V → Nat → Option Vc.Loop := noKeep
def Qref12_Same : List (Nat × Ent) := (10, .sum sref12_Same) :: Qref12_Decode
def dref12_Great (e : Event) : Done := rB (U.great e)
def sref12_Great : Vc.Sum := .pure [tEvent] false fun x => dref12_Great x
def Lref12_Great (e : Event) : Nat → List V → Nat → Option Vc.Loop := noKeep
def Qref12_Great : List (Nat × Ent) := (11, .sum sref12_Great) :: Qref12_Same
end Go.Proofs.YtllmhikoaklpbaaDoor
