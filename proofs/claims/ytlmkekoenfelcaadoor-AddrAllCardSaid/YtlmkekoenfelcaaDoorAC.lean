/- What functions of this seat compute, in plain Lean. -/
import Derived.Test.YtlmkekoenfelcaaDoorAB
set_option linter.unusedVariables false
set_option linter.unusedSimpArgs false
set_option maxRecDepth 100000
namespace Go.Proofs.YtlmkekoenfelcaaDoor
open Go.Vc
abbrev OM : Ty := .pair .str (.pair .str .str)
abbrev sZ := List Int × List Int × List Int
abbrev St := Int × Int × Bool
namespace U
def opens (c : Int) : Int := cond (decide (c = 34)) 1 (cond (decide (c = 40)) 2 (cond (decide (c = 60)) 3 0))
def scan (s : St) (c : Int) : St × Int :=
 cond (decide (s.1 = 0)) ((opens c, cond (decide (c = 40)) 1 s.2.1, s.2.2), opens c)
 (cond (decide (s.1 = 3)) ((cond (decide (c = 62)) 0 3, s.2), 3)
 (cond s.2.2 ((s.1, s.2.1, false), s.1)
 (cond (decide (c = 92)) ((s.1, s.2.1, true), s.1)
 (cond (decide (s.1 = 1)) ((cond (decide (c = 34)) 0 1, s.2), 1)
 (cond (decide (c = 40)) ((s.1, s.2.1 + 1, s.2.2), s.1)
 (cond (decide (c = 41)) ((cond (decide (s.2.1 - 1 = 0)) 0 s.1, s.2.1 - 1, s.2.2), s.1) (s, s.1)))))))
def runs : St -> List Int -> List Int
 | _, [] => []
 | s, c :: r => (scan s c).2 :: runs (scan s c).1 r
def sorts (s : List Int) : List Int := runs (0, 0, false) s
def kb (k : Int) : Int := cond (decide (k = 0)) 112 (cond (decide (k = 1)) 113 (cond (decide (k = 2)) 99 97))
def bJ : List Int -> List Int -> List Int -> List (List Int)
 | c :: r, k :: ks, cur => cond (decide (k = 0) && decide (c = 44)) (cur :: bJ r ks []) (bJ r ks (cur ++ [c]))
 | _, _, cur => [cur]
def items (s : List Int) : List (List Int) := bJ s (sorts s) []
def noC : List Int -> List Int -> List Int
 | c :: r, k :: ks => cond (decide (k = 2)) (noC r ks) (c :: noC r ks)
 | _, _ => []
def bare (s : List Int) : List Int := trimB (noC s (sorts s))
def unq : Bool -> List Int -> List Int
 | _, [] => []
 | k, c :: r => cond (decide (c = 92) && !k) (unq true r) (c :: unq false r)
def vC (t : List Int) : Bool := decide (2 <= t.length) && (decide (t.getD 0 0 = 34) && decide (t.getD (t.length - 1) 0 = 34))
def rM (t : List Int) : List Int := cond (vC t) (unq false ((t.drop 1).take (t.length - 2))) t
def jR (s : List Int) : List Int := rM (trimB s)
def mW (b : List Int) : Int := aK (sorts b) 3
def Dq (b : List Int) : List Int := cond (decide (mW b >= 0)) (rG (b.drop (mW b + 1).toNat) 62) b
def Dt (b : List Int) : List Int := cond (decide (mW b >= 0)) (b.take (mW b).toNat) []
def addrOf (nm r : List Int) : sZ := (jR nm, cond (decide (lastB r 64 >= 0)) (r.take (lastB r 64).toNat) r, cond (decide (lastB r 64 >= 0)) (r.drop (lastB r 64 + 1).toNat) [])
def QU (b : List Int) : sZ := addrOf (Dt b) (trimB (Dq b))
def one (s : List Int) : sZ := QU (bare s)
def gK : Nat -> List (List Int) -> List sZ
 | _, [] => []
 | n, x :: r => cond (decide (0 < n) && !(decide (bare x = []))) (one x :: gK (n - 1) r) (gK n r)
def parse (s : List Int) : List sZ := gK 20 (items s)
def Ol (k d i : Int) : Prop := 0 <= k /\ k <= 3 /\ 0 <= d /\ d <= i /\ (k = 2 -> 1 <= d)
end U
namespace U
def aA (s : List Int) (k : Int) (d : Int) (q : Bool) (l : List Int) (i : Int) : St2 := ⟨⟨[sS s] ++ U.n 2 ++ [sP 0 0] ++ [own 1] ++ U.n 5 ++ [sI s.length] ++ [sI i] ++ U.n 11, [], [(0, .obj [.int .u8 k, .int .i64 d, .bool q]), (1, .row 37 (.int .u8) true true l)]⟩, 2, []⟩
def aV (s : List Int)  (k : Int) (d : Int) (q : Bool) (l : List Int) (i : Int) : Prop := at_ s i /\ Ol k d i /\ l.length = s.length /\ l.take i.toNat ++ runs (k, d, q) (s.drop i.toNat) = sorts s
def dY (s : List Int) (l : List (List Int)) (fr : Int) (i : Int) : St2 := ⟨⟨[sS s] ++ U.n 2 ++ [own 0] ++ [sI fr] ++ U.n 3 ++ [sL true (.int .u8) (sorts s)] ++ [sI (sorts s).length] ++ [sI i] ++ U.n 28, [], [(0, .row 9 .str true true l)]⟩, 1, []⟩
def jv (s : List Int)  (l : List (List Int)) (fr : Int) (i : Int) : Prop := at_ s i /\ 0 <= fr /\ fr <= i /\ (l.length : Int) <= i /\ l ++ bJ (s.drop i.toNat) ((sorts s).drop i.toNat) ((s.drop fr.toNat).take (i.toNat - fr.toNat)) = items s
def En (s : List Int) (o : List Int) (i : Int) : St2 := ⟨⟨[sS s] ++ U.n 2 ++ [sP 0 0] ++ U.n 3 ++ [sL true (.int .u8) (sorts s)] ++ [sI (sorts s).length] ++ [sI i] ++ U.n 13, [], [(0, .obj [.bF, .bH, .arr 0 true (.arr 42 .unit) []])]⟩, 1, []⟩
def Eo (s : List Int) (o : List Int) (i : Int) : St2 := ⟨⟨[sS s] ++ U.n 2 ++ [sP 0 0] ++ U.n 3 ++ [sL true (.int .u8) (sorts s)] ++ [sI (sorts s).length] ++ [sI i] ++ U.n 13, [], [(0, .obj [.ptr 0 0, .own 1, .arr 0 true (.arr 42 .unit) []]), (1, .row 5 (.int .u8) true true o)]⟩, 2, []⟩
def iC (s : List Int) (o : List Int) (i : Int) : St2 := match o with | [] => En s o i | _ :: _ => Eo s o i
def fC (s : List Int)  (o : List Int) (i : Int) : Prop := at_ s i /\ o.length <= i /\ o ++ noC (s.drop i.toNat) ((sorts s).drop i.toNat) = noC s (sorts s)
def zK  (m : List Int) (o : List Int) (q : Bool) (i : Int) : St2 := ⟨⟨U.n 3 ++ [sP 0 0] ++ [sB q] ++ U.n 26 ++ [own 1] ++ [sI m.length] ++ [sI i] ++ U.n 15, [], [(0, .obj [.bF, .bH, .arr 0 true (.arr 42 .unit) []]), (1, .row 5 (.int .u8) true false m)]⟩, 2, []⟩
def zL  (m : List Int) (o : List Int) (q : Bool) (i : Int) : St2 := ⟨⟨U.n 3 ++ [sP 0 0] ++ [sB q] ++ U.n 26 ++ [own 1] ++ [sI m.length] ++ [sI i] ++ U.n 15, [], [(0, .obj [.ptr 0 0, .own 2, .arr 0 true (.arr 42 .unit) []]), (1, .row 5 (.int .u8) true false m), (2, .row 5 (.int .u8) true true o)]⟩, 3, []⟩
def dZ  (m : List Int) (o : List Int) (q : Bool) (i : Int) : St2 := match o with | [] => zK  m o q i | _ :: _ => zL  m o q i
def dB  (m' : List Int) (o' : List Int) (q' : Bool) (i' : Int) (m : List Int) (o : List Int) (q : Bool) (i : Int) : Prop :=  m = m' /\ m.length <= 1000000000 /\ at_ m i /\ o.length <= i /\ o ++ unq q (m.drop i.toNat) = unq false m
def kP (l : List Int) (c : Int) (i : Int) : St2 := ⟨⟨[sL false (.int .u8) l] ++ [sK .u8 c] ++ U.n 5 ++ [sI l.length] ++ [sI i] ++ U.n 10, [], []⟩, 0, []⟩
def pY (l : List Int) (c : Int)  (i : Int) : Prop := at_ l i /\ aK l c = (if aK (l.drop i.toNat) c = -1 then -1 else i + aK (l.drop i.toNat) c)
def yT (s : List Int) (r : List Int) (nm : List Int) : St2 := ⟨⟨U.n 2 ++ [sP 0 0] ++ [sS r] ++ [sS nm] ++ U.n 44, [], [(0, .obj [.str [], .str [], .str []])]⟩, 1, []⟩
def Du (s : List Int)  (r : List Int) (nm : List Int) : Prop := r = Dq (bare s) /\ nm = Dt (bare s)
def eu (s : List Int) (l : List sZ) (i : Int) : St2 := ⟨⟨U.n 3 ++ [own 0] ++ U.n 3 ++ [sL true .str (items s)] ++ [sI (items s).length] ++ [sI i] ++ U.n 18, [], [(0, .row 30 OM true true l)]⟩, 1, []⟩
def jw (s : List Int)  (l : List sZ) (i : Int) : Prop := at_ (items s) i /\ l.length <= 20 /\ l ++ gK (20 - l.length) ((items s).drop i.toNat) = parse s
end U
def Ep (s : List Int) : Vc.Loop := ⟨{ keep := [0, 3, 4, 10, 11] }, Int × Int × Bool × List Int × Int, fun x => U.aA s x.1 x.2.1 x.2.2.1 x.2.2.2.1 x.2.2.2.2, fun x0 x => U.aV s  x.1 x.2.1 x.2.2.1 x.2.2.2.1 x.2.2.2.2, fun x => s.length - x.2.2.2.2.toNat, fun p => ∀ x, p x, fun _ h => h⟩
def Es (s : List Int) : Vc.Loop := ⟨{ keep := [0, 3, 4, 8, 9, 10], wake := [(3, 9)] }, List (List Int) × Int × Int, fun x => U.dY s x.1 x.2.1 x.2.2, fun x0 x => U.jv s  x.1 x.2.1 x.2.2, fun x => s.length - x.2.2.toNat, fun p => ∀ x, p x, fun _ h => h⟩
def FQ (s : List Int) : Vc.Loop := ⟨{ keep := [0, 3, 7, 8, 9] }, List Int × Int, fun x => U.iC s x.1 x.2, fun x0 x => U.fC s  x.1 x.2, fun x => s.length - x.2.toNat, fun p => (∀ i, p ([], i)) /\ ∀ c o i, p (c :: o, i), fun p h x => match x with | ([], i) => h.1 i | (c :: o, i) => h.2 c o i⟩
def Bd  : Vc.Loop := ⟨{ keep := [3, 4, 31, 32, 33] }, List Int × List Int × Bool × Int, fun x => U.dZ  x.1 x.2.1 x.2.2.1 x.2.2.2, fun x0 x => U.dB  x0.1 x0.2.1 x0.2.2.1 x0.2.2.2 x.1 x.2.1 x.2.2.1 x.2.2.2, fun x => x.1.length - x.2.2.2.toNat, fun p => (∀ m q i, p (m, [], q, i)) /\ ∀ m c o q i, p (m, c :: o, q, i), fun p h x => match x with | (m, [], q, i) => h.1 m q i | (m, c :: o, q, i) => h.2 m c o q i⟩
def JD (l : List Int) (c : Int) : Vc.Loop := ⟨{ keep := [0, 1, 7, 8] }, Int, fun x => U.kP l c x, fun x0 x => U.pY l c  x, fun x => l.length - x.toNat, fun p => ∀ x, p x, fun _ h => h⟩
def Qe (s : List Int) : Vc.Loop := ⟨{ keep := [2, 3, 4] }, List Int × List Int, fun x => U.yT s x.1 x.2, fun x0 x => U.Du s  x.1 x.2, fun x => 0, fun p => ∀ x, p x, fun _ h => h⟩
def Et (s : List Int) : Vc.Loop := ⟨{ keep := [3, 7, 8, 9], wake := [(3, 30)] }, List sZ × Int, fun x => U.eu s x.1 x.2, fun x0 x => U.jw s  x.1 x.2, fun x => (U.items s).length - x.2.toNat, fun p => ∀ x, p x, fun _ h => h⟩
def nV (s : List Int) : Done := ⟨[s.length <= 1000000000], .one (.psl true (.int .u8) (U.sorts s)), [], []⟩
def Ah : Vc.Sum := .pure [.str] false fun x => nV x
def Ai (s : List Int) : Nat -> List V -> Nat -> Option Vc.Loop := fun f v k => cond (Nat.beq f 18 && Nat.beq k 4) (some (Ep s)) <| none
def nX : List (Nat × Ent) := (18, .sum Ah) :: kU
def nY (s : List Int) : Done := ⟨[s.length <= 1000000000], .one (.psl true .str (U.items s)), [], []⟩
def Aj : Vc.Sum := .pure [.str] false fun x => nY x
def Ak (s : List Int) : Nat -> List V -> Nat -> Option Vc.Loop := fun f v k => cond (Nat.beq f 11 && Nat.beq k 4) (some (Es s)) <| none
def nZ : List (Nat × Ent) := (11, .sum Aj) :: nX
def qc (s : List Int) : Done := ⟨[s.length <= 1000000000], .one (.str (U.bare s)), [], []⟩
def Dv : Vc.Sum := .pure [.str] false fun x => qc x
def Dw (s : List Int) : Nat -> List V -> Nat -> Option Vc.Loop := fun f v k => cond (Nat.beq f 13 && Nat.beq k 3) (some (FQ s)) <| none
def qg : List (Nat × Ent) := (13, .sum Dv) :: nZ
def kV (s : List Int) : Done := ⟨[s.length <= 1000000000], .one (.str (U.jR s)), [], []⟩
def xA : Vc.Sum := .pure [.str] false fun x => kV x
def xB (s : List Int) : Nat -> List V -> Nat -> Option Vc.Loop := fun f v k => cond (Nat.beq f 26 && Nat.beq k 7) (some (Bd)) <| none
def kW : List (Nat × Ent) := (26, .sum xA) :: qg
def wW (l : List Int) (c : Int) : Done := rI (aK l c)
def Dx : Vc.Sum := .pure [Dk, .int .u8] false fun x => wW x.1 x.2
def Dy (l : List Int) (c : Int) : Nat -> List V -> Nat -> Option Vc.Loop := fun f v k => cond (Nat.beq f 24 && Nat.beq k 2) (some (JD l c)) <| none
def qh : List (Nat × Ent) := (24, .sum Dx) :: kW
def tq (s : List Int) : Done := ⟨[s.length <= 1000000000], .v ⟨true, [.str (U.one s).1, .str (U.one s).2.1, .str (U.one s).2.2]⟩, [], []⟩
def E8 : Vc.Sum := .pure [.str] false fun x => tq x
def Fa (s : List Int) : Nat -> List V -> Nat -> Option Vc.Loop := fun f v k => cond (Nat.beq f 15 && Nat.beq k 1000008) (some (Qe s)) <| none
def tu : List (Nat × Ent) := (15, .sum E8) :: qh
def og (s : List Int) : Done := ⟨[s.length <= 1000000000], .one (.psl true OM (U.parse s)), [], []⟩
def Am : Vc.Sum := .pure [.str] false fun x => og x
def Ap (s : List Int) : Nat -> List V -> Nat -> Option Vc.Loop := fun f v k => cond (Nat.beq f 8 && Nat.beq k 3) (some (Et s)) <| none
def oh : List (Nat × Ent) := (8, .sum Am) :: tu
end Go.Proofs.YtlmkekoenfelcaaDoor
set_option maxRecDepth 100000
set_option linter.unusedVariables false
namespace Go.Proofs.YtlmkekoenfelcaaDoor
open Go.Vc
def rO (s : List Int) : Prop := (0 : Int) <= (↑s.length : Int) /\ (↑s.length : Int) <= (↑s.length : Int) /\ (↑s.length : Int).mul (↑(1 : Nat) : Int) <= (140737488355328 : Int) /\ (↑s.length : Int) <= (9223372036854775807 : Int) /\ ∃ (x0 : Int × Int × Bool × List Int × Int), (U.aA s (0 : Int) (0 : Int) false (List.replicate (↑s.length : Int).toNat (0 : Int)) (0 : Int) =
 U.aA s x0.1 x0.2.1 x0.2.2.1 x0.2.2.2.1 x0.2.2.2.2 /\ U.aV s x0.1 x0.2.1 x0.2.2.1 x0.2.2.2.1 x0.2.2.2.2) /\ ∀ (x : Int × Int × Bool × List Int × Int), U.aV s x.1 x.2.1 x.2.2.1 x.2.2.2.1 x.2.2.2.2 -> bif decide (x.2.2.2.2 < (↑s.length : Int)) then (0 : Int) <= x.2.2.2.2 /\ x.2.2.2.2 < (↑s.length : Int) /\ bif decide (x.1 = (0 : Int)) then bif decide (s.getD x.2.2.2.2.toNat
 (0 : Int) = (34 : Int)) then (0 : Int) <= x.2.2.2.2 /\ x.2.2.2.2 < (↑x.2.2.2.1.length : Int) /\ x.2.2.2.2.toNat < x.2.2.2.1.length /\ ∃ (y : Int × Int × Bool × List Int × Int), U.aA s (1 : Int) x.2.1 x.2.2.1 (x.2.2.2.1.set x.2.2.2.2.toNat (1 : Int)) (IntKind.i64.wrap (x.2.2.2.2.add (1 : Int))) = U.aA s y.1 y.2.1 y.2.2.1 y.2.2.2.1 y.2.2.2.2 /\ U.aV s y.1 y.2.1 y.2.2.1
 y.2.2.2.1 y.2.2.2.2 /\ s.length.sub y.2.2.2.2.toNat < s.length.sub x.2.2.2.2.toNat else bif decide (s.getD x.2.2.2.2.toNat (0 : Int) = (40 : Int)) then (0 : Int) <= x.2.2.2.2 /\ x.2.2.2.2 < (↑x.2.2.2.1.length : Int) /\ x.2.2.2.2.toNat < x.2.2.2.1.length /\ ∃ (y : Int × Int × Bool × List Int × Int), U.aA s (2 : Int) (1 : Int) x.2.2.1 (x.2.2.2.1.set x.2.2.2.2.toNat (2 : Int)) (IntKind.i64.wrap
 (x.2.2.2.2.add (1 : Int))) = U.aA s y.1 y.2.1 y.2.2.1 y.2.2.2.1 y.2.2.2.2 /\ U.aV s y.1 y.2.1 y.2.2.1 y.2.2.2.1 y.2.2.2.2 /\ s.length.sub y.2.2.2.2.toNat < s.length.sub x.2.2.2.2.toNat else bif decide (s.getD x.2.2.2.2.toNat (0 : Int) = (60 : Int)) then (0 : Int) <= x.2.2.2.2 /\ x.2.2.2.2 < (↑x.2.2.2.1.length : Int) /\ x.2.2.2.2.toNat < x.2.2.2.1.length /\ ∃ (y : Int × Int × Bool ×
 List Int × Int), U.aA s (3 : Int) x.2.1 x.2.2.1 (x.2.2.2.1.set x.2.2.2.2.toNat (3 : Int)) (IntKind.i64.wrap (x.2.2.2.2.add (1 : Int))) = U.aA s y.1 y.2.1 y.2.2.1 y.2.2.2.1 y.2.2.2.2 /\ U.aV s y.1 y.2.1 y.2.2.1 y.2.2.2.1 y.2.2.2.2 /\ s.length.sub y.2.2.2.2.toNat < s.length.sub x.2.2.2.2.toNat else (0 : Int) <= x.2.2.2.2 /\ x.2.2.2.2 < (↑x.2.2.2.1.length : Int) /\
 x.2.2.2.2.toNat < x.2.2.2.1.length /\ ∃ (y : Int × Int × Bool × List Int × Int), U.aA s x.1 x.2.1 x.2.2.1 (x.2.2.2.1.set x.2.2.2.2.toNat x.1) (IntKind.i64.wrap (x.2.2.2.2.add (1 : Int))) = U.aA s y.1 y.2.1 y.2.2.1 y.2.2.2.1 y.2.2.2.2 /\ U.aV s y.1 y.2.1 y.2.2.1 y.2.2.2.1 y.2.2.2.2 /\ s.length.sub y.2.2.2.2.toNat < s.length.sub x.2.2.2.2.toNat else bif decide (x.1 =
 (3 : Int)) then bif decide (s.getD x.2.2.2.2.toNat (0 : Int) = (62 : Int)) then (0 : Int) <= x.2.2.2.2 /\ x.2.2.2.2 < (↑x.2.2.2.1.length : Int) /\ x.2.2.2.2.toNat < x.2.2.2.1.length /\ ∃ (y : Int × Int × Bool × List Int × Int), U.aA s (0 : Int) x.2.1 x.2.2.1 (x.2.2.2.1.set x.2.2.2.2.toNat x.1) (IntKind.i64.wrap (x.2.2.2.2.add (1 : Int))) = U.aA s y.1 y.2.1 y.2.2.1 y.2.2.2.1
 y.2.2.2.2 /\ U.aV s y.1 y.2.1 y.2.2.1 y.2.2.2.1 y.2.2.2.2 /\ s.length.sub y.2.2.2.2.toNat < s.length.sub x.2.2.2.2.toNat else (0 : Int) <= x.2.2.2.2 /\ x.2.2.2.2 < (↑x.2.2.2.1.length : Int) /\ x.2.2.2.2.toNat < x.2.2.2.1.length /\ ∃ (y : Int × Int × Bool × List Int × Int), U.aA s x.1 x.2.1 x.2.2.1 (x.2.2.2.1.set x.2.2.2.2.toNat x.1) (IntKind.i64.wrap (x.2.2.2.2.add (1 : Int))) =
 U.aA s y.1 y.2.1 y.2.2.1 y.2.2.2.1 y.2.2.2.2 /\ U.aV s y.1 y.2.1 y.2.2.1 y.2.2.2.1 y.2.2.2.2 /\ s.length.sub y.2.2.2.2.toNat < s.length.sub x.2.2.2.2.toNat else bif x.2.2.1 then (0 : Int) <= x.2.2.2.2 /\ x.2.2.2.2 < (↑x.2.2.2.1.length : Int) /\ x.2.2.2.2.toNat < x.2.2.2.1.length /\ ∃ (y : Int × Int × Bool × List Int × Int), U.aA s x.1 x.2.1 false (x.2.2.2.1.set
 x.2.2.2.2.toNat x.1) (IntKind.i64.wrap (x.2.2.2.2.add (1 : Int))) = U.aA s y.1 y.2.1 y.2.2.1 y.2.2.2.1 y.2.2.2.2 /\ U.aV s y.1 y.2.1 y.2.2.1 y.2.2.2.1 y.2.2.2.2 /\ s.length.sub y.2.2.2.2.toNat < s.length.sub x.2.2.2.2.toNat else bif decide (s.getD x.2.2.2.2.toNat (0 : Int) = (92 : Int)) then (0 : Int) <= x.2.2.2.2 /\ x.2.2.2.2 < (↑x.2.2.2.1.length : Int) /\ x.2.2.2.2.toNat <
 x.2.2.2.1.length /\ ∃ (y : Int × Int × Bool × List Int × Int), U.aA s x.1 x.2.1 true (x.2.2.2.1.set x.2.2.2.2.toNat x.1) (IntKind.i64.wrap (x.2.2.2.2.add (1 : Int))) = U.aA s y.1 y.2.1 y.2.2.1 y.2.2.2.1 y.2.2.2.2 /\ U.aV s y.1 y.2.1 y.2.2.1 y.2.2.2.1 y.2.2.2.2 /\ s.length.sub y.2.2.2.2.toNat < s.length.sub x.2.2.2.2.toNat else bif bif decide (x.1 = (1 : Int)) then
 decide (s.getD x.2.2.2.2.toNat (0 : Int) = (34 : Int)) else false then (0 : Int) <= x.2.2.2.2 /\ x.2.2.2.2 < (↑x.2.2.2.1.length : Int) /\ x.2.2.2.2.toNat < x.2.2.2.1.length /\ ∃ (y : Int × Int × Bool × List Int × Int), U.aA s (0 : Int) x.2.1 x.2.2.1 (x.2.2.2.1.set x.2.2.2.2.toNat x.1) (IntKind.i64.wrap (x.2.2.2.2.add (1 : Int))) = U.aA s y.1 y.2.1 y.2.2.1 y.2.2.2.1 y.2.2.2.2 /\
 U.aV s y.1 y.2.1 y.2.2.1 y.2.2.2.1 y.2.2.2.2 /\ s.length.sub y.2.2.2.2.toNat < s.length.sub x.2.2.2.2.toNat else bif bif decide (x.1 = (2 : Int)) then decide (s.getD x.2.2.2.2.toNat (0 : Int) = (40 : Int)) else false then (0 : Int) <= x.2.2.2.2 /\ x.2.2.2.2 < (↑x.2.2.2.1.length : Int) /\ x.2.2.2.2.toNat < x.2.2.2.1.length /\ ∃ (y : Int × Int × Bool × List Int × Int), U.aA s x.1
 (IntKind.i64.wrap (x.2.1.add (1 : Int))) x.2.2.1 (x.2.2.2.1.set x.2.2.2.2.toNat x.1) (IntKind.i64.wrap (x.2.2.2.2.add (1 : Int))) = U.aA s y.1 y.2.1 y.2.2.1 y.2.2.2.1 y.2.2.2.2 /\ U.aV s y.1 y.2.1 y.2.2.1 y.2.2.2.1 y.2.2.2.2 /\ s.length.sub y.2.2.2.2.toNat < s.length.sub x.2.2.2.2.toNat else bif bif decide (x.1 = (2 : Int)) then decide (s.getD x.2.2.2.2.toNat (0 : Int) = (41 :
 Int)) else false then bif decide (IntKind.i64.wrap (x.2.1.sub (1 : Int)) = (0 : Int)) then (0 : Int) <= x.2.2.2.2 /\ x.2.2.2.2 < (↑x.2.2.2.1.length : Int) /\ x.2.2.2.2.toNat < x.2.2.2.1.length /\ ∃ (y : Int × Int × Bool × List Int × Int), U.aA s (0 : Int) (IntKind.i64.wrap (x.2.1.sub (1 : Int))) x.2.2.1 (x.2.2.2.1.set x.2.2.2.2.toNat x.1) (IntKind.i64.wrap (x.2.2.2.2.add (1 : Int))) =
 U.aA s y.1 y.2.1 y.2.2.1 y.2.2.2.1 y.2.2.2.2 /\ U.aV s y.1 y.2.1 y.2.2.1 y.2.2.2.1 y.2.2.2.2 /\ s.length.sub y.2.2.2.2.toNat < s.length.sub x.2.2.2.2.toNat else (0 : Int) <= x.2.2.2.2 /\ x.2.2.2.2 < (↑x.2.2.2.1.length : Int) /\ x.2.2.2.2.toNat < x.2.2.2.1.length /\ ∃ (y : Int × Int × Bool × List Int × Int), U.aA s x.1 (IntKind.i64.wrap (x.2.1.sub (1 : Int))) x.2.2.1
 (x.2.2.2.1.set x.2.2.2.2.toNat x.1) (IntKind.i64.wrap (x.2.2.2.2.add (1 : Int))) = U.aA s y.1 y.2.1 y.2.2.1 y.2.2.2.1 y.2.2.2.2 /\ U.aV s y.1 y.2.1 y.2.2.1 y.2.2.2.1 y.2.2.2.2 /\ s.length.sub y.2.2.2.2.toNat < s.length.sub x.2.2.2.2.toNat else (0 : Int) <= x.2.2.2.2 /\ x.2.2.2.2 < (↑x.2.2.2.1.length : Int) /\ x.2.2.2.2.toNat < x.2.2.2.1.length /\ ∃ (y : Int × Int × Bool × List Int
 × Int), U.aA s x.1 x.2.1 x.2.2.1 (x.2.2.2.1.set x.2.2.2.2.toNat x.1) (IntKind.i64.wrap (x.2.2.2.2.add (1 : Int))) = U.aA s y.1 y.2.1 y.2.2.1 y.2.2.2.1 y.2.2.2.2 /\ U.aV s y.1 y.2.1 y.2.2.1 y.2.2.2.1 y.2.2.2.2 /\ s.length.sub y.2.2.2.2.toNat < s.length.sub x.2.2.2.2.toNat else x.2.2.2.1 = U.sorts s /\ True
def rP (s : List Int) : Prop := s.length <= (1000000000 : Nat) /\ ∃ (x0 : List (List Int) × Int × Int), (U.dY s [] (0 : Int) (0 : Int) = U.dY s x0.1 x0.2.1 x0.2.2 /\ U.jv s x0.1 x0.2.1 x0.2.2) /\ ∀ (x : List (List Int) × Int × Int), U.jv s x.1 x.2.1 x.2.2 -> bif decide (x.2.2 < (↑(U.sorts s).length : Int)) then (0 : Int) <= x.2.2 /\ x.2.2 <
 (↑(U.sorts s).length : Int) /\ (decide ((U.sorts s).getD x.2.2.toNat (0 : Int) = (0 : Int)) = true -> (0 : Int) <= x.2.2) /\ (decide ((U.sorts s).getD x.2.2.toNat (0 : Int) = (0 : Int)) = true -> x.2.2 < (↑s.length : Int)) /\ bif bif decide ((U.sorts s).getD x.2.2.toNat (0 : Int) = (0 : Int)) then decide (s.getD x.2.2.toNat (0 : Int) = (44 : Int)) else false then (0 : Int) <= x.2.1 /\ x.2.1 <= x.2.2 /\ x.2.2
 <= (↑s.length : Int) /\ (x.1.length.add ((1 : Nat))).mul (16 : Nat) <= (140737488355328 : Nat) /\ x.1.length.add ((1 : Nat)) <= maxLen /\ ∃ (y : List (List Int) × Int × Int), U.dY s (x.1.append ([[]].set (0 : Nat) (List.take (x.2.2.toNat.sub x.2.1.toNat) (List.drop x.2.1.toNat s)))) (IntKind.i64.wrap (x.2.2.add (1 : Int))) (IntKind.i64.wrap (x.2.2.add (1 : Int))) = U.dY s y.1
 y.2.1 y.2.2 /\ U.jv s y.1 y.2.1 y.2.2 /\ s.length.sub y.2.2.toNat < s.length.sub x.2.2.toNat else ∃ (y : List (List Int) × Int × Int), U.dY s x.1 x.2.1 (IntKind.i64.wrap (x.2.2.add (1 : Int))) = U.dY s y.1 y.2.1 y.2.2 /\ U.jv s y.1 y.2.1 y.2.2 /\ s.length.sub y.2.2.toNat < s.length.sub x.2.2.toNat else (0 : Int) <= x.2.1 /\ x.2.1 <= (↑s.length : Int) /\
 (↑s.length : Int) <= (↑s.length : Int) /\ (x.1.length.add ((1 : Nat))).mul (16 : Nat) <= (140737488355328 : Nat) /\ x.1.length.add ((1 : Nat)) <= maxLen /\ x.1.append ([[]].set (0 : Nat) (List.take ((↑s.length : Int).toNat.sub x.2.1.toNat) (List.drop x.2.1.toNat s))) = U.items s /\ True
def um (s : List Int) : Prop := s.length <= (1000000000 : Nat) /\ ∃ (x0 : List Int × Int), ((⟨⟨[U.sS s] ++ U.n 2 ++ [U.sP 0 0] ++ U.n 3 ++ [U.sL true (.int .u8) (U.sorts s)] ++ [U.sI (↑(U.sorts s).length : Int)] ++ [U.sI (0 : Int)] ++ U.n 13, [], [((0 : Nat), .obj [Leaf.bF, .bH, .arr (0 : Nat) (true || true) (Ty.arr (42 : Nat) Ty.unit) []])]⟩, (1 : Nat), []⟩ : St2) = U.iC s
 x0.1 x0.2 /\ U.fC s x0.1 x0.2) /\ (∀ (i : Int), U.fC s [] i -> bif decide (i < (↑(U.sorts s).length : Int)) then (0 : Int) <= i /\ i < (↑(U.sorts s).length : Int) /\ bif (U.sorts s).getD i.toNat (0 : Int) != (2 : Int) then (0 : Int) <= i /\ i < (↑s.length : Int) /\ (1 : Nat) <= (140737488355328 : Nat) /\ (1 : Nat) <= maxLen /\ ∃ (y : List Int × Int), (⟨⟨[U.sS s] ++ U.n 2 ++ [U.sP 0 0] ++ U.n
 3 ++ [U.sL true (.int .u8) (U.sorts s)] ++ [U.sI (↑(U.sorts s).length : Int)] ++ [U.sI (IntKind.i64.wrap (i.add (1 : Int)))] ++ U.n 13, [], [((0 : Nat), .obj [.ptr (0 : Nat) (0 : Nat), .own ((1 : Nat)), .arr (0 : Nat) (true || true) (Ty.arr (42 : Nat) Ty.unit) []]), ((1 : Nat), .row (5 : Nat) (.int .u8) true true ([(0 : Int)].set (0 : Nat) (s.getD i.toNat (0 : Int))))]⟩, (2 : Nat), []⟩ : St2) =
 U.iC s y.1 y.2 /\ U.fC s y.1 y.2 /\ s.length.sub y.2.toNat < s.length.sub i.toNat else ∃ (y : List Int × Int), (⟨⟨[U.sS s] ++ U.n 2 ++ [U.sP 0 0] ++ U.n 3 ++ [U.sL true (.int .u8) (U.sorts s)] ++ [U.sI (↑(U.sorts s).length : Int)] ++ [U.sI (IntKind.i64.wrap (i.add (1 : Int)))] ++ U.n 13, [], [((0 : Nat), .obj [Leaf.bF, .bH, .arr (0 : Nat) (true || true) (Ty.arr (42 : Nat)
 Ty.unit) []])]⟩, (1 : Nat), []⟩ : St2) = U.iC s y.1 y.2 /\ U.fC s y.1 y.2 /\ s.length.sub y.2.toNat < s.length.sub i.toNat else [(32 : Int), (9 : Int)] = [(32 : Int), (9 : Int)] /\ U.trimB [] = U.bare s /\ True) /\ ∀ (c : Int) (o : List Int) (i : Int), U.fC s (c :: o) i -> bif decide (i < (↑(U.sorts s).length : Int)) then (0 : Int) <= i /\ i < (↑(U.sorts s).length : Int) /\
 bif (U.sorts s).getD i.toNat (0 : Int) != (2 : Int) then (0 : Int) <= i /\ i < (↑s.length : Int) /\ ((o.length.add (1 : Nat)).add ((1 : Nat))).mul (1 : Nat) <= (140737488355328 : Nat) /\ (o.length.add (1 : Nat)).add ((1 : Nat)) <= maxLen /\ ∃ (y : List Int × Int), (⟨⟨[U.sS s] ++ U.n 2 ++ [U.sP 0 0] ++ U.n 3 ++ [U.sL true (.int .u8) (U.sorts s)] ++ [U.sI (↑(U.sorts s).length : Int)] ++ [U.sI
 (IntKind.i64.wrap (i.add (1 : Int)))] ++ U.n 13, [], [((0 : Nat), .obj [.ptr (0 : Nat) (0 : Nat), .own ((1 : Nat)), .arr (0 : Nat) (true || true) (Ty.arr (42 : Nat) Ty.unit) []]), ((1 : Nat), .row (5 : Nat) (.int .u8) true true (c :: o.append ([(0 : Int)].set (0 : Nat) (s.getD i.toNat (0 : Int)))))]⟩, (2 : Nat), []⟩ : St2) = U.iC s y.1 y.2 /\ U.fC s y.1 y.2 /\ s.length.sub
 y.2.toNat < s.length.sub i.toNat else ∃ (y : List Int × Int), (⟨⟨[U.sS s] ++ U.n 2 ++ [U.sP 0 0] ++ U.n 3 ++ [U.sL true (.int .u8) (U.sorts s)] ++ [U.sI (↑(U.sorts s).length : Int)] ++ [U.sI (IntKind.i64.wrap (i.add (1 : Int)))] ++ U.n 13, [], [((0 : Nat), .obj [.ptr (0 : Nat) (0 : Nat), .own ((1 : Nat)), .arr (0 : Nat) (true || true) (Ty.arr (42 : Nat) Ty.unit) []]), ((1 : Nat), .row (5 : Nat)
 (.int .u8) true true (c :: o))]⟩, (2 : Nat), []⟩ : St2) = U.iC s y.1 y.2 /\ U.fC s y.1 y.2 /\ s.length.sub y.2.toNat < s.length.sub i.toNat else (0 : Nat) < o.length.add (1 : Nat) /\ [(32 : Int), (9 : Int)] = [(32 : Int), (9 : Int)] /\ U.trimB (c :: o) = U.bare s /\ True
def nM (s : List Int) : Prop := [(32 : Int), (9 : Int)] = [(32 : Int), (9 : Int)] /\ (decide ((↑(U.trimB s).length : Int) < (2 : Int)) = false -> (0 : Int) <= (0 : Int)) /\ (decide ((↑(U.trimB s).length : Int) < (2 : Int)) = false -> (0 : Int) < (↑(U.trimB s).length : Int)) /\ ((bif decide ((↑(U.trimB s).length : Int) < (2 : Int)) then true else (U.trimB s).getD (0 : Nat) (0 : Int) != (34 :
 Int)) = false -> (0 : Int) <= IntKind.i64.wrap ((↑(U.trimB s).length : Int).sub (1 : Int))) /\ ((bif decide ((↑(U.trimB s).length : Int) < (2 : Int)) then true else (U.trimB s).getD (0 : Nat) (0 : Int) != (34 : Int)) = false -> IntKind.i64.wrap ((↑(U.trimB s).length : Int).sub (1 : Int)) < (↑(U.trimB s).length : Int)) /\ bif bif bif decide ((↑(U.trimB s).length : Int) < (2 : Int)) then true else
 (U.trimB s).getD (0 : Nat) (0 : Int) != (34 : Int) then true else (U.trimB s).getD (IntKind.i64.wrap ((↑(U.trimB s).length : Int).sub (1 : Int))).toNat (0 : Int) != (34 : Int) then U.trimB s = U.jR s /\ True else (0 : Int) <= (1 : Int) /\ (1 : Int) <= IntKind.i64.wrap ((↑(U.trimB s).length : Int).sub (1 : Int)) /\ IntKind.i64.wrap ((↑(U.trimB s).length : Int).sub (1 : Int)) <= (↑(U.trimB s).length
 : Int) /\ ∃ (x0 : List Int × List Int × Bool × Int), ((⟨⟨U.n 3 ++ [U.sP 0 0] ++ [U.sB false] ++ U.n 26 ++ [U.own 1] ++ [U.sI (↑(List.take ((IntKind.i64.wrap ((↑(U.trimB s).length : Int).sub (1 : Int))).toNat.sub (1 : Nat)) (List.drop (1 : Nat) (U.trimB s))).length : Int)] ++ [U.sI (0 : Int)] ++ U.n 15, [], [((0 : Nat), .obj [Leaf.bF, .bH, .arr (0 : Nat) (true || true) (Ty.arr (42 : Nat) Ty.unit)
 []]), ((1 : Nat), .row (5 : Nat) (.int .u8) true false (List.take ((IntKind.i64.wrap ((↑(U.trimB s).length : Int).sub (1 : Int))).toNat.sub (1 : Nat)) (List.drop (1 : Nat) (U.trimB s))))]⟩, (2 : Nat), []⟩ : St2) = U.dZ x0.1 x0.2.1 x0.2.2.1 x0.2.2.2 /\ U.dB x0.1 x0.2.1 x0.2.2.1 x0.2.2.2 x0.1 x0.2.1 x0.2.2.1 x0.2.2.2) /\ (∀ (m : List Int) (q : Bool) (i : Int),
 U.dB x0.1 x0.2.1 x0.2.2.1 x0.2.2.2 m [] q i -> bif decide (i < (↑m.length : Int)) then (0 : Int) <= i /\ i < (↑m.length : Int) /\ i.toNat < m.length /\ bif !bif decide (m.getD i.toNat (0 : Int) = (92 : Int)) then !q else false then (1 : Nat) <= (140737488355328 : Nat) /\ (1 : Nat) <= maxLen /\ ∃ (y : List Int × List Int × Bool × Int), (⟨⟨U.n 3 ++ [U.sP 0 0] ++ [U.sB (bif decide (m.getD i.toNat
 (0 : Int) = (92 : Int)) then !q else false)] ++ U.n 26 ++ [U.own 1] ++ [U.sI (↑m.length : Int)] ++ [U.sI (IntKind.i64.wrap (i.add (1 : Int)))] ++ U.n 15, [], [((0 : Nat), .obj [.ptr (0 : Nat) (0 : Nat), .own ((2 : Nat)), .arr (0 : Nat) (true || true) (Ty.arr (42 : Nat) Ty.unit) []]), ((1 : Nat), .row (5 : Nat) (.int .u8) true false m), ((2 : Nat), .row (5 : Nat) (.int .u8) true true ([(0 :
 Int)].set (0 : Nat) (m.getD i.toNat (0 : Int))))]⟩, (3 : Nat), []⟩ : St2) = U.dZ y.1 y.2.1 y.2.2.1 y.2.2.2 /\ U.dB x0.1 x0.2.1 x0.2.2.1 x0.2.2.2 y.1 y.2.1 y.2.2.1 y.2.2.2 /\ y.1.length.sub y.2.2.2.toNat < m.length.sub i.toNat else ∃ (y : List Int × List Int × Bool × Int), (⟨⟨U.n 3 ++ [U.sP 0 0] ++ [U.sB (bif decide (m.getD i.toNat (0 : Int) = (92 : Int)) then !q else
 false)] ++ U.n 26 ++ [U.own 1] ++ [U.sI (↑m.length : Int)] ++ [U.sI (IntKind.i64.wrap (i.add (1 : Int)))] ++ U.n 15, [], [((0 : Nat), .obj [Leaf.bF, .bH, .arr (0 : Nat) (true || true) (Ty.arr (42 : Nat) Ty.unit) []]), ((1 : Nat), .row (5 : Nat) (.int .u8) true false m)]⟩, (2 : Nat), []⟩ : St2) = U.dZ y.1 y.2.1 y.2.2.1 y.2.2.2 /\ U.dB x0.1 x0.2.1 x0.2.2.1 x0.2.2.2 y.1
 y.2.1 y.2.2.1 y.2.2.2 /\ y.1.length.sub y.2.2.2.toNat < m.length.sub i.toNat else [] = U.jR s /\ True) /\ ∀ (m : List Int) (c : Int) (o : List Int) (q : Bool) (i : Int), U.dB x0.1 x0.2.1 x0.2.2.1 x0.2.2.2 m (c :: o) q i -> bif decide (i < (↑m.length : Int)) then (0 : Int) <= i /\ i < (↑m.length : Int) /\ i.toNat < m.length /\ bif !bif decide (m.getD i.toNat (0 : Int) = (92 : Int)) then
 !q else false then ((o.length.add (1 : Nat)).add ((1 : Nat))).mul (1 : Nat) <= (140737488355328 : Nat) /\ (o.length.add (1 : Nat)).add ((1 : Nat)) <= maxLen /\ ∃ (y : List Int × List Int × Bool × Int), (⟨⟨U.n 3 ++ [U.sP 0 0] ++ [U.sB (bif decide (m.getD i.toNat (0 : Int) = (92 : Int)) then !q else false)] ++ U.n 26 ++ [U.own 1] ++ [U.sI (↑m.length : Int)] ++ [U.sI (IntKind.i64.wrap (i.add (1 : Int)))]
 ++ U.n 15, [], [((0 : Nat), .obj [.ptr (0 : Nat) (0 : Nat), .own ((2 : Nat)), .arr (0 : Nat) (true || true) (Ty.arr (42 : Nat) Ty.unit) []]), ((1 : Nat), .row (5 : Nat) (.int .u8) true false m), ((2 : Nat), .row (5 : Nat) (.int .u8) true true (c :: o.append ([(0 : Int)].set (0 : Nat) (m.getD i.toNat (0 : Int)))))]⟩, (3 : Nat), []⟩ : St2) = U.dZ y.1 y.2.1 y.2.2.1 y.2.2.2 /\
 U.dB x0.1 x0.2.1 x0.2.2.1 x0.2.2.2 y.1 y.2.1 y.2.2.1 y.2.2.2 /\ y.1.length.sub y.2.2.2.toNat < m.length.sub i.toNat else ∃ (y : List Int × List Int × Bool × Int), (⟨⟨U.n 3 ++ [U.sP 0 0] ++ [U.sB (bif decide (m.getD i.toNat (0 : Int) = (92 : Int)) then !q else false)] ++ U.n 26 ++ [U.own 1] ++ [U.sI (↑m.length : Int)] ++ [U.sI (IntKind.i64.wrap (i.add (1 : Int)))] ++ U.n 15, [], [((0 :
 Nat), .obj [.ptr (0 : Nat) (0 : Nat), .own ((2 : Nat)), .arr (0 : Nat) (true || true) (Ty.arr (42 : Nat) Ty.unit) []]), ((1 : Nat), .row (5 : Nat) (.int .u8) true false m), ((2 : Nat), .row (5 : Nat) (.int .u8) true true (c :: o))]⟩, (3 : Nat), []⟩ : St2) = U.dZ y.1 y.2.1 y.2.2.1 y.2.2.2 /\ U.dB x0.1 x0.2.1 x0.2.2.1 x0.2.2.2 y.1 y.2.1 y.2.2.1 y.2.2.2 /\ y.1.length.sub
 y.2.2.2.toNat < m.length.sub i.toNat else (0 : Nat) < o.length.add (1 : Nat) /\ c :: o = U.jR s /\ True
def uo (l : List Int) (c : Int) : Prop := ∃ (x0 : Int), (U.kP l c (0 : Int) = U.kP l c x0 /\ U.pY l c x0) /\ ∀ (x : Int), U.pY l c x -> bif decide (x < (↑l.length : Int)) then (0 : Int) <= x /\ x < (↑l.length : Int) /\ bif decide (c = l.getD x.toNat (0 : Int)) then x = aK l c /\ True else ∃ (y : Int), U.kP l c (IntKind.i64.wrap (x.add (1 : Int))) =
 U.kP l c y /\ U.pY l c y /\ l.length.sub y.toNat < l.length.sub x.toNat else (-1 : Int) = aK l c /\ True
def wX (s : List Int) : Prop := s.length <= (1000000000 : Nat) /\ ((U.bare s).length <= (1000000000 : Nat) /\ bif decide (aK (U.sorts (U.bare s)) (3 : Int) >= (0 : Int)) then (0 : Int) <= (0 : Int) /\ (0 : Int) <= aK (U.sorts (U.bare s)) (3 : Int) /\ aK (U.sorts (U.bare s)) (3 : Int) <= (↑(U.bare s).length : Int) /\ (0 : Int) <= IntKind.i64.wrap ((aK (U.sorts (U.bare s)) (3 : Int)).add (1 :
 Int)) /\ IntKind.i64.wrap ((aK (U.sorts (U.bare s)) (3 : Int)).add (1 : Int)) <= (↑(U.bare s).length : Int) /\ (↑(U.bare s).length : Int) <= (↑(U.bare s).length : Int) /\ (1 : Nat) = (1 : Nat) /\ ∃ (x0 : List Int × List Int), U.yT s (U.rG (List.take ((↑(U.bare s).length : Int).toNat.sub (IntKind.i64.wrap ((aK (U.sorts (U.bare s)) (3 : Int)).add (1 : Int))).toNat) (List.drop (IntKind.i64.wrap
 ((aK (U.sorts (U.bare s)) (3 : Int)).add (1 : Int))).toNat (U.bare s))) ([(62 : Int)].getD (0 : Nat) (0 : Int))) (List.take ((aK (U.sorts (U.bare s)) (3 : Int)).toNat.sub (0 : Nat)) (List.drop (0 : Nat) (U.bare s))) = U.yT s x0.1 x0.2 /\ U.Du s x0.1 x0.2 else ∃ (x0 : List Int × List Int), U.yT s (U.bare s) [] = U.yT s x0.1 x0.2 /\ U.Du s x0.1 x0.2) /\ ∀ (x : List Int × List Int),
 U.Du s x.1 x.2 -> [(32 : Int), (9 : Int)] = [(32 : Int), (9 : Int)] /\ x.2.length <= (1000000000 : Nat) /\ bif decide (U.lastB (U.trimB x.1) (64 : Int) >= (0 : Int)) then (0 : Int) <= (0 : Int) /\ (0 : Int) <= U.lastB (U.trimB x.1) (64 : Int) /\ U.lastB (U.trimB x.1) (64 : Int) <= (↑(U.trimB x.1).length : Int) /\ (0 : Int) <= IntKind.i64.wrap ((U.lastB (U.trimB x.1) (64 : Int)).add (1 : Int)) /\
 IntKind.i64.wrap ((U.lastB (U.trimB x.1) (64 : Int)).add (1 : Int)) <= (↑(U.trimB x.1).length : Int) /\ (↑(U.trimB x.1).length : Int) <= (↑(U.trimB x.1).length : Int) /\ U.jR x.2 = (U.one s).1 /\ List.take ((U.lastB (U.trimB x.1) (64 : Int)).toNat.sub (0 : Nat)) (List.drop (0 : Nat) (U.trimB x.1)) = (U.one s).2.1 /\ List.take ((↑(U.trimB x.1).length : Int).toNat.sub (IntKind.i64.wrap ((U.lastB
 (U.trimB x.1) (64 : Int)).add (1 : Int))).toNat) (List.drop (IntKind.i64.wrap ((U.lastB (U.trimB x.1) (64 : Int)).add (1 : Int))).toNat (U.trimB x.1)) = (U.one s).2.2 /\ True else U.jR x.2 = (U.one s).1 /\ U.trimB x.1 = (U.one s).2.1 /\ [] = (U.one s).2.2 /\ True
def rQ (s : List Int) : Prop := s.length <= (1000000000 : Nat) /\ ∃ (x0 : List (List Int × List Int × List Int) × Int), (U.eu s [] (0 : Int) = U.eu s x0.1 x0.2 /\ U.jw s x0.1 x0.2) /\ ∀ (x : List (List Int × List Int × List Int) × Int), U.jw s x.1 x.2 -> bif decide (x.2 < (↑(U.items s).length : Int)) then (0 : Int) <= x.2 /\ x.2 < (↑(U.items
 s).length : Int) /\ (decide ((↑x.1.length : Int) < (20 : Int)) = true -> ((U.items s).getD x.2.toNat []).length <= (1000000000 : Nat)) /\ bif bif decide ((↑x.1.length : Int) < (20 : Int)) then !(U.bare ((U.items s).getD x.2.toNat [])).beq [] else false then ((U.items s).getD x.2.toNat []).length <= (1000000000 : Nat) /\ (x.1.length.add ((1 : Nat))).mul (48 : Nat) <= (140737488355328 : Nat) /\
 x.1.length.add ((1 : Nat)) <= maxLen /\ ∃ (y : List (List Int × List Int × List Int) × Int), U.eu s (x.1.append ([([], [], [])].set (0 : Nat) (U.one ((U.items s).getD x.2.toNat [])))) (IntKind.i64.wrap (x.2.add (1 : Int))) = U.eu s y.1 y.2 /\ U.jw s y.1 y.2 /\ (U.items s).length.sub y.2.toNat < (U.items s).length.sub x.2.toNat else ∃ (y : List (List Int × List Int ×
 List Int) × Int), U.eu s x.1 (IntKind.i64.wrap (x.2.add (1 : Int))) = U.eu s y.1 y.2 /\ U.jw s y.1 y.2 /\ (U.items s).length.sub y.2.toNat < (U.items s).length.sub x.2.toNat else x.1 = U.parse s /\ True
end Go.Proofs.YtlmkekoenfelcaaDoor
