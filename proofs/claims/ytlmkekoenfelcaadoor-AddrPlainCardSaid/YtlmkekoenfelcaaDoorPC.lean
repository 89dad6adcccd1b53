/- What functions of this seat compute, in plain Lean. -/
import Derived.Test.YtlmkekoenfelcaaDoorPB
set_option linter.unusedVariables false
set_option linter.unusedSimpArgs false
set_option maxRecDepth 100000
namespace Go.Proofs.YtlmkekoenfelcaaDoor
open Go.Vc
abbrev PL : Ty := .pair .str (.pair .str .str)
abbrev tY := List Int × List Int × List Int
abbrev St := Int × Int × Bool
namespace U
def opens (c : Int) : Int := cond (decide (c = 34)) 1 (cond (decide (c = 40)) 2 (cond (decide (c = 60)) 3 0))
def scan (s : St) (c : Int) : St × Int :=
 cond (decide (s.1 = 0)) ((opens c, cond (decide (c = 40)) 1 s.2.1, s.2.2), opens c)
 (cond (decide (s.1 = 3)) ((cond (decide (c = 62)) 0 3, s.2), 3)
 (cond s.2.2 ((s.1, s.2.1, false), s.1)
 (cond (decide (c = 92)) ((s.1, s.2.1, true), s.1)
 (cond (decide (s.1 = 1)) ((cond (decide (c = 34)) 0 1, s.2), 1)
 (cond (decide (c = 40)) ((s.1, s.2.1 + 1, s.2.2), s.1)
 (cond (decide (c = 41)) ((cond (decide (s.2.1 - 1 = 0)) 0 s.1, s.2.1 - 1, s.2.2), s.1) (s, s.1)))))))
def runs : St -> List Int -> List Int
 | _, [] => []
 | s, c :: r => (scan s c).2 :: runs (scan s c).1 r
def sorts (s : List Int) : List Int := runs (0, 0, false) s
def kb (k : Int) : Int := cond (decide (k = 0)) 112 (cond (decide (k = 1)) 113 (cond (decide (k = 2)) 99 97))
def dV : List Int -> List Int -> List Int -> List (List Int)
 | c :: r, k :: ks, cur => cond (decide (k = 0) && decide (c = 44)) (cur :: dV r ks []) (dV r ks (cur ++ [c]))
 | _, _, cur => [cur]
def items (s : List Int) : List (List Int) := dV s (sorts s) []
def noC : List Int -> List Int -> List Int
 | c :: r, k :: ks => cond (decide (k = 2)) (noC r ks) (c :: noC r ks)
 | _, _ => []
def bare (s : List Int) : List Int := trimB (noC s (sorts s))
def unq : Bool -> List Int -> List Int
 | _, [] => []
 | k, c :: r => cond (decide (c = 92) && !k) (unq true r) (c :: unq false r)
def l9 (t : List Int) : Bool := decide (2 <= t.length) && (decide (t.getD 0 0 = 34) && decide (t.getD (t.length - 1) 0 = 34))
def jw (t : List Int) : List Int := cond (l9 t) (unq false ((t.drop 1).take (t.length - 2))) t
def gU (s : List Int) : List Int := jw (trimB s)
def jK (b : List Int) : Int := aH (sorts b) 3
def xE (b : List Int) : List Int := cond (decide (jK b >= 0)) (nP (b.drop (jK b + 1).toNat) 62) b
def xG (b : List Int) : List Int := cond (decide (jK b >= 0)) (b.take (jK b).toNat) []
def addrOf (nm r : List Int) : tY := (gU nm, cond (decide (lastB r 64 >= 0)) (r.take (lastB r 64).toNat) r, cond (decide (lastB r 64 >= 0)) (r.drop (lastB r 64 + 1).toNat) [])
def Js (b : List Int) : tY := addrOf (xG b) (trimB (xE b))
def one (s : List Int) : tY := Js (bare s)
def ni : Nat -> List (List Int) -> List tY
 | _, [] => []
 | n, x :: r => cond (decide (0 < n) && !(decide (bare x = []))) (one x :: ni (n - 1) r) (ni n r)
def parse (s : List Int) : List tY := ni 20 (items s)
def OZ (k d i : Int) : Prop := 0 <= k /\ k <= 3 /\ 0 <= d /\ d <= i /\ (k = 2 -> 1 <= d)
end U
namespace U
def aA (s : List Int) (k : Int) (d : Int) (q : Bool) (l : List Int) (i : Int) : St2 := ⟨⟨[sS s] ++ U.n 2 ++ [sP 0 0] ++ [own 1] ++ U.n 5 ++ [sI s.length] ++ [sI i] ++ U.n 11, [], [(0, .obj [.int .u8 k, .int .i64 d, .bool q]), (1, .row 37 (.int .u8) true true l)]⟩, 2, []⟩
def aW (s : List Int)  (k : Int) (d : Int) (q : Bool) (l : List Int) (i : Int) : Prop := at_ s i /\ OZ k d i /\ l.length = s.length /\ l.take i.toNat ++ runs (k, d, q) (s.drop i.toNat) = sorts s
def dZ (s : List Int) (l : List (List Int)) (fr : Int) (i : Int) : St2 := ⟨⟨[sS s] ++ U.n 2 ++ [own 0] ++ [sI fr] ++ U.n 3 ++ [sL true (.int .u8) (sorts s)] ++ [sI (sorts s).length] ++ [sI i] ++ U.n 28, [], [(0, .row 9 .str true true l)]⟩, 1, []⟩
def jy (s : List Int)  (l : List (List Int)) (fr : Int) (i : Int) : Prop := at_ s i /\ 0 <= fr /\ fr <= i /\ (l.length : Int) <= i /\ l ++ dV (s.drop i.toNat) ((sorts s).drop i.toNat) ((s.drop fr.toNat).take (i.toNat - fr.toNat)) = items s
def EP (s : List Int) (o : List Int) (i : Int) : St2 := ⟨⟨[sS s] ++ U.n 2 ++ [sP 0 0] ++ U.n 3 ++ [sL true (.int .u8) (sorts s)] ++ [sI (sorts s).length] ++ [sI i] ++ U.n 13, [], [(0, .obj [.bG, .bI, .arr 0 true (.arr 42 .unit) []])]⟩, 1, []⟩
def ER (s : List Int) (o : List Int) (i : Int) : St2 := ⟨⟨[sS s] ++ U.n 2 ++ [sP 0 0] ++ U.n 3 ++ [sL true (.int .u8) (sorts s)] ++ [sI (sorts s).length] ++ [sI i] ++ U.n 13, [], [(0, .obj [.ptr 0 0, .own 1, .arr 0 true (.arr 42 .unit) []]), (1, .row 5 (.int .u8) true true o)]⟩, 2, []⟩
def iy (s : List Int) (o : List Int) (i : Int) : St2 := match o with | [] => EP s o i | _ :: _ => ER s o i
def fE (s : List Int)  (o : List Int) (i : Int) : Prop := at_ s i /\ o.length <= i /\ o ++ noC (s.drop i.toNat) ((sorts s).drop i.toNat) = noC s (sorts s)
def Ae  (m : List Int) (o : List Int) (q : Bool) (i : Int) : St2 := ⟨⟨U.n 3 ++ [sP 0 0] ++ [sB q] ++ U.n 26 ++ [own 1] ++ [sI m.length] ++ [sI i] ++ U.n 15, [], [(0, .obj [.bG, .bI, .arr 0 true (.arr 42 .unit) []]), (1, .row 5 (.int .u8) true false m)]⟩, 2, []⟩
def Af  (m : List Int) (o : List Int) (q : Bool) (i : Int) : St2 := ⟨⟨U.n 3 ++ [sP 0 0] ++ [sB q] ++ U.n 26 ++ [own 1] ++ [sI m.length] ++ [sI i] ++ U.n 15, [], [(0, .obj [.ptr 0 0, .own 2, .arr 0 true (.arr 42 .unit) []]), (1, .row 5 (.int .u8) true false m), (2, .row 5 (.int .u8) true true o)]⟩, 3, []⟩
def eu  (m : List Int) (o : List Int) (q : Bool) (i : Int) : St2 := match o with | [] => Ae  m o q i | _ :: _ => Af  m o q i
def dA  (m' : List Int) (o' : List Int) (q' : Bool) (i' : Int) (m : List Int) (o : List Int) (q : Bool) (i : Int) : Prop :=  m = m' /\ m.length <= 1000000000 /\ at_ m i /\ o.length <= i /\ o ++ unq q (m.drop i.toNat) = unq false m
def kS (l : List Int) (c : Int) (i : Int) : St2 := ⟨⟨[sL false (.int .u8) l] ++ [sK .u8 c] ++ U.n 5 ++ [sI l.length] ++ [sI i] ++ U.n 10, [], []⟩, 0, []⟩
def qy (l : List Int) (c : Int)  (i : Int) : Prop := at_ l i /\ aH l c = (if aH (l.drop i.toNat) c = -1 then -1 else i + aH (l.drop i.toNat) c)
def zn (s : List Int) (r : List Int) (nm : List Int) : St2 := ⟨⟨U.n 2 ++ [sP 0 0] ++ [sS r] ++ [sS nm] ++ U.n 44, [], [(0, .obj [.str [], .str [], .str []])]⟩, 1, []⟩
def D5 (s : List Int)  (r : List Int) (nm : List Int) : Prop := r = xE (bare s) /\ nm = xG (bare s)
def eF (s : List Int) (l : List tY) (i : Int) : St2 := ⟨⟨U.n 3 ++ [own 0] ++ U.n 3 ++ [sL true .str (items s)] ++ [sI (items s).length] ++ [sI i] ++ U.n 18, [], [(0, .row 30 PL true true l)]⟩, 1, []⟩
def jA (s : List Int)  (l : List tY) (i : Int) : Prop := at_ (items s) i /\ l.length <= 20 /\ l ++ ni (20 - l.length) ((items s).drop i.toNat) = parse s
end U
def ES (s : List Int) : Vc.Loop := ⟨{ keep := [0, 3, 4, 10, 11] }, Int × Int × Bool × List Int × Int, fun x => U.aA s x.1 x.2.1 x.2.2.1 x.2.2.2.1 x.2.2.2.2, fun x0 x => U.aW s  x.1 x.2.1 x.2.2.1 x.2.2.2.1 x.2.2.2.2, fun x => s.length - x.2.2.2.2.toNat, fun p => ∀ x, p x, fun _ h => h⟩
def ET (s : List Int) : Vc.Loop := ⟨{ keep := [0, 3, 4, 8, 9, 10], wake := [(3, 9)] }, List (List Int) × Int × Int, fun x => U.dZ s x.1 x.2.1 x.2.2, fun x0 x => U.jy s  x.1 x.2.1 x.2.2, fun x => s.length - x.2.2.toNat, fun p => ∀ x, p x, fun _ h => h⟩
def Gy (s : List Int) : Vc.Loop := ⟨{ keep := [0, 3, 7, 8, 9] }, List Int × Int, fun x => U.iy s x.1 x.2, fun x0 x => U.fE s  x.1 x.2, fun x => s.length - x.2.toNat, fun p => (∀ i, p ([], i)) /\ ∀ c o i, p (c :: o, i), fun p h x => match x with | ([], i) => h.1 i | (c :: o, i) => h.2 c o i⟩
def BN  : Vc.Loop := ⟨{ keep := [3, 4, 31, 32, 33] }, List Int × List Int × Bool × Int, fun x => U.eu  x.1 x.2.1 x.2.2.1 x.2.2.2, fun x0 x => U.dA  x0.1 x0.2.1 x0.2.2.1 x0.2.2.2 x.1 x.2.1 x.2.2.1 x.2.2.2, fun x => x.1.length - x.2.2.2.toNat, fun p => (∀ m q i, p (m, [], q, i)) /\ ∀ m c o q i, p (m, c :: o, q, i), fun p h x => match x with | (m, [], q, i) => h.1 m q i | (m, c :: o, q, i) => h.2 m c o q i⟩
def Ko (l : List Int) (c : Int) : Vc.Loop := ⟨{ keep := [0, 1, 7, 8] }, Int, fun x => U.kS l c x, fun x0 x => U.qy l c  x, fun x => l.length - x.toNat, fun p => ∀ x, p x, fun _ h => h⟩
def QS (s : List Int) : Vc.Loop := ⟨{ keep := [2, 3, 4] }, List Int × List Int, fun x => U.zn s x.1 x.2, fun x0 x => U.D5 s  x.1 x.2, fun x => 0, fun p => ∀ x, p x, fun _ h => h⟩
def EU (s : List Int) : Vc.Loop := ⟨{ keep := [3, 7, 8, 9], wake := [(3, 30)] }, List tY × Int, fun x => U.eF s x.1 x.2, fun x0 x => U.jA s  x.1 x.2, fun x => (U.items s).length - x.2.toNat, fun p => ∀ x, p x, fun _ h => h⟩
def oz (s : List Int) : Done := ⟨[s.length <= 1000000000], .one (.psl true (.int .u8) (U.sorts s)), [], []⟩
def AU : Vc.Sum := .pure [.str] false fun x => oz x
def AV (s : List Int) : Nat -> List V -> Nat -> Option Vc.Loop := fun f v k => cond (Nat.beq f 18 && Nat.beq k 4) (some (ES s)) <| none
def oC : List (Nat × Ent) := (18, .sum AU) :: kX
def oD (s : List Int) : Done := ⟨[s.length <= 1000000000], .one (.psl true .str (U.items s)), [], []⟩
def AX : Vc.Sum := .pure [.str] false fun x => oD x
def AY (s : List Int) : Nat -> List V -> Nat -> Option Vc.Loop := fun f v k => cond (Nat.beq f 11 && Nat.beq k 4) (some (ET s)) <| none
def oG : List (Nat × Ent) := (11, .sum AX) :: oC
def qA (s : List Int) : Done := ⟨[s.length <= 1000000000], .one (.str (U.bare s)), [], []⟩
def D6 : Vc.Sum := .pure [.str] false fun x => qA x
def D7 (s : List Int) : Nat -> List V -> Nat -> Option Vc.Loop := fun f v k => cond (Nat.beq f 13 && Nat.beq k 3) (some (Gy s)) <| none
def qB : List (Nat × Ent) := (13, .sum D6) :: oG
def kY (s : List Int) : Done := ⟨[s.length <= 1000000000], .one (.str (U.gU s)), [], []⟩
def xU : Vc.Sum := .pure [.str] false fun x => kY x
def xW (s : List Int) : Nat -> List V -> Nat -> Option Vc.Loop := fun f v k => cond (Nat.beq f 26 && Nat.beq k 7) (some (BN)) <| none
def kZ : List (Nat × Ent) := (26, .sum xU) :: qB
def xH (l : List Int) (c : Int) : Done := rI (aH l c)
def D8 : Vc.Sum := .pure [DX, .int .u8] false fun x => xH x.1 x.2
def D9 (l : List Int) (c : Int) : Nat -> List V -> Nat -> Option Vc.Loop := fun f v k => cond (Nat.beq f 24 && Nat.beq k 2) (some (Ko l c)) <| none
def qC : List (Nat × Ent) := (24, .sum D8) :: kZ
def tZ (s : List Int) : Done := ⟨[s.length <= 1000000000], .v ⟨true, [.str (U.one s).1, .str (U.one s).2.1, .str (U.one s).2.2]⟩, [], []⟩
def FW : Vc.Sum := .pure [.str] false fun x => tZ x
def FX (s : List Int) : Nat -> List V -> Nat -> Option Vc.Loop := fun f v k => cond (Nat.beq f 15 && Nat.beq k 1000008) (some (QS s)) <| none
def uf : List (Nat × Ent) := (15, .sum FW) :: qC
def oH (s : List Int) : Done := ⟨[s.length <= 1000000000], .one (.psl true PL (U.parse s)), [], []⟩
def AZ : Vc.Sum := .pure [.str] false fun x => oH x
def A8 (s : List Int) : Nat -> List V -> Nat -> Option Vc.Loop := fun f v k => cond (Nat.beq f 8 && Nat.beq k 3) (some (EU s)) <| none
def oI : List (Nat × Ent) := (8, .sum AZ) :: uf
end Go.Proofs.YtlmkekoenfelcaaDoor
set_option maxRecDepth 100000
set_option linter.unusedVariables false
namespace Go.Proofs.YtlmkekoenfelcaaDoor
open Go.Vc
def rZ (s : List Int) : Prop := (0 : Int) <= (↑s.length : Int) /\ (↑s.length : Int) <= (↑s.length : Int) /\ (↑s.length : Int).mul (↑(1 : Nat) : Int) <= (140737488355328 : Int) /\ (↑s.length : Int) <= (9223372036854775807 : Int) /\ ∃ (x0 : Int × Int × Bool × List Int × Int), (U.aA s (0 : Int) (0 : Int) false (List.replicate (↑s.length : Int).toNat (0 : Int)) (0 : Int) =
 U.aA s x0.1 x0.2.1 x0.2.2.1 x0.2.2.2.1 x0.2.2.2.2 /\ U.aW s x0.1 x0.2.1 x0.2.2.1 x0.2.2.2.1 x0.2.2.2.2) /\ ∀ (x : Int × Int × Bool × List Int × Int), U.aW s x.1 x.2.1 x.2.2.1 x.2.2.2.1 x.2.2.2.2 -> bif decide (x.2.2.2.2 < (↑s.length : Int)) then (0 : Int) <= x.2.2.2.2 /\ x.2.2.2.2 < (↑s.length : Int) /\ bif decide (x.1 = (0 : Int)) then bif decide (s.getD x.2.2.2.2.toNat
 (0 : Int) = (34 : Int)) then (0 : Int) <= x.2.2.2.2 /\ x.2.2.2.2 < (↑x.2.2.2.1.length : Int) /\ x.2.2.2.2.toNat < x.2.2.2.1.length /\ ∃ (y : Int × Int × Bool × List Int × Int), U.aA s (1 : Int) x.2.1 x.2.2.1 (x.2.2.2.1.set x.2.2.2.2.toNat (1 : Int)) (IntKind.i64.wrap (x.2.2.2.2.add (1 : Int))) = U.aA s y.1 y.2.1 y.2.2.1 y.2.2.2.1 y.2.2.2.2 /\ U.aW s y.1 y.2.1 y.2.2.1
 y.2.2.2.1 y.2.2.2.2 /\ s.length.sub y.2.2.2.2.toNat < s.length.sub x.2.2.2.2.toNat else bif decide (s.getD x.2.2.2.2.toNat (0 : Int) = (40 : Int)) then (0 : Int) <= x.2.2.2.2 /\ x.2.2.2.2 < (↑x.2.2.2.1.length : Int) /\ x.2.2.2.2.toNat < x.2.2.2.1.length /\ ∃ (y : Int × Int × Bool × List Int × Int), U.aA s (2 : Int) (1 : Int) x.2.2.1 (x.2.2.2.1.set x.2.2.2.2.toNat (2 : Int)) (IntKind.i64.wrap
 (x.2.2.2.2.add (1 : Int))) = U.aA s y.1 y.2.1 y.2.2.1 y.2.2.2.1 y.2.2.2.2 /\ U.aW s y.1 y.2.1 y.2.2.1 y.2.2.2.1 y.2.2.2.2 /\ s.length.sub y.2.2.2.2.toNat < s.length.sub x.2.2.2.2.toNat else bif decide (s.getD x.2.2.2.2.toNat (0 : Int) = (60 : Int)) then (0 : Int) <= x.2.2.2.2 /\ x.2.2.2.2 < (↑x.2.2.2.1.length : Int) /\ x.2.2.2.2.toNat < x.2.2.2.1.length /\ ∃ (y : Int × Int × Bool ×
 List Int × Int), U.aA s (3 : Int) x.2.1 x.2.2.1 (x.2.2.2.1.set x.2.2.2.2.toNat (3 : Int)) (IntKind.i64.wrap (x.2.2.2.2.add (1 : Int))) = U.aA s y.1 y.2.1 y.2.2.1 y.2.2.2.1 y.2.2.2.2 /\ U.aW s y.1 y.2.1 y.2.2.1 y.2.2.2.1 y.2.2.2.2 /\ s.length.sub y.2.2.2.2.toNat < s.length.sub x.2.2.2.2.toNat else (0 : Int) <= x.2.2.2.2 /\ x.2.2.2.2 < (↑x.2.2.2.1.length : Int) /\
 x.2.2.2.2.toNat < x.2.2.2.1.length /\ ∃ (y : Int × Int × Bool × List Int × Int), U.aA s x.1 x.2.1 x.2.2.1 (x.2.2.2.1.set x.2.2.2.2.toNat x.1) (IntKind.i64.wrap (x.2.2.2.2.add (1 : Int))) = U.aA s y.1 y.2.1 y.2.2.1 y.2.2.2.1 y.2.2.2.2 /\ U.aW s y.1 y.2.1 y.2.2.1 y.2.2.2.1 y.2.2.2.2 /\ s.length.sub y.2.2.2.2.toNat < s.length.sub x.2.2.2.2.toNat else bif decide (x.1 =
 (3 : Int)) then bif decide (s.getD x.2.2.2.2.toNat (0 : Int) = (62 : Int)) then (0 : Int) <= x.2.2.2.2 /\ x.2.2.2.2 < (↑x.2.2.2.1.length : Int) /\ x.2.2.2.2.toNat < x.2.2.2.1.length /\ ∃ (y : Int × Int × Bool × List Int × Int), U.aA s (0 : Int) x.2.1 x.2.2.1 (x.2.2.2.1.set x.2.2.2.2.toNat x.1) (IntKind.i64.wrap (x.2.2.2.2.add (1 : Int))) = U.aA s y.1 y.2.1 y.2.2.1 y.2.2.2.1
 y.2.2.2.2 /\ U.aW s y.1 y.2.1 y.2.2.1 y.2.2.2.1 y.2.2.2.2 /\ s.length.sub y.2.2.2.2.toNat < s.length.sub x.2.2.2.2.toNat else (0 : Int) <= x.2.2.2.2 /\ x.2.2.2.2 < (↑x.2.2.2.1.length : Int) /\ x.2.2.2.2.toNat < x.2.2.2.1.length /\ ∃ (y : Int × Int × Bool × List Int × Int), U.aA s x.1 x.2.1 x.2.2.1 (x.2.2.2.1.set x.2.2.2.2.toNat x.1) (IntKind.i64.wrap (x.2.2.2.2.add (1 : Int))) =
 U.aA s y.1 y.2.1 y.2.2.1 y.2.2.2.1 y.2.2.2.2 /\ U.aW s y.1 y.2.1 y.2.2.1 y.2.2.2.1 y.2.2.2.2 /\ s.length.sub y.2.2.2.2.toNat < s.length.sub x.2.2.2.2.toNat else bif x.2.2.1 then (0 : Int) <= x.2.2.2.2 /\ x.2.2.2.2 < (↑x.2.2.2.1.length : Int) /\ x.2.2.2.2.toNat < x.2.2.2.1.length /\ ∃ (y : Int × Int × Bool × List Int × Int), U.aA s x.1 x.2.1 false (x.2.2.2.1.set
 x.2.2.2.2.toNat x.1) (IntKind.i64.wrap (x.2.2.2.2.add (1 : Int))) = U.aA s y.1 y.2.1 y.2.2.1 y.2.2.2.1 y.2.2.2.2 /\ U.aW s y.1 y.2.1 y.2.2.1 y.2.2.2.1 y.2.2.2.2 /\ s.length.sub y.2.2.2.2.toNat < s.length.sub x.2.2.2.2.toNat else bif decide (s.getD x.2.2.2.2.toNat (0 : Int) = (92 : Int)) then (0 : Int) <= x.2.2.2.2 /\ x.2.2.2.2 < (↑x.2.2.2.1.length : Int) /\ x.2.2.2.2.toNat <
 x.2.2.2.1.length /\ ∃ (y : Int × Int × Bool × List Int × Int), U.aA s x.1 x.2.1 true (x.2.2.2.1.set x.2.2.2.2.toNat x.1) (IntKind.i64.wrap (x.2.2.2.2.add (1 : Int))) = U.aA s y.1 y.2.1 y.2.2.1 y.2.2.2.1 y.2.2.2.2 /\ U.aW s y.1 y.2.1 y.2.2.1 y.2.2.2.1 y.2.2.2.2 /\ s.length.sub y.2.2.2.2.toNat < s.length.sub x.2.2.2.2.toNat else bif bif decide (x.1 = (1 : Int)) then
 decide (s.getD x.2.2.2.2.toNat (0 : Int) = (34 : Int)) else false then (0 : Int) <= x.2.2.2.2 /\ x.2.2.2.2 < (↑x.2.2.2.1.length : Int) /\ x.2.2.2.2.toNat < x.2.2.2.1.length /\ ∃ (y : Int × Int × Bool × List Int × Int), U.aA s (0 : Int) x.2.1 x.2.2.1 (x.2.2.2.1.set x.2.2.2.2.toNat x.1) (IntKind.i64.wrap (x.2.2.2.2.add (1 : Int))) = U.aA s y.1 y.2.1 y.2.2.1 y.2.2.2.1 y.2.2.2.2 /\
 U.aW s y.1 y.2.1 y.2.2.1 y.2.2.2.1 y.2.2.2.2 /\ s.length.sub y.2.2.2.2.toNat < s.length.sub x.2.2.2.2.toNat else bif bif decide (x.1 = (2 : Int)) then decide (s.getD x.2.2.2.2.toNat (0 : Int) = (40 : Int)) else false then (0 : Int) <= x.2.2.2.2 /\ x.2.2.2.2 < (↑x.2.2.2.1.length : Int) /\ x.2.2.2.2.toNat < x.2.2.2.1.length /\ ∃ (y : Int × Int × Bool × List Int × Int), U.aA s x.1
 (IntKind.i64.wrap (x.2.1.add (1 : Int))) x.2.2.1 (x.2.2.2.1.set x.2.2.2.2.toNat x.1) (IntKind.i64.wrap (x.2.2.2.2.add (1 : Int))) = U.aA s y.1 y.2.1 y.2.2.1 y.2.2.2.1 y.2.2.2.2 /\ U.aW s y.1 y.2.1 y.2.2.1 y.2.2.2.1 y.2.2.2.2 /\ s.length.sub y.2.2.2.2.toNat < s.length.sub x.2.2.2.2.toNat else bif bif decide (x.1 = (2 : Int)) then decide (s.getD x.2.2.2.2.toNat (0 : Int) = (41 :
 Int)) else false then bif decide (IntKind.i64.wrap (x.2.1.sub (1 : Int)) = (0 : Int)) then (0 : Int) <= x.2.2.2.2 /\ x.2.2.2.2 < (↑x.2.2.2.1.length : Int) /\ x.2.2.2.2.toNat < x.2.2.2.1.length /\ ∃ (y : Int × Int × Bool × List Int × Int), U.aA s (0 : Int) (IntKind.i64.wrap (x.2.1.sub (1 : Int))) x.2.2.1 (x.2.2.2.1.set x.2.2.2.2.toNat x.1) (IntKind.i64.wrap (x.2.2.2.2.add (1 : Int))) =
 U.aA s y.1 y.2.1 y.2.2.1 y.2.2.2.1 y.2.2.2.2 /\ U.aW s y.1 y.2.1 y.2.2.1 y.2.2.2.1 y.2.2.2.2 /\ s.length.sub y.2.2.2.2.toNat < s.length.sub x.2.2.2.2.toNat else (0 : Int) <= x.2.2.2.2 /\ x.2.2.2.2 < (↑x.2.2.2.1.length : Int) /\ x.2.2.2.2.toNat < x.2.2.2.1.length /\ ∃ (y : Int × Int × Bool × List Int × Int), U.aA s x.1 (IntKind.i64.wrap (x.2.1.sub (1 : Int))) x.2.2.1
 (x.2.2.2.1.set x.2.2.2.2.toNat x.1) (IntKind.i64.wrap (x.2.2.2.2.add (1 : Int))) = U.aA s y.1 y.2.1 y.2.2.1 y.2.2.2.1 y.2.2.2.2 /\ U.aW s y.1 y.2.1 y.2.2.1 y.2.2.2.1 y.2.2.2.2 /\ s.length.sub y.2.2.2.2.toNat < s.length.sub x.2.2.2.2.toNat else (0 : Int) <= x.2.2.2.2 /\ x.2.2.2.2 < (↑x.2.2.2.1.length : Int) /\ x.2.2.2.2.toNat < x.2.2.2.1.length /\ ∃ (y : Int × Int × Bool × List Int
 × Int), U.aA s x.1 x.2.1 x.2.2.1 (x.2.2.2.1.set x.2.2.2.2.toNat x.1) (IntKind.i64.wrap (x.2.2.2.2.add (1 : Int))) = U.aA s y.1 y.2.1 y.2.2.1 y.2.2.2.1 y.2.2.2.2 /\ U.aW s y.1 y.2.1 y.2.2.1 y.2.2.2.1 y.2.2.2.2 /\ s.length.sub y.2.2.2.2.toNat < s.length.sub x.2.2.2.2.toNat else x.2.2.2.1 = U.sorts s /\ True
def su (s : List Int) : Prop := s.length <= (1000000000 : Nat) /\ ∃ (x0 : List (List Int) × Int × Int), (U.dZ s [] (0 : Int) (0 : Int) = U.dZ s x0.1 x0.2.1 x0.2.2 /\ U.jy s x0.1 x0.2.1 x0.2.2) /\ ∀ (x : List (List Int) × Int × Int), U.jy s x.1 x.2.1 x.2.2 -> bif decide (x.2.2 < (↑(U.sorts s).length : Int)) then (0 : Int) <= x.2.2 /\ x.2.2 <
 (↑(U.sorts s).length : Int) /\ (decide ((U.sorts s).getD x.2.2.toNat (0 : Int) = (0 : Int)) = true -> (0 : Int) <= x.2.2) /\ (decide ((U.sorts s).getD x.2.2.toNat (0 : Int) = (0 : Int)) = true -> x.2.2 < (↑s.length : Int)) /\ bif bif decide ((U.sorts s).getD x.2.2.toNat (0 : Int) = (0 : Int)) then decide (s.getD x.2.2.toNat (0 : Int) = (44 : Int)) else false then (0 : Int) <= x.2.1 /\ x.2.1 <= x.2.2 /\ x.2.2
 <= (↑s.length : Int) /\ (x.1.length.add ((1 : Nat))).mul (16 : Nat) <= (140737488355328 : Nat) /\ x.1.length.add ((1 : Nat)) <= maxLen /\ ∃ (y : List (List Int) × Int × Int), U.dZ s (x.1.append ([[]].set (0 : Nat) (List.take (x.2.2.toNat.sub x.2.1.toNat) (List.drop x.2.1.toNat s)))) (IntKind.i64.wrap (x.2.2.add (1 : Int))) (IntKind.i64.wrap (x.2.2.add (1 : Int))) = U.dZ s y.1
 y.2.1 y.2.2 /\ U.jy s y.1 y.2.1 y.2.2 /\ s.length.sub y.2.2.toNat < s.length.sub x.2.2.toNat else ∃ (y : List (List Int) × Int × Int), U.dZ s x.1 x.2.1 (IntKind.i64.wrap (x.2.2.add (1 : Int))) = U.dZ s y.1 y.2.1 y.2.2 /\ U.jy s y.1 y.2.1 y.2.2 /\ s.length.sub y.2.2.toNat < s.length.sub x.2.2.toNat else (0 : Int) <= x.2.1 /\ x.2.1 <= (↑s.length : Int) /\
 (↑s.length : Int) <= (↑s.length : Int) /\ (x.1.length.add ((1 : Nat))).mul (16 : Nat) <= (140737488355328 : Nat) /\ x.1.length.add ((1 : Nat)) <= maxLen /\ x.1.append ([[]].set (0 : Nat) (List.take ((↑s.length : Int).toNat.sub x.2.1.toNat) (List.drop x.2.1.toNat s))) = U.items s /\ True
def uM (s : List Int) : Prop := s.length <= (1000000000 : Nat) /\ ∃ (x0 : List Int × Int), ((⟨⟨[U.sS s] ++ U.n 2 ++ [U.sP 0 0] ++ U.n 3 ++ [U.sL true (.int .u8) (U.sorts s)] ++ [U.sI (↑(U.sorts s).length : Int)] ++ [U.sI (0 : Int)] ++ U.n 13, [], [((0 : Nat), .obj [Leaf.bG, .bI, .arr (0 : Nat) (true || true) (Ty.arr (42 : Nat) Ty.unit) []])]⟩, (1 : Nat), []⟩ : St2) = U.iy s
 x0.1 x0.2 /\ U.fE s x0.1 x0.2) /\ (∀ (i : Int), U.fE s [] i -> bif decide (i < (↑(U.sorts s).length : Int)) then (0 : Int) <= i /\ i < (↑(U.sorts s).length : Int) /\ bif (U.sorts s).getD i.toNat (0 : Int) != (2 : Int) then (0 : Int) <= i /\ i < (↑s.length : Int) /\ (1 : Nat) <= (140737488355328 : Nat) /\ (1 : Nat) <= maxLen /\ ∃ (y : List Int × Int), (⟨⟨[U.sS s] ++ U.n 2 ++ [U.sP 0 0] ++ U.n
 3 ++ [U.sL true (.int .u8) (U.sorts s)] ++ [U.sI (↑(U.sorts s).length : Int)] ++ [U.sI (IntKind.i64.wrap (i.add (1 : Int)))] ++ U.n 13, [], [((0 : Nat), .obj [.ptr (0 : Nat) (0 : Nat), .own ((1 : Nat)), .arr (0 : Nat) (true || true) (Ty.arr (42 : Nat) Ty.unit) []]), ((1 : Nat), .row (5 : Nat) (.int .u8) true true ([(0 : Int)].set (0 : Nat) (s.getD i.toNat (0 : Int))))]⟩, (2 : Nat), []⟩ : St2) =
 U.iy s y.1 y.2 /\ U.fE s y.1 y.2 /\ s.length.sub y.2.toNat < s.length.sub i.toNat else ∃ (y : List Int × Int), (⟨⟨[U.sS s] ++ U.n 2 ++ [U.sP 0 0] ++ U.n 3 ++ [U.sL true (.int .u8) (U.sorts s)] ++ [U.sI (↑(U.sorts s).length : Int)] ++ [U.sI (IntKind.i64.wrap (i.add (1 : Int)))] ++ U.n 13, [], [((0 : Nat), .obj [Leaf.bG, .bI, .arr (0 : Nat) (true || true) (Ty.arr (42 : Nat)
 Ty.unit) []])]⟩, (1 : Nat), []⟩ : St2) = U.iy s y.1 y.2 /\ U.fE s y.1 y.2 /\ s.length.sub y.2.toNat < s.length.sub i.toNat else [(32 : Int), (9 : Int)] = [(32 : Int), (9 : Int)] /\ U.trimB [] = U.bare s /\ True) /\ ∀ (c : Int) (o : List Int) (i : Int), U.fE s (c :: o) i -> bif decide (i < (↑(U.sorts s).length : Int)) then (0 : Int) <= i /\ i < (↑(U.sorts s).length : Int) /\
 bif (U.sorts s).getD i.toNat (0 : Int) != (2 : Int) then (0 : Int) <= i /\ i < (↑s.length : Int) /\ ((o.length.add (1 : Nat)).add ((1 : Nat))).mul (1 : Nat) <= (140737488355328 : Nat) /\ (o.length.add (1 : Nat)).add ((1 : Nat)) <= maxLen /\ ∃ (y : List Int × Int), (⟨⟨[U.sS s] ++ U.n 2 ++ [U.sP 0 0] ++ U.n 3 ++ [U.sL true (.int .u8) (U.sorts s)] ++ [U.sI (↑(U.sorts s).length : Int)] ++ [U.sI
 (IntKind.i64.wrap (i.add (1 : Int)))] ++ U.n 13, [], [((0 : Nat), .obj [.ptr (0 : Nat) (0 : Nat), .own ((1 : Nat)), .arr (0 : Nat) (true || true) (Ty.arr (42 : Nat) Ty.unit) []]), ((1 : Nat), .row (5 : Nat) (.int .u8) true true (c :: o.append ([(0 : Int)].set (0 : Nat) (s.getD i.toNat (0 : Int)))))]⟩, (2 : Nat), []⟩ : St2) = U.iy s y.1 y.2 /\ U.fE s y.1 y.2 /\ s.length.sub
 y.2.toNat < s.length.sub i.toNat else ∃ (y : List Int × Int), (⟨⟨[U.sS s] ++ U.n 2 ++ [U.sP 0 0] ++ U.n 3 ++ [U.sL true (.int .u8) (U.sorts s)] ++ [U.sI (↑(U.sorts s).length : Int)] ++ [U.sI (IntKind.i64.wrap (i.add (1 : Int)))] ++ U.n 13, [], [((0 : Nat), .obj [.ptr (0 : Nat) (0 : Nat), .own ((1 : Nat)), .arr (0 : Nat) (true || true) (Ty.arr (42 : Nat) Ty.unit) []]), ((1 : Nat), .row (5 : Nat)
 (.int .u8) true true (c :: o))]⟩, (2 : Nat), []⟩ : St2) = U.iy s y.1 y.2 /\ U.fE s y.1 y.2 /\ s.length.sub y.2.toNat < s.length.sub i.toNat else (0 : Nat) < o.length.add (1 : Nat) /\ [(32 : Int), (9 : Int)] = [(32 : Int), (9 : Int)] /\ U.trimB (c :: o) = U.bare s /\ True
def nU (s : List Int) : Prop := [(32 : Int), (9 : Int)] = [(32 : Int), (9 : Int)] /\ (decide ((↑(U.trimB s).length : Int) < (2 : Int)) = false -> (0 : Int) <= (0 : Int)) /\ (decide ((↑(U.trimB s).length : Int) < (2 : Int)) = false -> (0 : Int) < (↑(U.trimB s).length : Int)) /\ ((bif decide ((↑(U.trimB s).length : Int) < (2 : Int)) then true else (U.trimB s).getD (0 : Nat) (0 : Int) != (34 :
 Int)) = false -> (0 : Int) <= IntKind.i64.wrap ((↑(U.trimB s).length : Int).sub (1 : Int))) /\ ((bif decide ((↑(U.trimB s).length : Int) < (2 : Int)) then true else (U.trimB s).getD (0 : Nat) (0 : Int) != (34 : Int)) = false -> IntKind.i64.wrap ((↑(U.trimB s).length : Int).sub (1 : Int)) < (↑(U.trimB s).length : Int)) /\ bif bif bif decide ((↑(U.trimB s).length : Int) < (2 : Int)) then true else
 (U.trimB s).getD (0 : Nat) (0 : Int) != (34 : Int) then true else (U.trimB s).getD (IntKind.i64.wrap ((↑(U.trimB s).length : Int).sub (1 : Int))).toNat (0 : Int) != (34 : Int) then U.trimB s = U.gU s /\ True else (0 : Int) <= (1 : Int) /\ (1 : Int) <= IntKind.i64.wrap ((↑(U.trimB s).length : Int).sub (1 : Int)) /\ IntKind.i64.wrap ((↑(U.trimB s).length : Int).sub (1 : Int)) <= (↑(U.trimB s).length
 : Int) /\ ∃ (x0 : List Int × List Int × Bool × Int), ((⟨⟨U.n 3 ++ [U.sP 0 0] ++ [U.sB false] ++ U.n 26 ++ [U.own 1] ++ [U.sI (↑(List.take ((IntKind.i64.wrap ((↑(U.trimB s).length : Int).sub (1 : Int))).toNat.sub (1 : Nat)) (List.drop (1 : Nat) (U.trimB s))).length : Int)] ++ [U.sI (0 : Int)] ++ U.n 15, [], [((0 : Nat), .obj [Leaf.bG, .bI, .arr (0 : Nat) (true || true) (Ty.arr (42 : Nat) Ty.unit)
 []]), ((1 : Nat), .row (5 : Nat) (.int .u8) true false (List.take ((IntKind.i64.wrap ((↑(U.trimB s).length : Int).sub (1 : Int))).toNat.sub (1 : Nat)) (List.drop (1 : Nat) (U.trimB s))))]⟩, (2 : Nat), []⟩ : St2) = U.eu x0.1 x0.2.1 x0.2.2.1 x0.2.2.2 /\ U.dA x0.1 x0.2.1 x0.2.2.1 x0.2.2.2 x0.1 x0.2.1 x0.2.2.1 x0.2.2.2) /\ (∀ (m : List Int) (q : Bool) (i : Int),
 U.dA x0.1 x0.2.1 x0.2.2.1 x0.2.2.2 m [] q i -> bif decide (i < (↑m.length : Int)) then (0 : Int) <= i /\ i < (↑m.length : Int) /\ i.toNat < m.length /\ bif !bif decide (m.getD i.toNat (0 : Int) = (92 : Int)) then !q else false then (1 : Nat) <= (140737488355328 : Nat) /\ (1 : Nat) <= maxLen /\ ∃ (y : List Int × List Int × Bool × Int), (⟨⟨U.n 3 ++ [U.sP 0 0] ++ [U.sB (bif decide (m.getD i.toNat
 (0 : Int) = (92 : Int)) then !q else false)] ++ U.n 26 ++ [U.own 1] ++ [U.sI (↑m.length : Int)] ++ [U.sI (IntKind.i64.wrap (i.add (1 : Int)))] ++ U.n 15, [], [((0 : Nat), .obj [.ptr (0 : Nat) (0 : Nat), .own ((2 : Nat)), .arr (0 : Nat) (true || true) (Ty.arr (42 : Nat) Ty.unit) []]), ((1 : Nat), .row (5 : Nat) (.int .u8) true false m), ((2 : Nat), .row (5 : Nat) (.int .u8) true true ([(0 :
 Int)].set (0 : Nat) (m.getD i.toNat (0 : Int))))]⟩, (3 : Nat), []⟩ : St2) = U.eu y.1 y.2.1 y.2.2.1 y.2.2.2 /\ U.dA x0.1 x0.2.1 x0.2.2.1 x0.2.2.2 y.1 y.2.1 y.2.2.1 y.2.2.2 /\ y.1.length.sub y.2.2.2.toNat < m.length.sub i.toNat else ∃ (y : List Int × List Int × Bool × Int), (⟨⟨U.n 3 ++ [U.sP 0 0] ++ [U.sB (bif decide (m.getD i.toNat (0 : Int) = (92 : Int)) then !q else
 false)] ++ U.n 26 ++ [U.own 1] ++ [U.sI (↑m.length : Int)] ++ [U.sI (IntKind.i64.wrap (i.add (1 : Int)))] ++ U.n 15, [], [((0 : Nat), .obj [Leaf.bG, .bI, .arr (0 : Nat) (true || true) (Ty.arr (42 : Nat) Ty.unit) []]), ((1 : Nat), .row (5 : Nat) (.int .u8) true false m)]⟩, (2 : Nat), []⟩ : St2) = U.eu y.1 y.2.1 y.2.2.1 y.2.2.2 /\ U.dA x0.1 x0.2.1 x0.2.2.1 x0.2.2.2 y.1
 y.2.1 y.2.2.1 y.2.2.2 /\ y.1.length.sub y.2.2.2.toNat < m.length.sub i.toNat else [] = U.gU s /\ True) /\ ∀ (m : List Int) (c : Int) (o : List Int) (q : Bool) (i : Int), U.dA x0.1 x0.2.1 x0.2.2.1 x0.2.2.2 m (c :: o) q i -> bif decide (i < (↑m.length : Int)) then (0 : Int) <= i /\ i < (↑m.length : Int) /\ i.toNat < m.length /\ bif !bif decide (m.getD i.toNat (0 : Int) = (92 : Int)) then
 !q else false then ((o.length.add (1 : Nat)).add ((1 : Nat))).mul (1 : Nat) <= (140737488355328 : Nat) /\ (o.length.add (1 : Nat)).add ((1 : Nat)) <= maxLen /\ ∃ (y : List Int × List Int × Bool × Int), (⟨⟨U.n 3 ++ [U.sP 0 0] ++ [U.sB (bif decide (m.getD i.toNat (0 : Int) = (92 : Int)) then !q else false)] ++ U.n 26 ++ [U.own 1] ++ [U.sI (↑m.length : Int)] ++ [U.sI (IntKind.i64.wrap (i.add (1 : Int)))]
 ++ U.n 15, [], [((0 : Nat), .obj [.ptr (0 : Nat) (0 : Nat), .own ((2 : Nat)), .arr (0 : Nat) (true || true) (Ty.arr (42 : Nat) Ty.unit) []]), ((1 : Nat), .row (5 : Nat) (.int .u8) true false m), ((2 : Nat), .row (5 : Nat) (.int .u8) true true (c :: o.append ([(0 : Int)].set (0 : Nat) (m.getD i.toNat (0 : Int)))))]⟩, (3 : Nat), []⟩ : St2) = U.eu y.1 y.2.1 y.2.2.1 y.2.2.2 /\
 U.dA x0.1 x0.2.1 x0.2.2.1 x0.2.2.2 y.1 y.2.1 y.2.2.1 y.2.2.2 /\ y.1.length.sub y.2.2.2.toNat < m.length.sub i.toNat else ∃ (y : List Int × List Int × Bool × Int), (⟨⟨U.n 3 ++ [U.sP 0 0] ++ [U.sB (bif decide (m.getD i.toNat (0 : Int) = (92 : Int)) then !q else false)] ++ U.n 26 ++ [U.own 1] ++ [U.sI (↑m.length : Int)] ++ [U.sI (IntKind.i64.wrap (i.add (1 : Int)))] ++ U.n 15, [], [((0 :
 Nat), .obj [.ptr (0 : Nat) (0 : Nat), .own ((2 : Nat)), .arr (0 : Nat) (true || true) (Ty.arr (42 : Nat) Ty.unit) []]), ((1 : Nat), .row (5 : Nat) (.int .u8) true false m), ((2 : Nat), .row (5 : Nat) (.int .u8) true true (c :: o))]⟩, (3 : Nat), []⟩ : St2) = U.eu y.1 y.2.1 y.2.2.1 y.2.2.2 /\ U.dA x0.1 x0.2.1 x0.2.2.1 x0.2.2.2 y.1 y.2.1 y.2.2.1 y.2.2.2 /\ y.1.length.sub
 y.2.2.2.toNat < m.length.sub i.toNat else (0 : Nat) < o.length.add (1 : Nat) /\ c :: o = U.gU s /\ True
def uN (l : List Int) (c : Int) : Prop := ∃ (x0 : Int), (U.kS l c (0 : Int) = U.kS l c x0 /\ U.qy l c x0) /\ ∀ (x : Int), U.qy l c x -> bif decide (x < (↑l.length : Int)) then (0 : Int) <= x /\ x < (↑l.length : Int) /\ bif decide (c = l.getD x.toNat (0 : Int)) then x = aH l c /\ True else ∃ (y : Int), U.kS l c (IntKind.i64.wrap (x.add (1 : Int))) =
 U.kS l c y /\ U.qy l c y /\ l.length.sub y.toNat < l.length.sub x.toNat else (-1 : Int) = aH l c /\ True
def xI (s : List Int) : Prop := s.length <= (1000000000 : Nat) /\ ((U.bare s).length <= (1000000000 : Nat) /\ bif decide (aH (U.sorts (U.bare s)) (3 : Int) >= (0 : Int)) then (0 : Int) <= (0 : Int) /\ (0 : Int) <= aH (U.sorts (U.bare s)) (3 : Int) /\ aH (U.sorts (U.bare s)) (3 : Int) <= (↑(U.bare s).length : Int) /\ (0 : Int) <= IntKind.i64.wrap ((aH (U.sorts (U.bare s)) (3 : Int)).add (1 :
 Int)) /\ IntKind.i64.wrap ((aH (U.sorts (U.bare s)) (3 : Int)).add (1 : Int)) <= (↑(U.bare s).length : Int) /\ (↑(U.bare s).length : Int) <= (↑(U.bare s).length : Int) /\ (1 : Nat) = (1 : Nat) /\ ∃ (x0 : List Int × List Int), U.zn s (U.nP (List.take ((↑(U.bare s).length : Int).toNat.sub (IntKind.i64.wrap ((aH (U.sorts (U.bare s)) (3 : Int)).add (1 : Int))).toNat) (List.drop (IntKind.i64.wrap
 ((aH (U.sorts (U.bare s)) (3 : Int)).add (1 : Int))).toNat (U.bare s))) ([(62 : Int)].getD (0 : Nat) (0 : Int))) (List.take ((aH (U.sorts (U.bare s)) (3 : Int)).toNat.sub (0 : Nat)) (List.drop (0 : Nat) (U.bare s))) = U.zn s x0.1 x0.2 /\ U.D5 s x0.1 x0.2 else ∃ (x0 : List Int × List Int), U.zn s (U.bare s) [] = U.zn s x0.1 x0.2 /\ U.D5 s x0.1 x0.2) /\ ∀ (x : List Int × List Int),
 U.D5 s x.1 x.2 -> [(32 : Int), (9 : Int)] = [(32 : Int), (9 : Int)] /\ x.2.length <= (1000000000 : Nat) /\ bif decide (U.lastB (U.trimB x.1) (64 : Int) >= (0 : Int)) then (0 : Int) <= (0 : Int) /\ (0 : Int) <= U.lastB (U.trimB x.1) (64 : Int) /\ U.lastB (U.trimB x.1) (64 : Int) <= (↑(U.trimB x.1).length : Int) /\ (0 : Int) <= IntKind.i64.wrap ((U.lastB (U.trimB x.1) (64 : Int)).add (1 : Int)) /\
 IntKind.i64.wrap ((U.lastB (U.trimB x.1) (64 : Int)).add (1 : Int)) <= (↑(U.trimB x.1).length : Int) /\ (↑(U.trimB x.1).length : Int) <= (↑(U.trimB x.1).length : Int) /\ U.gU x.2 = (U.one s).1 /\ List.take ((U.lastB (U.trimB x.1) (64 : Int)).toNat.sub (0 : Nat)) (List.drop (0 : Nat) (U.trimB x.1)) = (U.one s).2.1 /\ List.take ((↑(U.trimB x.1).length : Int).toNat.sub (IntKind.i64.wrap ((U.lastB
 (U.trimB x.1) (64 : Int)).add (1 : Int))).toNat) (List.drop (IntKind.i64.wrap ((U.lastB (U.trimB x.1) (64 : Int)).add (1 : Int))).toNat (U.trimB x.1)) = (U.one s).2.2 /\ True else U.gU x.2 = (U.one s).1 /\ U.trimB x.1 = (U.one s).2.1 /\ [] = (U.one s).2.2 /\ True
def sD (s : List Int) : Prop := s.length <= (1000000000 : Nat) /\ ∃ (x0 : List (List Int × List Int × List Int) × Int), (U.eF s [] (0 : Int) = U.eF s x0.1 x0.2 /\ U.jA s x0.1 x0.2) /\ ∀ (x : List (List Int × List Int × List Int) × Int), U.jA s x.1 x.2 -> bif decide (x.2 < (↑(U.items s).length : Int)) then (0 : Int) <= x.2 /\ x.2 < (↑(U.items
 s).length : Int) /\ (decide ((↑x.1.length : Int) < (20 : Int)) = true -> ((U.items s).getD x.2.toNat []).length <= (1000000000 : Nat)) /\ bif bif decide ((↑x.1.length : Int) < (20 : Int)) then !(U.bare ((U.items s).getD x.2.toNat [])).beq [] else false then ((U.items s).getD x.2.toNat []).length <= (1000000000 : Nat) /\ (x.1.length.add ((1 : Nat))).mul (48 : Nat) <= (140737488355328 : Nat) /\
 x.1.length.add ((1 : Nat)) <= maxLen /\ ∃ (y : List (List Int × List Int × List Int) × Int), U.eF s (x.1.append ([([], [], [])].set (0 : Nat) (U.one ((U.items s).getD x.2.toNat [])))) (IntKind.i64.wrap (x.2.add (1 : Int))) = U.eF s y.1 y.2 /\ U.jA s y.1 y.2 /\ (U.items s).length.sub y.2.toNat < (U.items s).length.sub x.2.toNat else ∃ (y : List (List Int × List Int ×
 List Int) × Int), U.eF s x.1 (IntKind.i64.wrap (x.2.add (1 : Int))) = U.eF s y.1 y.2 /\ U.jA s y.1 y.2 /\ (U.items s).length.sub y.2.toNat < (U.items s).length.sub x.2.toNat else x.1 = U.parse s /\ True
end Go.Proofs.YtlmkekoenfelcaaDoor
