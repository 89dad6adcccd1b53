/- What functions of this seat compute, in plain Lean. -/
import Derived.Test.YtggccomebfpfpaaDoorCZ
import Derived.Test.YtggccomebfpfpaaDoorCVcF
import Derived.Test.YtggccomebfpfpaaDoorCS
set_option linter.unusedVariables false
set_option linter.unusedSimpArgs false
set_option maxRecDepth 100000
namespace Go.Proofs.YtggccomebfpfpaaDoor
open Go.Vc
abbrev aA : Ty := .slice (.int .u8)
namespace U
def yld : Option SV := some (.one .yld)
def dM (s t : List Int) : Bool := decide (t.length <= s.length) && decide (s.drop (s.length - t.length) = t)
def cZ (s t : List Int) : List Int := cond (dM s t) (s.take (s.length - t.length)) s
def aB (s : List Int) (c : Int) : List Int := cond (decide (aF s c >= 0)) (s.take (aF s c).toNat) s
def bH (s : List Int) (c : Int) : List Int := cond (decide (aF s c >= 0)) (s.drop (aF s c + 1).toNat) []
def blank (c : Int) : Bool := decide (c = 32) || decide (c = 9)
def bP : List Int -> Nat
 | [] => 0
 | x :: r => cond (blank x) (bP r + 1) 0
def aW (l : List Int) : Nat := l.length - bP l.reverse
def trimB (l : List Int) : List Int := (l.take (aW l)).drop (bP (l.take (aW l)))
def gY (l : List Int) : List Bool := l.foldl (fun a c => a.set c.toNat true) (List.replicate 256 false)
def ah (c : Int) : List Int -> List (List Int)
 | [] => [[]]
 | x :: r => if x = c then [x] :: ah c r else (x :: (ah c r).headD []) :: (ah c r).tail
end U
namespace U
def dK (s : List Int) (a : List Bool) (i : Int) : St2 := ⟨⟨[sS s] ++ U.n 1 ++ [sP 0 0] ++ U.n 1 ++ [sI i] ++ U.n 16, [], [(0, .obj [.arr 256 true .bool a])]⟩, 1, []⟩
def fM (s : List Int)  (a : List Bool) (i : Int) : Prop := at_ s i /\ a = gY (s.take i.toNat)
def dW (l : List Int) (lo : Nat) (n : Nat) : St2 := ⟨⟨[slc 0 lo n] ++ [sP 1 0] ++ U.n 21, [], [(0, .row 5 (.int .u8) true true l), (1, .obj [.arr 256 true .bool (gY [32, 9])])]⟩, 2, []⟩
def eF (l : List Int)  (lo : Nat) (n : Nat) : Prop := lo = 0 /\ n <= l.length /\ aW l <= n /\ aW (l.take n) = aW l
def aO (l : List Int) (lo : Nat) (n : Nat) : St2 := ⟨⟨[slc 0 lo n] ++ [sP 1 0] ++ U.n 18, [], [(0, .row 5 (.int .u8) true true l), (1, .obj [.arr 256 true .bool (gY [32, 9])])]⟩, 2, []⟩
def aX (l : List Int)  (lo : Nat) (n : Nat) : Prop := lo + n = aW l /\ lo <= bP (l.take (aW l)) /\ bP ((l.take (aW l)).drop lo) + lo = bP (l.take (aW l))
def gu (s : List Int) (c : Int) (r : List Int) (k : Nat) : St2 := ⟨⟨[yld] ++ [sP 0 0] ++ [sP 1 0] ++ [sP 2 0] ++ U.n 59, [], [(0, .obj [.psl false (.int .u8) [c]]), (1, .obj [.psl false (.int .u8) r]), (2, .obj [.int .i64 1])]⟩, 3, [0, k]⟩
def ig (s : List Int) (c : Int)  (r : List Int) (k : Nat) : Prop := ah c r = (ah c s).drop k /\ k < (ah c s).length /\ r.length <= s.length
end U
def wR (s : List Int) : Vc.Loop := ⟨{ keep := [0, 2, 4] }, List Bool × Int, fun x => U.dK s x.1 x.2, fun x0 x => U.fM s  x.1 x.2, fun x => s.length - x.2.toNat, fun p => ∀ x, p x, fun _ h => h⟩
def uI (l : List Int) : Vc.Loop := ⟨{ keep := [0, 1], Pe := [0] }, Nat × Nat, fun x => U.dW l x.1 x.2, fun x0 x => U.eF l  x.1 x.2, fun x => x.2, fun p => ∀ x, p x, fun _ h => h⟩
def vF (l : List Int) : Vc.Loop := ⟨{ keep := [0, 1], Pe := [0] }, Nat × Nat, fun x => U.aO l x.1 x.2, fun x0 x => U.aX l  x.1 x.2, fun x => x.2, fun p => ∀ x, p x, fun _ h => h⟩
def y9 (s : List Int) (c : Int) : Vc.Loop := ⟨{ keep := [0, 1, 2, 3] }, List Int × Nat, fun x => U.gu s c x.1 x.2, fun x0 x => U.ig s c  x.1 x.2, fun x => x.1.length, fun p => ∀ x, p x, fun _ h => h⟩
def jg : Vc.Sum := .pure [aA, .int .u8] false fun x => ⟨[], .one (.int .i64 (aF x.1 x.2)), [], []⟩
def jh : List (Nat × Ent) := (69, .sum jg) :: []
def kM : Vc.Sum := .pure [aA, .int .u8] false fun x => ⟨[], .one (.int .i64 ((uH x.1 x.2 : Int))), [], []⟩
def kN : List (Nat × Ent) := (39, .sum kM) :: jh
def pY : Vc.Sum := .pure [.str, .int .u8] false fun x => Tz x.1 x.2
def iK : List (Nat × Ent) := (45, .sum pY) :: kN
def lJ (s : List Int) (c : Int) : Done := rI (aF s c)
def uJ : Vc.Sum := .pure [aA, .int .u8] false fun x => lJ x.1 x.2
def uK (s : List Int) (c : Int) : Nat -> List V -> Nat -> Option Vc.Loop := fG
def jw : List (Nat × Ent) := (49, .sum uJ) :: iK
def nJ (s : List Int) (t : List Int) : Done := ⟨[t.length = 1], .one (.int .i64 (aF s (t.getD 0 0))), [], []⟩
def Ba : Vc.Sum := .pure [aA, aA] false fun x => nJ x.1 x.2
def Bc (s : List Int) (t : List Int) : Nat -> List V -> Nat -> Option Vc.Loop := fG
def nK : List (Nat × Ent) := (40, .sum Ba) :: jw
def nM (s : List Int) (t : List Int) : Done := ⟨[t.length = 1], .one (.int .i64 (uH s (t.getD 0 0))), [], []⟩
def Bd : Vc.Sum := .pure [aA, aA] false fun x => nM x.1 x.2
def Bf (s : List Int) (t : List Int) : Nat -> List V -> Nat -> Option Vc.Loop := fG
def nN : List (Nat × Ent) := (26, .sum Bd) :: nK
def lK (s : List Int) (t : List Int) : Done := rB (U.dM s t)
def uM : Vc.Sum := .pure [aA, aA] false fun x => lK x.1 x.2
def uN (s : List Int) (t : List Int) : Nat -> List V -> Nat -> Option Vc.Loop := fG
def jy : List (Nat × Ent) := (72, .sum uM) :: nN
def kR (s : List Int) (t : List Int) : Done := ⟨[], .one (.psl false (.int .u8) (U.cZ s t)), [], []⟩
def qL : Vc.Sum := .pure [aA, aA] true fun x => kR x.1 x.2
def qM (s : List Int) (t : List Int) : Nat -> List V -> Nat -> Option Vc.Loop := fG
def iT : List (Nat × Ent) := (57, .sum qL) :: jy
def lM (s : List Int) (t : List Int) : Done := ⟨[], .tup [one (.psl false (.int .u8) (U.cZ s t)), one (.bool (U.dM s t))], [], []⟩
def uO : Vc.Sum := .pure [aA, aA] true fun x => lM x.1 x.2
def uP (s : List Int) (t : List Int) : Nat -> List V -> Nat -> Option Vc.Loop := fG
def jA : List (Nat × Ent) := (56, .sum uO) :: iT
def rG (s : List Int) (t : List Int) : Done := ⟨[t.length = 1], .tup [one (.psl false (.int .u8) (U.aB s (t.getD 0 0))), one (.psl false (.int .u8) (U.bH s (t.getD 0 0))), one (.bool (decide (aF s (t.getD 0 0) >= 0)))], [], []⟩
def GK : Vc.Sum := .pure [aA, aA] true fun x => rG x.1 x.2
def GL (s : List Int) (t : List Int) : Nat -> List V -> Nat -> Option Vc.Loop := fG
def rH : List (Nat × Ent) := (58, .sum GK) :: jA
def iq (s : List Int) : Done := ⟨[∀ c ∈ s, 0 <= c /\ c < 128], .tup [⟨true, [.arr 256 true .bool (U.gY s)]⟩, one (.bool true)], [], []⟩
def nX : Vc.Sum := .pure [.str] false fun x => iq x
def nY (s : List Int) : Nat -> List V -> Nat -> Option Vc.Loop := fun f v k => cond (Nat.beq f 64 && Nat.beq k 2) (some (wR s)) <| none
def eP : List (Nat × Ent) := (64, .sum nX) :: rH
def uQ (c : List Int) : Done := ⟨[], .one .bW, [], []⟩
def zB (c : List Int) : List V := [⟨false, [.bW]⟩, ⟨false, [.str c]⟩]
def zC (c : List Int) : List Entry := []
def Bg (c : List Int) : Nat -> List V -> Nat -> Option Vc.Loop := fG
def qA : List V -> List Entry -> Option Done
 | [⟨false, [.bW]⟩, ⟨false, [.str c]⟩], [] => cond (true) (some (uQ c)) none
 | _, _ => none
theorem uS {args : List V} {es : List Entry} {d : Done} (h : qA args es = some d) : ∃ c, args = zB c /\ es = zC c /\ d = uQ c := by
 unfold qA at h
 split at h
 ·obtain ⟨hb, hd⟩ := Jf h; simp only [Bool.and_eq_true, Nat.beq_eq] at hb; (try obtain rfl := hb); subst hd; (try subst_vars); exact ⟨_, rfl, rfl, rfl⟩
 ·cases h
def nO (l : List Int) (c : List Int) : Done := ⟨[c = [32, 9]], .one (.vw 0 (U.bP (l.take (U.aW l))) (U.trimB l).length), [.row 5 (.int .u8) true true l], []⟩
def zD (l : List Int) (c : List Int) : List V := [⟨false, [.own 0]⟩, ⟨false, [.str c]⟩]
def zF (l : List Int) (c : List Int) : List Entry := [.row 5 (.int .u8) true true l]
def Bh (l : List Int) (c : List Int) : Nat -> List V -> Nat -> Option Vc.Loop := fun f v k => cond (Nat.beq f 66 && Nat.beq k 1) (some (uI l)) <| cond (Nat.beq f 65 && Nat.beq k 1) (some (vF l)) <| none
def qB : List V -> List Entry -> Option Done
 | [⟨false, [.own n1]⟩, ⟨false, [.str c]⟩], [.row n2 (.int .u8) true true l] => cond (Nat.beq n1 0 && Nat.beq n2 5) (some (nO l c)) none
 | _, _ => none
theorem uT {args : List V} {es : List Entry} {d : Done} (h : qB args es = some d) : ∃ l c, args = zD l c /\ es = zF l c /\ d = nO l c := by
 unfold qB at h
 split at h
 ·obtain ⟨hb, hd⟩ := Jf h; simp only [Bool.and_eq_true, Nat.beq_eq] at hb; (try obtain ⟨rfl, rfl⟩ := hb); subst hd; (try subst_vars); exact ⟨_, _, rfl, rfl, rfl⟩
 ·cases h
def oV (args : List V) (es : List Entry) : Option Done := orE (qA args es) (orE (qB args es) (none))
def DX : Vc.Sum := .gen oV
def oW : List (Nat × Ent) := (47, .sum DX) :: eP
def Bj (t : List Int) (s : List Int) (n : Int) : List (aK [aA]) := U.ah (t.getD 0 0) s
def jU (t : List Int) (s : List Int) (n : Int) : List Prop := [t.length = 1, n = 1]
def fU : wC := ⟨[aA, aA, .int .i64], [aA], fun x => jU x.1 x.2.1 x.2.2, fun x => Bj x.1 x.2.1 x.2.2⟩
def qN (t : List Int) (s : List Int) (n : Int) : Nat -> List V -> Nat -> Option Vc.Loop := fun f v k => cond (Nat.beq f 54 && Nat.beq k 5) (some (y9 s (t.getD 0 0))) <| none
def iU : List (Nat × Ent) := (54, .seq fU) :: oW
end Go.Proofs.YtggccomebfpfpaaDoor
set_option maxRecDepth 100000
set_option linter.unusedVariables false
namespace Go.Proofs.YtggccomebfpfpaaDoor
open Go.Vc
def qO (s : List Int) (c : Int) : Prop := aF s c = aF s c /\ True
def qC (s : List Int) (t : List Int) : Prop := bif decide ((↑t.length : Int) = (0 : Int)) then (0 : Int) = aF s (t.getD (0 : Nat) (0 : Int)) /\ True else bif decide ((↑t.length : Int) = (1 : Int)) then (0 : Int) <= (0 : Int) /\ (0 : Int) < (↑t.length : Int) /\ aF s (t.getD (0 : Nat) (0 : Int)) = aF s (t.getD (0 : Nat) (0 : Int)) /\ True else bif decide ((↑t.length : Int) = (↑s.length :
 Int)) then bif t.beq s then (0 : Int) = aF s (t.getD (0 : Nat) (0 : Int)) /\ True else (-1 : Int) = aF s (t.getD (0 : Nat) (0 : Int)) /\ True else bif decide ((↑t.length : Int) > (↑s.length : Int)) then (-1 : Int) = aF s (t.getD (0 : Nat) (0 : Int)) /\ True else False
def qE (s : List Int) (t : List Int) : Prop := bif decide ((↑t.length : Int) = (0 : Int)) then False else bif decide ((↑t.length : Int) = (1 : Int)) then (0 : Int) <= (0 : Int) /\ (0 : Int) < (↑t.length : Int) /\ (↑(List.filter (fun (x : Int) => decide (x = t.getD (0 : Nat) (0 : Int))) s).length : Int) = (↑(List.filter (fun (x : Int) => decide (x = t.getD (0 : Nat) (0 : Int))) s).length :
 Int) /\ True else False
def kS (s : List Int) (t : List Int) : Prop := (decide ((↑s.length : Int) >= (↑t.length : Int)) = true -> (0 : Int) <= IntKind.i64.wrap ((↑s.length : Int).sub (↑t.length : Int))) /\ (decide ((↑s.length : Int) >= (↑t.length : Int)) = true -> IntKind.i64.wrap ((↑s.length : Int).sub (↑t.length : Int)) <= (↑s.length : Int)) /\ (decide ((↑s.length : Int) >= (↑t.length : Int)) = true -> (↑s.length :
 Int) <= (↑s.length : Int)) /\ bif decide ((↑s.length : Int) >= (↑t.length : Int)) then (List.take ((↑s.length : Int).toNat.sub (IntKind.i64.wrap ((↑s.length : Int).sub (↑t.length : Int))).toNat) (List.drop (IntKind.i64.wrap ((↑s.length : Int).sub (↑t.length : Int))).toNat s)).beq t = U.dM s t /\ True else false = U.dM s t /\ True
def jV (s : List Int) (t : List Int) : Prop := bif U.dM s t then (0 : Int) <= (0 : Int) /\ (0 : Int) <= IntKind.i64.wrap ((↑s.length : Int).sub (↑t.length : Int)) /\ IntKind.i64.wrap ((↑s.length : Int).sub (↑t.length : Int)) <= (↑s.length : Int) /\ List.take ((IntKind.i64.wrap ((↑s.length : Int).sub (↑t.length : Int))).toNat.sub (0 : Nat)) (List.drop (0 : Nat) s) = U.cZ s t /\ True
 else s = U.cZ s t /\ True
def kT (s : List Int) (t : List Int) : Prop := bif !U.dM s t then s = U.cZ s t /\ false = U.dM s t /\ True else (0 : Int) <= (0 : Int) /\ (0 : Int) <= IntKind.i64.wrap ((↑s.length : Int).sub (↑t.length : Int)) /\ IntKind.i64.wrap ((↑s.length : Int).sub (↑t.length : Int)) <= (↑s.length : Int) /\ List.take ((IntKind.i64.wrap ((↑s.length : Int).sub (↑t.length : Int))).toNat.sub (0 :
 Nat)) (List.drop (0 : Nat) s) = U.cZ s t /\ true = U.dM s t /\ True
def wS (s : List Int) (t : List Int) : Prop := t.length = (1 : Nat) /\ bif decide (aF s (t.getD (0 : Nat) (0 : Int)) >= (0 : Int)) then (0 : Int) <= (0 : Int) /\ (0 : Int) <= aF s (t.getD (0 : Nat) (0 : Int)) /\ aF s (t.getD (0 : Nat) (0 : Int)) <= (↑s.length : Int) /\ (0 : Int) <= IntKind.i64.wrap ((aF s (t.getD (0 : Nat) (0 : Int))).add (↑t.length : Int)) /\ IntKind.i64.wrap ((aF s
 (t.getD (0 : Nat) (0 : Int))).add (↑t.length : Int)) <= (↑s.length : Int) /\ (↑s.length : Int) <= (↑s.length : Int) /\ List.take ((aF s (t.getD (0 : Nat) (0 : Int))).toNat.sub (0 : Nat)) (List.drop (0 : Nat) s) = U.aB s (t.getD (0 : Nat) (0 : Int)) /\ List.take ((↑s.length : Int).toNat.sub (IntKind.i64.wrap ((aF s (t.getD (0 : Nat) (0 : Int))).add (↑t.length : Int))).toNat) (List.drop
 (IntKind.i64.wrap ((aF s (t.getD (0 : Nat) (0 : Int))).add (↑t.length : Int))).toNat s) = U.bH s (t.getD (0 : Nat) (0 : Int)) /\ true = decide (aF s (t.getD (0 : Nat) (0 : Int)) >= (0 : Int)) /\ True else s = U.aB s (t.getD (0 : Nat) (0 : Int)) /\ [] = U.bH s (t.getD (0 : Nat) (0 : Int)) /\ false = decide (aF s (t.getD (0 : Nat) (0 : Int)) >= (0 : Int)) /\ True
def jB (s : List Int) : Prop := ∃ (x0 : List Bool × Int), (U.dK s [false, false, false, false, false, false, false, false, false, false, false, false, false, false, false, false, false, false, false, false, false, false, false, false, false, false, false, false, false, false, false, false, false, false, false, false, false, false, false, false, false, false,
 false, false, false, false, false, false, false, false, false, false, false, false, false, false, false, false, false, false, false, false, false, false, false, false, false, false, false, false, false, false, false, false, false, false, false, false, false, false, false, false, false, false, false, false, false, false, false, false, false, false, false, false, false, false, false, false, false,
 false, false, false, false, false, false, false, false, false, false, false, false, false, false, false, false, false, false, false, false, false, false, false, false, false, false, false, false, false, false, false, false, false, false, false, false, false, false, false, false, false, false, false, false, false, false, false, false, false, false, false, false, false, false, false, false, false,
 false, false, false, false, false, false, false, false, false, false, false, false, false, false, false, false, false, false, false, false, false, false, false, false, false, false, false, false, false, false, false, false, false, false, false, false, false, false, false, false, false, false, false, false, false, false, false, false, false, false, false, false, false, false, false, false, false,
 false, false, false, false, false, false, false, false, false, false, false, false, false, false, false, false, false, false, false, false, false, false, false, false, false, false, false, false, false, false, false, false, false, false, false, false, false, false, false, false, false, false, false] (0 : Int) = U.dK s x0.1 x0.2 /\ U.fM s x0.1 x0.2) /\ ∀ (x :
 List Bool × Int), U.fM s x.1 x.2 -> bif decide (x.2 < (↑s.length : Int)) then (0 : Int) <= x.2 /\ x.2 < (↑s.length : Int) /\ bif decide (s.getD x.2.toNat (0 : Int) >= (128 : Int)) then x.1 = U.gY s /\ false = true /\ True else (0 : Int) <= s.getD x.2.toNat (0 : Int) /\ s.getD x.2.toNat (0 : Int) < (↑(256 : Nat) : Int) /\ (s.getD x.2.toNat (0 : Int)).toNat < (256 : Nat) /\ ∃ (y : List
 Bool × Int), U.dK s (x.1.set (s.getD x.2.toNat (0 : Int)).toNat true) (IntKind.i64.wrap (x.2.add (1 : Int))) = U.dK s y.1 y.2 /\ U.fM s y.1 y.2 /\ s.length.sub y.2.toNat < s.length.sub x.2.toNat else x.1 = U.gY s /\ true = true /\ True
def qF (c : List Int) : Prop := bif decide ((0 : Int) = (0 : Int)) then True else bif c.beq [] then True else (decide ((↑c.length : Int) = (1 : Int)) = true -> (0 : Int) <= (0 : Int)) /\ (decide ((↑c.length : Int) = (1 : Int)) = true -> (0 : Int) < (↑c.length : Int)) /\ bif bif decide ((↑c.length : Int) = (1 : Int)) then decide (c.getD (0 : Nat) (0 : Int) < (128 : Int)) else false then False
 else (∀ (c_1 : Int), List.Mem c_1 c -> (0 : Int) <= c_1 /\ c_1 < (128 : Int)) /\ False
def qG (l : List Int) (c : List Int) : Prop := bif decide ((↑l.length : Int) = (0 : Int)) then (U.trimB l).length = (0 : Nat) /\ l = l /\ True else bif c.beq [] then False else (decide ((↑c.length : Int) = (1 : Int)) = true -> (0 : Int) <= (0 : Int)) /\ (decide ((↑c.length : Int) = (1 : Int)) = true -> (0 : Int) < (↑c.length : Int)) /\ bif bif decide ((↑c.length : Int) = (1 : Int)) then decide
 (c.getD (0 : Nat) (0 : Int) < (128 : Int)) else false then False else (∀ (c_1 : Int), List.Mem c_1 c -> (0 : Int) <= c_1 /\ c_1 < (128 : Int)) /\ ∃ (x0 : Nat × Nat), ((⟨⟨[some (SV.v { agg := false, ls := [.sl (0 : Nat) (0 : Nat) l.length] })] ++ [U.sP 1 0] ++ U.n 21, [], [((0 : Nat), .row (5 : Nat) (.int .u8) true true l), ((1 : Nat), .obj [.arr (256 : Nat) (true || true) Ty.bool (U.gY c)])]⟩, (2 :
 Nat), []⟩ : St2) = U.dW l x0.1 x0.2 /\ U.eF l x0.1 x0.2) /\ ∀ (x : Nat × Nat), U.eF l x.1 x.2 -> bif decide ((↑x.2 : Int) > (0 : Int)) then (0 : Int) <= IntKind.i64.wrap ((↑x.2 : Int).sub (1 : Int)) /\ IntKind.i64.wrap ((↑x.2 : Int).sub (1 : Int)) < (↑x.2 : Int) /\ x.1.add (IntKind.i64.wrap ((↑x.2 : Int).sub (1 : Int))).toNat < l.length /\ (0
 : Int) <= l.getD (x.1.add (IntKind.i64.wrap ((↑x.2 : Int).sub (1 : Int))).toNat) (0 : Int) /\ l.getD (x.1.add (IntKind.i64.wrap ((↑x.2 : Int).sub (1 : Int))).toNat) (0 : Int) < (↑(256 : Nat) : Int) /\ (l.getD (x.1.add (IntKind.i64.wrap ((↑x.2 : Int).sub (1 : Int))).toNat) (0 : Int)).toNat < (256 : Nat) /\ bif !(U.gY [(32 : Int), (9 : Int)]).getD (l.getD (x.1.add (IntKind.i64.wrap ((↑x.2 : Int).sub
 (1 : Int))).toNat) (0 : Int)).toNat false then ∃ (x0 : Nat × Nat), (U.aO l x.1 x.2 = U.aO l x0.1 x0.2 /\ U.aX l x0.1 x0.2) /\ ∀ (x : Nat × Nat), U.aX l x.1 x.2 -> bif decide ((↑x.2 : Int) > (0 : Int)) then (0 : Int) <= (0 : Int) /\ (0 : Int) < (↑x.2 : Int) /\ x.1.add (0 : Nat) < l.length /\ (0 : Int) <= l.getD (x.1.add (0 :
 Nat)) (0 : Int) /\ l.getD (x.1.add (0 : Nat)) (0 : Int) < (↑(256 : Nat) : Int) /\ (l.getD (x.1.add (0 : Nat)) (0 : Int)).toNat < (256 : Nat) /\ bif !(U.gY [(32 : Int), (9 : Int)]).getD (l.getD (x.1.add (0 : Nat)) (0 : Int)).toNat false then bif decide ((↑x.2 : Int) = (0 : Int)) then (U.trimB l).length = (0 : Nat) /\ l = l /\ True else x.1 = U.bP (List.take (U.aW l) l) /\ x.2 = (U.trimB
 l).length /\ l = l /\ True else (0 : Int) <= (1 : Int) /\ (1 : Int) <= (↑x.2 : Int) /\ (↑x.2 : Int) <= (↑x.2 : Int) /\ ∃ (y : Nat × Nat), U.aO l (x.1.add (1 : Nat)) ((↑x.2 : Int).toNat.sub (1 : Nat)) = U.aO l y.1 y.2 /\ U.aX l y.1 y.2 /\ y.2 < x.2 else bif decide ((↑x.2 : Int) = (0 : Int)) then (U.trimB l).length = (0 : Nat) /\ l = l /\ True else
 x.1 = U.bP (List.take (U.aW l) l) /\ x.2 = (U.trimB l).length /\ l = l /\ True else (0 : Int) <= (0 : Int) /\ (0 : Int) <= IntKind.i64.wrap ((↑x.2 : Int).sub (1 : Int)) /\ IntKind.i64.wrap ((↑x.2 : Int).sub (1 : Int)) <= (↑x.2 : Int) /\ ∃ (y : Nat × Nat), U.dW l (x.1.add (0 : Nat)) ((IntKind.i64.wrap ((↑x.2 : Int).sub (1 : Int))).toNat.sub (0 : Nat)) = U.dW
 l y.1 y.2 /\ U.eF l y.1 y.2 /\ y.2 < x.2 else ∃ (x0 : Nat × Nat), (U.aO l x.1 x.2 = U.aO l x0.1 x0.2 /\ U.aX l x0.1 x0.2) /\ ∀ (x : Nat × Nat), U.aX l x.1 x.2 -> bif decide ((↑x.2 : Int) > (0 : Int)) then (0 : Int) <= (0 : Int) /\ (0 : Int) < (↑x.2 : Int) /\ x.1.add (0 : Nat) < l.length /\ (0 : Int) <=
 l.getD (x.1.add (0 : Nat)) (0 : Int) /\ l.getD (x.1.add (0 : Nat)) (0 : Int) < (↑(256 : Nat) : Int) /\ (l.getD (x.1.add (0 : Nat)) (0 : Int)).toNat < (256 : Nat) /\ bif !(U.gY [(32 : Int), (9 : Int)]).getD (l.getD (x.1.add (0 : Nat)) (0 : Int)).toNat false then bif decide ((↑x.2 : Int) = (0 : Int)) then (U.trimB l).length = (0 : Nat) /\ l = l /\ True else x.1 = U.bP (List.take (U.aW l) l) /\
 x.2 = (U.trimB l).length /\ l = l /\ True else (0 : Int) <= (1 : Int) /\ (1 : Int) <= (↑x.2 : Int) /\ (↑x.2 : Int) <= (↑x.2 : Int) /\ ∃ (y : Nat × Nat), U.aO l (x.1.add (1 : Nat)) ((↑x.2 : Int).toNat.sub (1 : Nat)) = U.aO l y.1 y.2 /\ U.aX l y.1 y.2 /\ y.2 < x.2 else bif decide ((↑x.2 : Int) = (0 : Int)) then (U.trimB l).length = (0 : Nat) /\ l = l
 /\ True else x.1 = U.bP (List.take (U.aW l) l) /\ x.2 = (U.trimB l).length /\ l = l /\ True
def jW (t : List Int) (s : List Int) (n : Int) : Prop := bif decide ((↑t.length : Int) = (0 : Int)) then False else ∃ (x0 : List Int × Nat), ((⟨⟨[some (SV.v { agg := false, ls := [Leaf.yld] })] ++ [U.sP 0 0] ++ [U.sP 1 0] ++ [U.sP 2 0] ++ U.n 59, [], [((0 : Nat), .obj [.psl false (.int .u8) t]), ((1 : Nat), .obj [.psl false (.int .u8) s]), ((2 : Nat), .obj [.int .i64 n])]⟩, (3 :
 Nat), [(0 : Nat), (0 : Nat)]⟩ : St2) = U.gu s (t.getD (0 : Nat) (0 : Int)) x0.1 x0.2 /\ U.ig s (t.getD (0 : Nat) (0 : Int)) x0.1 x0.2) /\ ∀ (x : List Int × Nat), U.ig s (t.getD (0 : Nat) (0 : Int)) x.1 x.2 -> (1 : Nat) = (1 : Nat) /\ bif decide (aF x.1 ([t.getD (0 : Nat) (0 : Int)].getD (0 : Nat) (0 : Int)) < (0 : Int)) then (0 : Int) <= (0 : Int) /\
 (0 : Int) <= (↑x.1.length : Int) /\ (↑x.1.length : Int) <= (↑x.1.length : Int) /\ (↑x.1.length : Int) <= (↑x.1.length : Int) /\ x.2 < (U.ah (t.getD (0 : Nat) (0 : Int)) s).length /\ (U.ah (t.getD (0 : Nat) (0 : Int)) s).getD x.2 [] = List.take ((↑x.1.length : Int).toNat.sub (0 : Nat)) (List.drop (0 : Nat) x.1) /\ x.2.add (1 : Nat) = (U.ah (t.getD (0 : Nat) (0 : Int)) s).length /\ true = true
 else (0 : Int) <= (0 : Int) /\ (0 : Int) <= IntKind.i64.wrap ((aF x.1 ([t.getD (0 : Nat) (0 : Int)].getD (0 : Nat) (0 : Int))).add (1 : Int)) /\ IntKind.i64.wrap ((aF x.1 ([t.getD (0 : Nat) (0 : Int)].getD (0 : Nat) (0 : Int))).add (1 : Int)) <= (↑x.1.length : Int) /\ (0 : Int) <= (0 : Int) /\ (0 : Int) <= (↑(List.take ((IntKind.i64.wrap ((aF x.1 ([t.getD (0 : Nat) (0 : Int)].getD (0 : Nat) (0 :
 Int))).add (1 : Int))).toNat.sub (0 : Nat)) (List.drop (0 : Nat) x.1)).length : Int) /\ (↑(List.take ((IntKind.i64.wrap ((aF x.1 ([t.getD (0 : Nat) (0 : Int)].getD (0 : Nat) (0 : Int))).add (1 : Int))).toNat.sub (0 : Nat)) (List.drop (0 : Nat) x.1)).length : Int) <= (↑(List.take ((IntKind.i64.wrap ((aF x.1 ([t.getD (0 : Nat) (0 : Int)].getD (0 : Nat) (0 : Int))).add (1 : Int))).toNat.sub (0 :
 Nat)) (List.drop (0 : Nat) x.1)).length : Int) /\ (↑(List.take ((IntKind.i64.wrap ((aF x.1 ([t.getD (0 : Nat) (0 : Int)].getD (0 : Nat) (0 : Int))).add (1 : Int))).toNat.sub (0 : Nat)) (List.drop (0 : Nat) x.1)).length : Int) <= (↑(List.take ((IntKind.i64.wrap ((aF x.1 ([t.getD (0 : Nat) (0 : Int)].getD (0 : Nat) (0 : Int))).add (1 : Int))).toNat.sub (0 : Nat)) (List.drop (0 : Nat) x.1)).length :
 Int) /\ x.2 < (U.ah (t.getD (0 : Nat) (0 : Int)) s).length /\ (U.ah (t.getD (0 : Nat) (0 : Int)) s).getD x.2 [] = List.take ((↑(List.take ((IntKind.i64.wrap ((aF x.1 ([t.getD (0 : Nat) (0 : Int)].getD (0 : Nat) (0 : Int))).add (1 : Int))).toNat.sub (0 : Nat)) (List.drop (0 : Nat) x.1)).length : Int).toNat.sub (0 : Nat)) (List.drop (0 : Nat) (List.take ((IntKind.i64.wrap ((aF x.1 ([t.getD
 (0 : Nat) (0 : Int)].getD (0 : Nat) (0 : Int))).add (1 : Int))).toNat.sub (0 : Nat)) (List.drop (0 : Nat) x.1))) /\ ((0 : Int) <= IntKind.i64.wrap ((aF x.1 ([t.getD (0 : Nat) (0 : Int)].getD (0 : Nat) (0 : Int))).add (↑((1 : Nat)) : Int)) /\ IntKind.i64.wrap ((aF x.1 ([t.getD (0 : Nat) (0 : Int)].getD (0 : Nat) (0 : Int))).add (↑((1 : Nat)) : Int)) <= (↑x.1.length : Int) /\ (↑x.1.length : Int) <=
 (↑x.1.length : Int) /\ ∃ (y : List Int × Nat), U.gu s (t.getD (0 : Nat) (0 : Int)) (List.take ((↑x.1.length : Int).toNat.sub (IntKind.i64.wrap ((aF x.1 ([t.getD (0 : Nat) (0 : Int)].getD (0 : Nat) (0 : Int))).add (↑((1 : Nat)) : Int))).toNat) (List.drop (IntKind.i64.wrap ((aF x.1 ([t.getD (0 : Nat) (0 : Int)].getD (0 : Nat) (0 : Int))).add (↑((1 : Nat)) : Int))).toNat x.1))
 (x.2.add (1 : Nat)) = U.gu s (t.getD (0 : Nat) (0 : Int)) y.1 y.2 /\ U.ig s (t.getD (0 : Nat) (0 : Int)) y.1 y.2 /\ y.1.length < x.1.length) /\ true = true
end Go.Proofs.YtggccomebfpfpaaDoor
set_option linter.unusedSimpArgs false
set_option linter.unusedVariables false
set_option maxRecDepth 100000
namespace Go.Proofs.YtggccomebfpfpaaDoor
open Go.Vc
open Go.Vc.T
theorem Ug (a b : List Int) : a.beq b = decide (a = b) := by rw [SH, Bool.eq_iff_iff]; simp
theorem Iu {α : Type} (l : List α) {k : Nat} (h : l.length <= k) : l.take k = l := List.take_of_length_le h
theorem oL (s : List Int) (k : Nat) : List.take ((s.length : Int).toNat.sub k) (List.drop k s) = s.drop k := by
 refine Iu _ ?_
 rw [List.length_drop, dR]; omega
theorem vY (s : List Int) (k : Nat) : List.take (k.sub 0) (List.drop 0 s) = s.take k := rfl
theorem MB {s t : List Int} (h : U.dM s t = true) : t.length <= s.length := by
 unfold U.dM at h
 simp only [Bool.and_eq_true, decide_eq_true_eq] at h
 exact h.1
theorem vZ {a b : Int} (h1 : -9223372036854775808 <= a - b) (h2 : a - b <= 9223372036854775807) : IntKind.i64.wrap (a.sub b) = a - b := Ro h1 h2
theorem iL {a b : Int} (h1 : -9223372036854775808 <= a + b) (h2 : a + b <= 9223372036854775807) : IntKind.i64.wrap (a.add b) = a + b := Ro h1 h2
theorem Df (s : List Int) (c : Int) : qO s c := ⟨rfl, trivial⟩
theorem Jz (s t : List Int) (h : t.length = 1) : qC s t := by
 unfold qC
 rw [decide_eq_false (by omega : ¬ (t.length : Int) = 0), decide_eq_true (by omega : (t.length : Int) = 1)]
 show (0 : Int) <= 0 /\ (0 : Int) < t.length /\ _ = _ /\ True
 exact ⟨by omega, by omega, rfl, trivial⟩
theorem JA (s t : List Int) (h : t.length = 1) : qE s t := by
 unfold qE
 rw [decide_eq_false (by omega : ¬ (t.length : Int) = 0), decide_eq_true (by omega : (t.length : Int) = 1)]
 show (0 : Int) <= 0 /\ (0 : Int) < t.length /\ _ = _ /\ True
 exact ⟨by omega, by omega, rfl, trivial⟩
theorem Dh (s t : List Int) (hs : s.length <= maxLen) (ht : t.length <= maxLen) : kS s t := by
 unfold kS
 rw [maxLen_eq] at hs ht
 by_cases h : t.length <= s.length
 ·rw [decide_eq_true (by omega : (s.length : Int) >= t.length), vZ (by omega) (by omega)]
  refine ⟨fun _ => by omega, fun _ => by omega, fun _ => by omega, ?_, trivial⟩
  rw [show ((s.length : Int) - t.length).toNat = s.length - t.length by omega, oL, Ug]
  unfold U.dM; rw [decide_eq_true h]; rfl
 ·rw [decide_eq_false (by omega : ¬ (s.length : Int) >= t.length)]
  refine ⟨by simp, by simp, by simp, ?_⟩
  show false = U.dM s t /\ True
  unfold U.dM; rw [decide_eq_false h]; exact ⟨rfl, trivial⟩
theorem Bl (s t : List Int) (hs : s.length <= maxLen) (ht : t.length <= maxLen) : jV s t := by
 unfold jV
 rw [maxLen_eq] at hs ht
 unfold U.cZ
 cases he : U.dM s t with
 | true =>
   have hl := MB he
   rw [vZ (by omega) (by omega)]
   refine ⟨by omega, by omega, by omega, ?_, trivial⟩
   rw [vY, show ((s.length : Int) - t.length).toNat = s.length - t.length by omega]; rfl
 | false => exact ⟨rfl, trivial⟩
theorem Di (s t : List Int) (hs : s.length <= maxLen) (ht : t.length <= maxLen) : kT s t := by
 unfold kT
 rw [maxLen_eq] at hs ht
 unfold U.cZ
 cases he : U.dM s t with
 | true =>
   have hl := MB he
   rw [vZ (by omega) (by omega)]
   refine ⟨by omega, by omega, by omega, ?_, rfl, trivial⟩
   rw [vY, show ((s.length : Int) - t.length).toNat = s.length - t.length by omega]; rfl
 | false => exact ⟨rfl, rfl, trivial⟩
theorem Og (s t : List Int) (hs : s.length <= maxLen) (h : t.length = 1) : wS s t := by
 unfold wS
 rw [maxLen_eq] at hs
 have hb := dJ s (t.getD 0 0)
 refine ⟨h, ?_⟩
 unfold U.aB U.bH
 by_cases hi : aF s (t.getD 0 0) >= 0
 ·rw [decide_eq_true hi, h, iL (by omega) (by omega)]
  refine ⟨by omega, by omega, by omega, by omega, by omega, by omega, ?_, ?_, rfl, trivial⟩
  ·rw [vY]; rfl
  ·rw [oL]; rfl
 ·rw [decide_eq_false hi]; exact ⟨rfl, rfl, rfl, trivial⟩
theorem zf (s : List Int) (hs : s.length <= maxLen) (hc : ∀ c ∈ s, 0 <= c /\ c < 128) : jB s := by
 unfold jB
 rw [maxLen_eq] at hs
 refine ⟨(List.replicate 256 false, 0), ⟨rfl, ⟨Int.le_refl 0, by show (0 : Int) <= _; omega⟩, rfl⟩, ?_⟩
 rintro ⟨a, i⟩ ⟨⟨i0, i1⟩, ha⟩
 dsimp only at i0 i1 ha ⊢
 rw [cond_prop]
 refine ⟨fun hi => ?_, fun hi => ?_⟩
 ·have hi : i < s.length := of_decide_eq_true hi
  have hx := hc (s[i.toNat]'(by omega)) (List.getElem_mem _)
  rw [getD_at (by omega : i.toNat < s.length)]
  refine ⟨i0, hi, ?_⟩
  rw [decide_eq_false (by omega : ¬ s[i.toNat] >= 128), iL (by omega) (by omega)]
  refine ⟨hx.1, by omega, by omega, (a.set s[i.toNat].toNat true, i + 1), rfl, ⟨⟨by show 0 <= i + 1; omega, by show i + 1 <= _; omega⟩, ?_⟩, by simp only [dR]; omega⟩
  show a.set _ true = U.gY (s.take (i + 1).toNat)
  rw [take_at i0 hi]; unfold U.gY at *; rw [List.foldl_append, <- ha]; rfl
 ·have hi : ¬ i < s.length := of_decide_eq_false hi
  rw [EG (by omega)] at ha
  exact ⟨ha, rfl, trivial⟩
theorem EJ (l : List Int) : U.aW l <= l.length := by unfold U.aW; omega
theorem Qm (a : List Int) (x : Int) : U.aW (a ++ [x]) = cond (U.blank x) (U.aW a) (a.length + 1) := by
 unfold U.aW
 rw [List.reverse_append, List.length_append]
 show a.length + 1 - U.bP (x :: a.reverse) = _
 rw [U.bP]
 cases U.blank x
 ·rfl
 ·show a.length + 1 - (U.bP a.reverse + 1) = a.length - _; omega
theorem OZ {x : Int} (h0 : 0 <= x) (h1 : x < 256) : (U.gY [32, 9]).getD x.toNat false = U.blank x := by
 have key : ∀ k : Fin 256, (U.gY [32, 9]).getD k.val false = U.blank (k.val : Int) := by decide +kernel
 have := key ⟨x.toNat, by omega⟩
 rw [show ((x.toNat : Nat) : Int) = x by omega] at this
 exact this
theorem Jg (l : List Int) : (U.trimB l).length = U.aW l - U.bP (l.take (U.aW l)) := by
 unfold U.trimB
 have := EJ l
 rw [List.length_drop, List.length_take]; omega
theorem JB (c : List Int) : qF c := by unfold qF; exact trivial
theorem JC (l c : List Int) (hv : Valid (.slice (.int .u8)) l) (hc : c = [32, 9]) : qG l c := by
 subst hc
 have hl : l.length <= 9223372036854775807 := hv.2
 have hT := EJ l
 have hb : ∀ k, k < l.length -> 0 <= l.getD k 0 /\ l.getD k 0 <= 255 := fun k hk => by rw [getD_at hk]; exact vU8 (hv.1 _ (List.getElem_mem _))
 unfold qG
 rw [cond_prop]
 refine ⟨fun h0 => ?_, fun h0 => ?_⟩
 ·have h0 : (l.length : Int) = 0 := of_decide_eq_true h0
  have : l = [] := List.length_eq_zero_iff.1 (by omega)
  subst this; exact ⟨rfl, rfl, trivial⟩
 have h0 : ¬ (l.length : Int) = 0 := of_decide_eq_false h0
 show (decide (((([32, 9] : List Int).length : Nat) : Int) = 1) = true -> _) /\ _
 refine ⟨fun _ => by omega, fun _ => by decide, ?_⟩
 show (∀ c : Int, List.Mem c [32, 9] -> 0 <= c /\ c < 128) /\ _
 refine ⟨fun c hc => ?_, ?_⟩
 ·have hc : c ∈ [32, 9] := hc
  simp only [List.mem_cons, List.not_mem_nil, or_false] at hc
  rcases hc with rfl | rfl <;> omega
 have left : ∀ n : Nat, n = U.aW l -> ∃ (x0 : Nat × Nat), (U.aO l 0 n = U.aO l x0.1 x0.2 /\ U.aX l x0.1 x0.2) /\ ∀ (x : Nat × Nat), U.aX l x.1 x.2 ->
  bif decide ((x.2 : Int) > 0) then (0 : Int) <= 0 /\ (0 : Int) < (x.2 : Int) /\ x.1.add 0 < l.length /\ (0 : Int) <= l.getD (x.1.add 0) 0 /\ l.getD (x.1.add 0) 0 < ((256 : Nat) : Int) /\ (l.getD (x.1.add 0) 0).toNat < 256 /\
   bif !(U.gY [32, 9]).getD (l.getD (x.1.add 0) 0).toNat false then bif decide ((x.2 : Int) = 0) then (U.trimB l).length = 0 /\ l = l /\ True else x.1 = U.bP (List.take (U.aW l) l) /\ x.2 = (U.trimB l).length /\ l = l /\ True
   else (0 : Int) <= 1 /\ (1 : Int) <= (x.2 : Int) /\ (x.2 : Int) <= (x.2 : Int) /\ ∃ (y : Nat × Nat), U.aO l (x.1.add 1) ((x.2 : Int).toNat.sub 1) = U.aO l y.1 y.2 /\ U.aX l y.1 y.2 /\ y.2 < x.2
  else bif decide ((x.2 : Int) = 0) then (U.trimB l).length = 0 /\ l = l /\ True else x.1 = U.bP (List.take (U.aW l) l) /\ x.2 = (U.trimB l).length /\ l = l /\ True := by
  intro n hn
  refine ⟨(0, n), ⟨rfl, by show 0 + n = _; omega, Nat.zero_le _, by show U.bP ((l.take (U.aW l)).drop 0) + 0 = _; rw [List.drop_zero, Nat.add_zero]⟩, ?_⟩
  rintro ⟨lo, n⟩ ⟨e1, e2, e3⟩
  dsimp only at e1 e2 e3 ⊢
  have hml : (l.take (U.aW l)).length = U.aW l := by rw [List.length_take]; omega
  have fin : U.bP ((l.take (U.aW l)).drop lo) = 0 -> bif decide ((n : Int) = 0) then (U.trimB l).length = 0 /\ l = l /\ True else lo = U.bP (List.take (U.aW l) l) /\ n = (U.trimB l).length /\ l = l /\ True := by
   intro hz
   rw [cond_prop, Jg]
   refine ⟨fun h => ⟨?_, rfl, trivial⟩, fun h => ⟨by omega, by omega, rfl, trivial⟩⟩
   have h : (n : Int) = 0 := of_decide_eq_true h
   omega
  rw [cond_prop]
  refine ⟨fun hn => ?_, fun hn => ?_⟩
  ·have hn : (n : Int) > 0 := of_decide_eq_true hn
   have hlo : lo < l.length := by omega
   have hbb := hb lo hlo
   have hd : (l.take (U.aW l)).drop lo = l.getD lo 0 :: (l.take (U.aW l)).drop (lo + 1) := by
    rw [List.drop_eq_getElem_cons (by omega), getD_at hlo, List.getElem_take]
   show (0 : Int) <= 0 /\ _
   rw [show lo.add 0 = lo from rfl]
   refine ⟨by omega, by omega, hlo, hbb.1, by omega, by omega, ?_⟩
   rw [OZ hbb.1 (by omega)]
   cases hbl : U.blank (l.getD lo 0) with
   | false =>
     refine fin ?_
     rw [hd, U.bP, hbl]; rfl
   | true =>
     have hN : U.bP ((l.take (U.aW l)).drop lo) = U.bP ((l.take (U.aW l)).drop (lo + 1)) + 1 := by rw [hd, U.bP, hbl]; rfl
     show (0 : Int) <= 1 /\ _
     exact ⟨by omega, by omega, by omega, (lo + 1, n - 1), rfl, ⟨by show lo + 1 + (n - 1) = _; omega, by show lo + 1 <= _; omega, by show U.bP ((l.take (U.aW l)).drop (lo + 1)) + (lo + 1) = _; omega⟩, by show n - 1 < n; omega⟩
  ·have hn : ¬ (n : Int) > 0 := of_decide_eq_false hn
   refine fin ?_
   rw [List.drop_eq_nil_of_le (by omega)]; rfl
 refine ⟨(0, l.length), ⟨rfl, rfl, Nat.le_refl _, hT, by show U.aW (l.take l.length) = _; rw [List.take_length]⟩, ?_⟩
 rintro ⟨lo, n⟩ ⟨e1, e2, e3, e4⟩
 dsimp only at e1 e2 e3 e4 ⊢
 subst e1
 rw [cond_prop]
 refine ⟨fun hn => ?_, fun hn => ?_⟩
 ·have hn : (n : Int) > 0 := of_decide_eq_true hn
  rw [vZ (by omega) (by omega)]
  have hk : (0 : Nat).add ((n : Int) - 1).toNat = n - 1 := by rw [jc]; omega
  rw [hk]
  have hbb := hb (n - 1) (by omega)
  have ht : l.take n = l.take (n - 1) ++ [l.getD (n - 1) 0] := by
   have := List.take_succ_eq_append_getElem (l := l) (i := n - 1) (by omega)
   rw [show n - 1 + 1 = n by omega] at this
   rw [this, getD_at (by omega)]
  have hs := Qm (l.take (n - 1)) (l.getD (n - 1) 0)
  rw [<- ht, e4] at hs
  refine ⟨by omega, by omega, by omega, hbb.1, by omega, by omega, ?_⟩
  rw [OZ hbb.1 (by omega)]
  cases hbl : U.blank (l.getD (n - 1) 0) with
  | false =>
    rw [hbl, List.length_take] at hs
    have hs : U.aW l = min (n - 1) l.length + 1 := hs
    exact left n (by omega)
  | true =>
    rw [hbl] at hs
    have hs : U.aW l = U.aW (l.take (n - 1)) := hs
    have hle := EJ (l.take (n - 1))
    rw [List.length_take] at hle
    show (0 : Int) <= 0 /\ _
    refine ⟨by omega, by omega, by omega, (0, n - 1), ?_, ⟨rfl, by show n - 1 <= _; omega, by show _ <= n - 1; omega, hs.symm⟩, by show n - 1 < n; omega⟩
    rw [show ((n : Int) - 1).toNat.sub 0 = n - 1 by rw [dR]; omega]
 ·have hn : ¬ (n : Int) > 0 := of_decide_eq_false hn
  exact left n (by omega)
theorem Bo (c : Int) : ∀ s, U.ah c s ≠ []
 | [] => by simp [U.ah]
 | x :: r => by rw [U.ah]; split <;> simp
theorem Bq (c : Int) : ∀ s, aF s c < 0 -> U.ah c s = [s]
 | [], _ => rfl
 | x :: r, h => by
   have hb := dJ r c
   unfold aF at h
   by_cases hx : x = c
   ·simp [hx] at h
   ·by_cases hi : aF r c = -1
    ·have ih := Bq c r (by omega)
     rw [U.ah, if_neg hx, ih]; rfl
    ·simp [hx, hi] at h; omega
theorem zh (c : Int) : ∀ (s : List Int), 0 <= aF s c -> U.ah c s = s.take ((aF s c).toNat + 1) :: U.ah c (s.drop ((aF s c).toNat + 1))
 | [], h => by simp [aF] at h
 | x :: r, h => by
   have hb := dJ r c
   by_cases hx : x = c
   ·simp [U.ah, aF, hx]
   ·by_cases hi : aF r c = -1
    ·simp [aF, hx, hi] at h
    ·have e : aF (x :: r) c = aF r c + 1 := by simp [aF, hx, hi]
     have ih := zh c r (by omega)
     rw [e, show (aF r c + 1).toNat = (aF r c).toNat + 1 by omega]
     rw [U.ah, if_neg hx, ih]; rfl
theorem Bv (t s : List Int) (n : Int) (hs : s.length <= maxLen) (ht : t.length = 1) (hn : n = 1) : jW t s n := by
 subst hn
 obtain ⟨c, rfl⟩ : ∃ c, t = [c] := by
  match t, ht with
  | [c], _ => exact ⟨c, rfl⟩
 unfold jW
 rw [maxLen_eq] at hs
 have hg : ([c] : List Int).getD 0 0 = c := rfl
 rw [decide_eq_false (show ¬ ((([c] : List Int).length : Nat) : Int) = 0 by simp)]
 simp only [hg, cond_false]
 refine ⟨(s, 0), ⟨rfl, rfl, Nat.pos_of_ne_zero (fun h => Bo c s (List.length_eq_zero_iff.1 h)), Nat.le_refl _⟩, ?_⟩
 rintro ⟨r, k⟩ ⟨e1, e2, e3⟩
 dsimp only at e1 e2 e3 ⊢
 have hb := dJ r c
 have hd : (U.ah c s).drop k = (U.ah c s).getD k [] :: (U.ah c s).drop (k + 1) := by rw [List.drop_eq_getElem_cons e2, getD_at e2]
 refine ⟨trivial, ?_⟩
 rw [cond_prop]
 refine ⟨fun hi => ?_, fun hi => ?_⟩
 ·have hi : aF r c < 0 := of_decide_eq_true hi
  rw [Bq c r hi, hd] at e1
  simp only [List.cons.injEq] at e1
  refine ⟨by omega, by omega, by omega, by omega, e2, ?_, ?_, trivial⟩
  ·rw [oL]; exact e1.1.symm
  ·have := congrArg List.length e1.2
   rw [List.length_drop] at this
   have h0 : 0 = (U.ah c s).length - (k + 1) := this
   show k + 1 = _; omega
 ·have hi : ¬ aF r c < 0 := of_decide_eq_false hi
  rw [zh c r (by omega), hd] at e1
  simp only [List.cons.injEq] at e1
  have hw : IntKind.i64.wrap ((aF r c).add 1) = aF r c + 1 := iL (by omega) (by omega)
  have hw2 : IntKind.i64.wrap ((aF r c).add ((1 : Nat) : Int)) = aF r c + 1 := iL (b := ((1 : Nat) : Int)) (by omega) (by omega)
  simp only [hw, hw2]
  have hn1 : (aF r c + 1).toNat = (aF r c).toNat + 1 := by omega
  have hl2 : (U.ah c s).length ≠ k + 1 := by
   intro h
   have hz : (U.ah c s).drop (k + 1) = [] := List.drop_eq_nil_of_le (by omega)
   rw [hz] at e1
   exact Bo _ _ e1.2
  refine ⟨by omega, by omega, by omega, by omega, by omega, by omega, by omega, e2, ?_, ⟨by omega, by omega, by omega, (r.drop (aF r c + 1).toNat, k + 1), ?_, ⟨?_, ?_, ?_⟩, ?_⟩, trivial⟩
  ·rw [oL, List.drop_zero, vY, hn1]; exact e1.1.symm
  ·rw [oL]
  ·show U.ah c (r.drop (aF r c + 1).toNat) = (U.ah c s).drop (k + 1)
   rw [hn1]; exact e1.2
  ·show k + 1 < _; omega
  ·show (r.drop _).length <= _; rw [List.length_drop]; omega
  ·show (r.drop _).length < _; rw [List.length_drop]; omega
end Go.Proofs.YtggccomebfpfpaaDoor
set_option linter.unusedSimpArgs false
set_option maxRecDepth 100000
set_option linter.unusedVariables false
namespace Go.Proofs.YtggccomebfpfpaaDoor
open Go.Vc
theorem qc : bZ Tryd.prog gl 69 jg := SK (fn := Tryd.f69) Tryd.func69 (by kernel_rfl) (by kernel_rfl) (by kernel_rfl) (by rfl)
theorem oM : bK jh := .cons qc UM
theorem vG : bZ Tryd.prog gl 39 kM := SL (fn := Tryd.f39) Tryd.func39 (by kernel_rfl) (by kernel_rfl) (by kernel_rfl) (by rfl)
theorem uU : bK kN := .cons vG oM
theorem Bz : bZ Tryd.prog gl 45 pY := Ub (fn := Tryd.f45) (by kernel_rfl) (by kernel_rfl) (by kernel_rfl) Tryd.strings_IndexByte
theorem nZ : bK iK := .cons Bz uU
theorem EK (x : aK [aA, .int .u8]) : dB Tryd.prog (bJ iK) (uK x.1 x.2) 49 (dh [aA, .int .u8] x) [] (lJ x.1 x.2) = qO x.1 x.2 := by kernel_rfl
theorem EL : Pok 49 [aA, .int .u8] (fun x => lJ x.1 x.2) := by
 refine pk (L := fun x => uK x.1 x.2) (l := iK) nZ (fun _ => rfl) ?_
 intro x hv hp
 rw [EK]
 exact Df x.1 x.2
theorem EM : bZ Tryd.prog gl 49 uJ := EL
theorem qP : bK jw := .cons EM nZ
theorem MC (x : aK [aA, aA]) : dB Tryd.prog (bJ jw) (Bc x.1 x.2) 40 (dh [aA, aA] x) [] (nJ x.1 x.2) = qC x.1 x.2 := by kernel_rfl
theorem MF : Pok 40 [aA, aA] (fun x => nJ x.1 x.2) := by
 refine pk (L := fun x => Bc x.1 x.2) (l := jw) qP (fun _ => rfl) ?_
 intro x hv hp
 rw [MC]
 exact Jz x.1 x.2 (hp (List.length x.2 = 1) (by simp [nJ]))
theorem MG : bZ Tryd.prog gl 40 Ba := MF
theorem zG : bK nK := .cons MG qP
theorem MH (x : aK [aA, aA]) : dB Tryd.prog (bJ nK) (Bf x.1 x.2) 26 (dh [aA, aA] x) [] (nM x.1 x.2) = qE x.1 x.2 := by kernel_rfl
theorem MI : Pok 26 [aA, aA] (fun x => nM x.1 x.2) := by
 refine pk (L := fun x => Bf x.1 x.2) (l := nK) zG (fun _ => rfl) ?_
 intro x hv hp
 rw [MH]
 exact JA x.1 x.2 (hp (List.length x.2 = 1) (by simp [nM]))
theorem MJ : bZ Tryd.prog gl 26 Bd := MI
theorem zH : bK nN := .cons MJ zG
theorem EN (x : aK [aA, aA]) : dB Tryd.prog (bJ nN) (uN x.1 x.2) 72 (dh [aA, aA] x) [] (lK x.1 x.2) = kS x.1 x.2 := by kernel_rfl
theorem EO : Pok 72 [aA, aA] (fun x => lK x.1 x.2) := by
 refine pk (L := fun x => uN x.1 x.2) (l := nN) zH (fun _ => rfl) ?_
 intro x hv hp
 rw [EN]
 exact Dh x.1 x.2 hv.1.2 hv.2.2
theorem EP : bZ Tryd.prog gl 72 uM := EO
theorem qQ : bK jy := .cons EP zH
theorem Dj (x : aK [aA, aA]) : dB Tryd.prog (bJ jy) (qM x.1 x.2) 57 (dh [aA, aA] x) [] (kR x.1 x.2) = jV x.1 x.2 := by kernel_rfl
theorem Dk : Pok 57 [aA, aA] (fun x => kR x.1 x.2) := by
 refine pk (L := fun x => qM x.1 x.2) (l := jy) qQ (fun _ => rfl) ?_
 intro x hv hp
 rw [Dj]
 exact Bl x.1 x.2 hv.1.2 hv.2.2
theorem Dn : bZ Tryd.prog gl 57 qL := Dk
theorem qg : bK iT := .cons Dn qQ
theorem ER (x : aK [aA, aA]) : dB Tryd.prog (bJ iT) (uP x.1 x.2) 56 (dh [aA, aA] x) [] (lM x.1 x.2) = kT x.1 x.2 := by kernel_rfl
theorem ES : Pok 56 [aA, aA] (fun x => lM x.1 x.2) := by
 refine pk (L := fun x => uP x.1 x.2) (l := iT) qg (fun _ => rfl) ?_
 intro x hv hp
 rw [ER]
 exact Di x.1 x.2 hv.1.2 hv.2.2
theorem ET : bZ Tryd.prog gl 56 uO := ES
theorem qR : bK jA := .cons ET qg
theorem Qn (x : aK [aA, aA]) : dB Tryd.prog (bJ jA) (GL x.1 x.2) 58 (dh [aA, aA] x) [] (rG x.1 x.2) = wS x.1 x.2 := by kernel_rfl
theorem Qo : Pok 58 [aA, aA] (fun x => rG x.1 x.2) := by
 refine pk (L := fun x => GL x.1 x.2) (l := jA) qR (fun _ => rfl) ?_
 intro x hv hp
 rw [Qn]
 exact Og x.1 x.2 hv.1.2 (hp (List.length x.2 = 1) (by simp [rG]))
theorem Qp : bZ Tryd.prog gl 58 GK := Qo
theorem DY : bK rH := .cons Qp qR
theorem zQ (x : aK [.str]) : dB Tryd.prog (bJ rH) (nY x) 64 (dh [.str] x) [] (iq x) = jB x := by kernel_rfl
theorem zS : Pok 64 [.str] (fun x => iq x) := by
 refine pk (L := fun x => nY x) (l := rH) DY (fun _ => rfl) ?_
 intro x hv hp
 rw [zQ]
 exact zf x hv.2 (hp (∀ c ∈ x, 0 <= c /\ c < 128) (by simp [iq]))
theorem zT : bZ Tryd.prog gl 64 nX := zS
theorem nP : bK eP := .cons zT DY
theorem MK (c : List Int) : dB Tryd.prog (bJ eP) (Bg c) 47 (zB c) (zC c) (uQ c) = qF c := by kernel_rfl
theorem ML (l : List Int) (c : List Int) : dB Tryd.prog (bJ eP) (Bh l c) 47 (zD l c) (zF l c) (nO l c) = qG l c := by kernel_rfl
theorem Oh : J4 Tryd.prog gl 47 oV := by
 refine pkg (l := eP) nP (fun args es d h => ?_) (fun args es d h hv he hp => ?_)
 ·unfold oV at h
  rcases y8 h with h | h
  ·obtain ⟨c, rfl, rfl, rfl⟩ := uS h
   rfl
  rcases y8 h with h | h
  ·obtain ⟨l, c, rfl, rfl, rfl⟩ := uT h
   rfl
  cases h
 ·unfold oV at h
  rcases y8 h with h | h
  ·obtain ⟨c, rfl, rfl, rfl⟩ := uS h
   refine ⟨Bg c, ?_⟩
   rw [MK]
   exact JB c
  rcases y8 h with h | h
  ·obtain ⟨l, c, rfl, rfl, rfl⟩ := uT h
   refine ⟨Bh l c, ?_⟩
   rw [ML]
   exact JC l c (he _ (.head _)) (hp (c = [32, 9]) (by simp [nO]))
  cases h
theorem Oi : bZ Tryd.prog gl 47 DX := Oh
theorem BA : bK oW := .cons Oi nP
theorem Dp (x : aK [aA, aA, .int .i64]) : CB Tryd.prog (bJ oW) (qN x.1 x.2.1 x.2.2) 54 fU x = jW x.1 x.2.1 x.2.2 := by kernel_rfl
theorem Dq : Gu Tryd.prog gl 54 fU := by
 refine pkq (L := fun x => qN x.1 x.2.1 x.2.2) (l := oW) BA (by kernel_rfl) ?_
 intro x hv hp
 exact Eq.mpr (Dp x) (Bv x.1 x.2.1 x.2.2 hv.2.1.2 (hp (List.length x.1 = 1) (by simp [fU, jU])) (hp (x.2.2 = 1) (by simp [fU, jU])))
theorem qh : bK iU := .cons Dq BA
end Go.Proofs.YtggccomebfpfpaaDoor
