/- What functions of this seat compute, in plain Lean. -/
import Derived.Test.YtggccomebfpfpaaDoorDZ
import Derived.Test.YtggccomebfpfpaaDoorDVcF
import Derived.Test.YtggccomebfpfpaaDoorDS
set_option linter.unusedVariables false
set_option linter.unusedSimpArgs false
set_option maxRecDepth 100000
namespace Go.Proofs.YtggccomebfpfpaaDoor
open Go.Vc
abbrev aA : Ty := .slice (.int .u8)
namespace U
def yld : Option SV := some (.one .yld)
def dO (s t : List Int) : Bool := decide (t.length <= s.length) && decide (s.drop (s.length - t.length) = t)
def dh (s t : List Int) : List Int := cond (dO s t) (s.take (s.length - t.length)) s
def aB (s : List Int) (c : Int) : List Int := cond (decide (aF s c >= 0)) (s.take (aF s c).toNat) s
def bH (s : List Int) (c : Int) : List Int := cond (decide (aF s c >= 0)) (s.drop (aF s c + 1).toNat) []
def blank (c : Int) : Bool := decide (c = 32) || decide (c = 9)
def bK : List Int -> Nat
 | [] => 0
 | x :: r => cond (blank x) (bK r + 1) 0
def aW (l : List Int) : Nat := l.length - bK l.reverse
def trimB (l : List Int) : List Int := (l.take (aW l)).drop (bK (l.take (aW l)))
def iw (l : List Int) : List Bool := l.foldl (fun a c => a.set c.toNat true) (List.replicate 256 false)
def ah (c : Int) : List Int -> List (List Int)
 | [] => [[]]
 | x :: r => if x = c then [x] :: ah c r else (x :: (ah c r).headD []) :: (ah c r).tail
end U
namespace U
def dL (s : List Int) (a : List Bool) (i : Int) : St2 := ⟨⟨[sS s] ++ U.n 1 ++ [sP 0 0] ++ U.n 1 ++ [sI i] ++ U.n 16, [], [(0, .obj [.arr 256 true .bool a])]⟩, 1, []⟩
def fQ (s : List Int)  (a : List Bool) (i : Int) : Prop := at_ s i /\ a = iw (s.take i.toNat)
def dY (l : List Int) (lo : Nat) (n : Nat) : St2 := ⟨⟨[slc 0 lo n] ++ [sP 1 0] ++ U.n 21, [], [(0, .row 5 (.int .u8) true true l), (1, .obj [.arr 256 true .bool (iw [32, 9])])]⟩, 2, []⟩
def eP (l : List Int)  (lo : Nat) (n : Nat) : Prop := lo = 0 /\ n <= l.length /\ aW l <= n /\ aW (l.take n) = aW l
def aN (l : List Int) (lo : Nat) (n : Nat) : St2 := ⟨⟨[slc 0 lo n] ++ [sP 1 0] ++ U.n 18, [], [(0, .row 5 (.int .u8) true true l), (1, .obj [.arr 256 true .bool (iw [32, 9])])]⟩, 2, []⟩
def aX (l : List Int)  (lo : Nat) (n : Nat) : Prop := lo + n = aW l /\ lo <= bK (l.take (aW l)) /\ bK ((l.take (aW l)).drop lo) + lo = bK (l.take (aW l))
def gI (s : List Int) (c : Int) (r : List Int) (k : Nat) : St2 := ⟨⟨[yld] ++ [sP 0 0] ++ [sP 1 0] ++ [sP 2 0] ++ U.n 59, [], [(0, .obj [.psl false (.int .u8) [c]]), (1, .obj [.psl false (.int .u8) r]), (2, .obj [.int .i64 1])]⟩, 3, [0, k]⟩
def iy (s : List Int) (c : Int)  (r : List Int) (k : Nat) : Prop := ah c r = (ah c s).drop k /\ k < (ah c s).length /\ r.length <= s.length
end U
def wO (s : List Int) : Vc.Loop := ⟨{ keep := [0, 2, 4] }, List Bool × Int, fun x => U.dL s x.1 x.2, fun x0 x => U.fQ s  x.1 x.2, fun x => s.length - x.2.toNat, fun p => ∀ x, p x, fun _ h => h⟩
def uG (l : List Int) : Vc.Loop := ⟨{ keep := [0, 1], OJ := [0] }, Nat × Nat, fun x => U.dY l x.1 x.2, fun x0 x => U.eP l  x.1 x.2, fun x => x.2, fun p => ∀ x, p x, fun _ h => h⟩
def vC (l : List Int) : Vc.Loop := ⟨{ keep := [0, 1], OJ := [0] }, Nat × Nat, fun x => U.aN l x.1 x.2, fun x0 x => U.aX l  x.1 x.2, fun x => x.2, fun p => ∀ x, p x, fun _ h => h⟩
def yX (s : List Int) (c : Int) : Vc.Loop := ⟨{ keep := [0, 1, 2, 3] }, List Int × Nat, fun x => U.gI s c x.1 x.2, fun x0 x => U.iy s c  x.1 x.2, fun x => x.1.length, fun p => ∀ x, p x, fun _ h => h⟩
def jh : Vc.Sum := .pure [aA, .int .u8] false fun x => ⟨[], .one (.int .i64 (aF x.1 x.2)), [], []⟩
def ji : List (Nat × Ent) := (69, .sum jh) :: []
def kP : Vc.Sum := .pure [aA, .int .u8] false fun x => ⟨[], .one (.int .i64 ((uF x.1 x.2 : Int))), [], []⟩
def kQ : List (Nat × Ent) := (39, .sum kP) :: ji
def pX : Vc.Sum := .pure [.str, .int .u8] false fun x => SX x.1 x.2
def iO : List (Nat × Ent) := (45, .sum pX) :: kQ
def lK (s : List Int) (c : Int) : Done := rI (aF s c)
def uH : Vc.Sum := .pure [aA, .int .u8] false fun x => lK x.1 x.2
def uI (s : List Int) (c : Int) : Nat -> List V -> Nat -> Option Vc.Loop := fU
def jy : List (Nat × Ent) := (49, .sum uH) :: iO
def nJ (s : List Int) (t : List Int) : Done := ⟨[t.length = 1], .one (.int .i64 (aF s (t.getD 0 0))), [], []⟩
def AX : Vc.Sum := .pure [aA, aA] false fun x => nJ x.1 x.2
def AY (s : List Int) (t : List Int) : Nat -> List V -> Nat -> Option Vc.Loop := fU
def nK : List (Nat × Ent) := (40, .sum AX) :: jy
def nM (s : List Int) (t : List Int) : Done := ⟨[t.length = 1], .one (.int .i64 (uF s (t.getD 0 0))), [], []⟩
def AZ : Vc.Sum := .pure [aA, aA] false fun x => nM x.1 x.2
def A8 (s : List Int) (t : List Int) : Nat -> List V -> Nat -> Option Vc.Loop := fU
def nN : List (Nat × Ent) := (26, .sum AZ) :: nK
def lM (s : List Int) (t : List Int) : Done := rB (U.dO s t)
def uJ : Vc.Sum := .pure [aA, aA] false fun x => lM x.1 x.2
def uK (s : List Int) (t : List Int) : Nat -> List V -> Nat -> Option Vc.Loop := fU
def jA : List (Nat × Ent) := (72, .sum uJ) :: nN
def kT (s : List Int) (t : List Int) : Done := ⟨[], .one (.psl false (.int .u8) (U.dh s t)), [], []⟩
def qJ : Vc.Sum := .pure [aA, aA] true fun x => kT x.1 x.2
def qK (s : List Int) (t : List Int) : Nat -> List V -> Nat -> Option Vc.Loop := fU
def iV : List (Nat × Ent) := (57, .sum qJ) :: jA
def lN (s : List Int) (t : List Int) : Done := ⟨[], .tup [one (.psl false (.int .u8) (U.dh s t)), one (.bool (U.dO s t))], [], []⟩
def uM : Vc.Sum := .pure [aA, aA] true fun x => lN x.1 x.2
def uN (s : List Int) (t : List Int) : Nat -> List V -> Nat -> Option Vc.Loop := fU
def jB : List (Nat × Ent) := (56, .sum uM) :: iV
def rE (s : List Int) (t : List Int) : Done := ⟨[t.length = 1], .tup [one (.psl false (.int .u8) (U.aB s (t.getD 0 0))), one (.psl false (.int .u8) (U.bH s (t.getD 0 0))), one (.bool (decide (aF s (t.getD 0 0) >= 0)))], [], []⟩
def Gv : Vc.Sum := .pure [aA, aA] true fun x => rE x.1 x.2
def Gw (s : List Int) (t : List Int) : Nat -> List V -> Nat -> Option Vc.Loop := fU
def rF : List (Nat × Ent) := (58, .sum Gv) :: jB
def iC (s : List Int) : Done := ⟨[∀ c ∈ s, 0 <= c /\ c < 128], .tup [⟨true, [.arr 256 true .bool (U.iw s)]⟩, one (.bool true)], [], []⟩
def nV : Vc.Sum := .pure [.str] false fun x => iC x
def nX (s : List Int) : Nat -> List V -> Nat -> Option Vc.Loop := fun f v k => cond (Nat.beq f 64 && Nat.beq k 2) (some (wO s)) <| none
def eY : List (Nat × Ent) := (64, .sum nV) :: rF
def uO (c : List Int) : Done := ⟨[], .one .bY, [], []⟩
def zx (c : List Int) : List V := [⟨false, [.bY]⟩, ⟨false, [.str c]⟩]
def zy (c : List Int) : List Entry := []
def Ba (c : List Int) : Nat -> List V -> Nat -> Option Vc.Loop := fU
def qy : List V -> List Entry -> Option Done
 | [⟨false, [.bY]⟩, ⟨false, [.str c]⟩], [] => cond (true) (some (uO c)) none
 | _, _ => none
theorem uP {args : List V} {es : List Entry} {d : Done} (h : qy args es = some d) : ∃ c, args = zx c /\ es = zy c /\ d = uO c := by
 unfold qy at h
 split at h
 ·obtain ⟨hb, hd⟩ := I5 h; simp only [Bool.and_eq_true, Nat.beq_eq] at hb; (try obtain rfl := hb); subst hd; (try subst_vars); exact ⟨_, rfl, rfl, rfl⟩
 ·cases h
def nO (l : List Int) (c : List Int) : Done := ⟨[c = [32, 9]], .one (.vw 0 (U.bK (l.take (U.aW l))) (U.trimB l).length), [.row 5 (.int .u8) true true l], []⟩
def zA (l : List Int) (c : List Int) : List V := [⟨false, [.own 0]⟩, ⟨false, [.str c]⟩]
def zB (l : List Int) (c : List Int) : List Entry := [.row 5 (.int .u8) true true l]
def Bc (l : List Int) (c : List Int) : Nat -> List V -> Nat -> Option Vc.Loop := fun f v k => cond (Nat.beq f 66 && Nat.beq k 1) (some (uG l)) <| cond (Nat.beq f 65 && Nat.beq k 1) (some (vC l)) <| none
def qA : List V -> List Entry -> Option Done
 | [⟨false, [.own n1]⟩, ⟨false, [.str c]⟩], [.row n2 (.int .u8) true true l] => cond (Nat.beq n1 0 && Nat.beq n2 5) (some (nO l c)) none
 | _, _ => none
theorem uQ {args : List V} {es : List Entry} {d : Done} (h : qA args es = some d) : ∃ l c, args = zA l c /\ es = zB l c /\ d = nO l c := by
 unfold qA at h
 split at h
 ·obtain ⟨hb, hd⟩ := I5 h; simp only [Bool.and_eq_true, Nat.beq_eq] at hb; (try obtain ⟨rfl, rfl⟩ := hb); subst hd; (try subst_vars); exact ⟨_, _, rfl, rfl, rfl⟩
 ·cases h
def oU (args : List V) (es : List Entry) : Option Done := orE (qy args es) (orE (qA args es) (none))
def DL : Vc.Sum := .gen oU
def oV : List (Nat × Ent) := (47, .sum DL) :: eY
def Bd (t : List Int) (s : List Int) (n : Int) : List (aO [aA]) := U.ah (t.getD 0 0) s
def jW (t : List Int) (s : List Int) (n : Int) : List Prop := [t.length = 1, n = 1]
def gu : wu := ⟨[aA, aA, .int .i64], [aA], fun x => jW x.1 x.2.1 x.2.2, fun x => Bd x.1 x.2.1 x.2.2⟩
def qL (t : List Int) (s : List Int) (n : Int) : Nat -> List V -> Nat -> Option Vc.Loop := fun f v k => cond (Nat.beq f 54 && Nat.beq k 5) (some (yX s (t.getD 0 0))) <| none
def iW : List (Nat × Ent) := (54, .seq gu) :: oV
end Go.Proofs.YtggccomebfpfpaaDoor
set_option maxRecDepth 100000
set_option linter.unusedVariables false
namespace Go.Proofs.YtggccomebfpfpaaDoor
open Go.Vc
def qM (s : List Int) (c : Int) : Prop := aF s c = aF s c /\ True
def qB (s : List Int) (t : List Int) : Prop := bif decide ((↑t.length : Int) = (0 : Int)) then (0 : Int) = aF s (t.getD (0 : Nat) (0 : Int)) /\ True else bif decide ((↑t.length : Int) = (1 : Int)) then (0 : Int) <= (0 : Int) /\ (0 : Int) < (↑t.length : Int) /\ aF s (t.getD (0 : Nat) (0 : Int)) = aF s (t.getD (0 : Nat) (0 : Int)) /\ True else bif decide ((↑t.length : Int) = (↑s.length :
 Int)) then bif t.beq s then (0 : Int) = aF s (t.getD (0 : Nat) (0 : Int)) /\ True else (-1 : Int) = aF s (t.getD (0 : Nat) (0 : Int)) /\ True else bif decide ((↑t.length : Int) > (↑s.length : Int)) then (-1 : Int) = aF s (t.getD (0 : Nat) (0 : Int)) /\ True else False
def qC (s : List Int) (t : List Int) : Prop := bif decide ((↑t.length : Int) = (0 : Int)) then False else bif decide ((↑t.length : Int) = (1 : Int)) then (0 : Int) <= (0 : Int) /\ (0 : Int) < (↑t.length : Int) /\ (↑(List.filter (fun (x : Int) => decide (x = t.getD (0 : Nat) (0 : Int))) s).length : Int) = (↑(List.filter (fun (x : Int) => decide (x = t.getD (0 : Nat) (0 : Int))) s).length :
 Int) /\ True else False
def kU (s : List Int) (t : List Int) : Prop := (decide ((↑s.length : Int) >= (↑t.length : Int)) = true -> (0 : Int) <= IntKind.i64.wrap ((↑s.length : Int).sub (↑t.length : Int))) /\ (decide ((↑s.length : Int) >= (↑t.length : Int)) = true -> IntKind.i64.wrap ((↑s.length : Int).sub (↑t.length : Int)) <= (↑s.length : Int)) /\ (decide ((↑s.length : Int) >= (↑t.length : Int)) = true -> (↑s.length :
 Int) <= (↑s.length : Int)) /\ bif decide ((↑s.length : Int) >= (↑t.length : Int)) then (List.take ((↑s.length : Int).toNat.sub (IntKind.i64.wrap ((↑s.length : Int).sub (↑t.length : Int))).toNat) (List.drop (IntKind.i64.wrap ((↑s.length : Int).sub (↑t.length : Int))).toNat s)).beq t = U.dO s t /\ True else false = U.dO s t /\ True
def jX (s : List Int) (t : List Int) : Prop := bif U.dO s t then (0 : Int) <= (0 : Int) /\ (0 : Int) <= IntKind.i64.wrap ((↑s.length : Int).sub (↑t.length : Int)) /\ IntKind.i64.wrap ((↑s.length : Int).sub (↑t.length : Int)) <= (↑s.length : Int) /\ List.take ((IntKind.i64.wrap ((↑s.length : Int).sub (↑t.length : Int))).toNat.sub (0 : Nat)) (List.drop (0 : Nat) s) = U.dh s t /\ True
 else s = U.dh s t /\ True
def kV (s : List Int) (t : List Int) : Prop := bif !U.dO s t then s = U.dh s t /\ false = U.dO s t /\ True else (0 : Int) <= (0 : Int) /\ (0 : Int) <= IntKind.i64.wrap ((↑s.length : Int).sub (↑t.length : Int)) /\ IntKind.i64.wrap ((↑s.length : Int).sub (↑t.length : Int)) <= (↑s.length : Int) /\ List.take ((IntKind.i64.wrap ((↑s.length : Int).sub (↑t.length : Int))).toNat.sub (0 :
 Nat)) (List.drop (0 : Nat) s) = U.dh s t /\ true = U.dO s t /\ True
def wP (s : List Int) (t : List Int) : Prop := t.length = (1 : Nat) /\ bif decide (aF s (t.getD (0 : Nat) (0 : Int)) >= (0 : Int)) then (0 : Int) <= (0 : Int) /\ (0 : Int) <= aF s (t.getD (0 : Nat) (0 : Int)) /\ aF s (t.getD (0 : Nat) (0 : Int)) <= (↑s.length : Int) /\ (0 : Int) <= IntKind.i64.wrap ((aF s (t.getD (0 : Nat) (0 : Int))).add (↑t.length : Int)) /\ IntKind.i64.wrap ((aF s
 (t.getD (0 : Nat) (0 : Int))).add (↑t.length : Int)) <= (↑s.length : Int) /\ (↑s.length : Int) <= (↑s.length : Int) /\ List.take ((aF s (t.getD (0 : Nat) (0 : Int))).toNat.sub (0 : Nat)) (List.drop (0 : Nat) s) = U.aB s (t.getD (0 : Nat) (0 : Int)) /\ List.take ((↑s.length : Int).toNat.sub (IntKind.i64.wrap ((aF s (t.getD (0 : Nat) (0 : Int))).add (↑t.length : Int))).toNat) (List.drop
 (IntKind.i64.wrap ((aF s (t.getD (0 : Nat) (0 : Int))).add (↑t.length : Int))).toNat s) = U.bH s (t.getD (0 : Nat) (0 : Int)) /\ true = decide (aF s (t.getD (0 : Nat) (0 : Int)) >= (0 : Int)) /\ True else s = U.aB s (t.getD (0 : Nat) (0 : Int)) /\ [] = U.bH s (t.getD (0 : Nat) (0 : Int)) /\ false = decide (aF s (t.getD (0 : Nat) (0 : Int)) >= (0 : Int)) /\ True
def jC (s : List Int) : Prop := ∃ (x0 : List Bool × Int), (U.dL s [false, false, false, false, false, false, false, false, false, false, false, false, false, false, false, false, false, false, false, false, false, false, false, false, false, false, false, false, false, false, false, false, false, false, false, false, false, false, false, false, false, false,
 false, false, false, false, false, false, false, false, false, false, false, false, false, false, false, false, false, false, false, false, false, false, false, false, false, false, false, false, false, false, false, false, false, false, false, false, false, false, false, false, false, false, false, false, false, false, false, false, false, false, false, false, false, false, false, false, false,
 false, false, false, false, false, false, false, false, false, false, false, false, false, false, false, false, false, false, false, false, false, false, false, false, false, false, false, false, false, false, false, false, false, false, false, false, false, false, false, false, false, false, false, false, false, false, false, false, false, false, false, false, false, false, false, false, false,
 false, false, false, false, false, false, false, false, false, false, false, false, false, false, false, false, false, false, false, false, false, false, false, false, false, false, false, false, false, false, false, false, false, false, false, false, false, false, false, false, false, false, false, false, false, false, false, false, false, false, false, false, false, false, false, false, false,
 false, false, false, false, false, false, false, false, false, false, false, false, false, false, false, false, false, false, false, false, false, false, false, false, false, false, false, false, false, false, false, false, false, false, false, false, false, false, false, false, false, false, false] (0 : Int) = U.dL s x0.1 x0.2 /\ U.fQ s x0.1 x0.2) /\ ∀ (x :
 List Bool × Int), U.fQ s x.1 x.2 -> bif decide (x.2 < (↑s.length : Int)) then (0 : Int) <= x.2 /\ x.2 < (↑s.length : Int) /\ bif decide (s.getD x.2.toNat (0 : Int) >= (128 : Int)) then x.1 = U.iw s /\ false = true /\ True else (0 : Int) <= s.getD x.2.toNat (0 : Int) /\ s.getD x.2.toNat (0 : Int) < (↑(256 : Nat) : Int) /\ (s.getD x.2.toNat (0 : Int)).toNat < (256 : Nat) /\ ∃ (y : List
 Bool × Int), U.dL s (x.1.set (s.getD x.2.toNat (0 : Int)).toNat true) (IntKind.i64.wrap (x.2.add (1 : Int))) = U.dL s y.1 y.2 /\ U.fQ s y.1 y.2 /\ s.length.sub y.2.toNat < s.length.sub x.2.toNat else x.1 = U.iw s /\ true = true /\ True
def qE (c : List Int) : Prop := bif decide ((0 : Int) = (0 : Int)) then True else bif c.beq [] then True else (decide ((↑c.length : Int) = (1 : Int)) = true -> (0 : Int) <= (0 : Int)) /\ (decide ((↑c.length : Int) = (1 : Int)) = true -> (0 : Int) < (↑c.length : Int)) /\ bif bif decide ((↑c.length : Int) = (1 : Int)) then decide (c.getD (0 : Nat) (0 : Int) < (128 : Int)) else false then False
 else (∀ (c_1 : Int), List.Mem c_1 c -> (0 : Int) <= c_1 /\ c_1 < (128 : Int)) /\ False
def qF (l : List Int) (c : List Int) : Prop := bif decide ((↑l.length : Int) = (0 : Int)) then (U.trimB l).length = (0 : Nat) /\ l = l /\ True else bif c.beq [] then False else (decide ((↑c.length : Int) = (1 : Int)) = true -> (0 : Int) <= (0 : Int)) /\ (decide ((↑c.length : Int) = (1 : Int)) = true -> (0 : Int) < (↑c.length : Int)) /\ bif bif decide ((↑c.length : Int) = (1 : Int)) then decide
 (c.getD (0 : Nat) (0 : Int) < (128 : Int)) else false then False else (∀ (c_1 : Int), List.Mem c_1 c -> (0 : Int) <= c_1 /\ c_1 < (128 : Int)) /\ ∃ (x0 : Nat × Nat), ((⟨⟨[some (SV.v { agg := false, ls := [.sl (0 : Nat) (0 : Nat) l.length] })] ++ [U.sP 1 0] ++ U.n 21, [], [((0 : Nat), .row (5 : Nat) (.int .u8) true true l), ((1 : Nat), .obj [.arr (256 : Nat) (true || true) Ty.bool (U.iw c)])]⟩, (2 :
 Nat), []⟩ : St2) = U.dY l x0.1 x0.2 /\ U.eP l x0.1 x0.2) /\ ∀ (x : Nat × Nat), U.eP l x.1 x.2 -> bif decide ((↑x.2 : Int) > (0 : Int)) then (0 : Int) <= IntKind.i64.wrap ((↑x.2 : Int).sub (1 : Int)) /\ IntKind.i64.wrap ((↑x.2 : Int).sub (1 : Int)) < (↑x.2 : Int) /\ x.1.add (IntKind.i64.wrap ((↑x.2 : Int).sub (1 : Int))).toNat < l.length /\ (0
 : Int) <= l.getD (x.1.add (IntKind.i64.wrap ((↑x.2 : Int).sub (1 : Int))).toNat) (0 : Int) /\ l.getD (x.1.add (IntKind.i64.wrap ((↑x.2 : Int).sub (1 : Int))).toNat) (0 : Int) < (↑(256 : Nat) : Int) /\ (l.getD (x.1.add (IntKind.i64.wrap ((↑x.2 : Int).sub (1 : Int))).toNat) (0 : Int)).toNat < (256 : Nat) /\ bif !(U.iw [(32 : Int), (9 : Int)]).getD (l.getD (x.1.add (IntKind.i64.wrap ((↑x.2 : Int).sub
 (1 : Int))).toNat) (0 : Int)).toNat false then ∃ (x0 : Nat × Nat), (U.aN l x.1 x.2 = U.aN l x0.1 x0.2 /\ U.aX l x0.1 x0.2) /\ ∀ (x : Nat × Nat), U.aX l x.1 x.2 -> bif decide ((↑x.2 : Int) > (0 : Int)) then (0 : Int) <= (0 : Int) /\ (0 : Int) < (↑x.2 : Int) /\ x.1.add (0 : Nat) < l.length /\ (0 : Int) <= l.getD (x.1.add (0 :
 Nat)) (0 : Int) /\ l.getD (x.1.add (0 : Nat)) (0 : Int) < (↑(256 : Nat) : Int) /\ (l.getD (x.1.add (0 : Nat)) (0 : Int)).toNat < (256 : Nat) /\ bif !(U.iw [(32 : Int), (9 : Int)]).getD (l.getD (x.1.add (0 : Nat)) (0 : Int)).toNat false then bif decide ((↑x.2 : Int) = (0 : Int)) then (U.trimB l).length = (0 : Nat) /\ l = l /\ True else x.1 = U.bK (List.take (U.aW l) l) /\ x.2 = (U.trimB
 l).length /\ l = l /\ True else (0 : Int) <= (1 : Int) /\ (1 : Int) <= (↑x.2 : Int) /\ (↑x.2 : Int) <= (↑x.2 : Int) /\ ∃ (y : Nat × Nat), U.aN l (x.1.add (1 : Nat)) ((↑x.2 : Int).toNat.sub (1 : Nat)) = U.aN l y.1 y.2 /\ U.aX l y.1 y.2 /\ y.2 < x.2 else bif decide ((↑x.2 : Int) = (0 : Int)) then (U.trimB l).length = (0 : Nat) /\ l = l /\ True else
 x.1 = U.bK (List.take (U.aW l) l) /\ x.2 = (U.trimB l).length /\ l = l /\ True else (0 : Int) <= (0 : Int) /\ (0 : Int) <= IntKind.i64.wrap ((↑x.2 : Int).sub (1 : Int)) /\ IntKind.i64.wrap ((↑x.2 : Int).sub (1 : Int)) <= (↑x.2 : Int) /\ ∃ (y : Nat × Nat), U.dY l (x.1.add (0 : Nat)) ((IntKind.i64.wrap ((↑x.2 : Int).sub (1 : Int))).toNat.sub (0 : Nat)) = U.dY
 l y.1 y.2 /\ U.eP l y.1 y.2 /\ y.2 < x.2 else ∃ (x0 : Nat × Nat), (U.aN l x.1 x.2 = U.aN l x0.1 x0.2 /\ U.aX l x0.1 x0.2) /\ ∀ (x : Nat × Nat), U.aX l x.1 x.2 -> bif decide ((↑x.2 : Int) > (0 : Int)) then (0 : Int) <= (0 : Int) /\ (0 : Int) < (↑x.2 : Int) /\ x.1.add (0 : Nat) < l.length /\ (0 : Int) <=
 l.getD (x.1.add (0 : Nat)) (0 : Int) /\ l.getD (x.1.add (0 : Nat)) (0 : Int) < (↑(256 : Nat) : Int) /\ (l.getD (x.1.add (0 : Nat)) (0 : Int)).toNat < (256 : Nat) /\ bif !(U.iw [(32 : Int), (9 : Int)]).getD (l.getD (x.1.add (0 : Nat)) (0 : Int)).toNat false then bif decide ((↑x.2 : Int) = (0 : Int)) then (U.trimB l).length = (0 : Nat) /\ l = l /\ True else x.1 = U.bK (List.take (U.aW l) l) /\
 x.2 = (U.trimB l).length /\ l = l /\ True else (0 : Int) <= (1 : Int) /\ (1 : Int) <= (↑x.2 : Int) /\ (↑x.2 : Int) <= (↑x.2 : Int) /\ ∃ (y : Nat × Nat), U.aN l (x.1.add (1 : Nat)) ((↑x.2 : Int).toNat.sub (1 : Nat)) = U.aN l y.1 y.2 /\ U.aX l y.1 y.2 /\ y.2 < x.2 else bif decide ((↑x.2 : Int) = (0 : Int)) then (U.trimB l).length = (0 : Nat) /\ l = l
 /\ True else x.1 = U.bK (List.take (U.aW l) l) /\ x.2 = (U.trimB l).length /\ l = l /\ True
def jY (t : List Int) (s : List Int) (n : Int) : Prop := bif decide ((↑t.length : Int) = (0 : Int)) then False else ∃ (x0 : List Int × Nat), ((⟨⟨[some (SV.v { agg := false, ls := [Leaf.yld] })] ++ [U.sP 0 0] ++ [U.sP 1 0] ++ [U.sP 2 0] ++ U.n 59, [], [((0 : Nat), .obj [.psl false (.int .u8) t]), ((1 : Nat), .obj [.psl false (.int .u8) s]), ((2 : Nat), .obj [.int .i64 n])]⟩, (3 :
 Nat), [(0 : Nat), (0 : Nat)]⟩ : St2) = U.gI s (t.getD (0 : Nat) (0 : Int)) x0.1 x0.2 /\ U.iy s (t.getD (0 : Nat) (0 : Int)) x0.1 x0.2) /\ ∀ (x : List Int × Nat), U.iy s (t.getD (0 : Nat) (0 : Int)) x.1 x.2 -> (1 : Nat) = (1 : Nat) /\ bif decide (aF x.1 ([t.getD (0 : Nat) (0 : Int)].getD (0 : Nat) (0 : Int)) < (0 : Int)) then (0 : Int) <= (0 : Int) /\
 (0 : Int) <= (↑x.1.length : Int) /\ (↑x.1.length : Int) <= (↑x.1.length : Int) /\ (↑x.1.length : Int) <= (↑x.1.length : Int) /\ x.2 < (U.ah (t.getD (0 : Nat) (0 : Int)) s).length /\ (U.ah (t.getD (0 : Nat) (0 : Int)) s).getD x.2 [] = List.take ((↑x.1.length : Int).toNat.sub (0 : Nat)) (List.drop (0 : Nat) x.1) /\ x.2.add (1 : Nat) = (U.ah (t.getD (0 : Nat) (0 : Int)) s).length /\ true = true
 else (0 : Int) <= (0 : Int) /\ (0 : Int) <= IntKind.i64.wrap ((aF x.1 ([t.getD (0 : Nat) (0 : Int)].getD (0 : Nat) (0 : Int))).add (1 : Int)) /\ IntKind.i64.wrap ((aF x.1 ([t.getD (0 : Nat) (0 : Int)].getD (0 : Nat) (0 : Int))).add (1 : Int)) <= (↑x.1.length : Int) /\ (0 : Int) <= (0 : Int) /\ (0 : Int) <= (↑(List.take ((IntKind.i64.wrap ((aF x.1 ([t.getD (0 : Nat) (0 : Int)].getD (0 : Nat) (0 :
 Int))).add (1 : Int))).toNat.sub (0 : Nat)) (List.drop (0 : Nat) x.1)).length : Int) /\ (↑(List.take ((IntKind.i64.wrap ((aF x.1 ([t.getD (0 : Nat) (0 : Int)].getD (0 : Nat) (0 : Int))).add (1 : Int))).toNat.sub (0 : Nat)) (List.drop (0 : Nat) x.1)).length : Int) <= (↑(List.take ((IntKind.i64.wrap ((aF x.1 ([t.getD (0 : Nat) (0 : Int)].getD (0 : Nat) (0 : Int))).add (1 : Int))).toNat.sub (0 :
 Nat)) (List.drop (0 : Nat) x.1)).length : Int) /\ (↑(List.take ((IntKind.i64.wrap ((aF x.1 ([t.getD (0 : Nat) (0 : Int)].getD (0 : Nat) (0 : Int))).add (1 : Int))).toNat.sub (0 : Nat)) (List.drop (0 : Nat) x.1)).length : Int) <= (↑(List.take ((IntKind.i64.wrap ((aF x.1 ([t.getD (0 : Nat) (0 : Int)].getD (0 : Nat) (0 : Int))).add (1 : Int))).toNat.sub (0 : Nat)) (List.drop (0 : Nat) x.1)).length :
 Int) /\ x.2 < (U.ah (t.getD (0 : Nat) (0 : Int)) s).length /\ (U.ah (t.getD (0 : Nat) (0 : Int)) s).getD x.2 [] = List.take ((↑(List.take ((IntKind.i64.wrap ((aF x.1 ([t.getD (0 : Nat) (0 : Int)].getD (0 : Nat) (0 : Int))).add (1 : Int))).toNat.sub (0 : Nat)) (List.drop (0 : Nat) x.1)).length : Int).toNat.sub (0 : Nat)) (List.drop (0 : Nat) (List.take ((IntKind.i64.wrap ((aF x.1 ([t.getD
 (0 : Nat) (0 : Int)].getD (0 : Nat) (0 : Int))).add (1 : Int))).toNat.sub (0 : Nat)) (List.drop (0 : Nat) x.1))) /\ ((0 : Int) <= IntKind.i64.wrap ((aF x.1 ([t.getD (0 : Nat) (0 : Int)].getD (0 : Nat) (0 : Int))).add (↑((1 : Nat)) : Int)) /\ IntKind.i64.wrap ((aF x.1 ([t.getD (0 : Nat) (0 : Int)].getD (0 : Nat) (0 : Int))).add (↑((1 : Nat)) : Int)) <= (↑x.1.length : Int) /\ (↑x.1.length : Int) <=
 (↑x.1.length : Int) /\ ∃ (y : List Int × Nat), U.gI s (t.getD (0 : Nat) (0 : Int)) (List.take ((↑x.1.length : Int).toNat.sub (IntKind.i64.wrap ((aF x.1 ([t.getD (0 : Nat) (0 : Int)].getD (0 : Nat) (0 : Int))).add (↑((1 : Nat)) : Int))).toNat) (List.drop (IntKind.i64.wrap ((aF x.1 ([t.getD (0 : Nat) (0 : Int)].getD (0 : Nat) (0 : Int))).add (↑((1 : Nat)) : Int))).toNat x.1))
 (x.2.add (1 : Nat)) = U.gI s (t.getD (0 : Nat) (0 : Int)) y.1 y.2 /\ U.iy s (t.getD (0 : Nat) (0 : Int)) y.1 y.2 /\ y.1.length < x.1.length) /\ true = true
end Go.Proofs.YtggccomebfpfpaaDoor
set_option linter.unusedSimpArgs false
set_option linter.unusedVariables false
set_option maxRecDepth 100000
namespace Go.Proofs.YtggccomebfpfpaaDoor
open Go.Vc
open Go.Vc.T
theorem TS (a b : List Int) : a.beq b = decide (a = b) := by rw [RU, Bool.eq_iff_iff]; simp
theorem Ii {α : Type} (l : List α) {k : Nat} (h : l.length <= k) : l.take k = l := List.take_of_length_le h
theorem oK (s : List Int) (k : Nat) : List.take ((s.length : Int).toNat.sub k) (List.drop k s) = s.drop k := by
 refine Ii _ ?_
 rw [List.length_drop, eF]; omega
theorem vX (s : List Int) (k : Nat) : List.take (k.sub 0) (List.drop 0 s) = s.take k := rfl
theorem LY {s t : List Int} (h : U.dO s t = true) : t.length <= s.length := by
 unfold U.dO at h
 simp only [Bool.and_eq_true, decide_eq_true_eq] at h
 exact h.1
theorem oW {a b : Int} (h1 : -9223372036854775808 <= a - b) (h2 : a - b <= 9223372036854775807) : IntKind.i64.wrap (a.sub b) = a - b := LQ h1 h2
theorem je {a b : Int} (h1 : -9223372036854775808 <= a + b) (h2 : a + b <= 9223372036854775807) : IntKind.i64.wrap (a.add b) = a + b := LQ h1 h2
theorem CU (s : List Int) (c : Int) : qM s c := ⟨rfl, trivial⟩
theorem Jp (s t : List Int) (h : t.length = 1) : qB s t := by
 unfold qB
 rw [decide_eq_false (by omega : ¬ (t.length : Int) = 0), decide_eq_true (by omega : (t.length : Int) = 1)]
 show (0 : Int) <= 0 /\ (0 : Int) < t.length /\ _ = _ /\ True
 exact ⟨by omega, by omega, rfl, trivial⟩
theorem Jq (s t : List Int) (h : t.length = 1) : qC s t := by
 unfold qC
 rw [decide_eq_false (by omega : ¬ (t.length : Int) = 0), decide_eq_true (by omega : (t.length : Int) = 1)]
 show (0 : Int) <= 0 /\ (0 : Int) < t.length /\ _ = _ /\ True
 exact ⟨by omega, by omega, rfl, trivial⟩
theorem CV (s t : List Int) (hs : s.length <= maxLen) (ht : t.length <= maxLen) : kU s t := by
 unfold kU
 rw [maxLen_eq] at hs ht
 by_cases h : t.length <= s.length
 ·rw [decide_eq_true (by omega : (s.length : Int) >= t.length), oW (by omega) (by omega)]
  refine ⟨fun _ => by omega, fun _ => by omega, fun _ => by omega, ?_, trivial⟩
  rw [show ((s.length : Int) - t.length).toNat = s.length - t.length by omega, oK, TS]
  unfold U.dO; rw [decide_eq_true h]; rfl
 ·rw [decide_eq_false (by omega : ¬ (s.length : Int) >= t.length)]
  refine ⟨by simp, by simp, by simp, ?_⟩
  show false = U.dO s t /\ True
  unfold U.dO; rw [decide_eq_false h]; exact ⟨rfl, trivial⟩
theorem Bf (s t : List Int) (hs : s.length <= maxLen) (ht : t.length <= maxLen) : jX s t := by
 unfold jX
 rw [maxLen_eq] at hs ht
 unfold U.dh
 cases he : U.dO s t with
 | true =>
   have hl := LY he
   rw [oW (by omega) (by omega)]
   refine ⟨by omega, by omega, by omega, ?_, trivial⟩
   rw [vX, show ((s.length : Int) - t.length).toNat = s.length - t.length by omega]; rfl
 | false => exact ⟨rfl, trivial⟩
theorem CW (s t : List Int) (hs : s.length <= maxLen) (ht : t.length <= maxLen) : kV s t := by
 unfold kV
 rw [maxLen_eq] at hs ht
 unfold U.dh
 cases he : U.dO s t with
 | true =>
   have hl := LY he
   rw [oW (by omega) (by omega)]
   refine ⟨by omega, by omega, by omega, ?_, rfl, trivial⟩
   rw [vX, show ((s.length : Int) - t.length).toNat = s.length - t.length by omega]; rfl
 | false => exact ⟨rfl, rfl, trivial⟩
theorem NQ (s t : List Int) (hs : s.length <= maxLen) (h : t.length = 1) : wP s t := by
 unfold wP
 rw [maxLen_eq] at hs
 have hb := dK s (t.getD 0 0)
 refine ⟨h, ?_⟩
 unfold U.aB U.bH
 by_cases hi : aF s (t.getD 0 0) >= 0
 ·rw [decide_eq_true hi, h, je (by omega) (by omega)]
  refine ⟨by omega, by omega, by omega, by omega, by omega, by omega, ?_, ?_, rfl, trivial⟩
  ·rw [vX]; rfl
  ·rw [oK]; rfl
 ·rw [decide_eq_false hi]; exact ⟨rfl, rfl, rfl, trivial⟩
theorem yY (s : List Int) (hs : s.length <= maxLen) (hc : ∀ c ∈ s, 0 <= c /\ c < 128) : jC s := by
 unfold jC
 rw [maxLen_eq] at hs
 refine ⟨(List.replicate 256 false, 0), ⟨rfl, ⟨Int.le_refl 0, by show (0 : Int) <= _; omega⟩, rfl⟩, ?_⟩
 rintro ⟨a, i⟩ ⟨⟨i0, i1⟩, ha⟩
 dsimp only at i0 i1 ha ⊢
 rw [cond_prop]
 refine ⟨fun hi => ?_, fun hi => ?_⟩
 ·have hi : i < s.length := of_decide_eq_true hi
  have hx := hc (s[i.toNat]'(by omega)) (List.getElem_mem _)
  rw [getD_at (by omega : i.toNat < s.length)]
  refine ⟨i0, hi, ?_⟩
  rw [decide_eq_false (by omega : ¬ s[i.toNat] >= 128), je (by omega) (by omega)]
  refine ⟨hx.1, by omega, by omega, (a.set s[i.toNat].toNat true, i + 1), rfl, ⟨⟨by show 0 <= i + 1; omega, by show i + 1 <= _; omega⟩, ?_⟩, by simp only [eF]; omega⟩
  show a.set _ true = U.iw (s.take (i + 1).toNat)
  rw [take_at i0 hi]; unfold U.iw at *; rw [List.foldl_append, <- ha]; rfl
 ·have hi : ¬ i < s.length := of_decide_eq_false hi
  rw [Et (by omega)] at ha
  exact ⟨ha, rfl, trivial⟩
theorem Ey (l : List Int) : U.aW l <= l.length := by unfold U.aW; omega
theorem PX (a : List Int) (x : Int) : U.aW (a ++ [x]) = cond (U.blank x) (U.aW a) (a.length + 1) := by
 unfold U.aW
 rw [List.reverse_append, List.length_append]
 show a.length + 1 - U.bK (x :: a.reverse) = _
 rw [U.bK]
 cases U.blank x
 ·rfl
 ·show a.length + 1 - (U.bK a.reverse + 1) = a.length - _; omega
theorem Oz {x : Int} (h0 : 0 <= x) (h1 : x < 256) : (U.iw [32, 9]).getD x.toNat false = U.blank x := by
 have key : ∀ k : Fin 256, (U.iw [32, 9]).getD k.val false = U.blank (k.val : Int) := by decide +kernel
 have := key ⟨x.toNat, by omega⟩
 rw [show ((x.toNat : Nat) : Int) = x by omega] at this
 exact this
theorem I7 (l : List Int) : (U.trimB l).length = U.aW l - U.bK (l.take (U.aW l)) := by
 unfold U.trimB
 have := Ey l
 rw [List.length_drop, List.length_take]; omega
theorem Jr (c : List Int) : qE c := by unfold qE; exact trivial
theorem Js (l c : List Int) (hv : Valid (.slice (.int .u8)) l) (hc : c = [32, 9]) : qF l c := by
 subst hc
 have hl : l.length <= 9223372036854775807 := hv.2
 have hT := Ey l
 have hb : ∀ k, k < l.length -> 0 <= l.getD k 0 /\ l.getD k 0 <= 255 := fun k hk => by rw [getD_at hk]; exact vU8 (hv.1 _ (List.getElem_mem _))
 unfold qF
 rw [cond_prop]
 refine ⟨fun h0 => ?_, fun h0 => ?_⟩
 ·have h0 : (l.length : Int) = 0 := of_decide_eq_true h0
  have : l = [] := List.length_eq_zero_iff.1 (by omega)
  subst this; exact ⟨rfl, rfl, trivial⟩
 have h0 : ¬ (l.length : Int) = 0 := of_decide_eq_false h0
 show (decide (((([32, 9] : List Int).length : Nat) : Int) = 1) = true -> _) /\ _
 refine ⟨fun _ => by omega, fun _ => by decide, ?_⟩
 show (∀ c : Int, List.Mem c [32, 9] -> 0 <= c /\ c < 128) /\ _
 refine ⟨fun c hc => ?_, ?_⟩
 ·have hc : c ∈ [32, 9] := hc
  simp only [List.mem_cons, List.not_mem_nil, or_false] at hc
  rcases hc with rfl | rfl <;> omega
 have left : ∀ n : Nat, n = U.aW l -> ∃ (x0 : Nat × Nat), (U.aN l 0 n = U.aN l x0.1 x0.2 /\ U.aX l x0.1 x0.2) /\ ∀ (x : Nat × Nat), U.aX l x.1 x.2 ->
  bif decide ((x.2 : Int) > 0) then (0 : Int) <= 0 /\ (0 : Int) < (x.2 : Int) /\ x.1.add 0 < l.length /\ (0 : Int) <= l.getD (x.1.add 0) 0 /\ l.getD (x.1.add 0) 0 < ((256 : Nat) : Int) /\ (l.getD (x.1.add 0) 0).toNat < 256 /\
   bif !(U.iw [32, 9]).getD (l.getD (x.1.add 0) 0).toNat false then bif decide ((x.2 : Int) = 0) then (U.trimB l).length = 0 /\ l = l /\ True else x.1 = U.bK (List.take (U.aW l) l) /\ x.2 = (U.trimB l).length /\ l = l /\ True
   else (0 : Int) <= 1 /\ (1 : Int) <= (x.2 : Int) /\ (x.2 : Int) <= (x.2 : Int) /\ ∃ (y : Nat × Nat), U.aN l (x.1.add 1) ((x.2 : Int).toNat.sub 1) = U.aN l y.1 y.2 /\ U.aX l y.1 y.2 /\ y.2 < x.2
  else bif decide ((x.2 : Int) = 0) then (U.trimB l).length = 0 /\ l = l /\ True else x.1 = U.bK (List.take (U.aW l) l) /\ x.2 = (U.trimB l).length /\ l = l /\ True := by
  intro n hn
  refine ⟨(0, n), ⟨rfl, by show 0 + n = _; omega, Nat.zero_le _, by show U.bK ((l.take (U.aW l)).drop 0) + 0 = _; rw [List.drop_zero, Nat.add_zero]⟩, ?_⟩
  rintro ⟨lo, n⟩ ⟨e1, e2, e3⟩
  dsimp only at e1 e2 e3 ⊢
  have hml : (l.take (U.aW l)).length = U.aW l := by rw [List.length_take]; omega
  have fin : U.bK ((l.take (U.aW l)).drop lo) = 0 -> bif decide ((n : Int) = 0) then (U.trimB l).length = 0 /\ l = l /\ True else lo = U.bK (List.take (U.aW l) l) /\ n = (U.trimB l).length /\ l = l /\ True := by
   intro hz
   rw [cond_prop, I7]
   refine ⟨fun h => ⟨?_, rfl, trivial⟩, fun h => ⟨by omega, by omega, rfl, trivial⟩⟩
   have h : (n : Int) = 0 := of_decide_eq_true h
   omega
  rw [cond_prop]
  refine ⟨fun hn => ?_, fun hn => ?_⟩
  ·have hn : (n : Int) > 0 := of_decide_eq_true hn
   have hlo : lo < l.length := by omega
   have hbb := hb lo hlo
   have hd : (l.take (U.aW l)).drop lo = l.getD lo 0 :: (l.take (U.aW l)).drop (lo + 1) := by
    rw [List.drop_eq_getElem_cons (by omega), getD_at hlo, List.getElem_take]
   show (0 : Int) <= 0 /\ _
   rw [show lo.add 0 = lo from rfl]
   refine ⟨by omega, by omega, hlo, hbb.1, by omega, by omega, ?_⟩
   rw [Oz hbb.1 (by omega)]
   cases hbl : U.blank (l.getD lo 0) with
   | false =>
     refine fin ?_
     rw [hd, U.bK, hbl]; rfl
   | true =>
     have hN : U.bK ((l.take (U.aW l)).drop lo) = U.bK ((l.take (U.aW l)).drop (lo + 1)) + 1 := by rw [hd, U.bK, hbl]; rfl
     show (0 : Int) <= 1 /\ _
     exact ⟨by omega, by omega, by omega, (lo + 1, n - 1), rfl, ⟨by show lo + 1 + (n - 1) = _; omega, by show lo + 1 <= _; omega, by show U.bK ((l.take (U.aW l)).drop (lo + 1)) + (lo + 1) = _; omega⟩, by show n - 1 < n; omega⟩
  ·have hn : ¬ (n : Int) > 0 := of_decide_eq_false hn
   refine fin ?_
   rw [List.drop_eq_nil_of_le (by omega)]; rfl
 refine ⟨(0, l.length), ⟨rfl, rfl, Nat.le_refl _, hT, by show U.aW (l.take l.length) = _; rw [List.take_length]⟩, ?_⟩
 rintro ⟨lo, n⟩ ⟨e1, e2, e3, e4⟩
 dsimp only at e1 e2 e3 e4 ⊢
 subst e1
 rw [cond_prop]
 refine ⟨fun hn => ?_, fun hn => ?_⟩
 ·have hn : (n : Int) > 0 := of_decide_eq_true hn
  rw [oW (by omega) (by omega)]
  have hk : (0 : Nat).add ((n : Int) - 1).toNat = n - 1 := by rw [jd]; omega
  rw [hk]
  have hbb := hb (n - 1) (by omega)
  have ht : l.take n = l.take (n - 1) ++ [l.getD (n - 1) 0] := by
   have := List.take_succ_eq_append_getElem (l := l) (i := n - 1) (by omega)
   rw [show n - 1 + 1 = n by omega] at this
   rw [this, getD_at (by omega)]
  have hs := PX (l.take (n - 1)) (l.getD (n - 1) 0)
  rw [<- ht, e4] at hs
  refine ⟨by omega, by omega, by omega, hbb.1, by omega, by omega, ?_⟩
  rw [Oz hbb.1 (by omega)]
  cases hbl : U.blank (l.getD (n - 1) 0) with
  | false =>
    rw [hbl, List.length_take] at hs
    have hs : U.aW l = min (n - 1) l.length + 1 := hs
    exact left n (by omega)
  | true =>
    rw [hbl] at hs
    have hs : U.aW l = U.aW (l.take (n - 1)) := hs
    have hle := Ey (l.take (n - 1))
    rw [List.length_take] at hle
    show (0 : Int) <= 0 /\ _
    refine ⟨by omega, by omega, by omega, (0, n - 1), ?_, ⟨rfl, by show n - 1 <= _; omega, by show _ <= n - 1; omega, hs.symm⟩, by show n - 1 < n; omega⟩
    rw [show ((n : Int) - 1).toNat.sub 0 = n - 1 by rw [eF]; omega]
 ·have hn : ¬ (n : Int) > 0 := of_decide_eq_false hn
  exact left n (by omega)
theorem Bg (c : Int) : ∀ s, U.ah c s ≠ []
 | [] => by simp [U.ah]
 | x :: r => by rw [U.ah]; split <;> simp
theorem Bh (c : Int) : ∀ s, aF s c < 0 -> U.ah c s = [s]
 | [], _ => rfl
 | x :: r, h => by
   have hb := dK r c
   unfold aF at h
   by_cases hx : x = c
   ·simp [hx] at h
   ·by_cases hi : aF r c = -1
    ·have ih := Bh c r (by omega)
     rw [U.ah, if_neg hx, ih]; rfl
    ·simp [hx, hi] at h; omega
theorem yZ (c : Int) : ∀ (s : List Int), 0 <= aF s c -> U.ah c s = s.take ((aF s c).toNat + 1) :: U.ah c (s.drop ((aF s c).toNat + 1))
 | [], h => by simp [aF] at h
 | x :: r, h => by
   have hb := dK r c
   by_cases hx : x = c
   ·simp [U.ah, aF, hx]
   ·by_cases hi : aF r c = -1
    ·simp [aF, hx, hi] at h
    ·have e : aF (x :: r) c = aF r c + 1 := by simp [aF, hx, hi]
     have ih := yZ c r (by omega)
     rw [e, show (aF r c + 1).toNat = (aF r c).toNat + 1 by omega]
     rw [U.ah, if_neg hx, ih]; rfl
theorem Bj (t s : List Int) (n : Int) (hs : s.length <= maxLen) (ht : t.length = 1) (hn : n = 1) : jY t s n := by
 subst hn
 obtain ⟨c, rfl⟩ : ∃ c, t = [c] := by
  match t, ht with
  | [c], _ => exact ⟨c, rfl⟩
 unfold jY
 rw [maxLen_eq] at hs
 have hg : ([c] : List Int).getD 0 0 = c := rfl
 rw [decide_eq_false (show ¬ ((([c] : List Int).length : Nat) : Int) = 0 by simp)]
 simp only [hg, cond_false]
 refine ⟨(s, 0), ⟨rfl, rfl, Nat.pos_of_ne_zero (fun h => Bg c s (List.length_eq_zero_iff.1 h)), Nat.le_refl _⟩, ?_⟩
 rintro ⟨r, k⟩ ⟨e1, e2, e3⟩
 dsimp only at e1 e2 e3 ⊢
 have hb := dK r c
 have hd : (U.ah c s).drop k = (U.ah c s).getD k [] :: (U.ah c s).drop (k + 1) := by rw [List.drop_eq_getElem_cons e2, getD_at e2]
 refine ⟨trivial, ?_⟩
 rw [cond_prop]
 refine ⟨fun hi => ?_, fun hi => ?_⟩
 ·have hi : aF r c < 0 := of_decide_eq_true hi
  rw [Bh c r hi, hd] at e1
  simp only [List.cons.injEq] at e1
  refine ⟨by omega, by omega, by omega, by omega, e2, ?_, ?_, trivial⟩
  ·rw [oK]; exact e1.1.symm
  ·have := congrArg List.length e1.2
   rw [List.length_drop] at this
   have h0 : 0 = (U.ah c s).length - (k + 1) := this
   show k + 1 = _; omega
 ·have hi : ¬ aF r c < 0 := of_decide_eq_false hi
  rw [yZ c r (by omega), hd] at e1
  simp only [List.cons.injEq] at e1
  have hw : IntKind.i64.wrap ((aF r c).add 1) = aF r c + 1 := je (by omega) (by omega)
  have hw2 : IntKind.i64.wrap ((aF r c).add ((1 : Nat) : Int)) = aF r c + 1 := je (b := ((1 : Nat) : Int)) (by omega) (by omega)
  simp only [hw, hw2]
  have hn1 : (aF r c + 1).toNat = (aF r c).toNat + 1 := by omega
  have hl2 : (U.ah c s).length ≠ k + 1 := by
   intro h
   have hz : (U.ah c s).drop (k + 1) = [] := List.drop_eq_nil_of_le (by omega)
   rw [hz] at e1
   exact Bg _ _ e1.2
  refine ⟨by omega, by omega, by omega, by omega, by omega, by omega, by omega, e2, ?_, ⟨by omega, by omega, by omega, (r.drop (aF r c + 1).toNat, k + 1), ?_, ⟨?_, ?_, ?_⟩, ?_⟩, trivial⟩
  ·rw [oK, List.drop_zero, vX, hn1]; exact e1.1.symm
  ·rw [oK]
  ·show U.ah c (r.drop (aF r c + 1).toNat) = (U.ah c s).drop (k + 1)
   rw [hn1]; exact e1.2
  ·show k + 1 < _; omega
  ·show (r.drop _).length <= _; rw [List.length_drop]; omega
  ·show (r.drop _).length < _; rw [List.length_drop]; omega
end Go.Proofs.YtggccomebfpfpaaDoor
set_option linter.unusedSimpArgs false
set_option maxRecDepth 100000
set_option linter.unusedVariables false
namespace Go.Proofs.YtggccomebfpfpaaDoor
open Go.Vc
theorem pY : dw Tryd.prog gl 69 jh := RX (fn := Tryd.f69) Tryd.func69 (by kernel_rfl) (by kernel_rfl) (by kernel_rfl) (by rfl)
theorem oL : bP ji := .cons pY Uy
theorem vF : dw Tryd.prog gl 39 kP := RY (fn := Tryd.f39) Tryd.func39 (by kernel_rfl) (by kernel_rfl) (by kernel_rfl) (by rfl)
theorem uS : bP kQ := .cons vF oL
theorem Bl : dw Tryd.prog gl 45 pX := TL (fn := Tryd.f45) (by kernel_rfl) (by kernel_rfl) (by kernel_rfl) Tryd.strings_IndexByte
theorem nY : bP iO := .cons Bl uS
theorem Ez (x : aO [aA, .int .u8]) : dR Tryd.prog (bM iO) (uI x.1 x.2) 49 (dF [aA, .int .u8] x) [] (lK x.1 x.2) = qM x.1 x.2 := by kernel_rfl
theorem EC : Pok 49 [aA, .int .u8] (fun x => lK x.1 x.2) := by
 refine pk (L := fun x => uI x.1 x.2) (l := iO) nY (fun _ => rfl) ?_
 intro x hv hp
 rw [Ez]
 exact CU x.1 x.2
theorem ED : dw Tryd.prog gl 49 uH := EC
theorem qN : bP jy := .cons ED nY
theorem LZ (x : aO [aA, aA]) : dR Tryd.prog (bM jy) (AY x.1 x.2) 40 (dF [aA, aA] x) [] (nJ x.1 x.2) = qB x.1 x.2 := by kernel_rfl
theorem L6 : Pok 40 [aA, aA] (fun x => nJ x.1 x.2) := by
 refine pk (L := fun x => AY x.1 x.2) (l := jy) qN (fun _ => rfl) ?_
 intro x hv hp
 rw [LZ]
 exact Jp x.1 x.2 (hp (List.length x.2 = 1) (by simp [nJ]))
theorem L8 : dw Tryd.prog gl 40 AX := L6
theorem zC : bP nK := .cons L8 qN
theorem L9 (x : aO [aA, aA]) : dR Tryd.prog (bM nK) (A8 x.1 x.2) 26 (dF [aA, aA] x) [] (nM x.1 x.2) = qC x.1 x.2 := by kernel_rfl
theorem Mc : Pok 26 [aA, aA] (fun x => nM x.1 x.2) := by
 refine pk (L := fun x => A8 x.1 x.2) (l := nK) zC (fun _ => rfl) ?_
 intro x hv hp
 rw [L9]
 exact Jq x.1 x.2 (hp (List.length x.2 = 1) (by simp [nM]))
theorem Md : dw Tryd.prog gl 26 AZ := Mc
theorem zD : bP nN := .cons Md zC
theorem EF (x : aO [aA, aA]) : dR Tryd.prog (bM nN) (uK x.1 x.2) 72 (dF [aA, aA] x) [] (lM x.1 x.2) = kU x.1 x.2 := by kernel_rfl
theorem EG : Pok 72 [aA, aA] (fun x => lM x.1 x.2) := by
 refine pk (L := fun x => uK x.1 x.2) (l := nN) zD (fun _ => rfl) ?_
 intro x hv hp
 rw [EF]
 exact CV x.1 x.2 hv.1.2 hv.2.2
theorem EH : dw Tryd.prog gl 72 uJ := EG
theorem qO : bP jA := .cons EH zD
theorem CX (x : aO [aA, aA]) : dR Tryd.prog (bM jA) (qK x.1 x.2) 57 (dF [aA, aA] x) [] (kT x.1 x.2) = jX x.1 x.2 := by kernel_rfl
theorem CY : Pok 57 [aA, aA] (fun x => kT x.1 x.2) := by
 refine pk (L := fun x => qK x.1 x.2) (l := jA) qO (fun _ => rfl) ?_
 intro x hv hp
 rw [CX]
 exact Bf x.1 x.2 hv.1.2 hv.2.2
theorem CZ : dw Tryd.prog gl 57 qJ := CY
theorem qc : bP iV := .cons CZ qO
theorem EI (x : aO [aA, aA]) : dR Tryd.prog (bM iV) (uN x.1 x.2) 56 (dF [aA, aA] x) [] (lN x.1 x.2) = kV x.1 x.2 := by kernel_rfl
theorem EJ : Pok 56 [aA, aA] (fun x => lN x.1 x.2) := by
 refine pk (L := fun x => uN x.1 x.2) (l := iV) qc (fun _ => rfl) ?_
 intro x hv hp
 rw [EI]
 exact CW x.1 x.2 hv.1.2 hv.2.2
theorem EK : dw Tryd.prog gl 56 uM := EJ
theorem qP : bP jB := .cons EK qc
theorem PY (x : aO [aA, aA]) : dR Tryd.prog (bM jB) (Gw x.1 x.2) 58 (dF [aA, aA] x) [] (rE x.1 x.2) = wP x.1 x.2 := by kernel_rfl
theorem PZ : Pok 58 [aA, aA] (fun x => rE x.1 x.2) := by
 refine pk (L := fun x => Gw x.1 x.2) (l := jB) qP (fun _ => rfl) ?_
 intro x hv hp
 rw [PY]
 exact NQ x.1 x.2 hv.1.2 (hp (List.length x.2 = 1) (by simp [rE]))
theorem P5 : dw Tryd.prog gl 58 Gv := PZ
theorem DN : bP rF := .cons P5 qP
theorem zL (x : aO [.str]) : dR Tryd.prog (bM rF) (nX x) 64 (dF [.str] x) [] (iC x) = jC x := by kernel_rfl
theorem zM : Pok 64 [.str] (fun x => iC x) := by
 refine pk (L := fun x => nX x) (l := rF) DN (fun _ => rfl) ?_
 intro x hv hp
 rw [zL]
 exact yY x hv.2 (hp (∀ c ∈ x, 0 <= c /\ c < 128) (by simp [iC]))
theorem zN : dw Tryd.prog gl 64 nV := zM
theorem nP : bP eY := .cons zN DN
theorem Me (c : List Int) : dR Tryd.prog (bM eY) (Ba c) 47 (zx c) (zy c) (uO c) = qE c := by kernel_rfl
theorem MB (l : List Int) (c : List Int) : dR Tryd.prog (bM eY) (Bc l c) 47 (zA l c) (zB l c) (nO l c) = qF l c := by kernel_rfl
theorem NR : JQ Tryd.prog gl 47 oU := by
 refine pkg (l := eY) nP (fun args es d h => ?_) (fun args es d h hv he hp => ?_)
 ·unfold oU at h
  rcases yV h with h | h
  ·obtain ⟨c, rfl, rfl, rfl⟩ := uP h
   rfl
  rcases yV h with h | h
  ·obtain ⟨l, c, rfl, rfl, rfl⟩ := uQ h
   rfl
  cases h
 ·unfold oU at h
  rcases yV h with h | h
  ·obtain ⟨c, rfl, rfl, rfl⟩ := uP h
   refine ⟨Ba c, ?_⟩
   rw [Me]
   exact Jr c
  rcases yV h with h | h
  ·obtain ⟨l, c, rfl, rfl, rfl⟩ := uQ h
   refine ⟨Bc l c, ?_⟩
   rw [MB]
   exact Js l c (he _ (.head _)) (hp (c = [32, 9]) (by simp [nO]))
  cases h
theorem NS : dw Tryd.prog gl 47 DL := NR
theorem Bo : bP oV := .cons NS nP
theorem C9 (x : aO [aA, aA, .int .i64]) : BX Tryd.prog (bM oV) (qL x.1 x.2.1 x.2.2) 54 gu x = jY x.1 x.2.1 x.2.2 := by kernel_rfl
theorem Dc : Gl Tryd.prog gl 54 gu := by
 refine pkq (L := fun x => qL x.1 x.2.1 x.2.2) (l := oV) Bo (by kernel_rfl) ?_
 intro x hv hp
 exact Eq.mpr (C9 x) (Bj x.1 x.2.1 x.2.2 hv.2.1.2 (hp (List.length x.1 = 1) (by simp [gu, jW])) (hp (x.2.2 = 1) (by simp [gu, jW])))
theorem qg : bP iW := .cons Dc Bo
end Go.Proofs.YtggccomebfpfpaaDoor
