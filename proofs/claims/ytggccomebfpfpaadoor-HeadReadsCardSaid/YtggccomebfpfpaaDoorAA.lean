/- What functions of this seat compute, in plain Lean. -/
import Derived.Test.YtggccomebfpfpaaDoorAZ
import Derived.Test.YtggccomebfpfpaaDoorAVcF
import Derived.Test.YtggccomebfpfpaaDoorAS
set_option linter.unusedVariables false
set_option linter.unusedSimpArgs false
set_option maxRecDepth 100000
namespace Go.Proofs.YtggccomebfpfpaaDoor
open Go.Vc
abbrev au : Ty := .slice (.int .u8)
namespace U
def yld : Option SV := some (.one .yld)
def dh (s t : List Int) : Bool := decide (t.length <= s.length) && decide (s.drop (s.length - t.length) = t)
def cu (s t : List Int) : List Int := cond (dh s t) (s.take (s.length - t.length)) s
def aC (s : List Int) (c : Int) : List Int := cond (decide (aH s c >= 0)) (s.take (aH s c).toNat) s
def bK (s : List Int) (c : Int) : List Int := cond (decide (aH s c >= 0)) (s.drop (aH s c + 1).toNat) []
def blank (c : Int) : Bool := decide (c = 32) || decide (c = 9)
def aA : List Int -> Nat
 | [] => 0
 | x :: r => cond (blank x) (aA r + 1) 0
def aK (l : List Int) : Nat := l.length - aA l.reverse
def trimB (l : List Int) : List Int := (l.take (aK l)).drop (aA (l.take (aK l)))
def iD (l : List Int) : List Bool := l.foldl (fun a c => a.set c.toNat true) (List.replicate 256 false)
def ah (c : Int) : List Int -> List (List Int)
 | [] => [[]]
 | x :: r => if x = c then [x] :: ah c r else (x :: (ah c r).headD []) :: (ah c r).tail
end U
namespace U
def dO (s : List Int) (a : List Bool) (i : Int) : St2 := ⟨⟨[sS s] ++ U.n 1 ++ [sP 0 0] ++ U.n 1 ++ [sI i] ++ U.n 16, [], [(0, .obj [.arr 256 true .bool a])]⟩, 1, []⟩
def fZ (s : List Int)  (a : List Bool) (i : Int) : Prop := at_ s i /\ a = iD (s.take i.toNat)
def eu (l : List Int) (lo : Nat) (n : Nat) : St2 := ⟨⟨[slc 0 lo n] ++ [sP 1 0] ++ U.n 21, [], [(0, .row 5 (.int .u8) true true l), (1, .obj [.arr 256 true .bool (iD [32, 9])])]⟩, 2, []⟩
def fA (l : List Int)  (lo : Nat) (n : Nat) : Prop := lo = 0 /\ n <= l.length /\ aK l <= n /\ aK (l.take n) = aK l
def aS (l : List Int) (lo : Nat) (n : Nat) : St2 := ⟨⟨[slc 0 lo n] ++ [sP 1 0] ++ U.n 18, [], [(0, .row 5 (.int .u8) true true l), (1, .obj [.arr 256 true .bool (iD [32, 9])])]⟩, 2, []⟩
def bg (l : List Int)  (lo : Nat) (n : Nat) : Prop := lo + n = aK l /\ lo <= aA (l.take (aK l)) /\ aA ((l.take (aK l)).drop lo) + lo = aA (l.take (aK l))
def gK (s : List Int) (c : Int) (r : List Int) (k : Nat) : St2 := ⟨⟨[yld] ++ [sP 0 0] ++ [sP 1 0] ++ [sP 2 0] ++ U.n 59, [], [(0, .obj [.psl false (.int .u8) [c]]), (1, .obj [.psl false (.int .u8) r]), (2, .obj [.int .i64 1])]⟩, 3, [0, k]⟩
def iE (s : List Int) (c : Int)  (r : List Int) (k : Nat) : Prop := ah c r = (ah c s).drop k /\ k < (ah c s).length /\ r.length <= s.length
end U
def yR (s : List Int) : Vc.Loop := ⟨{ keep := [0, 2, 4] }, List Bool × Int, fun x => U.dO s x.1 x.2, fun x0 x => U.fZ s  x.1 x.2, fun x => s.length - x.2.toNat, fun p => ∀ x, p x, fun _ h => h⟩
def wO (l : List Int) : Vc.Loop := ⟨{ keep := [0, 1], Tz := [0] }, Nat × Nat, fun x => U.eu l x.1 x.2, fun x0 x => U.fA l  x.1 x.2, fun x => x.2, fun p => ∀ x, p x, fun _ h => h⟩
def xP (l : List Int) : Vc.Loop := ⟨{ keep := [0, 1], Tz := [0] }, Nat × Nat, fun x => U.aS l x.1 x.2, fun x0 x => U.bg l  x.1 x.2, fun x => x.2, fun p => ∀ x, p x, fun _ h => h⟩
def AY (s : List Int) (c : Int) : Vc.Loop := ⟨{ keep := [0, 1, 2, 3] }, List Int × Nat, fun x => U.gK s c x.1 x.2, fun x0 x => U.iE s c  x.1 x.2, fun x => x.1.length, fun p => ∀ x, p x, fun _ h => h⟩
def jv : Vc.Sum := .pure [au, .int .u8] false fun x => ⟨[], .one (.int .i64 (aH x.1 x.2)), [], []⟩
def jw : List (Nat × Ent) := (69, .sum jv) :: []
def lF : Vc.Sum := .pure [au, .int .u8] false fun x => ⟨[], .one (.int .i64 ((mV x.1 x.2 : Int))), [], []⟩
def lG : List (Nat × Ent) := (39, .sum lF) :: jw
def rJ : Vc.Sum := .pure [.str, .int .u8] false fun x => WZ x.1 x.2
def iT : List (Nat × Ent) := (45, .sum rJ) :: lG
def mW (s : List Int) (c : Int) : Done := rI (aH s c)
def wP : Vc.Sum := .pure [au, .int .u8] false fun x => mW x.1 x.2
def wQ (s : List Int) (c : Int) : Nat -> List V -> Nat -> Option Vc.Loop := dH
def jH : List (Nat × Ent) := (49, .sum wP) :: iT
def oN (s : List Int) (t : List Int) : Done := ⟨[t.length = 1], .one (.int .i64 (aH s (t.getD 0 0))), [], []⟩
def DI : Vc.Sum := .pure [au, au] false fun x => oN x.1 x.2
def DJ (s : List Int) (t : List Int) : Nat -> List V -> Nat -> Option Vc.Loop := dH
def oO : List (Nat × Ent) := (40, .sum DI) :: jH
def oP (s : List Int) (t : List Int) : Done := ⟨[t.length = 1], .one (.int .i64 (mV s (t.getD 0 0))), [], []⟩
def DK : Vc.Sum := .pure [au, au] false fun x => oP x.1 x.2
def DL (s : List Int) (t : List Int) : Nat -> List V -> Nat -> Option Vc.Loop := dH
def oQ : List (Nat × Ent) := (26, .sum DK) :: oO
def mX (s : List Int) (t : List Int) : Done := rB (U.dh s t)
def wR : Vc.Sum := .pure [au, au] false fun x => mX x.1 x.2
def wS (s : List Int) (t : List Int) : Nat -> List V -> Nat -> Option Vc.Loop := dH
def jI : List (Nat × Ent) := (72, .sum wR) :: oQ
def lJ (s : List Int) (t : List Int) : Done := ⟨[], .one (.psl false (.int .u8) (U.cu s t)), [], []⟩
def tC : Vc.Sum := .pure [au, au] true fun x => lJ x.1 x.2
def tH (s : List Int) (t : List Int) : Nat -> List V -> Nat -> Option Vc.Loop := dH
def jd : List (Nat × Ent) := (57, .sum tC) :: jI
def mY (s : List Int) (t : List Int) : Done := ⟨[], .tup [one (.psl false (.int .u8) (U.cu s t)), one (.bool (U.dh s t))], [], []⟩
def wU : Vc.Sum := .pure [au, au] true fun x => mY x.1 x.2
def wV (s : List Int) (t : List Int) : Nat -> List V -> Nat -> Option Vc.Loop := dH
def jJ : List (Nat × Ent) := (56, .sum wU) :: jd
def uH (s : List Int) (t : List Int) : Done := ⟨[t.length = 1], .tup [one (.psl false (.int .u8) (U.aC s (t.getD 0 0))), one (.psl false (.int .u8) (U.bK s (t.getD 0 0))), one (.bool (decide (aH s (t.getD 0 0) >= 0)))], [], []⟩
def JE : Vc.Sum := .pure [au, au] true fun x => uH x.1 x.2
def JF (s : List Int) (t : List Int) : Nat -> List V -> Nat -> Option Vc.Loop := dH
def uI : List (Nat × Ent) := (58, .sum JE) :: jJ
def iF (s : List Int) : Done := ⟨[∀ c ∈ s, 0 <= c /\ c < 128], .tup [⟨true, [.arr 256 true .bool (U.iD s)]⟩, one (.bool true)], [], []⟩
def pI : Vc.Sum := .pure [.str] false fun x => iF x
def pJ (s : List Int) : Nat -> List V -> Nat -> Option Vc.Loop := fun f v k => cond (Nat.beq f 64 && Nat.beq k 2) (some (yR s)) <| none
def fD : List (Nat × Ent) := (64, .sum pI) :: uI
def wW (c : List Int) : Done := ⟨[], .one .dn, [], []⟩
def BA (c : List Int) : List V := [⟨false, [.dn]⟩, ⟨false, [.str c]⟩]
def BD (c : List Int) : List Entry := []
def DN (c : List Int) : Nat -> List V -> Nat -> Option Vc.Loop := dH
def sG : List V -> List Entry -> Option Done
 | [⟨false, [.dn]⟩, ⟨false, [.str c]⟩], [] => cond (true) (some (wW c)) none
 | _, _ => none
theorem wX {args : List V} {es : List Entry} {d : Done} (h : sG args es = some d) : ∃ c, args = BA c /\ es = BD c /\ d = wW c := by
 unfold sG at h
 split at h
 ·obtain ⟨hb, hd⟩ := LX h; simp only [Bool.and_eq_true, Nat.beq_eq] at hb; (try obtain rfl := hb); subst hd; (try subst_vars); exact ⟨_, rfl, rfl, rfl⟩
 ·cases h
def oU (l : List Int) (c : List Int) : Done := ⟨[c = [32, 9]], .one (.vw 0 (U.aA (l.take (U.aK l))) (U.trimB l).length), [.row 5 (.int .u8) true true l], []⟩
def BF (l : List Int) (c : List Int) : List V := [⟨false, [.own 0]⟩, ⟨false, [.str c]⟩]
def BG (l : List Int) (c : List Int) : List Entry := [.row 5 (.int .u8) true true l]
def DR (l : List Int) (c : List Int) : Nat -> List V -> Nat -> Option Vc.Loop := fun f v k => cond (Nat.beq f 66 && Nat.beq k 1) (some (wO l)) <| cond (Nat.beq f 65 && Nat.beq k 1) (some (xP l)) <| none
def sH : List V -> List Entry -> Option Done
 | [⟨false, [.own n1]⟩, ⟨false, [.str c]⟩], [.row n2 (.int .u8) true true l] => cond (Nat.beq n1 0 && Nat.beq n2 5) (some (oU l c)) none
 | _, _ => none
theorem wY {args : List V} {es : List Entry} {d : Done} (h : sH args es = some d) : ∃ l c, args = BF l c /\ es = BG l c /\ d = oU l c := by
 unfold sH at h
 split at h
 ·obtain ⟨hb, hd⟩ := LX h; simp only [Bool.and_eq_true, Nat.beq_eq] at hb; (try obtain ⟨rfl, rfl⟩ := hb); subst hd; (try subst_vars); exact ⟨_, _, rfl, rfl, rfl⟩
 ·cases h
def qF (args : List V) (es : List Entry) : Option Done := orE (sG args es) (orE (sH args es) (none))
def Gp : Vc.Sum := .gen qF
def qG : List (Nat × Ent) := (47, .sum Gp) :: fD
def DT (t : List Int) (s : List Int) (n : Int) : List (aJ [au]) := U.ah (t.getD 0 0) s
def kL (t : List Int) (s : List Int) (n : Int) : List Prop := [t.length = 1, n = 1]
def gB : yE := ⟨[au, au, .int .i64], [au], fun x => kL x.1 x.2.1 x.2.2, fun x => DT x.1 x.2.1 x.2.2⟩
def tJ (t : List Int) (s : List Int) (n : Int) : Nat -> List V -> Nat -> Option Vc.Loop := fun f v k => cond (Nat.beq f 54 && Nat.beq k 5) (some (AY s (t.getD 0 0))) <| none
def je : List (Nat × Ent) := (54, .seq gB) :: qG
end Go.Proofs.YtggccomebfpfpaaDoor
set_option maxRecDepth 100000
set_option linter.unusedVariables false
namespace Go.Proofs.YtggccomebfpfpaaDoor
open Go.Vc
def tK (s : List Int) (c : Int) : Prop := aH s c = aH s c /\ True
def sJ (s : List Int) (t : List Int) : Prop := bif decide ((↑t.length : Int) = (0 : Int)) then (0 : Int) = aH s (t.getD (0 : Nat) (0 : Int)) /\ True else bif decide ((↑t.length : Int) = (1 : Int)) then (0 : Int) <= (0 : Int) /\ (0 : Int) < (↑t.length : Int) /\ aH s (t.getD (0 : Nat) (0 : Int)) = aH s (t.getD (0 : Nat) (0 : Int)) /\ True else bif decide ((↑t.length : Int) = (↑s.length :
 Int)) then bif t.beq s then (0 : Int) = aH s (t.getD (0 : Nat) (0 : Int)) /\ True else (-1 : Int) = aH s (t.getD (0 : Nat) (0 : Int)) /\ True else bif decide ((↑t.length : Int) > (↑s.length : Int)) then (-1 : Int) = aH s (t.getD (0 : Nat) (0 : Int)) /\ True else False
def sK (s : List Int) (t : List Int) : Prop := bif decide ((↑t.length : Int) = (0 : Int)) then False else bif decide ((↑t.length : Int) = (1 : Int)) then (0 : Int) <= (0 : Int) /\ (0 : Int) < (↑t.length : Int) /\ (↑(List.filter (fun (x : Int) => decide (x = t.getD (0 : Nat) (0 : Int))) s).length : Int) = (↑(List.filter (fun (x : Int) => decide (x = t.getD (0 : Nat) (0 : Int))) s).length :
 Int) /\ True else False
def lK (s : List Int) (t : List Int) : Prop := (decide ((↑s.length : Int) >= (↑t.length : Int)) = true -> (0 : Int) <= IntKind.i64.wrap ((↑s.length : Int).sub (↑t.length : Int))) /\ (decide ((↑s.length : Int) >= (↑t.length : Int)) = true -> IntKind.i64.wrap ((↑s.length : Int).sub (↑t.length : Int)) <= (↑s.length : Int)) /\ (decide ((↑s.length : Int) >= (↑t.length : Int)) = true -> (↑s.length :
 Int) <= (↑s.length : Int)) /\ bif decide ((↑s.length : Int) >= (↑t.length : Int)) then (List.take ((↑s.length : Int).toNat.sub (IntKind.i64.wrap ((↑s.length : Int).sub (↑t.length : Int))).toNat) (List.drop (IntKind.i64.wrap ((↑s.length : Int).sub (↑t.length : Int))).toNat s)).beq t = U.dh s t /\ True else false = U.dh s t /\ True
def kM (s : List Int) (t : List Int) : Prop := bif U.dh s t then (0 : Int) <= (0 : Int) /\ (0 : Int) <= IntKind.i64.wrap ((↑s.length : Int).sub (↑t.length : Int)) /\ IntKind.i64.wrap ((↑s.length : Int).sub (↑t.length : Int)) <= (↑s.length : Int) /\ List.take ((IntKind.i64.wrap ((↑s.length : Int).sub (↑t.length : Int))).toNat.sub (0 : Nat)) (List.drop (0 : Nat) s) = U.cu s t /\ True
 else s = U.cu s t /\ True
def lM (s : List Int) (t : List Int) : Prop := bif !U.dh s t then s = U.cu s t /\ false = U.dh s t /\ True else (0 : Int) <= (0 : Int) /\ (0 : Int) <= IntKind.i64.wrap ((↑s.length : Int).sub (↑t.length : Int)) /\ IntKind.i64.wrap ((↑s.length : Int).sub (↑t.length : Int)) <= (↑s.length : Int) /\ List.take ((IntKind.i64.wrap ((↑s.length : Int).sub (↑t.length : Int))).toNat.sub (0 :
 Nat)) (List.drop (0 : Nat) s) = U.cu s t /\ true = U.dh s t /\ True
def yS (s : List Int) (t : List Int) : Prop := t.length = (1 : Nat) /\ bif decide (aH s (t.getD (0 : Nat) (0 : Int)) >= (0 : Int)) then (0 : Int) <= (0 : Int) /\ (0 : Int) <= aH s (t.getD (0 : Nat) (0 : Int)) /\ aH s (t.getD (0 : Nat) (0 : Int)) <= (↑s.length : Int) /\ (0 : Int) <= IntKind.i64.wrap ((aH s (t.getD (0 : Nat) (0 : Int))).add (↑t.length : Int)) /\ IntKind.i64.wrap ((aH s
 (t.getD (0 : Nat) (0 : Int))).add (↑t.length : Int)) <= (↑s.length : Int) /\ (↑s.length : Int) <= (↑s.length : Int) /\ List.take ((aH s (t.getD (0 : Nat) (0 : Int))).toNat.sub (0 : Nat)) (List.drop (0 : Nat) s) = U.aC s (t.getD (0 : Nat) (0 : Int)) /\ List.take ((↑s.length : Int).toNat.sub (IntKind.i64.wrap ((aH s (t.getD (0 : Nat) (0 : Int))).add (↑t.length : Int))).toNat) (List.drop
 (IntKind.i64.wrap ((aH s (t.getD (0 : Nat) (0 : Int))).add (↑t.length : Int))).toNat s) = U.bK s (t.getD (0 : Nat) (0 : Int)) /\ true = decide (aH s (t.getD (0 : Nat) (0 : Int)) >= (0 : Int)) /\ True else s = U.aC s (t.getD (0 : Nat) (0 : Int)) /\ [] = U.bK s (t.getD (0 : Nat) (0 : Int)) /\ false = decide (aH s (t.getD (0 : Nat) (0 : Int)) >= (0 : Int)) /\ True
def jK (s : List Int) : Prop := ∃ (x0 : List Bool × Int), (U.dO s [false, false, false, false, false, false, false, false, false, false, false, false, false, false, false, false, false, false, false, false, false, false, false, false, false, false, false, false, false, false, false, false, false, false, false, false, false, false, false, false, false, false,
 false, false, false, false, false, false, false, false, false, false, false, false, false, false, false, false, false, false, false, false, false, false, false, false, false, false, false, false, false, false, false, false, false, false, false, false, false, false, false, false, false, false, false, false, false, false, false, false, false, false, false, false, false, false, false, false, false,
 false, false, false, false, false, false, false, false, false, false, false, false, false, false, false, false, false, false, false, false, false, false, false, false, false, false, false, false, false, false, false, false, false, false, false, false, false, false, false, false, false, false, false, false, false, false, false, false, false, false, false, false, false, false, false, false, false,
 false, false, false, false, false, false, false, false, false, false, false, false, false, false, false, false, false, false, false, false, false, false, false, false, false, false, false, false, false, false, false, false, false, false, false, false, false, false, false, false, false, false, false, false, false, false, false, false, false, false, false, false, false, false, false, false, false,
 false, false, false, false, false, false, false, false, false, false, false, false, false, false, false, false, false, false, false, false, false, false, false, false, false, false, false, false, false, false, false, false, false, false, false, false, false, false, false, false, false, false, false] (0 : Int) = U.dO s x0.1 x0.2 /\ U.fZ s x0.1 x0.2) /\ ∀ (x :
 List Bool × Int), U.fZ s x.1 x.2 -> bif decide (x.2 < (↑s.length : Int)) then (0 : Int) <= x.2 /\ x.2 < (↑s.length : Int) /\ bif decide (s.getD x.2.toNat (0 : Int) >= (128 : Int)) then x.1 = U.iD s /\ false = true /\ True else (0 : Int) <= s.getD x.2.toNat (0 : Int) /\ s.getD x.2.toNat (0 : Int) < (↑(256 : Nat) : Int) /\ (s.getD x.2.toNat (0 : Int)).toNat < (256 : Nat) /\ ∃ (y : List
 Bool × Int), U.dO s (x.1.set (s.getD x.2.toNat (0 : Int)).toNat true) (IntKind.i64.wrap (x.2.add (1 : Int))) = U.dO s y.1 y.2 /\ U.fZ s y.1 y.2 /\ s.length.sub y.2.toNat < s.length.sub x.2.toNat else x.1 = U.iD s /\ true = true /\ True
def sN (c : List Int) : Prop := bif decide ((0 : Int) = (0 : Int)) then True else bif c.beq [] then True else (decide ((↑c.length : Int) = (1 : Int)) = true -> (0 : Int) <= (0 : Int)) /\ (decide ((↑c.length : Int) = (1 : Int)) = true -> (0 : Int) < (↑c.length : Int)) /\ bif bif decide ((↑c.length : Int) = (1 : Int)) then decide (c.getD (0 : Nat) (0 : Int) < (128 : Int)) else false then False
 else (∀ (c_1 : Int), List.Mem c_1 c -> (0 : Int) <= c_1 /\ c_1 < (128 : Int)) /\ False
def sO (l : List Int) (c : List Int) : Prop := bif decide ((↑l.length : Int) = (0 : Int)) then (U.trimB l).length = (0 : Nat) /\ l = l /\ True else bif c.beq [] then False else (decide ((↑c.length : Int) = (1 : Int)) = true -> (0 : Int) <= (0 : Int)) /\ (decide ((↑c.length : Int) = (1 : Int)) = true -> (0 : Int) < (↑c.length : Int)) /\ bif bif decide ((↑c.length : Int) = (1 : Int)) then decide
 (c.getD (0 : Nat) (0 : Int) < (128 : Int)) else false then False else (∀ (c_1 : Int), List.Mem c_1 c -> (0 : Int) <= c_1 /\ c_1 < (128 : Int)) /\ ∃ (x0 : Nat × Nat), ((⟨⟨[some (SV.v { agg := false, ls := [.sl (0 : Nat) (0 : Nat) l.length] })] ++ [U.sP 1 0] ++ U.n 21, [], [((0 : Nat), .row (5 : Nat) (.int .u8) true true l), ((1 : Nat), .obj [.arr (256 : Nat) (true || true) Ty.bool (U.iD c)])]⟩, (2 :
 Nat), []⟩ : St2) = U.eu l x0.1 x0.2 /\ U.fA l x0.1 x0.2) /\ ∀ (x : Nat × Nat), U.fA l x.1 x.2 -> bif decide ((↑x.2 : Int) > (0 : Int)) then (0 : Int) <= IntKind.i64.wrap ((↑x.2 : Int).sub (1 : Int)) /\ IntKind.i64.wrap ((↑x.2 : Int).sub (1 : Int)) < (↑x.2 : Int) /\ x.1.add (IntKind.i64.wrap ((↑x.2 : Int).sub (1 : Int))).toNat < l.length /\ (0
 : Int) <= l.getD (x.1.add (IntKind.i64.wrap ((↑x.2 : Int).sub (1 : Int))).toNat) (0 : Int) /\ l.getD (x.1.add (IntKind.i64.wrap ((↑x.2 : Int).sub (1 : Int))).toNat) (0 : Int) < (↑(256 : Nat) : Int) /\ (l.getD (x.1.add (IntKind.i64.wrap ((↑x.2 : Int).sub (1 : Int))).toNat) (0 : Int)).toNat < (256 : Nat) /\ bif !(U.iD [(32 : Int), (9 : Int)]).getD (l.getD (x.1.add (IntKind.i64.wrap ((↑x.2 : Int).sub
 (1 : Int))).toNat) (0 : Int)).toNat false then ∃ (x0 : Nat × Nat), (U.aS l x.1 x.2 = U.aS l x0.1 x0.2 /\ U.bg l x0.1 x0.2) /\ ∀ (x : Nat × Nat), U.bg l x.1 x.2 -> bif decide ((↑x.2 : Int) > (0 : Int)) then (0 : Int) <= (0 : Int) /\ (0 : Int) < (↑x.2 : Int) /\ x.1.add (0 : Nat) < l.length /\ (0 : Int) <= l.getD (x.1.add (0 :
 Nat)) (0 : Int) /\ l.getD (x.1.add (0 : Nat)) (0 : Int) < (↑(256 : Nat) : Int) /\ (l.getD (x.1.add (0 : Nat)) (0 : Int)).toNat < (256 : Nat) /\ bif !(U.iD [(32 : Int), (9 : Int)]).getD (l.getD (x.1.add (0 : Nat)) (0 : Int)).toNat false then bif decide ((↑x.2 : Int) = (0 : Int)) then (U.trimB l).length = (0 : Nat) /\ l = l /\ True else x.1 = U.aA (List.take (U.aK l) l) /\ x.2 = (U.trimB
 l).length /\ l = l /\ True else (0 : Int) <= (1 : Int) /\ (1 : Int) <= (↑x.2 : Int) /\ (↑x.2 : Int) <= (↑x.2 : Int) /\ ∃ (y : Nat × Nat), U.aS l (x.1.add (1 : Nat)) ((↑x.2 : Int).toNat.sub (1 : Nat)) = U.aS l y.1 y.2 /\ U.bg l y.1 y.2 /\ y.2 < x.2 else bif decide ((↑x.2 : Int) = (0 : Int)) then (U.trimB l).length = (0 : Nat) /\ l = l /\ True else
 x.1 = U.aA (List.take (U.aK l) l) /\ x.2 = (U.trimB l).length /\ l = l /\ True else (0 : Int) <= (0 : Int) /\ (0 : Int) <= IntKind.i64.wrap ((↑x.2 : Int).sub (1 : Int)) /\ IntKind.i64.wrap ((↑x.2 : Int).sub (1 : Int)) <= (↑x.2 : Int) /\ ∃ (y : Nat × Nat), U.eu l (x.1.add (0 : Nat)) ((IntKind.i64.wrap ((↑x.2 : Int).sub (1 : Int))).toNat.sub (0 : Nat)) = U.eu
 l y.1 y.2 /\ U.fA l y.1 y.2 /\ y.2 < x.2 else ∃ (x0 : Nat × Nat), (U.aS l x.1 x.2 = U.aS l x0.1 x0.2 /\ U.bg l x0.1 x0.2) /\ ∀ (x : Nat × Nat), U.bg l x.1 x.2 -> bif decide ((↑x.2 : Int) > (0 : Int)) then (0 : Int) <= (0 : Int) /\ (0 : Int) < (↑x.2 : Int) /\ x.1.add (0 : Nat) < l.length /\ (0 : Int) <=
 l.getD (x.1.add (0 : Nat)) (0 : Int) /\ l.getD (x.1.add (0 : Nat)) (0 : Int) < (↑(256 : Nat) : Int) /\ (l.getD (x.1.add (0 : Nat)) (0 : Int)).toNat < (256 : Nat) /\ bif !(U.iD [(32 : Int), (9 : Int)]).getD (l.getD (x.1.add (0 : Nat)) (0 : Int)).toNat false then bif decide ((↑x.2 : Int) = (0 : Int)) then (U.trimB l).length = (0 : Nat) /\ l = l /\ True else x.1 = U.aA (List.take (U.aK l) l) /\
 x.2 = (U.trimB l).length /\ l = l /\ True else (0 : Int) <= (1 : Int) /\ (1 : Int) <= (↑x.2 : Int) /\ (↑x.2 : Int) <= (↑x.2 : Int) /\ ∃ (y : Nat × Nat), U.aS l (x.1.add (1 : Nat)) ((↑x.2 : Int).toNat.sub (1 : Nat)) = U.aS l y.1 y.2 /\ U.bg l y.1 y.2 /\ y.2 < x.2 else bif decide ((↑x.2 : Int) = (0 : Int)) then (U.trimB l).length = (0 : Nat) /\ l = l
 /\ True else x.1 = U.aA (List.take (U.aK l) l) /\ x.2 = (U.trimB l).length /\ l = l /\ True
def kN (t : List Int) (s : List Int) (n : Int) : Prop := bif decide ((↑t.length : Int) = (0 : Int)) then False else ∃ (x0 : List Int × Nat), ((⟨⟨[some (SV.v { agg := false, ls := [Leaf.yld] })] ++ [U.sP 0 0] ++ [U.sP 1 0] ++ [U.sP 2 0] ++ U.n 59, [], [((0 : Nat), .obj [.psl false (.int .u8) t]), ((1 : Nat), .obj [.psl false (.int .u8) s]), ((2 : Nat), .obj [.int .i64 n])]⟩, (3 :
 Nat), [(0 : Nat), (0 : Nat)]⟩ : St2) = U.gK s (t.getD (0 : Nat) (0 : Int)) x0.1 x0.2 /\ U.iE s (t.getD (0 : Nat) (0 : Int)) x0.1 x0.2) /\ ∀ (x : List Int × Nat), U.iE s (t.getD (0 : Nat) (0 : Int)) x.1 x.2 -> (1 : Nat) = (1 : Nat) /\ bif decide (aH x.1 ([t.getD (0 : Nat) (0 : Int)].getD (0 : Nat) (0 : Int)) < (0 : Int)) then (0 : Int) <= (0 : Int) /\
 (0 : Int) <= (↑x.1.length : Int) /\ (↑x.1.length : Int) <= (↑x.1.length : Int) /\ (↑x.1.length : Int) <= (↑x.1.length : Int) /\ x.2 < (U.ah (t.getD (0 : Nat) (0 : Int)) s).length /\ (U.ah (t.getD (0 : Nat) (0 : Int)) s).getD x.2 [] = List.take ((↑x.1.length : Int).toNat.sub (0 : Nat)) (List.drop (0 : Nat) x.1) /\ x.2.add (1 : Nat) = (U.ah (t.getD (0 : Nat) (0 : Int)) s).length /\ true = true
 else (0 : Int) <= (0 : Int) /\ (0 : Int) <= IntKind.i64.wrap ((aH x.1 ([t.getD (0 : Nat) (0 : Int)].getD (0 : Nat) (0 : Int))).add (1 : Int)) /\ IntKind.i64.wrap ((aH x.1 ([t.getD (0 : Nat) (0 : Int)].getD (0 : Nat) (0 : Int))).add (1 : Int)) <= (↑x.1.length : Int) /\ (0 : Int) <= (0 : Int) /\ (0 : Int) <= (↑(List.take ((IntKind.i64.wrap ((aH x.1 ([t.getD (0 : Nat) (0 : Int)].getD (0 : Nat) (0 :
 Int))).add (1 : Int))).toNat.sub (0 : Nat)) (List.drop (0 : Nat) x.1)).length : Int) /\ (↑(List.take ((IntKind.i64.wrap ((aH x.1 ([t.getD (0 : Nat) (0 : Int)].getD (0 : Nat) (0 : Int))).add (1 : Int))).toNat.sub (0 : Nat)) (List.drop (0 : Nat) x.1)).length : Int) <= (↑(List.take ((IntKind.i64.wrap ((aH x.1 ([t.getD (0 : Nat) (0 : Int)].getD (0 : Nat) (0 : Int))).add (1 : Int))).toNat.sub (0 :
 Nat)) (List.drop (0 : Nat) x.1)).length : Int) /\ (↑(List.take ((IntKind.i64.wrap ((aH x.1 ([t.getD (0 : Nat) (0 : Int)].getD (0 : Nat) (0 : Int))).add (1 : Int))).toNat.sub (0 : Nat)) (List.drop (0 : Nat) x.1)).length : Int) <= (↑(List.take ((IntKind.i64.wrap ((aH x.1 ([t.getD (0 : Nat) (0 : Int)].getD (0 : Nat) (0 : Int))).add (1 : Int))).toNat.sub (0 : Nat)) (List.drop (0 : Nat) x.1)).length :
 Int) /\ x.2 < (U.ah (t.getD (0 : Nat) (0 : Int)) s).length /\ (U.ah (t.getD (0 : Nat) (0 : Int)) s).getD x.2 [] = List.take ((↑(List.take ((IntKind.i64.wrap ((aH x.1 ([t.getD (0 : Nat) (0 : Int)].getD (0 : Nat) (0 : Int))).add (1 : Int))).toNat.sub (0 : Nat)) (List.drop (0 : Nat) x.1)).length : Int).toNat.sub (0 : Nat)) (List.drop (0 : Nat) (List.take ((IntKind.i64.wrap ((aH x.1 ([t.getD
 (0 : Nat) (0 : Int)].getD (0 : Nat) (0 : Int))).add (1 : Int))).toNat.sub (0 : Nat)) (List.drop (0 : Nat) x.1))) /\ ((0 : Int) <= IntKind.i64.wrap ((aH x.1 ([t.getD (0 : Nat) (0 : Int)].getD (0 : Nat) (0 : Int))).add (↑((1 : Nat)) : Int)) /\ IntKind.i64.wrap ((aH x.1 ([t.getD (0 : Nat) (0 : Int)].getD (0 : Nat) (0 : Int))).add (↑((1 : Nat)) : Int)) <= (↑x.1.length : Int) /\ (↑x.1.length : Int) <=
 (↑x.1.length : Int) /\ ∃ (y : List Int × Nat), U.gK s (t.getD (0 : Nat) (0 : Int)) (List.take ((↑x.1.length : Int).toNat.sub (IntKind.i64.wrap ((aH x.1 ([t.getD (0 : Nat) (0 : Int)].getD (0 : Nat) (0 : Int))).add (↑((1 : Nat)) : Int))).toNat) (List.drop (IntKind.i64.wrap ((aH x.1 ([t.getD (0 : Nat) (0 : Int)].getD (0 : Nat) (0 : Int))).add (↑((1 : Nat)) : Int))).toNat x.1))
 (x.2.add (1 : Nat)) = U.gK s (t.getD (0 : Nat) (0 : Int)) y.1 y.2 /\ U.iE s (t.getD (0 : Nat) (0 : Int)) y.1 y.2 /\ y.1.length < x.1.length) /\ true = true
end Go.Proofs.YtggccomebfpfpaaDoor
set_option linter.unusedSimpArgs false
set_option linter.unusedVariables false
set_option maxRecDepth 100000
namespace Go.Proofs.YtggccomebfpfpaaDoor
open Go.Vc
open Go.Vc.T
theorem KU (a b : List Int) : a.beq b = decide (a = b) := by rw [WB, Bool.eq_iff_iff]; simp
theorem Fa {α : Type} (l : List α) {k : Nat} (h : l.length <= k) : l.take k = l := List.take_of_length_le h
theorem kP (s : List Int) (k : Nat) : List.take ((s.length : Int).toNat.sub k) (List.drop k s) = s.drop k := by
 refine Fa _ ?_
 rw [List.length_drop, bW]; omega
theorem jy (s : List Int) (k : Nat) : List.take (k.sub 0) (List.drop 0 s) = s.take k := rfl
theorem AZ {s t : List Int} (h : U.dh s t = true) : t.length <= s.length := by
 unfold U.dh at h
 simp only [Bool.and_eq_true, decide_eq_true_eq] at h
 exact h.1
theorem jf {a b : Int} (h1 : -9223372036854775808 <= a - b) (h2 : a - b <= 9223372036854775807) : IntKind.i64.wrap (a.sub b) = a - b := VG h1 h2
theorem dW {a b : Int} (h1 : -9223372036854775808 <= a + b) (h2 : a + b <= 9223372036854775807) : IntKind.i64.wrap (a.add b) = a + b := VG h1 h2
theorem Fq (s : List Int) (c : Int) : tK s c := ⟨rfl, trivial⟩
theorem MO (s t : List Int) (h : t.length = 1) : sJ s t := by
 unfold sJ
 rw [decide_eq_false (by omega : ¬ (t.length : Int) = 0), decide_eq_true (by omega : (t.length : Int) = 1)]
 show (0 : Int) <= 0 /\ (0 : Int) < t.length /\ _ = _ /\ True
 exact ⟨by omega, by omega, rfl, trivial⟩
theorem MP (s t : List Int) (h : t.length = 1) : sK s t := by
 unfold sK
 rw [decide_eq_false (by omega : ¬ (t.length : Int) = 0), decide_eq_true (by omega : (t.length : Int) = 1)]
 show (0 : Int) <= 0 /\ (0 : Int) < t.length /\ _ = _ /\ True
 exact ⟨by omega, by omega, rfl, trivial⟩
theorem Fv (s t : List Int) (hs : s.length <= maxLen) (ht : t.length <= maxLen) : lK s t := by
 unfold lK
 rw [maxLen_eq] at hs ht
 by_cases h : t.length <= s.length
 ·rw [decide_eq_true (by omega : (s.length : Int) >= t.length), jf (by omega) (by omega)]
  refine ⟨fun _ => by omega, fun _ => by omega, fun _ => by omega, ?_, trivial⟩
  rw [show ((s.length : Int) - t.length).toNat = s.length - t.length by omega, kP, KU]
  unfold U.dh; rw [decide_eq_true h]; rfl
 ·rw [decide_eq_false (by omega : ¬ (s.length : Int) >= t.length)]
  refine ⟨by simp, by simp, by simp, ?_⟩
  show false = U.dh s t /\ True
  unfold U.dh; rw [decide_eq_false h]; exact ⟨rfl, trivial⟩
theorem DU (s t : List Int) (hs : s.length <= maxLen) (ht : t.length <= maxLen) : kM s t := by
 unfold kM
 rw [maxLen_eq] at hs ht
 unfold U.cu
 cases he : U.dh s t with
 | true =>
   have hl := AZ he
   rw [jf (by omega) (by omega)]
   refine ⟨by omega, by omega, by omega, ?_, trivial⟩
   rw [jy, show ((s.length : Int) - t.length).toNat = s.length - t.length by omega]; rfl
 | false => exact ⟨rfl, trivial⟩
theorem Fz (s t : List Int) (hs : s.length <= maxLen) (ht : t.length <= maxLen) : lM s t := by
 unfold lM
 rw [maxLen_eq] at hs ht
 unfold U.cu
 cases he : U.dh s t with
 | true =>
   have hl := AZ he
   rw [jf (by omega) (by omega)]
   refine ⟨by omega, by omega, by omega, ?_, rfl, trivial⟩
   rw [jy, show ((s.length : Int) - t.length).toNat = s.length - t.length by omega]; rfl
 | false => exact ⟨rfl, rfl, trivial⟩
theorem Rk (s t : List Int) (hs : s.length <= maxLen) (h : t.length = 1) : yS s t := by
 unfold yS
 rw [maxLen_eq] at hs
 have hb := bG s (t.getD 0 0)
 refine ⟨h, ?_⟩
 unfold U.aC U.bK
 by_cases hi : aH s (t.getD 0 0) >= 0
 ·rw [decide_eq_true hi, h, dW (by omega) (by omega)]
  refine ⟨by omega, by omega, by omega, by omega, by omega, by omega, ?_, ?_, rfl, trivial⟩
  ·rw [jy]; rfl
  ·rw [kP]; rfl
 ·rw [decide_eq_false hi]; exact ⟨rfl, rfl, rfl, trivial⟩
theorem A8 (s : List Int) (hs : s.length <= maxLen) (hc : ∀ c ∈ s, 0 <= c /\ c < 128) : jK s := by
 unfold jK
 rw [maxLen_eq] at hs
 refine ⟨(List.replicate 256 false, 0), ⟨rfl, ⟨Int.le_refl 0, by show (0 : Int) <= _; omega⟩, rfl⟩, ?_⟩
 rintro ⟨a, i⟩ ⟨⟨i0, i1⟩, ha⟩
 dsimp only at i0 i1 ha ⊢
 rw [cond_prop]
 refine ⟨fun hi => ?_, fun hi => ?_⟩
 ·have hi : i < s.length := of_decide_eq_true hi
  have hx := hc (s[i.toNat]'(by omega)) (List.getElem_mem _)
  rw [getD_at (by omega : i.toNat < s.length)]
  refine ⟨i0, hi, ?_⟩
  rw [decide_eq_false (by omega : ¬ s[i.toNat] >= 128), dW (by omega) (by omega)]
  refine ⟨hx.1, by omega, by omega, (a.set s[i.toNat].toNat true, i + 1), rfl, ⟨⟨by show 0 <= i + 1; omega, by show i + 1 <= _; omega⟩, ?_⟩, by simp only [bW]; omega⟩
  show a.set _ true = U.iD (s.take (i + 1).toNat)
  rw [take_at i0 hi]; unfold U.iD at *; rw [List.foldl_append, <- ha]; rfl
 ·have hi : ¬ i < s.length := of_decide_eq_false hi
  rw [ql (by omega)] at ha
  exact ⟨ha, rfl, trivial⟩
theorem qm : ∀ l : List Int, U.aA l <= l.length
 | [] => Nat.le_refl 0
 | x :: r => by
   have ih := qm r
   unfold U.aA; rw [List.length_cons]
   cases U.blank x
   ·exact Nat.zero_le _
   ·show U.aA r + 1 <= _; omega
theorem wZ (l : List Int) : U.aK l <= l.length := by unfold U.aK; omega
theorem JG (a : List Int) (x : Int) : U.aK (a ++ [x]) = cond (U.blank x) (U.aK a) (a.length + 1) := by
 unfold U.aK
 rw [List.reverse_append, List.length_append]
 show a.length + 1 - U.aA (x :: a.reverse) = _
 rw [U.aA]
 cases U.blank x
 ·rfl
 ·show a.length + 1 - (U.aA a.reverse + 1) = a.length - _; omega
theorem Td {x : Int} (h0 : 0 <= x) (h1 : x < 256) : (U.iD [32, 9]).getD x.toNat false = U.blank x := by
 have key : ∀ k : Fin 256, (U.iD [32, 9]).getD k.val false = U.blank (k.val : Int) := by decide +kernel
 have := key ⟨x.toNat, by omega⟩
 rw [show ((x.toNat : Nat) : Int) = x by omega] at this
 exact this
theorem LY (l : List Int) : (U.trimB l).length = U.aK l - U.aA (l.take (U.aK l)) := by
 unfold U.trimB
 have := wZ l
 rw [List.length_drop, List.length_take]; omega
theorem MQ (c : List Int) : sN c := by unfold sN; exact trivial
theorem MR (l c : List Int) (hv : Valid (.slice (.int .u8)) l) (hc : c = [32, 9]) : sO l c := by
 subst hc
 have hl : l.length <= 9223372036854775807 := hv.2
 have hT := wZ l
 have hb : ∀ k, k < l.length -> 0 <= l.getD k 0 /\ l.getD k 0 <= 255 := fun k hk => by rw [getD_at hk]; exact vU8 (hv.1 _ (List.getElem_mem _))
 unfold sO
 rw [cond_prop]
 refine ⟨fun h0 => ?_, fun h0 => ?_⟩
 ·have h0 : (l.length : Int) = 0 := of_decide_eq_true h0
  have : l = [] := List.length_eq_zero_iff.1 (by omega)
  subst this; exact ⟨rfl, rfl, trivial⟩
 have h0 : ¬ (l.length : Int) = 0 := of_decide_eq_false h0
 show (decide (((([32, 9] : List Int).length : Nat) : Int) = 1) = true -> _) /\ _
 refine ⟨fun _ => by omega, fun _ => by decide, ?_⟩
 show (∀ c : Int, List.Mem c [32, 9] -> 0 <= c /\ c < 128) /\ _
 refine ⟨fun c hc => ?_, ?_⟩
 ·have hc : c ∈ [32, 9] := hc
  simp only [List.mem_cons, List.not_mem_nil, or_false] at hc
  rcases hc with rfl | rfl <;> omega
 have left : ∀ n : Nat, n = U.aK l -> ∃ (x0 : Nat × Nat), (U.aS l 0 n = U.aS l x0.1 x0.2 /\ U.bg l x0.1 x0.2) /\ ∀ (x : Nat × Nat), U.bg l x.1 x.2 ->
  bif decide ((x.2 : Int) > 0) then (0 : Int) <= 0 /\ (0 : Int) < (x.2 : Int) /\ x.1.add 0 < l.length /\ (0 : Int) <= l.getD (x.1.add 0) 0 /\ l.getD (x.1.add 0) 0 < ((256 : Nat) : Int) /\ (l.getD (x.1.add 0) 0).toNat < 256 /\
   bif !(U.iD [32, 9]).getD (l.getD (x.1.add 0) 0).toNat false then bif decide ((x.2 : Int) = 0) then (U.trimB l).length = 0 /\ l = l /\ True else x.1 = U.aA (List.take (U.aK l) l) /\ x.2 = (U.trimB l).length /\ l = l /\ True
   else (0 : Int) <= 1 /\ (1 : Int) <= (x.2 : Int) /\ (x.2 : Int) <= (x.2 : Int) /\ ∃ (y : Nat × Nat), U.aS l (x.1.add 1) ((x.2 : Int).toNat.sub 1) = U.aS l y.1 y.2 /\ U.bg l y.1 y.2 /\ y.2 < x.2
  else bif decide ((x.2 : Int) = 0) then (U.trimB l).length = 0 /\ l = l /\ True else x.1 = U.aA (List.take (U.aK l) l) /\ x.2 = (U.trimB l).length /\ l = l /\ True := by
  intro n hn
  refine ⟨(0, n), ⟨rfl, by show 0 + n = _; omega, Nat.zero_le _, by show U.aA ((l.take (U.aK l)).drop 0) + 0 = _; rw [List.drop_zero, Nat.add_zero]⟩, ?_⟩
  rintro ⟨lo, n⟩ ⟨e1, e2, e3⟩
  dsimp only at e1 e2 e3 ⊢
  have hml : (l.take (U.aK l)).length = U.aK l := by rw [List.length_take]; omega
  have fin : U.aA ((l.take (U.aK l)).drop lo) = 0 -> bif decide ((n : Int) = 0) then (U.trimB l).length = 0 /\ l = l /\ True else lo = U.aA (List.take (U.aK l) l) /\ n = (U.trimB l).length /\ l = l /\ True := by
   intro hz
   rw [cond_prop, LY]
   refine ⟨fun h => ⟨?_, rfl, trivial⟩, fun h => ⟨by omega, by omega, rfl, trivial⟩⟩
   have h : (n : Int) = 0 := of_decide_eq_true h
   omega
  rw [cond_prop]
  refine ⟨fun hn => ?_, fun hn => ?_⟩
  ·have hn : (n : Int) > 0 := of_decide_eq_true hn
   have hlo : lo < l.length := by omega
   have hbb := hb lo hlo
   have hd : (l.take (U.aK l)).drop lo = l.getD lo 0 :: (l.take (U.aK l)).drop (lo + 1) := by
    rw [List.drop_eq_getElem_cons (by omega), getD_at hlo, List.getElem_take]
   show (0 : Int) <= 0 /\ _
   rw [show lo.add 0 = lo from rfl]
   refine ⟨by omega, by omega, hlo, hbb.1, by omega, by omega, ?_⟩
   rw [Td hbb.1 (by omega)]
   cases hbl : U.blank (l.getD lo 0) with
   | false =>
     refine fin ?_
     rw [hd, U.aA, hbl]; rfl
   | true =>
     have hN : U.aA ((l.take (U.aK l)).drop lo) = U.aA ((l.take (U.aK l)).drop (lo + 1)) + 1 := by rw [hd, U.aA, hbl]; rfl
     show (0 : Int) <= 1 /\ _
     exact ⟨by omega, by omega, by omega, (lo + 1, n - 1), rfl, ⟨by show lo + 1 + (n - 1) = _; omega, by show lo + 1 <= _; omega, by show U.aA ((l.take (U.aK l)).drop (lo + 1)) + (lo + 1) = _; omega⟩, by show n - 1 < n; omega⟩
  ·have hn : ¬ (n : Int) > 0 := of_decide_eq_false hn
   refine fin ?_
   rw [List.drop_eq_nil_of_le (by omega)]; rfl
 refine ⟨(0, l.length), ⟨rfl, rfl, Nat.le_refl _, hT, by show U.aK (l.take l.length) = _; rw [List.take_length]⟩, ?_⟩
 rintro ⟨lo, n⟩ ⟨e1, e2, e3, e4⟩
 dsimp only at e1 e2 e3 e4 ⊢
 subst e1
 rw [cond_prop]
 refine ⟨fun hn => ?_, fun hn => ?_⟩
 ·have hn : (n : Int) > 0 := of_decide_eq_true hn
  rw [jf (by omega) (by omega)]
  have hk : (0 : Nat).add ((n : Int) - 1).toNat = n - 1 := by rw [dV]; omega
  rw [hk]
  have hbb := hb (n - 1) (by omega)
  have ht : l.take n = l.take (n - 1) ++ [l.getD (n - 1) 0] := by
   have := List.take_succ_eq_append_getElem (l := l) (i := n - 1) (by omega)
   rw [show n - 1 + 1 = n by omega] at this
   rw [this, getD_at (by omega)]
  have hs := JG (l.take (n - 1)) (l.getD (n - 1) 0)
  rw [<- ht, e4] at hs
  refine ⟨by omega, by omega, by omega, hbb.1, by omega, by omega, ?_⟩
  rw [Td hbb.1 (by omega)]
  cases hbl : U.blank (l.getD (n - 1) 0) with
  | false =>
    rw [hbl, List.length_take] at hs
    have hs : U.aK l = min (n - 1) l.length + 1 := hs
    exact left n (by omega)
  | true =>
    rw [hbl] at hs
    have hs : U.aK l = U.aK (l.take (n - 1)) := hs
    have hle := wZ (l.take (n - 1))
    rw [List.length_take] at hle
    show (0 : Int) <= 0 /\ _
    refine ⟨by omega, by omega, by omega, (0, n - 1), ?_, ⟨rfl, by show n - 1 <= _; omega, by show _ <= n - 1; omega, hs.symm⟩, by show n - 1 < n; omega⟩
    rw [show ((n : Int) - 1).toNat.sub 0 = n - 1 by rw [bW]; omega]
 ·have hn : ¬ (n : Int) > 0 := of_decide_eq_false hn
  exact left n (by omega)
theorem DV (c : Int) : ∀ s, U.ah c s ≠ []
 | [] => by simp [U.ah]
 | x :: r => by rw [U.ah]; split <;> simp
theorem DW (c : Int) : ∀ s, aH s c < 0 -> U.ah c s = [s]
 | [], _ => rfl
 | x :: r, h => by
   have hb := bG r c
   unfold aH at h
   by_cases hx : x = c
   ·simp [hx] at h
   ·by_cases hi : aH r c = -1
    ·have ih := DW c r (by omega)
     rw [U.ah, if_neg hx, ih]; rfl
    ·simp [hx, hi] at h; omega
theorem Ba (c : Int) : ∀ (s : List Int), 0 <= aH s c -> U.ah c s = s.take ((aH s c).toNat + 1) :: U.ah c (s.drop ((aH s c).toNat + 1))
 | [], h => by simp [aH] at h
 | x :: r, h => by
   have hb := bG r c
   by_cases hx : x = c
   ·simp [U.ah, aH, hx]
   ·by_cases hi : aH r c = -1
    ·simp [aH, hx, hi] at h
    ·have e : aH (x :: r) c = aH r c + 1 := by simp [aH, hx, hi]
     have ih := Ba c r (by omega)
     rw [e, show (aH r c + 1).toNat = (aH r c).toNat + 1 by omega]
     rw [U.ah, if_neg hx, ih]; rfl
theorem DX (t s : List Int) (n : Int) (hs : s.length <= maxLen) (ht : t.length = 1) (hn : n = 1) : kN t s n := by
 subst hn
 obtain ⟨c, rfl⟩ : ∃ c, t = [c] := by
  match t, ht with
  | [c], _ => exact ⟨c, rfl⟩
 unfold kN
 rw [maxLen_eq] at hs
 have hg : ([c] : List Int).getD 0 0 = c := rfl
 rw [decide_eq_false (show ¬ ((([c] : List Int).length : Nat) : Int) = 0 by simp)]
 simp only [hg, cond_false]
 refine ⟨(s, 0), ⟨rfl, rfl, Nat.pos_of_ne_zero (fun h => DV c s (List.length_eq_zero_iff.1 h)), Nat.le_refl _⟩, ?_⟩
 rintro ⟨r, k⟩ ⟨e1, e2, e3⟩
 dsimp only at e1 e2 e3 ⊢
 have hb := bG r c
 have hd : (U.ah c s).drop k = (U.ah c s).getD k [] :: (U.ah c s).drop (k + 1) := by rw [List.drop_eq_getElem_cons e2, getD_at e2]
 refine ⟨trivial, ?_⟩
 rw [cond_prop]
 refine ⟨fun hi => ?_, fun hi => ?_⟩
 ·have hi : aH r c < 0 := of_decide_eq_true hi
  rw [DW c r hi, hd] at e1
  simp only [List.cons.injEq] at e1
  refine ⟨by omega, by omega, by omega, by omega, e2, ?_, ?_, trivial⟩
  ·rw [kP]; exact e1.1.symm
  ·have := congrArg List.length e1.2
   rw [List.length_drop] at this
   have h0 : 0 = (U.ah c s).length - (k + 1) := this
   show k + 1 = _; omega
 ·have hi : ¬ aH r c < 0 := of_decide_eq_false hi
  rw [Ba c r (by omega), hd] at e1
  simp only [List.cons.injEq] at e1
  have hw : IntKind.i64.wrap ((aH r c).add 1) = aH r c + 1 := dW (by omega) (by omega)
  have hw2 : IntKind.i64.wrap ((aH r c).add ((1 : Nat) : Int)) = aH r c + 1 := dW (b := ((1 : Nat) : Int)) (by omega) (by omega)
  simp only [hw, hw2]
  have hn1 : (aH r c + 1).toNat = (aH r c).toNat + 1 := by omega
  have hl2 : (U.ah c s).length ≠ k + 1 := by
   intro h
   have hz : (U.ah c s).drop (k + 1) = [] := List.drop_eq_nil_of_le (by omega)
   rw [hz] at e1
   exact DV _ _ e1.2
  refine ⟨by omega, by omega, by omega, by omega, by omega, by omega, by omega, e2, ?_, ⟨by omega, by omega, by omega, (r.drop (aH r c + 1).toNat, k + 1), ?_, ⟨?_, ?_, ?_⟩, ?_⟩, trivial⟩
  ·rw [kP, List.drop_zero, jy, hn1]; exact e1.1.symm
  ·rw [kP]
  ·show U.ah c (r.drop (aH r c + 1).toNat) = (U.ah c s).drop (k + 1)
   rw [hn1]; exact e1.2
  ·show k + 1 < _; omega
  ·show (r.drop _).length <= _; rw [List.length_drop]; omega
  ·show (r.drop _).length < _; rw [List.length_drop]; omega
end Go.Proofs.YtggccomebfpfpaaDoor
set_option linter.unusedSimpArgs false
set_option maxRecDepth 100000
set_option linter.unusedVariables false
namespace Go.Proofs.YtggccomebfpfpaaDoor
open Go.Vc
theorem rM : bI Tryd.prog gl 69 jv := WE (fn := Tryd.f69) Tryd.func69 (by kernel_rfl) (by kernel_rfl) (by kernel_rfl) (by rfl)
theorem qo : bf jw := .cons rM XY
theorem xQ : bI Tryd.prog gl 39 lF := WG (fn := Tryd.f39) Tryd.func39 (by kernel_rfl) (by kernel_rfl) (by kernel_rfl) (by rfl)
theorem xg : bf lG := .cons xQ qo
theorem DY : bI Tryd.prog gl 45 rJ := Xq (fn := Tryd.f45) (by kernel_rfl) (by kernel_rfl) (by kernel_rfl) Tryd.strings_IndexByte
theorem pK : bf iT := .cons DY xg
theorem H9 (x : aJ [au, .int .u8]) : bY Tryd.prog (aZ iT) (wQ x.1 x.2) 49 (bQ [au, .int .u8] x) [] (mW x.1 x.2) = tK x.1 x.2 := by kernel_rfl
theorem Ia : Pok 49 [au, .int .u8] (fun x => mW x.1 x.2) := by
 refine pk (L := fun x => wQ x.1 x.2) (l := iT) pK (fun _ => rfl) ?_
 intro x hv hp
 rw [H9]
 exact Fq x.1 x.2
theorem Ib : bI Tryd.prog gl 49 wP := Ia
theorem tN : bf jH := .cons Ib pK
theorem PD (x : aJ [au, au]) : bY Tryd.prog (aZ jH) (DJ x.1 x.2) 40 (bQ [au, au] x) [] (oN x.1 x.2) = sJ x.1 x.2 := by kernel_rfl
theorem PE : Pok 40 [au, au] (fun x => oN x.1 x.2) := by
 refine pk (L := fun x => DJ x.1 x.2) (l := jH) tN (fun _ => rfl) ?_
 intro x hv hp
 rw [PD]
 exact MO x.1 x.2 (hp (List.length x.2 = 1) (by simp [oN]))
theorem PG : bI Tryd.prog gl 40 DI := PE
theorem BH : bf oO := .cons PG tN
theorem PI (x : aJ [au, au]) : bY Tryd.prog (aZ oO) (DL x.1 x.2) 26 (bQ [au, au] x) [] (oP x.1 x.2) = sK x.1 x.2 := by kernel_rfl
theorem PK : Pok 26 [au, au] (fun x => oP x.1 x.2) := by
 refine pk (L := fun x => DL x.1 x.2) (l := oO) BH (fun _ => rfl) ?_
 intro x hv hp
 rw [PI]
 exact MP x.1 x.2 (hp (List.length x.2 = 1) (by simp [oP]))
theorem PL : bI Tryd.prog gl 26 DK := PK
theorem BI : bf oQ := .cons PL BH
theorem Ic (x : aJ [au, au]) : bY Tryd.prog (aZ oQ) (wS x.1 x.2) 72 (bQ [au, au] x) [] (mX x.1 x.2) = lK x.1 x.2 := by kernel_rfl
theorem Ie : Pok 72 [au, au] (fun x => mX x.1 x.2) := by
 refine pk (L := fun x => wS x.1 x.2) (l := oQ) BI (fun _ => rfl) ?_
 intro x hv hp
 rw [Ic]
 exact Fv x.1 x.2 hv.1.2 hv.2.2
theorem Ig : bI Tryd.prog gl 72 wR := Ie
theorem tV : bf jI := .cons Ig BI
theorem FB (x : aJ [au, au]) : bY Tryd.prog (aZ jI) (tH x.1 x.2) 57 (bQ [au, au] x) [] (lJ x.1 x.2) = kM x.1 x.2 := by kernel_rfl
theorem FC : Pok 57 [au, au] (fun x => lJ x.1 x.2) := by
 refine pk (L := fun x => tH x.1 x.2) (l := jI) tV (fun _ => rfl) ?_
 intro x hv hp
 rw [FB]
 exact DU x.1 x.2 hv.1.2 hv.2.2
theorem FD : bI Tryd.prog gl 57 tC := FC
theorem rO : bf jd := .cons FD tV
theorem Ih (x : aJ [au, au]) : bY Tryd.prog (aZ jd) (wV x.1 x.2) 56 (bQ [au, au] x) [] (mY x.1 x.2) = lM x.1 x.2 := by kernel_rfl
theorem Ii : Pok 56 [au, au] (fun x => mY x.1 x.2) := by
 refine pk (L := fun x => wV x.1 x.2) (l := jd) rO (fun _ => rfl) ?_
 intro x hv hp
 rw [Ih]
 exact Fz x.1 x.2 hv.1.2 hv.2.2
theorem Ij : bI Tryd.prog gl 56 wU := Ii
theorem tX : bf jJ := .cons Ij rO
theorem UD (x : aJ [au, au]) : bY Tryd.prog (aZ jJ) (JF x.1 x.2) 58 (bQ [au, au] x) [] (uH x.1 x.2) = yS x.1 x.2 := by kernel_rfl
theorem UE : Pok 58 [au, au] (fun x => uH x.1 x.2) := by
 refine pk (L := fun x => JF x.1 x.2) (l := jJ) tX (fun _ => rfl) ?_
 intro x hv hp
 rw [UD]
 exact Rk x.1 x.2 hv.1.2 (hp (List.length x.2 = 1) (by simp [uH]))
theorem UF : bI Tryd.prog gl 58 JE := UE
theorem Gq : bf uI := .cons UF tX
theorem Cb (x : aJ [.str]) : bY Tryd.prog (aZ uI) (pJ x) 64 (bQ [.str] x) [] (iF x) = jK x := by kernel_rfl
theorem Cc : Pok 64 [.str] (fun x => iF x) := by
 refine pk (L := fun x => pJ x) (l := uI) Gq (fun _ => rfl) ?_
 intro x hv hp
 rw [Cb]
 exact A8 x hv.2 (hp (∀ c ∈ x, 0 <= c /\ c < 128) (by simp [iF]))
theorem Ce : bI Tryd.prog gl 64 pI := Cc
theorem oV : bf fD := .cons Ce Gq
theorem PN (c : List Int) : bY Tryd.prog (aZ fD) (DN c) 47 (BA c) (BD c) (wW c) = sN c := by kernel_rfl
theorem PO (l : List Int) (c : List Int) : bY Tryd.prog (aZ fD) (DR l c) 47 (BF l c) (BG l c) (oU l c) = sO l c := by kernel_rfl
theorem Rl : NP Tryd.prog gl 47 qF := by
 refine pkg (l := fD) oV (fun args es d h => ?_) (fun args es d h hv he hp => ?_)
 ·unfold qF at h
  rcases AX h with h | h
  ·obtain ⟨c, rfl, rfl, rfl⟩ := wX h
   rfl
  rcases AX h with h | h
  ·obtain ⟨l, c, rfl, rfl, rfl⟩ := wY h
   rfl
  cases h
 ·unfold qF at h
  rcases AX h with h | h
  ·obtain ⟨c, rfl, rfl, rfl⟩ := wX h
   refine ⟨DN c, ?_⟩
   rw [PN]
   exact MQ c
  rcases AX h with h | h
  ·obtain ⟨l, c, rfl, rfl, rfl⟩ := wY h
   refine ⟨DR l c, ?_⟩
   rw [PO]
   exact MR l c (he _ (.head _)) (hp (c = [32, 9]) (by simp [oU]))
  cases h
theorem Rn : bI Tryd.prog gl 47 Gp := Rl
theorem DZ : bf qG := .cons Rn oV
theorem FH (x : aJ [au, au, .int .i64]) : EP Tryd.prog (aZ qG) (tJ x.1 x.2.1 x.2.2) 54 gB x = kN x.1 x.2.1 x.2.2 := by kernel_rfl
theorem FI : Jv Tryd.prog gl 54 gB := by
 refine pkq (L := fun x => tJ x.1 x.2.1 x.2.2) (l := qG) DZ (by kernel_rfl) ?_
 intro x hv hp
 exact Eq.mpr (FH x) (DX x.1 x.2.1 x.2.2 hv.2.1.2 (hp (List.length x.1 = 1) (by simp [gB, kL])) (hp (x.2.2 = 1) (by simp [gB, kL])))
theorem rP : bf je := .cons FI DZ
end Go.Proofs.YtggccomebfpfpaaDoor
