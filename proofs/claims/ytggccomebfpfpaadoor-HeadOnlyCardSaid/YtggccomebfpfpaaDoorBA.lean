/- What functions of this seat compute, in plain Lean. -/
import Derived.Test.YtggccomebfpfpaaDoorBZ
import Derived.Test.YtggccomebfpfpaaDoorBVcF
import Derived.Test.YtggccomebfpfpaaDoorBS
set_option linter.unusedVariables false
set_option linter.unusedSimpArgs false
set_option maxRecDepth 100000
namespace Go.Proofs.YtggccomebfpfpaaDoor
open Go.Vc
abbrev au : Ty := .slice (.int .u8)
namespace U
def yld : Option SV := some (.one .yld)
def dh (s t : List Int) : Bool := decide (t.length <= s.length) && decide (s.drop (s.length - t.length) = t)
def cu (s t : List Int) : List Int := cond (dh s t) (s.take (s.length - t.length)) s
def aC (s : List Int) (c : Int) : List Int := cond (decide (aH s c >= 0)) (s.take (aH s c).toNat) s
def bJ (s : List Int) (c : Int) : List Int := cond (decide (aH s c >= 0)) (s.drop (aH s c + 1).toNat) []
def blank (c : Int) : Bool := decide (c = 32) || decide (c = 9)
def aA : List Int -> Nat
 | [] => 0
 | x :: r => cond (blank x) (aA r + 1) 0
def aJ (l : List Int) : Nat := l.length - aA l.reverse
def trimB (l : List Int) : List Int := (l.take (aJ l)).drop (aA (l.take (aJ l)))
def iE (l : List Int) : List Bool := l.foldl (fun a c => a.set c.toNat true) (List.replicate 256 false)
def ah (c : Int) : List Int -> List (List Int)
 | [] => [[]]
 | x :: r => if x = c then [x] :: ah c r else (x :: (ah c r).headD []) :: (ah c r).tail
end U
namespace U
def dP (s : List Int) (a : List Bool) (i : Int) : St2 := ⟨⟨[sS s] ++ U.n 1 ++ [sP 0 0] ++ U.n 1 ++ [sI i] ++ U.n 16, [], [(0, .obj [.arr 256 true .bool a])]⟩, 1, []⟩
def fZ (s : List Int)  (a : List Bool) (i : Int) : Prop := at_ s i /\ a = iE (s.take i.toNat)
def eu (l : List Int) (lo : Nat) (n : Nat) : St2 := ⟨⟨[slc 0 lo n] ++ [sP 1 0] ++ U.n 21, [], [(0, .row 5 (.int .u8) true true l), (1, .obj [.arr 256 true .bool (iE [32, 9])])]⟩, 2, []⟩
def eU (l : List Int)  (lo : Nat) (n : Nat) : Prop := lo = 0 /\ n <= l.length /\ aJ l <= n /\ aJ (l.take n) = aJ l
def aS (l : List Int) (lo : Nat) (n : Nat) : St2 := ⟨⟨[slc 0 lo n] ++ [sP 1 0] ++ U.n 18, [], [(0, .row 5 (.int .u8) true true l), (1, .obj [.arr 256 true .bool (iE [32, 9])])]⟩, 2, []⟩
def aZ (l : List Int)  (lo : Nat) (n : Nat) : Prop := lo + n = aJ l /\ lo <= aA (l.take (aJ l)) /\ aA ((l.take (aJ l)).drop lo) + lo = aA (l.take (aJ l))
def gK (s : List Int) (c : Int) (r : List Int) (k : Nat) : St2 := ⟨⟨[yld] ++ [sP 0 0] ++ [sP 1 0] ++ [sP 2 0] ++ U.n 59, [], [(0, .obj [.psl false (.int .u8) [c]]), (1, .obj [.psl false (.int .u8) r]), (2, .obj [.int .i64 1])]⟩, 3, [0, k]⟩
def iF (s : List Int) (c : Int)  (r : List Int) (k : Nat) : Prop := ah c r = (ah c s).drop k /\ k < (ah c s).length /\ r.length <= s.length
end U
def yK (s : List Int) : Vc.Loop := ⟨{ keep := [0, 2, 4] }, List Bool × Int, fun x => U.dP s x.1 x.2, fun x0 x => U.fZ s  x.1 x.2, fun x => s.length - x.2.toNat, fun p => ∀ x, p x, fun _ h => h⟩
def wH (l : List Int) : Vc.Loop := ⟨{ keep := [0, 1], SY := [0] }, Nat × Nat, fun x => U.eu l x.1 x.2, fun x0 x => U.eU l  x.1 x.2, fun x => x.2, fun p => ∀ x, p x, fun _ h => h⟩
def xE (l : List Int) : Vc.Loop := ⟨{ keep := [0, 1], SY := [0] }, Nat × Nat, fun x => U.aS l x.1 x.2, fun x0 x => U.aZ l  x.1 x.2, fun x => x.2, fun p => ∀ x, p x, fun _ h => h⟩
def AB (s : List Int) (c : Int) : Vc.Loop := ⟨{ keep := [0, 1, 2, 3] }, List Int × Nat, fun x => U.gK s c x.1 x.2, fun x0 x => U.iF s c  x.1 x.2, fun x => x.1.length, fun p => ∀ x, p x, fun _ h => h⟩
def jA : Vc.Sum := .pure [au, .int .u8] false fun x => ⟨[], .one (.int .i64 (aH x.1 x.2)), [], []⟩
def jB : List (Nat × Ent) := (69, .sum jA) :: []
def lI : Vc.Sum := .pure [au, .int .u8] false fun x => ⟨[], .one (.int .i64 ((wG x.1 x.2 : Int))), [], []⟩
def lJ : List (Nat × Ent) := (39, .sum lI) :: jB
def rH : Vc.Sum := .pure [.str, .int .u8] false fun x => WC x.1 x.2
def iV : List (Nat × Ent) := (45, .sum rH) :: lJ
def mY (s : List Int) (c : Int) : Done := rI (aH s c)
def wI : Vc.Sum := .pure [au, .int .u8] false fun x => mY x.1 x.2
def wJ (s : List Int) (c : Int) : Nat -> List V -> Nat -> Option Vc.Loop := dN
def jK : List (Nat × Ent) := (49, .sum wI) :: iV
def oO (s : List Int) (t : List Int) : Done := ⟨[t.length = 1], .one (.int .i64 (aH s (t.getD 0 0))), [], []⟩
def Dt : Vc.Sum := .pure [au, au] false fun x => oO x.1 x.2
def Du (s : List Int) (t : List Int) : Nat -> List V -> Nat -> Option Vc.Loop := dN
def oP : List (Nat × Ent) := (40, .sum Dt) :: jK
def oQ (s : List Int) (t : List Int) : Done := ⟨[t.length = 1], .one (.int .i64 (wG s (t.getD 0 0))), [], []⟩
def Dv : Vc.Sum := .pure [au, au] false fun x => oQ x.1 x.2
def Dw (s : List Int) (t : List Int) : Nat -> List V -> Nat -> Option Vc.Loop := dN
def oU : List (Nat × Ent) := (26, .sum Dv) :: oP
def mZ (s : List Int) (t : List Int) : Done := rB (U.dh s t)
def wK : Vc.Sum := .pure [au, au] false fun x => mZ x.1 x.2
def wL (s : List Int) (t : List Int) : Nat -> List V -> Nat -> Option Vc.Loop := dN
def jL : List (Nat × Ent) := (72, .sum wK) :: oU
def lN (s : List Int) (t : List Int) : Done := ⟨[], .one (.psl false (.int .u8) (U.cu s t)), [], []⟩
def sZ : Vc.Sum := .pure [au, au] true fun x => lN x.1 x.2
def tq (s : List Int) (t : List Int) : Nat -> List V -> Nat -> Option Vc.Loop := dN
def jh : List (Nat × Ent) := (57, .sum sZ) :: jL
def ng (s : List Int) (t : List Int) : Done := ⟨[], .tup [one (.psl false (.int .u8) (U.cu s t)), one (.bool (U.dh s t))], [], []⟩
def wM : Vc.Sum := .pure [au, au] true fun x => ng x.1 x.2
def wO (s : List Int) (t : List Int) : Nat -> List V -> Nat -> Option Vc.Loop := dN
def jM : List (Nat × Ent) := (56, .sum wM) :: jh
def uy (s : List Int) (t : List Int) : Done := ⟨[t.length = 1], .tup [one (.psl false (.int .u8) (U.aC s (t.getD 0 0))), one (.psl false (.int .u8) (U.bJ s (t.getD 0 0))), one (.bool (decide (aH s (t.getD 0 0) >= 0)))], [], []⟩
def Jr : Vc.Sum := .pure [au, au] true fun x => uy x.1 x.2
def Js (s : List Int) (t : List Int) : Nat -> List V -> Nat -> Option Vc.Loop := dN
def uz : List (Nat × Ent) := (58, .sum Jr) :: jM
def iG (s : List Int) : Done := ⟨[∀ c ∈ s, 0 <= c /\ c < 128], .tup [⟨true, [.arr 256 true .bool (U.iE s)]⟩, one (.bool true)], [], []⟩
def pG : Vc.Sum := .pure [.str] false fun x => iG x
def pI (s : List Int) : Nat -> List V -> Nat -> Option Vc.Loop := fun f v k => cond (Nat.beq f 64 && Nat.beq k 2) (some (yK s)) <| none
def fA : List (Nat × Ent) := (64, .sum pG) :: uz
def wP (c : List Int) : Done := ⟨[], .one .dw, [], []⟩
def Bf (c : List Int) : List V := [⟨false, [.dw]⟩, ⟨false, [.str c]⟩]
def Bg (c : List Int) : List Entry := []
def Dx (c : List Int) : Nat -> List V -> Nat -> Option Vc.Loop := dN
def su : List V -> List Entry -> Option Done
 | [⟨false, [.dw]⟩, ⟨false, [.str c]⟩], [] => cond (true) (some (wP c)) none
 | _, _ => none
theorem wQ {args : List V} {es : List Entry} {d : Done} (h : su args es = some d) : ∃ c, args = Bf c /\ es = Bg c /\ d = wP c := by
 unfold su at h
 split at h
 ·obtain ⟨hb, hd⟩ := LC h; simp only [Bool.and_eq_true, Nat.beq_eq] at hb; (try obtain rfl := hb); subst hd; (try subst_vars); exact ⟨_, rfl, rfl, rfl⟩
 ·cases h
def oV (l : List Int) (c : List Int) : Done := ⟨[c = [32, 9]], .one (.vw 0 (U.aA (l.take (U.aJ l))) (U.trimB l).length), [.row 5 (.int .u8) true true l], []⟩
def Bh (l : List Int) (c : List Int) : List V := [⟨false, [.own 0]⟩, ⟨false, [.str c]⟩]
def Bj (l : List Int) (c : List Int) : List Entry := [.row 5 (.int .u8) true true l]
def Dy (l : List Int) (c : List Int) : Nat -> List V -> Nat -> Option Vc.Loop := fun f v k => cond (Nat.beq f 66 && Nat.beq k 1) (some (wH l)) <| cond (Nat.beq f 65 && Nat.beq k 1) (some (xE l)) <| none
def sD : List V -> List Entry -> Option Done
 | [⟨false, [.own n1]⟩, ⟨false, [.str c]⟩], [.row n2 (.int .u8) true true l] => cond (Nat.beq n1 0 && Nat.beq n2 5) (some (oV l c)) none
 | _, _ => none
theorem wR {args : List V} {es : List Entry} {d : Done} (h : sD args es = some d) : ∃ l c, args = Bh l c /\ es = Bj l c /\ d = oV l c := by
 unfold sD at h
 split at h
 ·obtain ⟨hb, hd⟩ := LC h; simp only [Bool.and_eq_true, Nat.beq_eq] at hb; (try obtain ⟨rfl, rfl⟩ := hb); subst hd; (try subst_vars); exact ⟨_, _, rfl, rfl, rfl⟩
 ·cases h
def qC (args : List V) (es : List Entry) : Option Done := orE (su args es) (orE (sD args es) (none))
def FY : Vc.Sum := .gen qC
def qE : List (Nat × Ent) := (47, .sum FY) :: fA
def Dz (t : List Int) (s : List Int) (n : Int) : List (aK [au]) := U.ah (t.getD 0 0) s
def kM (t : List Int) (s : List Int) (n : Int) : List Prop := [t.length = 1, n = 1]
def gB : yu := ⟨[au, au, .int .i64], [au], fun x => kM x.1 x.2.1 x.2.2, fun x => Dz x.1 x.2.1 x.2.2⟩
def tu (t : List Int) (s : List Int) (n : Int) : Nat -> List V -> Nat -> Option Vc.Loop := fun f v k => cond (Nat.beq f 54 && Nat.beq k 5) (some (AB s (t.getD 0 0))) <| none
def ji : List (Nat × Ent) := (54, .seq gB) :: qE
end Go.Proofs.YtggccomebfpfpaaDoor
set_option maxRecDepth 100000
set_option linter.unusedVariables false
namespace Go.Proofs.YtggccomebfpfpaaDoor
open Go.Vc
def tC (s : List Int) (c : Int) : Prop := aH s c = aH s c /\ True
def sG (s : List Int) (t : List Int) : Prop := bif decide ((↑t.length : Int) = (0 : Int)) then (0 : Int) = aH s (t.getD (0 : Nat) (0 : Int)) /\ True else bif decide ((↑t.length : Int) = (1 : Int)) then (0 : Int) <= (0 : Int) /\ (0 : Int) < (↑t.length : Int) /\ aH s (t.getD (0 : Nat) (0 : Int)) = aH s (t.getD (0 : Nat) (0 : Int)) /\ True else bif decide ((↑t.length : Int) = (↑s.length :
 Int)) then bif t.beq s then (0 : Int) = aH s (t.getD (0 : Nat) (0 : Int)) /\ True else (-1 : Int) = aH s (t.getD (0 : Nat) (0 : Int)) /\ True else bif decide ((↑t.length : Int) > (↑s.length : Int)) then (-1 : Int) = aH s (t.getD (0 : Nat) (0 : Int)) /\ True else False
def sH (s : List Int) (t : List Int) : Prop := bif decide ((↑t.length : Int) = (0 : Int)) then False else bif decide ((↑t.length : Int) = (1 : Int)) then (0 : Int) <= (0 : Int) /\ (0 : Int) < (↑t.length : Int) /\ (↑(List.filter (fun (x : Int) => decide (x = t.getD (0 : Nat) (0 : Int))) s).length : Int) = (↑(List.filter (fun (x : Int) => decide (x = t.getD (0 : Nat) (0 : Int))) s).length :
 Int) /\ True else False
def lQ (s : List Int) (t : List Int) : Prop := (decide ((↑s.length : Int) >= (↑t.length : Int)) = true -> (0 : Int) <= IntKind.i64.wrap ((↑s.length : Int).sub (↑t.length : Int))) /\ (decide ((↑s.length : Int) >= (↑t.length : Int)) = true -> IntKind.i64.wrap ((↑s.length : Int).sub (↑t.length : Int)) <= (↑s.length : Int)) /\ (decide ((↑s.length : Int) >= (↑t.length : Int)) = true -> (↑s.length :
 Int) <= (↑s.length : Int)) /\ bif decide ((↑s.length : Int) >= (↑t.length : Int)) then (List.take ((↑s.length : Int).toNat.sub (IntKind.i64.wrap ((↑s.length : Int).sub (↑t.length : Int))).toNat) (List.drop (IntKind.i64.wrap ((↑s.length : Int).sub (↑t.length : Int))).toNat s)).beq t = U.dh s t /\ True else false = U.dh s t /\ True
def kN (s : List Int) (t : List Int) : Prop := bif U.dh s t then (0 : Int) <= (0 : Int) /\ (0 : Int) <= IntKind.i64.wrap ((↑s.length : Int).sub (↑t.length : Int)) /\ IntKind.i64.wrap ((↑s.length : Int).sub (↑t.length : Int)) <= (↑s.length : Int) /\ List.take ((IntKind.i64.wrap ((↑s.length : Int).sub (↑t.length : Int))).toNat.sub (0 : Nat)) (List.drop (0 : Nat) s) = U.cu s t /\ True
 else s = U.cu s t /\ True
def lS (s : List Int) (t : List Int) : Prop := bif !U.dh s t then s = U.cu s t /\ false = U.dh s t /\ True else (0 : Int) <= (0 : Int) /\ (0 : Int) <= IntKind.i64.wrap ((↑s.length : Int).sub (↑t.length : Int)) /\ IntKind.i64.wrap ((↑s.length : Int).sub (↑t.length : Int)) <= (↑s.length : Int) /\ List.take ((IntKind.i64.wrap ((↑s.length : Int).sub (↑t.length : Int))).toNat.sub (0 :
 Nat)) (List.drop (0 : Nat) s) = U.cu s t /\ true = U.dh s t /\ True
def yL (s : List Int) (t : List Int) : Prop := t.length = (1 : Nat) /\ bif decide (aH s (t.getD (0 : Nat) (0 : Int)) >= (0 : Int)) then (0 : Int) <= (0 : Int) /\ (0 : Int) <= aH s (t.getD (0 : Nat) (0 : Int)) /\ aH s (t.getD (0 : Nat) (0 : Int)) <= (↑s.length : Int) /\ (0 : Int) <= IntKind.i64.wrap ((aH s (t.getD (0 : Nat) (0 : Int))).add (↑t.length : Int)) /\ IntKind.i64.wrap ((aH s
 (t.getD (0 : Nat) (0 : Int))).add (↑t.length : Int)) <= (↑s.length : Int) /\ (↑s.length : Int) <= (↑s.length : Int) /\ List.take ((aH s (t.getD (0 : Nat) (0 : Int))).toNat.sub (0 : Nat)) (List.drop (0 : Nat) s) = U.aC s (t.getD (0 : Nat) (0 : Int)) /\ List.take ((↑s.length : Int).toNat.sub (IntKind.i64.wrap ((aH s (t.getD (0 : Nat) (0 : Int))).add (↑t.length : Int))).toNat) (List.drop
 (IntKind.i64.wrap ((aH s (t.getD (0 : Nat) (0 : Int))).add (↑t.length : Int))).toNat s) = U.bJ s (t.getD (0 : Nat) (0 : Int)) /\ true = decide (aH s (t.getD (0 : Nat) (0 : Int)) >= (0 : Int)) /\ True else s = U.aC s (t.getD (0 : Nat) (0 : Int)) /\ [] = U.bJ s (t.getD (0 : Nat) (0 : Int)) /\ false = decide (aH s (t.getD (0 : Nat) (0 : Int)) >= (0 : Int)) /\ True
def jO (s : List Int) : Prop := ∃ (x0 : List Bool × Int), (U.dP s [false, false, false, false, false, false, false, false, false, false, false, false, false, false, false, false, false, false, false, false, false, false, false, false, false, false, false, false, false, false, false, false, false, false, false, false, false, false, false, false, false, false,
 false, false, false, false, false, false, false, false, false, false, false, false, false, false, false, false, false, false, false, false, false, false, false, false, false, false, false, false, false, false, false, false, false, false, false, false, false, false, false, false, false, false, false, false, false, false, false, false, false, false, false, false, false, false, false, false, false,
 false, false, false, false, false, false, false, false, false, false, false, false, false, false, false, false, false, false, false, false, false, false, false, false, false, false, false, false, false, false, false, false, false, false, false, false, false, false, false, false, false, false, false, false, false, false, false, false, false, false, false, false, false, false, false, false, false,
 false, false, false, false, false, false, false, false, false, false, false, false, false, false, false, false, false, false, false, false, false, false, false, false, false, false, false, false, false, false, false, false, false, false, false, false, false, false, false, false, false, false, false, false, false, false, false, false, false, false, false, false, false, false, false, false, false,
 false, false, false, false, false, false, false, false, false, false, false, false, false, false, false, false, false, false, false, false, false, false, false, false, false, false, false, false, false, false, false, false, false, false, false, false, false, false, false, false, false, false, false] (0 : Int) = U.dP s x0.1 x0.2 /\ U.fZ s x0.1 x0.2) /\ ∀ (x :
 List Bool × Int), U.fZ s x.1 x.2 -> bif decide (x.2 < (↑s.length : Int)) then (0 : Int) <= x.2 /\ x.2 < (↑s.length : Int) /\ bif decide (s.getD x.2.toNat (0 : Int) >= (128 : Int)) then x.1 = U.iE s /\ false = true /\ True else (0 : Int) <= s.getD x.2.toNat (0 : Int) /\ s.getD x.2.toNat (0 : Int) < (↑(256 : Nat) : Int) /\ (s.getD x.2.toNat (0 : Int)).toNat < (256 : Nat) /\ ∃ (y : List
 Bool × Int), U.dP s (x.1.set (s.getD x.2.toNat (0 : Int)).toNat true) (IntKind.i64.wrap (x.2.add (1 : Int))) = U.dP s y.1 y.2 /\ U.fZ s y.1 y.2 /\ s.length.sub y.2.toNat < s.length.sub x.2.toNat else x.1 = U.iE s /\ true = true /\ True
def sJ (c : List Int) : Prop := bif decide ((0 : Int) = (0 : Int)) then True else bif c.beq [] then True else (decide ((↑c.length : Int) = (1 : Int)) = true -> (0 : Int) <= (0 : Int)) /\ (decide ((↑c.length : Int) = (1 : Int)) = true -> (0 : Int) < (↑c.length : Int)) /\ bif bif decide ((↑c.length : Int) = (1 : Int)) then decide (c.getD (0 : Nat) (0 : Int) < (128 : Int)) else false then False
 else (∀ (c_1 : Int), List.Mem c_1 c -> (0 : Int) <= c_1 /\ c_1 < (128 : Int)) /\ False
def sK (l : List Int) (c : List Int) : Prop := bif decide ((↑l.length : Int) = (0 : Int)) then (U.trimB l).length = (0 : Nat) /\ l = l /\ True else bif c.beq [] then False else (decide ((↑c.length : Int) = (1 : Int)) = true -> (0 : Int) <= (0 : Int)) /\ (decide ((↑c.length : Int) = (1 : Int)) = true -> (0 : Int) < (↑c.length : Int)) /\ bif bif decide ((↑c.length : Int) = (1 : Int)) then decide
 (c.getD (0 : Nat) (0 : Int) < (128 : Int)) else false then False else (∀ (c_1 : Int), List.Mem c_1 c -> (0 : Int) <= c_1 /\ c_1 < (128 : Int)) /\ ∃ (x0 : Nat × Nat), ((⟨⟨[some (SV.v { agg := false, ls := [.sl (0 : Nat) (0 : Nat) l.length] })] ++ [U.sP 1 0] ++ U.n 21, [], [((0 : Nat), .row (5 : Nat) (.int .u8) true true l), ((1 : Nat), .obj [.arr (256 : Nat) (true || true) Ty.bool (U.iE c)])]⟩, (2 :
 Nat), []⟩ : St2) = U.eu l x0.1 x0.2 /\ U.eU l x0.1 x0.2) /\ ∀ (x : Nat × Nat), U.eU l x.1 x.2 -> bif decide ((↑x.2 : Int) > (0 : Int)) then (0 : Int) <= IntKind.i64.wrap ((↑x.2 : Int).sub (1 : Int)) /\ IntKind.i64.wrap ((↑x.2 : Int).sub (1 : Int)) < (↑x.2 : Int) /\ x.1.add (IntKind.i64.wrap ((↑x.2 : Int).sub (1 : Int))).toNat < l.length /\ (0
 : Int) <= l.getD (x.1.add (IntKind.i64.wrap ((↑x.2 : Int).sub (1 : Int))).toNat) (0 : Int) /\ l.getD (x.1.add (IntKind.i64.wrap ((↑x.2 : Int).sub (1 : Int))).toNat) (0 : Int) < (↑(256 : Nat) : Int) /\ (l.getD (x.1.add (IntKind.i64.wrap ((↑x.2 : Int).sub (1 : Int))).toNat) (0 : Int)).toNat < (256 : Nat) /\ bif !(U.iE [(32 : Int), (9 : Int)]).getD (l.getD (x.1.add (IntKind.i64.wrap ((↑x.2 : Int).sub
 (1 : Int))).toNat) (0 : Int)).toNat false then ∃ (x0 : Nat × Nat), (U.aS l x.1 x.2 = U.aS l x0.1 x0.2 /\ U.aZ l x0.1 x0.2) /\ ∀ (x : Nat × Nat), U.aZ l x.1 x.2 -> bif decide ((↑x.2 : Int) > (0 : Int)) then (0 : Int) <= (0 : Int) /\ (0 : Int) < (↑x.2 : Int) /\ x.1.add (0 : Nat) < l.length /\ (0 : Int) <= l.getD (x.1.add (0 :
 Nat)) (0 : Int) /\ l.getD (x.1.add (0 : Nat)) (0 : Int) < (↑(256 : Nat) : Int) /\ (l.getD (x.1.add (0 : Nat)) (0 : Int)).toNat < (256 : Nat) /\ bif !(U.iE [(32 : Int), (9 : Int)]).getD (l.getD (x.1.add (0 : Nat)) (0 : Int)).toNat false then bif decide ((↑x.2 : Int) = (0 : Int)) then (U.trimB l).length = (0 : Nat) /\ l = l /\ True else x.1 = U.aA (List.take (U.aJ l) l) /\ x.2 = (U.trimB
 l).length /\ l = l /\ True else (0 : Int) <= (1 : Int) /\ (1 : Int) <= (↑x.2 : Int) /\ (↑x.2 : Int) <= (↑x.2 : Int) /\ ∃ (y : Nat × Nat), U.aS l (x.1.add (1 : Nat)) ((↑x.2 : Int).toNat.sub (1 : Nat)) = U.aS l y.1 y.2 /\ U.aZ l y.1 y.2 /\ y.2 < x.2 else bif decide ((↑x.2 : Int) = (0 : Int)) then (U.trimB l).length = (0 : Nat) /\ l = l /\ True else
 x.1 = U.aA (List.take (U.aJ l) l) /\ x.2 = (U.trimB l).length /\ l = l /\ True else (0 : Int) <= (0 : Int) /\ (0 : Int) <= IntKind.i64.wrap ((↑x.2 : Int).sub (1 : Int)) /\ IntKind.i64.wrap ((↑x.2 : Int).sub (1 : Int)) <= (↑x.2 : Int) /\ ∃ (y : Nat × Nat), U.eu l (x.1.add (0 : Nat)) ((IntKind.i64.wrap ((↑x.2 : Int).sub (1 : Int))).toNat.sub (0 : Nat)) = U.eu
 l y.1 y.2 /\ U.eU l y.1 y.2 /\ y.2 < x.2 else ∃ (x0 : Nat × Nat), (U.aS l x.1 x.2 = U.aS l x0.1 x0.2 /\ U.aZ l x0.1 x0.2) /\ ∀ (x : Nat × Nat), U.aZ l x.1 x.2 -> bif decide ((↑x.2 : Int) > (0 : Int)) then (0 : Int) <= (0 : Int) /\ (0 : Int) < (↑x.2 : Int) /\ x.1.add (0 : Nat) < l.length /\ (0 : Int) <=
 l.getD (x.1.add (0 : Nat)) (0 : Int) /\ l.getD (x.1.add (0 : Nat)) (0 : Int) < (↑(256 : Nat) : Int) /\ (l.getD (x.1.add (0 : Nat)) (0 : Int)).toNat < (256 : Nat) /\ bif !(U.iE [(32 : Int), (9 : Int)]).getD (l.getD (x.1.add (0 : Nat)) (0 : Int)).toNat false then bif decide ((↑x.2 : Int) = (0 : Int)) then (U.trimB l).length = (0 : Nat) /\ l = l /\ True else x.1 = U.aA (List.take (U.aJ l) l) /\
 x.2 = (U.trimB l).length /\ l = l /\ True else (0 : Int) <= (1 : Int) /\ (1 : Int) <= (↑x.2 : Int) /\ (↑x.2 : Int) <= (↑x.2 : Int) /\ ∃ (y : Nat × Nat), U.aS l (x.1.add (1 : Nat)) ((↑x.2 : Int).toNat.sub (1 : Nat)) = U.aS l y.1 y.2 /\ U.aZ l y.1 y.2 /\ y.2 < x.2 else bif decide ((↑x.2 : Int) = (0 : Int)) then (U.trimB l).length = (0 : Nat) /\ l = l
 /\ True else x.1 = U.aA (List.take (U.aJ l) l) /\ x.2 = (U.trimB l).length /\ l = l /\ True
def kP (t : List Int) (s : List Int) (n : Int) : Prop := bif decide ((↑t.length : Int) = (0 : Int)) then False else ∃ (x0 : List Int × Nat), ((⟨⟨[some (SV.v { agg := false, ls := [Leaf.yld] })] ++ [U.sP 0 0] ++ [U.sP 1 0] ++ [U.sP 2 0] ++ U.n 59, [], [((0 : Nat), .obj [.psl false (.int .u8) t]), ((1 : Nat), .obj [.psl false (.int .u8) s]), ((2 : Nat), .obj [.int .i64 n])]⟩, (3 :
 Nat), [(0 : Nat), (0 : Nat)]⟩ : St2) = U.gK s (t.getD (0 : Nat) (0 : Int)) x0.1 x0.2 /\ U.iF s (t.getD (0 : Nat) (0 : Int)) x0.1 x0.2) /\ ∀ (x : List Int × Nat), U.iF s (t.getD (0 : Nat) (0 : Int)) x.1 x.2 -> (1 : Nat) = (1 : Nat) /\ bif decide (aH x.1 ([t.getD (0 : Nat) (0 : Int)].getD (0 : Nat) (0 : Int)) < (0 : Int)) then (0 : Int) <= (0 : Int) /\
 (0 : Int) <= (↑x.1.length : Int) /\ (↑x.1.length : Int) <= (↑x.1.length : Int) /\ (↑x.1.length : Int) <= (↑x.1.length : Int) /\ x.2 < (U.ah (t.getD (0 : Nat) (0 : Int)) s).length /\ (U.ah (t.getD (0 : Nat) (0 : Int)) s).getD x.2 [] = List.take ((↑x.1.length : Int).toNat.sub (0 : Nat)) (List.drop (0 : Nat) x.1) /\ x.2.add (1 : Nat) = (U.ah (t.getD (0 : Nat) (0 : Int)) s).length /\ true = true
 else (0 : Int) <= (0 : Int) /\ (0 : Int) <= IntKind.i64.wrap ((aH x.1 ([t.getD (0 : Nat) (0 : Int)].getD (0 : Nat) (0 : Int))).add (1 : Int)) /\ IntKind.i64.wrap ((aH x.1 ([t.getD (0 : Nat) (0 : Int)].getD (0 : Nat) (0 : Int))).add (1 : Int)) <= (↑x.1.length : Int) /\ (0 : Int) <= (0 : Int) /\ (0 : Int) <= (↑(List.take ((IntKind.i64.wrap ((aH x.1 ([t.getD (0 : Nat) (0 : Int)].getD (0 : Nat) (0 :
 Int))).add (1 : Int))).toNat.sub (0 : Nat)) (List.drop (0 : Nat) x.1)).length : Int) /\ (↑(List.take ((IntKind.i64.wrap ((aH x.1 ([t.getD (0 : Nat) (0 : Int)].getD (0 : Nat) (0 : Int))).add (1 : Int))).toNat.sub (0 : Nat)) (List.drop (0 : Nat) x.1)).length : Int) <= (↑(List.take ((IntKind.i64.wrap ((aH x.1 ([t.getD (0 : Nat) (0 : Int)].getD (0 : Nat) (0 : Int))).add (1 : Int))).toNat.sub (0 :
 Nat)) (List.drop (0 : Nat) x.1)).length : Int) /\ (↑(List.take ((IntKind.i64.wrap ((aH x.1 ([t.getD (0 : Nat) (0 : Int)].getD (0 : Nat) (0 : Int))).add (1 : Int))).toNat.sub (0 : Nat)) (List.drop (0 : Nat) x.1)).length : Int) <= (↑(List.take ((IntKind.i64.wrap ((aH x.1 ([t.getD (0 : Nat) (0 : Int)].getD (0 : Nat) (0 : Int))).add (1 : Int))).toNat.sub (0 : Nat)) (List.drop (0 : Nat) x.1)).length :
 Int) /\ x.2 < (U.ah (t.getD (0 : Nat) (0 : Int)) s).length /\ (U.ah (t.getD (0 : Nat) (0 : Int)) s).getD x.2 [] = List.take ((↑(List.take ((IntKind.i64.wrap ((aH x.1 ([t.getD (0 : Nat) (0 : Int)].getD (0 : Nat) (0 : Int))).add (1 : Int))).toNat.sub (0 : Nat)) (List.drop (0 : Nat) x.1)).length : Int).toNat.sub (0 : Nat)) (List.drop (0 : Nat) (List.take ((IntKind.i64.wrap ((aH x.1 ([t.getD
 (0 : Nat) (0 : Int)].getD (0 : Nat) (0 : Int))).add (1 : Int))).toNat.sub (0 : Nat)) (List.drop (0 : Nat) x.1))) /\ ((0 : Int) <= IntKind.i64.wrap ((aH x.1 ([t.getD (0 : Nat) (0 : Int)].getD (0 : Nat) (0 : Int))).add (↑((1 : Nat)) : Int)) /\ IntKind.i64.wrap ((aH x.1 ([t.getD (0 : Nat) (0 : Int)].getD (0 : Nat) (0 : Int))).add (↑((1 : Nat)) : Int)) <= (↑x.1.length : Int) /\ (↑x.1.length : Int) <=
 (↑x.1.length : Int) /\ ∃ (y : List Int × Nat), U.gK s (t.getD (0 : Nat) (0 : Int)) (List.take ((↑x.1.length : Int).toNat.sub (IntKind.i64.wrap ((aH x.1 ([t.getD (0 : Nat) (0 : Int)].getD (0 : Nat) (0 : Int))).add (↑((1 : Nat)) : Int))).toNat) (List.drop (IntKind.i64.wrap ((aH x.1 ([t.getD (0 : Nat) (0 : Int)].getD (0 : Nat) (0 : Int))).add (↑((1 : Nat)) : Int))).toNat x.1))
 (x.2.add (1 : Nat)) = U.gK s (t.getD (0 : Nat) (0 : Int)) y.1 y.2 /\ U.iF s (t.getD (0 : Nat) (0 : Int)) y.1 y.2 /\ y.1.length < x.1.length) /\ true = true
end Go.Proofs.YtggccomebfpfpaaDoor
set_option linter.unusedSimpArgs false
set_option linter.unusedVariables false
set_option maxRecDepth 100000
namespace Go.Proofs.YtggccomebfpfpaaDoor
open Go.Vc
open Go.Vc.T
theorem SA (a b : List Int) : a.beq b = decide (a = b) := by rw [VZ, Bool.eq_iff_iff]; simp
theorem ES {α : Type} (l : List α) {k : Nat} (h : l.length <= k) : l.take k = l := List.take_of_length_le h
theorem kQ (s : List Int) (k : Nat) : List.take ((s.length : Int).toNat.sub k) (List.drop k s) = s.drop k := by
 refine ES _ ?_
 rw [List.length_drop, bV]; omega
theorem jC (s : List Int) (k : Nat) : List.take (k.sub 0) (List.drop 0 s) = s.take k := rfl
theorem AL {s t : List Int} (h : U.dh s t = true) : t.length <= s.length := by
 unfold U.dh at h
 simp only [Bool.and_eq_true, decide_eq_true_eq] at h
 exact h.1
theorem iH {a b : Int} (h1 : -9223372036854775808 <= a - b) (h2 : a - b <= 9223372036854775807) : IntKind.i64.wrap (a.sub b) = a - b := Vo h1 h2
theorem dQ {a b : Int} (h1 : -9223372036854775808 <= a + b) (h2 : a + b <= 9223372036854775807) : IntKind.i64.wrap (a.add b) = a + b := Vo h1 h2
theorem E5 (s : List Int) (c : Int) : tC s c := ⟨rfl, trivial⟩
theorem Me (s t : List Int) (h : t.length = 1) : sG s t := by
 unfold sG
 rw [decide_eq_false (by omega : ¬ (t.length : Int) = 0), decide_eq_true (by omega : (t.length : Int) = 1)]
 show (0 : Int) <= 0 /\ (0 : Int) < t.length /\ _ = _ /\ True
 exact ⟨by omega, by omega, rfl, trivial⟩
theorem MB (s t : List Int) (h : t.length = 1) : sH s t := by
 unfold sH
 rw [decide_eq_false (by omega : ¬ (t.length : Int) = 0), decide_eq_true (by omega : (t.length : Int) = 1)]
 show (0 : Int) <= 0 /\ (0 : Int) < t.length /\ _ = _ /\ True
 exact ⟨by omega, by omega, rfl, trivial⟩
theorem E8 (s t : List Int) (hs : s.length <= maxLen) (ht : t.length <= maxLen) : lQ s t := by
 unfold lQ
 rw [maxLen_eq] at hs ht
 by_cases h : t.length <= s.length
 ·rw [decide_eq_true (by omega : (s.length : Int) >= t.length), iH (by omega) (by omega)]
  refine ⟨fun _ => by omega, fun _ => by omega, fun _ => by omega, ?_, trivial⟩
  rw [show ((s.length : Int) - t.length).toNat = s.length - t.length by omega, kQ, SA]
  unfold U.dh; rw [decide_eq_true h]; rfl
 ·rw [decide_eq_false (by omega : ¬ (s.length : Int) >= t.length)]
  refine ⟨by simp, by simp, by simp, ?_⟩
  show false = U.dh s t /\ True
  unfold U.dh; rw [decide_eq_false h]; exact ⟨rfl, trivial⟩
theorem DC (s t : List Int) (hs : s.length <= maxLen) (ht : t.length <= maxLen) : kN s t := by
 unfold kN
 rw [maxLen_eq] at hs ht
 unfold U.cu
 cases he : U.dh s t with
 | true =>
   have hl := AL he
   rw [iH (by omega) (by omega)]
   refine ⟨by omega, by omega, by omega, ?_, trivial⟩
   rw [jC, show ((s.length : Int) - t.length).toNat = s.length - t.length by omega]; rfl
 | false => exact ⟨rfl, trivial⟩
theorem Fa (s t : List Int) (hs : s.length <= maxLen) (ht : t.length <= maxLen) : lS s t := by
 unfold lS
 rw [maxLen_eq] at hs ht
 unfold U.cu
 cases he : U.dh s t with
 | true =>
   have hl := AL he
   rw [iH (by omega) (by omega)]
   refine ⟨by omega, by omega, by omega, ?_, rfl, trivial⟩
   rw [jC, show ((s.length : Int) - t.length).toNat = s.length - t.length by omega]; rfl
 | false => exact ⟨rfl, rfl, trivial⟩
theorem QO (s t : List Int) (hs : s.length <= maxLen) (h : t.length = 1) : yL s t := by
 unfold yL
 rw [maxLen_eq] at hs
 have hb := bG s (t.getD 0 0)
 refine ⟨h, ?_⟩
 unfold U.aC U.bJ
 by_cases hi : aH s (t.getD 0 0) >= 0
 ·rw [decide_eq_true hi, h, dQ (by omega) (by omega)]
  refine ⟨by omega, by omega, by omega, by omega, by omega, by omega, ?_, ?_, rfl, trivial⟩
  ·rw [jC]; rfl
  ·rw [kQ]; rfl
 ·rw [decide_eq_false hi]; exact ⟨rfl, rfl, rfl, trivial⟩
theorem AO (s : List Int) (hs : s.length <= maxLen) (hc : ∀ c ∈ s, 0 <= c /\ c < 128) : jO s := by
 unfold jO
 rw [maxLen_eq] at hs
 refine ⟨(List.replicate 256 false, 0), ⟨rfl, ⟨Int.le_refl 0, by show (0 : Int) <= _; omega⟩, rfl⟩, ?_⟩
 rintro ⟨a, i⟩ ⟨⟨i0, i1⟩, ha⟩
 dsimp only at i0 i1 ha ⊢
 rw [cond_prop]
 refine ⟨fun hi => ?_, fun hi => ?_⟩
 ·have hi : i < s.length := of_decide_eq_true hi
  have hx := hc (s[i.toNat]'(by omega)) (List.getElem_mem _)
  rw [getD_at (by omega : i.toNat < s.length)]
  refine ⟨i0, hi, ?_⟩
  rw [decide_eq_false (by omega : ¬ s[i.toNat] >= 128), dQ (by omega) (by omega)]
  refine ⟨hx.1, by omega, by omega, (a.set s[i.toNat].toNat true, i + 1), rfl, ⟨⟨by show 0 <= i + 1; omega, by show i + 1 <= _; omega⟩, ?_⟩, by simp only [bV]; omega⟩
  show a.set _ true = U.iE (s.take (i + 1).toNat)
  rw [take_at i0 hi]; unfold U.iE at *; rw [List.foldl_append, <- ha]; rfl
 ·have hi : ¬ i < s.length := of_decide_eq_false hi
  rw [Hf (by omega)] at ha
  exact ⟨ha, rfl, trivial⟩
theorem qj : ∀ l : List Int, U.aA l <= l.length
 | [] => Nat.le_refl 0
 | x :: r => by
   have ih := qj r
   unfold U.aA; rw [List.length_cons]
   cases U.blank x
   ·exact Nat.zero_le _
   ·show U.aA r + 1 <= _; omega
theorem wS (l : List Int) : U.aJ l <= l.length := by unfold U.aJ; omega
theorem Jt (a : List Int) (x : Int) : U.aJ (a ++ [x]) = cond (U.blank x) (U.aJ a) (a.length + 1) := by
 unfold U.aJ
 rw [List.reverse_append, List.length_append]
 show a.length + 1 - U.aA (x :: a.reverse) = _
 rw [U.aA]
 cases U.blank x
 ·rfl
 ·show a.length + 1 - (U.aA a.reverse + 1) = a.length - _; omega
theorem SB {x : Int} (h0 : 0 <= x) (h1 : x < 256) : (U.iE [32, 9]).getD x.toNat false = U.blank x := by
 have key : ∀ k : Fin 256, (U.iE [32, 9]).getD k.val false = U.blank (k.val : Int) := by decide +kernel
 have := key ⟨x.toNat, by omega⟩
 rw [show ((x.toNat : Nat) : Int) = x by omega] at this
 exact this
theorem LD (l : List Int) : (U.trimB l).length = U.aJ l - U.aA (l.take (U.aJ l)) := by
 unfold U.trimB
 have := wS l
 rw [List.length_drop, List.length_take]; omega
theorem MC (c : List Int) : sJ c := by unfold sJ; exact trivial
theorem MF (l c : List Int) (hv : Valid (.slice (.int .u8)) l) (hc : c = [32, 9]) : sK l c := by
 subst hc
 have hl : l.length <= 9223372036854775807 := hv.2
 have hT := wS l
 have hb : ∀ k, k < l.length -> 0 <= l.getD k 0 /\ l.getD k 0 <= 255 := fun k hk => by rw [getD_at hk]; exact vU8 (hv.1 _ (List.getElem_mem _))
 unfold sK
 rw [cond_prop]
 refine ⟨fun h0 => ?_, fun h0 => ?_⟩
 ·have h0 : (l.length : Int) = 0 := of_decide_eq_true h0
  have : l = [] := List.length_eq_zero_iff.1 (by omega)
  subst this; exact ⟨rfl, rfl, trivial⟩
 have h0 : ¬ (l.length : Int) = 0 := of_decide_eq_false h0
 show (decide (((([32, 9] : List Int).length : Nat) : Int) = 1) = true -> _) /\ _
 refine ⟨fun _ => by omega, fun _ => by decide, ?_⟩
 show (∀ c : Int, List.Mem c [32, 9] -> 0 <= c /\ c < 128) /\ _
 refine ⟨fun c hc => ?_, ?_⟩
 ·have hc : c ∈ [32, 9] := hc
  simp only [List.mem_cons, List.not_mem_nil, or_false] at hc
  rcases hc with rfl | rfl <;> omega
 have left : ∀ n : Nat, n = U.aJ l -> ∃ (x0 : Nat × Nat), (U.aS l 0 n = U.aS l x0.1 x0.2 /\ U.aZ l x0.1 x0.2) /\ ∀ (x : Nat × Nat), U.aZ l x.1 x.2 ->
  bif decide ((x.2 : Int) > 0) then (0 : Int) <= 0 /\ (0 : Int) < (x.2 : Int) /\ x.1.add 0 < l.length /\ (0 : Int) <= l.getD (x.1.add 0) 0 /\ l.getD (x.1.add 0) 0 < ((256 : Nat) : Int) /\ (l.getD (x.1.add 0) 0).toNat < 256 /\
   bif !(U.iE [32, 9]).getD (l.getD (x.1.add 0) 0).toNat false then bif decide ((x.2 : Int) = 0) then (U.trimB l).length = 0 /\ l = l /\ True else x.1 = U.aA (List.take (U.aJ l) l) /\ x.2 = (U.trimB l).length /\ l = l /\ True
   else (0 : Int) <= 1 /\ (1 : Int) <= (x.2 : Int) /\ (x.2 : Int) <= (x.2 : Int) /\ ∃ (y : Nat × Nat), U.aS l (x.1.add 1) ((x.2 : Int).toNat.sub 1) = U.aS l y.1 y.2 /\ U.aZ l y.1 y.2 /\ y.2 < x.2
  else bif decide ((x.2 : Int) = 0) then (U.trimB l).length = 0 /\ l = l /\ True else x.1 = U.aA (List.take (U.aJ l) l) /\ x.2 = (U.trimB l).length /\ l = l /\ True := by
  intro n hn
  refine ⟨(0, n), ⟨rfl, by show 0 + n = _; omega, Nat.zero_le _, by show U.aA ((l.take (U.aJ l)).drop 0) + 0 = _; rw [List.drop_zero, Nat.add_zero]⟩, ?_⟩
  rintro ⟨lo, n⟩ ⟨e1, e2, e3⟩
  dsimp only at e1 e2 e3 ⊢
  have hml : (l.take (U.aJ l)).length = U.aJ l := by rw [List.length_take]; omega
  have fin : U.aA ((l.take (U.aJ l)).drop lo) = 0 -> bif decide ((n : Int) = 0) then (U.trimB l).length = 0 /\ l = l /\ True else lo = U.aA (List.take (U.aJ l) l) /\ n = (U.trimB l).length /\ l = l /\ True := by
   intro hz
   rw [cond_prop, LD]
   refine ⟨fun h => ⟨?_, rfl, trivial⟩, fun h => ⟨by omega, by omega, rfl, trivial⟩⟩
   have h : (n : Int) = 0 := of_decide_eq_true h
   omega
  rw [cond_prop]
  refine ⟨fun hn => ?_, fun hn => ?_⟩
  ·have hn : (n : Int) > 0 := of_decide_eq_true hn
   have hlo : lo < l.length := by omega
   have hbb := hb lo hlo
   have hd : (l.take (U.aJ l)).drop lo = l.getD lo 0 :: (l.take (U.aJ l)).drop (lo + 1) := by
    rw [List.drop_eq_getElem_cons (by omega), getD_at hlo, List.getElem_take]
   show (0 : Int) <= 0 /\ _
   rw [show lo.add 0 = lo from rfl]
   refine ⟨by omega, by omega, hlo, hbb.1, by omega, by omega, ?_⟩
   rw [SB hbb.1 (by omega)]
   cases hbl : U.blank (l.getD lo 0) with
   | false =>
     refine fin ?_
     rw [hd, U.aA, hbl]; rfl
   | true =>
     have hN : U.aA ((l.take (U.aJ l)).drop lo) = U.aA ((l.take (U.aJ l)).drop (lo + 1)) + 1 := by rw [hd, U.aA, hbl]; rfl
     show (0 : Int) <= 1 /\ _
     exact ⟨by omega, by omega, by omega, (lo + 1, n - 1), rfl, ⟨by show lo + 1 + (n - 1) = _; omega, by show lo + 1 <= _; omega, by show U.aA ((l.take (U.aJ l)).drop (lo + 1)) + (lo + 1) = _; omega⟩, by show n - 1 < n; omega⟩
  ·have hn : ¬ (n : Int) > 0 := of_decide_eq_false hn
   refine fin ?_
   rw [List.drop_eq_nil_of_le (by omega)]; rfl
 refine ⟨(0, l.length), ⟨rfl, rfl, Nat.le_refl _, hT, by show U.aJ (l.take l.length) = _; rw [List.take_length]⟩, ?_⟩
 rintro ⟨lo, n⟩ ⟨e1, e2, e3, e4⟩
 dsimp only at e1 e2 e3 e4 ⊢
 subst e1
 rw [cond_prop]
 refine ⟨fun hn => ?_, fun hn => ?_⟩
 ·have hn : (n : Int) > 0 := of_decide_eq_true hn
  rw [iH (by omega) (by omega)]
  have hk : (0 : Nat).add ((n : Int) - 1).toNat = n - 1 := by rw [dD]; omega
  rw [hk]
  have hbb := hb (n - 1) (by omega)
  have ht : l.take n = l.take (n - 1) ++ [l.getD (n - 1) 0] := by
   have := List.take_succ_eq_append_getElem (l := l) (i := n - 1) (by omega)
   rw [show n - 1 + 1 = n by omega] at this
   rw [this, getD_at (by omega)]
  have hs := Jt (l.take (n - 1)) (l.getD (n - 1) 0)
  rw [<- ht, e4] at hs
  refine ⟨by omega, by omega, by omega, hbb.1, by omega, by omega, ?_⟩
  rw [SB hbb.1 (by omega)]
  cases hbl : U.blank (l.getD (n - 1) 0) with
  | false =>
    rw [hbl, List.length_take] at hs
    have hs : U.aJ l = min (n - 1) l.length + 1 := hs
    exact left n (by omega)
  | true =>
    rw [hbl] at hs
    have hs : U.aJ l = U.aJ (l.take (n - 1)) := hs
    have hle := wS (l.take (n - 1))
    rw [List.length_take] at hle
    show (0 : Int) <= 0 /\ _
    refine ⟨by omega, by omega, by omega, (0, n - 1), ?_, ⟨rfl, by show n - 1 <= _; omega, by show _ <= n - 1; omega, hs.symm⟩, by show n - 1 < n; omega⟩
    rw [show ((n : Int) - 1).toNat.sub 0 = n - 1 by rw [bV]; omega]
 ·have hn : ¬ (n : Int) > 0 := of_decide_eq_false hn
  exact left n (by omega)
theorem DF (c : Int) : ∀ s, U.ah c s ≠ []
 | [] => by simp [U.ah]
 | x :: r => by rw [U.ah]; split <;> simp
theorem DI (c : Int) : ∀ s, aH s c < 0 -> U.ah c s = [s]
 | [], _ => rfl
 | x :: r, h => by
   have hb := bG r c
   unfold aH at h
   by_cases hx : x = c
   ·simp [hx] at h
   ·by_cases hi : aH r c = -1
    ·have ih := DI c r (by omega)
     rw [U.ah, if_neg hx, ih]; rfl
    ·simp [hx, hi] at h; omega
theorem AP (c : Int) : ∀ (s : List Int), 0 <= aH s c -> U.ah c s = s.take ((aH s c).toNat + 1) :: U.ah c (s.drop ((aH s c).toNat + 1))
 | [], h => by simp [aH] at h
 | x :: r, h => by
   have hb := bG r c
   by_cases hx : x = c
   ·simp [U.ah, aH, hx]
   ·by_cases hi : aH r c = -1
    ·simp [aH, hx, hi] at h
    ·have e : aH (x :: r) c = aH r c + 1 := by simp [aH, hx, hi]
     have ih := AP c r (by omega)
     rw [e, show (aH r c + 1).toNat = (aH r c).toNat + 1 by omega]
     rw [U.ah, if_neg hx, ih]; rfl
theorem DJ (t s : List Int) (n : Int) (hs : s.length <= maxLen) (ht : t.length = 1) (hn : n = 1) : kP t s n := by
 subst hn
 obtain ⟨c, rfl⟩ : ∃ c, t = [c] := by
  match t, ht with
  | [c], _ => exact ⟨c, rfl⟩
 unfold kP
 rw [maxLen_eq] at hs
 have hg : ([c] : List Int).getD 0 0 = c := rfl
 rw [decide_eq_false (show ¬ ((([c] : List Int).length : Nat) : Int) = 0 by simp)]
 simp only [hg, cond_false]
 refine ⟨(s, 0), ⟨rfl, rfl, Nat.pos_of_ne_zero (fun h => DF c s (List.length_eq_zero_iff.1 h)), Nat.le_refl _⟩, ?_⟩
 rintro ⟨r, k⟩ ⟨e1, e2, e3⟩
 dsimp only at e1 e2 e3 ⊢
 have hb := bG r c
 have hd : (U.ah c s).drop k = (U.ah c s).getD k [] :: (U.ah c s).drop (k + 1) := by rw [List.drop_eq_getElem_cons e2, getD_at e2]
 refine ⟨trivial, ?_⟩
 rw [cond_prop]
 refine ⟨fun hi => ?_, fun hi => ?_⟩
 ·have hi : aH r c < 0 := of_decide_eq_true hi
  rw [DI c r hi, hd] at e1
  simp only [List.cons.injEq] at e1
  refine ⟨by omega, by omega, by omega, by omega, e2, ?_, ?_, trivial⟩
  ·rw [kQ]; exact e1.1.symm
  ·have := congrArg List.length e1.2
   rw [List.length_drop] at this
   have h0 : 0 = (U.ah c s).length - (k + 1) := this
   show k + 1 = _; omega
 ·have hi : ¬ aH r c < 0 := of_decide_eq_false hi
  rw [AP c r (by omega), hd] at e1
  simp only [List.cons.injEq] at e1
  have hw : IntKind.i64.wrap ((aH r c).add 1) = aH r c + 1 := dQ (by omega) (by omega)
  have hw2 : IntKind.i64.wrap ((aH r c).add ((1 : Nat) : Int)) = aH r c + 1 := dQ (b := ((1 : Nat) : Int)) (by omega) (by omega)
  simp only [hw, hw2]
  have hn1 : (aH r c + 1).toNat = (aH r c).toNat + 1 := by omega
  have hl2 : (U.ah c s).length ≠ k + 1 := by
   intro h
   have hz : (U.ah c s).drop (k + 1) = [] := List.drop_eq_nil_of_le (by omega)
   rw [hz] at e1
   exact DF _ _ e1.2
  refine ⟨by omega, by omega, by omega, by omega, by omega, by omega, by omega, e2, ?_, ⟨by omega, by omega, by omega, (r.drop (aH r c + 1).toNat, k + 1), ?_, ⟨?_, ?_, ?_⟩, ?_⟩, trivial⟩
  ·rw [kQ, List.drop_zero, jC, hn1]; exact e1.1.symm
  ·rw [kQ]
  ·show U.ah c (r.drop (aH r c + 1).toNat) = (U.ah c s).drop (k + 1)
   rw [hn1]; exact e1.2
  ·show k + 1 < _; omega
  ·show (r.drop _).length <= _; rw [List.length_drop]; omega
  ·show (r.drop _).length < _; rw [List.length_drop]; omega
end Go.Proofs.YtggccomebfpfpaaDoor
set_option linter.unusedSimpArgs false
set_option maxRecDepth 100000
set_option linter.unusedVariables false
namespace Go.Proofs.YtggccomebfpfpaaDoor
open Go.Vc
theorem rJ : bQ Tryd.prog gl 69 jA := V4 (fn := Tryd.f69) Tryd.func69 (by kernel_rfl) (by kernel_rfl) (by kernel_rfl) (by rfl)
theorem ql : bn jB := .cons rJ XA
theorem xG : bQ Tryd.prog gl 39 lI := V5 (fn := Tryd.f39) Tryd.func39 (by kernel_rfl) (by kernel_rfl) (by kernel_rfl) (by rfl)
theorem wU : bn lJ := .cons xG ql
theorem DK : bQ Tryd.prog gl 45 rH := WZ (fn := Tryd.f45) (by kernel_rfl) (by kernel_rfl) (by kernel_rfl) Tryd.strings_IndexByte
theorem pJ : bn iV := .cons DK wU
theorem Ho (x : aK [au, .int .u8]) : bZ Tryd.prog (bg iV) (wJ x.1 x.2) 49 (bU [au, .int .u8] x) [] (mY x.1 x.2) = tC x.1 x.2 := by kernel_rfl
theorem Hq : Pok 49 [au, .int .u8] (fun x => mY x.1 x.2) := by
 refine pk (L := fun x => wJ x.1 x.2) (l := iV) pJ (fun _ => rfl) ?_
 intro x hv hp
 rw [Ho]
 exact E5 x.1 x.2
theorem Hr : bQ Tryd.prog gl 49 wI := Hq
theorem tH : bn jK := .cons Hr pJ
theorem O7 (x : aK [au, au]) : bZ Tryd.prog (bg jK) (Du x.1 x.2) 40 (bU [au, au] x) [] (oO x.1 x.2) = sG x.1 x.2 := by kernel_rfl
theorem O8 : Pok 40 [au, au] (fun x => oO x.1 x.2) := by
 refine pk (L := fun x => Du x.1 x.2) (l := jK) tH (fun _ => rfl) ?_
 intro x hv hp
 rw [O7]
 exact Me x.1 x.2 (hp (List.length x.2 = 1) (by simp [oO]))
theorem O9 : bQ Tryd.prog gl 40 Dt := O8
theorem Bl : bn oP := .cons O9 tH
theorem Pe (x : aK [au, au]) : bZ Tryd.prog (bg oP) (Dw x.1 x.2) 26 (bU [au, au] x) [] (oQ x.1 x.2) = sH x.1 x.2 := by kernel_rfl
theorem Pg : Pok 26 [au, au] (fun x => oQ x.1 x.2) := by
 refine pk (L := fun x => Dw x.1 x.2) (l := oP) Bl (fun _ => rfl) ?_
 intro x hv hp
 rw [Pe]
 exact MB x.1 x.2 (hp (List.length x.2 = 1) (by simp [oQ]))
theorem Ph : bQ Tryd.prog gl 26 Dv := Pg
theorem Bo : bn oU := .cons Ph Bl
theorem Ht (x : aK [au, au]) : bZ Tryd.prog (bg oU) (wL x.1 x.2) 72 (bU [au, au] x) [] (mZ x.1 x.2) = lQ x.1 x.2 := by kernel_rfl
theorem Hu : Pok 72 [au, au] (fun x => mZ x.1 x.2) := by
 refine pk (L := fun x => wL x.1 x.2) (l := oU) Bo (fun _ => rfl) ?_
 intro x hv hp
 rw [Ht]
 exact E8 x.1 x.2 hv.1.2 hv.2.2
theorem Hw : bQ Tryd.prog gl 72 wK := Hu
theorem tJ : bn jL := .cons Hw Bo
theorem Fb (x : aK [au, au]) : bZ Tryd.prog (bg jL) (tq x.1 x.2) 57 (bU [au, au] x) [] (lN x.1 x.2) = kN x.1 x.2 := by kernel_rfl
theorem Fe : Pok 57 [au, au] (fun x => lN x.1 x.2) := by
 refine pk (L := fun x => tq x.1 x.2) (l := jL) tJ (fun _ => rfl) ?_
 intro x hv hp
 rw [Fb]
 exact DC x.1 x.2 hv.1.2 hv.2.2
theorem Fg : bQ Tryd.prog gl 57 sZ := Fe
theorem rM : bn jh := .cons Fg tJ
theorem Hy (x : aK [au, au]) : bZ Tryd.prog (bg jh) (wO x.1 x.2) 56 (bU [au, au] x) [] (ng x.1 x.2) = lS x.1 x.2 := by kernel_rfl
theorem Hz : Pok 56 [au, au] (fun x => ng x.1 x.2) := by
 refine pk (L := fun x => wO x.1 x.2) (l := jh) rM (fun _ => rfl) ?_
 intro x hv hp
 rw [Hy]
 exact Fa x.1 x.2 hv.1.2 hv.2.2
theorem HY : bQ Tryd.prog gl 56 wM := Hz
theorem tK : bn jM := .cons HY rM
theorem Un (x : aK [au, au]) : bZ Tryd.prog (bg jM) (Js x.1 x.2) 58 (bU [au, au] x) [] (uy x.1 x.2) = yL x.1 x.2 := by kernel_rfl
theorem Uo : Pok 58 [au, au] (fun x => uy x.1 x.2) := by
 refine pk (L := fun x => Js x.1 x.2) (l := jM) tK (fun _ => rfl) ?_
 intro x hv hp
 rw [Un]
 exact QO x.1 x.2 hv.1.2 (hp (List.length x.2 = 1) (by simp [uy]))
theorem Ur : bQ Tryd.prog gl 58 Jr := Uo
theorem FZ : bn uz := .cons Ur tK
theorem BL (x : aK [.str]) : bZ Tryd.prog (bg uz) (pI x) 64 (bU [.str] x) [] (iG x) = jO x := by kernel_rfl
theorem BM : Pok 64 [.str] (fun x => iG x) := by
 refine pk (L := fun x => pI x) (l := uz) FZ (fun _ => rfl) ?_
 intro x hv hp
 rw [BL]
 exact AO x hv.2 (hp (∀ c ∈ x, 0 <= c /\ c < 128) (by simp [iG]))
theorem BN : bQ Tryd.prog gl 64 pG := BM
theorem oW : bn fA := .cons BN FZ
theorem Pj (c : List Int) : bZ Tryd.prog (bg fA) (Dx c) 47 (Bf c) (Bg c) (wP c) = sJ c := by kernel_rfl
theorem Pm (l : List Int) (c : List Int) : bZ Tryd.prog (bg fA) (Dy l c) 47 (Bh l c) (Bj l c) (oV l c) = sK l c := by kernel_rfl
theorem QS : Ns Tryd.prog gl 47 qC := by
 refine pkg (l := fA) oW (fun args es d h => ?_) (fun args es d h hv he hp => ?_)
 ·unfold qC at h
  rcases AA h with h | h
  ·obtain ⟨c, rfl, rfl, rfl⟩ := wQ h
   rfl
  rcases AA h with h | h
  ·obtain ⟨l, c, rfl, rfl, rfl⟩ := wR h
   rfl
  cases h
 ·unfold qC at h
  rcases AA h with h | h
  ·obtain ⟨c, rfl, rfl, rfl⟩ := wQ h
   refine ⟨Dx c, ?_⟩
   rw [Pj]
   exact MC c
  rcases AA h with h | h
  ·obtain ⟨l, c, rfl, rfl, rfl⟩ := wR h
   refine ⟨Dy l c, ?_⟩
   rw [Pm]
   exact MF l c (he _ (.head _)) (hp (c = [32, 9]) (by simp [oV]))
  cases h
theorem QT : bQ Tryd.prog gl 47 FY := QS
theorem DL : bn qE := .cons QT oW
theorem Fh (x : aK [au, au, .int .i64]) : EF Tryd.prog (bg qE) (tu x.1 x.2.1 x.2.2) 54 gB x = kP x.1 x.2.1 x.2.2 := by kernel_rfl
theorem Fj : Ji Tryd.prog gl 54 gB := by
 refine pkq (L := fun x => tu x.1 x.2.1 x.2.2) (l := qE) DL (by kernel_rfl) ?_
 intro x hv hp
 exact Eq.mpr (Fh x) (DJ x.1 x.2.1 x.2.2 hv.2.1.2 (hp (List.length x.1 = 1) (by simp [gB, kM])) (hp (x.2.2 = 1) (by simp [gB, kM])))
theorem rO : bn ji := .cons Fj DL
end Go.Proofs.YtggccomebfpfpaaDoor
