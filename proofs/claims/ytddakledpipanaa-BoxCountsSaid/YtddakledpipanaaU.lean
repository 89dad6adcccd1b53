/- What the functions of this seat compute, in plain Lean; what is told of their loops. -/
import Derived.Test.YtddakledpipanaaVcLaw
import Derived.Test.YtddakledpipanaaTab
set_option linter.unusedVariables false
set_option linter.unusedSimpArgs false
namespace Go.Proofs.Ytddakledpipanaa
open Go.Vc
abbrev tMsg : Ty := .pair (.int .i64) (.pair (.int .i64) (.pair (.int .i64) (.slice (.int .u8))))
abbrev tBox : Ty := .pair .str (.pair (.int .i64) (.pair (.int .i64) (.slice tMsg)))
abbrev tInts : Ty := .slice (.int .i64)
abbrev tMsgs : Ty := .slice tMsg
abbrev tBytes : Ty := .slice (.int .u8)
abbrev Msg := Int × Int × Int × List Int
abbrev Box := List Int × Int × Int × List Msg
def lk : List (Nat × Vc.Sum) → Nat → Option Vc.Sum
  | [], _ => none
  | (i, s) :: r, f => cond (Nat.beq i f) (some s) (lk r f)
def tabL (T : Nat) : Option TI := cond (Nat.blt T 88) (tab T) none
def cfgOf (l : List (Nat × Vc.Sum)) : Cfg := ⟨tabL, lk l, fun _ => none⟩
def rI (x : Int) : Done := ⟨[], .one (.int .i64 x), [], []⟩
def rB (x : Bool) : Done := ⟨[], .one (.bool x), [], []⟩
namespace U
def sI (x : Int) : Option SV := some (.one (.int .i64 x))
def sL (fr : Bool) (t : Ty) (l : List t.den) : Option SV := some (.one (.psl fr t l))
def sP (i o : Nat) : Option SV := some (.one (.ptr i o))
def n (k : Nat) : List (Option SV) := List.replicate k none
def boxLs (b : Box) : List Leaf := [.str b.1, .int .i64 b.2.1, .int .i64 b.2.2.1, .psl false tMsg b.2.2.2]
def numbered (x : Int) : Bool := decide (1 ≤ x) && decide (x ≤ 4294967295)
def flagRight (x : Int) : Bool := decide (IntKind.wrap .i64 (BitVec.toNat (BitVec.ofInt 64 x &&& ~~~ (BitVec.ofInt 64 31))) = 0)
def may (m : Msg) : Bool := flagRight m.2.1 && (decide (0 ≤ m.2.2.1) && (decide (m.2.2.1 ≤ 1099511627776) && decide (m.2.2.2.length ≤ 2000)))
def rightGo (next : Int) : List Msg → Int → Bool
  | [], _ => true
  | m :: r, last => cond (decide (m.1 ≤ last) || decide (m.1 ≥ next) || !may m) false (rightGo next r m.1)
def right (b : Box) : Bool := numbered b.2.1 && (numbered b.2.2.1 || decide (b.2.2.1 = 4294967296)) && decide (b.2.2.2.length ≤ 40) && rightGo b.2.2.1 b.2.2.2 0
def idx1 {α : Type} (p : α → Bool) : List α → Int → Int
  | [], _ => -1
  | x :: r, i => cond (p x) i (idx1 p r (i + 1))
def place (l : List Msg) (u : Int) : Int := 1 + idx1 (fun m => decide (m.1 = u)) l 0
def missing (l : List Msg) (ids : List Int) : Bool := ids.any fun u => decide (place l u = 0)
def contains (ids : List Int) (v : Int) : Bool := ids.any fun u => decide (v = u)
def greatGo : List Msg → Int → Int
  | [], n => n
  | m :: r, n => cond (decide (n ≤ 5000)) (greatGo r (IntKind.wrap .i64 (n + m.2.2.2.length))) n
def great (b : Box) : Bool := decide (greatGo b.2.2.2 b.2.2.2.length > 5000)
def countGo (f : Int) : List Msg → Int → Int
  | [], n => n
  | m :: r, n => countGo f r (cond (decide (IntKind.wrap .i64 (BitVec.toNat (BitVec.ofInt 64 m.2.1 &&& BitVec.ofInt 64 f)) = f)) (n + 1) n)
def small (l : List Msg) : Prop := l.length ≤ 5000 ∧ ∀ m ∈ l, m.2.2.2.length ≤ 5000
def take (b : Box) (ids : List Int) : Box × List Msg × Int :=
  cond (right b) (cond (missing b.2.2.2 ids) (b, [], 6) ((b.1, b.2.1, b.2.2.1, b.2.2.2.filter fun m => !contains ids m.1), b.2.2.2.filter fun m => contains ids m.1, 0)) (b, [], 1)
def add (b : Box) (m : Msg) : Box × Int × Int :=
  cond (right b && may m) (cond (numbered b.2.2.1) (cond (decide ((b.2.2.2.length : Int) = 40)) (b, 0, 8) ((b.1, b.2.1, b.2.2.1 + 1, b.2.2.2 ++ [(b.2.2.1, m.2)]), b.2.2.1, 0)) (b, 0, 13)) (b, 0, 1)
def eqB (a b : List Int) : Bool := a == b
def eqM (a b : Msg) : Bool := a == b
def eqMs (a b : List Msg) : Bool := a == b
def eqBox (a b : Box) : Bool := a == b
def st15 (b : Box) (last i : Int) : St2 := ⟨⟨[none, sP 0 0, none, sI last] ++ n 24 ++ [sL false tMsg b.2.2.2, sI b.2.2.2.length, sI i] ++ n 22, [], [(0, .obj (boxLs b))]⟩, 1, []⟩
def st27 (b : Box) (l : List Msg) (i : Int) : St2 := ⟨⟨[none, sP 0 0, sP 1 0, some (.one (.own 2))] ++ n 7 ++ [sL false tMsg b.2.2.2, sI b.2.2.2.length, sI i] ++ n 13, [],
  [(0, .obj (boxLs b)), (1, .obj [.str [], .int .i64 0, .int .i64 0, .nils]), (2, .row 27 tMsg true true l)]⟩, 3, []⟩
def st17 (b : Box) (ids : List Int) (gone left : List Msg) (i : Int) : St2 := ⟨⟨[none, sL false (.int .i64) ids, sP 0 0, none, sP 1 0, none, none, none, some (.one (.own 2))] ++ n 16 ++ [some (.one (.own 3)), sI b.2.2.2.length, sI i] ++ n 20, [],
  [(0, .obj [.str b.1, .int .i64 b.2.1, .int .i64 b.2.2.1, .own 4]), (1, .obj [.str [], .int .i64 0, .int .i64 0, .nils]), (2, .row 27 tMsg true true gone), (3, .row 27 tMsg true true b.2.2.2), (4, .row 27 tMsg true true left)]⟩, 5, []⟩
def st10 (b : Box) (c i : Int) : St2 := ⟨⟨[none, sP 0 0, none, sI c, sI i] ++ n 25, [], [(0, .obj (boxLs b))]⟩, 1, []⟩
def st23 (a b : List Msg) (i : Int) : St2 := ⟨⟨[sL false tMsg a, sL false tMsg b, none, none, none, sI i] ++ n 21, [], []⟩, 0, []⟩
def st54 (l : List Int) (v i : Int) : St2 := ⟨⟨[sL false (.int .i64) l, sI v] ++ n 5 ++ [sI l.length, sI i] ++ n 10, [], []⟩, 0, []⟩
def st45 (b : Box) (u i : Int) : St2 := ⟨⟨[sL false tMsg b.2.2.2, some (.one (.fn 46 [1]))] ++ n 5 ++ [sI b.2.2.2.length, sI i] ++ n 10, [], [(0, .obj (boxLs b)), (1, .obj [.int .i64 u])]⟩, 2, []⟩
def st56 (b : Box) (l : List Int) (i : Int) : St2 := ⟨⟨[sL false (.int .i64) l, some (.one (.fn 53 [0]))] ++ n 5 ++ [sI l.length, sI i] ++ n 10, [], [(0, .obj (boxLs b))]⟩, 1, []⟩
def st24 (b : Box) (f c i : Int) : St2 := ⟨⟨[none, sI f, none, none, none, sI c, none, none, none, sL false tMsg b.2.2.2, sI b.2.2.2.length, sI i] ++ n 13, [], []⟩, 0, []⟩
def st4 (b x : Box) (g : List Msg) (i k c : Int) : St2 := ⟨⟨[none, none, sP 0 0, none, none, sP 1 0, sL false tMsg g, none, sI i, sI k, sI c] ++ n 103, [], [(0, .obj (boxLs b)), (1, .obj (boxLs x))]⟩, 2, []⟩
def at_ {α : Type} (l : List α) (i : Int) : Prop := 0 ≤ i ∧ i ≤ l.length
end U
/-- one loop of a function -/
def lpOf (f k : Nat) (l : Vc.Loop) : Nat → Nat → Option Vc.Loop := fun f' k' => cond (Nat.beq f f' && Nat.beq k k') (some l) none
def kp (l : List Nat) : Keep := { keep := l }
def kw (l : List Nat) (a : List (Nat × Nat)) (b : List (Nat × Nat × Nat)) : Keep := { keep := l, wake := a, wakeO := b }
def lp15 (b : Box) := lpOf 15 5 ⟨kp [1, 3, 28, 29, 30], Int × Int, fun x => U.st15 b x.1 x.2, fun _ x => U.at_ b.2.2.2 x.2 ∧ U.rightGo b.2.2.1 (b.2.2.2.drop x.2.toNat) x.1 = U.rightGo b.2.2.1 b.2.2.2 0, fun x => b.2.2.2.length - x.2.toNat⟩
def lp27 (b : Box) := lpOf 27 3 ⟨kp [1, 2, 3, 11, 12, 13], List Msg × Int, fun x => U.st27 b x.1 x.2, fun _ x => U.at_ b.2.2.2 x.2 ∧ x.1.length = b.2.2.2.length ∧ x.1.take x.2.toNat = b.2.2.2.take x.2.toNat, fun x => b.2.2.2.length - x.2.toNat⟩
def lp17 (b : Box) (ids : List Int) := lpOf 17 9 ⟨kw [1, 2, 4, 8, 25, 26, 27] [(8, 27)] [(2, 3, 27)], List Msg × List Msg × Int, fun x => U.st17 b ids x.1 x.2.1 x.2.2,
  fun _ x => U.at_ b.2.2.2 x.2.2 ∧ x.1 = (b.2.2.2.take x.2.2.toNat).filter (fun m => U.contains ids m.1) ∧ x.2.1 = (b.2.2.2.take x.2.2.toNat).filter (fun m => !U.contains ids m.1), fun x => b.2.2.2.length - x.2.2.toNat⟩
def lp10 (b : Box) := lpOf 10 3 ⟨kp [1, 3, 4], Int × Int, fun x => U.st10 b x.1 x.2, fun _ x => U.at_ b.2.2.2 x.2 ∧ U.greatGo (b.2.2.2.drop x.2.toNat) x.1 = U.greatGo b.2.2.2 b.2.2.2.length, fun x => b.2.2.2.length - x.2.toNat⟩
def lp23 (a b : List Msg) := lpOf 23 4 ⟨kp [0, 1, 5], Int, fun i => U.st23 a b i, fun _ i => U.at_ a i ∧ a.length = b.length ∧ a.take i.toNat = b.take i.toNat, fun i => a.length - i.toNat⟩
def lp54 (l : List Int) (v : Int) := lpOf 54 2 ⟨kp [0, 1, 7, 8], Int, fun i => U.st54 l v i, fun _ i => U.at_ l i ∧ U.idx1 (fun u => decide (v = u)) (l.drop i.toNat) i = U.idx1 (fun u => decide (v = u)) l 0, fun i => l.length - i.toNat⟩
def lp45 (b : Box) (u : Int) := lpOf 45 2 ⟨kp [0, 1, 7, 8], Int, fun i => U.st45 b u i, fun _ i => U.at_ b.2.2.2 i ∧ U.idx1 (fun m : Msg => decide (m.1 = u)) (b.2.2.2.drop i.toNat) i = U.idx1 (fun m : Msg => decide (m.1 = u)) b.2.2.2 0, fun i => b.2.2.2.length - i.toNat⟩
def lp56 (b : Box) (l : List Int) := lpOf 56 2 ⟨kp [0, 1, 7, 8], Int, fun i => U.st56 b l i, fun _ i => U.at_ l i ∧ U.idx1 (fun u => decide (U.place b.2.2.2 u = 0)) (l.drop i.toNat) i = U.idx1 (fun u => decide (U.place b.2.2.2 u = 0)) l 0, fun i => l.length - i.toNat⟩
def lp24 (b : Box) (f : Int) := lpOf 24 3 ⟨kp [1, 5, 9, 10, 11], Int × Int, fun x => U.st24 b f x.1 x.2, fun _ x => U.at_ b.2.2.2 x.2 ∧ (0 ≤ x.1 ∧ x.1 ≤ x.2) ∧ U.countGo f (b.2.2.2.drop x.2.toNat) x.1 = U.countGo f b.2.2.2 0, fun x => b.2.2.2.length - x.2.toNat⟩
def lp4 (b : Box) (ids : List Int) := lpOf 4 10 ⟨kp [2, 5, 6, 8, 9, 10], Int × Int × Int, fun x => U.st4 b (U.take b ids).1 (U.take b ids).2.1 x.1 x.2.1 x.2.2,
  fun _ x => U.at_ b.2.2.2 x.2.2 ∧ x.1 = ((b.2.2.2.take x.2.2.toNat).filter fun m => U.contains ids m.1).length ∧ x.2.1 = ((b.2.2.2.take x.2.2.toNat).filter fun m => !U.contains ids m.1).length, fun x => b.2.2.2.length - x.2.2.toNat⟩
def s36 : Vc.Sum := .pure [.int .i64] false fun x => rB (U.numbered x)
def s49 : Vc.Sum := .pure [.int .i64] false fun x => rB (U.flagRight x)
def s50 : Vc.Sum := .pure [tBytes] false fun l => ⟨[List.length l ≤ 5000], .one (.psl true (.int .u8) l), [], []⟩
def s41 : Vc.Sum := .pure [tBytes, tBytes] false fun x => rB (U.eqB x.1 x.2)
def s54 : Vc.Sum := .pure [tInts, .int .i64] false fun x => rI (U.idx1 (fun u => decide (x.2 = u)) x.1 0)
def Q1 : List (Nat × Vc.Sum) := [(36, s36), (49, s49), (50, s50), (41, s41), (54, s54)]
def s35 : Vc.Sum := .pure [tMsg] false fun m => rB (U.may m)
def s37 : Vc.Sum := .pure [tMsg] false fun m => ⟨[List.length m.2.2.2 ≤ 5000], .v (.of true tMsg m), [], []⟩
def s18 : Vc.Sum := .pure [tMsg, tMsg] false fun x => rB (U.eqM x.1 x.2)
def s28 : Vc.Sum := .pure [tBox, .int .i64] false fun x => rI (U.place x.1.2.2.2 x.2)
def s40 : Vc.Sum := .pure [tInts, .int .i64] false fun x => rB (U.contains x.1 x.2)
def Q2 : List (Nat × Vc.Sum) := (35, s35) :: (37, s37) :: (18, s18) :: (28, s28) :: (40, s40) :: Q1
def s15 : Vc.Sum := .pure [tBox] false fun b => rB (U.right b)
def d27 (b : Box) : Done := ⟨[U.small b.2.2.2], .v ⟨true, [.str b.1, .int .i64 b.2.1, .int .i64 b.2.2.1, .own 0]⟩, [], [.row 27 tMsg true true b.2.2.2]⟩
def s27 : Vc.Sum := .pure [tBox] false d27
def s23 : Vc.Sum := .pure [tMsgs, tMsgs] false fun x => rB (U.eqMs x.1 x.2)
def s39 : Vc.Sum := .pure [tBox, tInts] false fun x => rB (U.missing x.1.2.2.2 x.2)
def s24 : Vc.Sum := .pure [tBox, .int .i64] false fun x => rI (U.countGo x.2 x.1.2.2.2 0)
def s10 : Vc.Sum := .pure [tBox] false fun b => rB (U.great b)
def Q3 : List (Nat × Vc.Sum) := (15, s15) :: (27, s27) :: (23, s23) :: (39, s39) :: (24, s24) :: (10, s10) :: Q2
def s14 : Vc.Sum := .pure [tBox, tBox] false fun x => rB (U.eqBox x.1 x.2)
def d12 (b : Box) (m : Msg) : Done := ⟨[], .tup [.of false tBox (U.add b m).1, one (.int .i64 (U.add b m).2.1), one (.int .i64 (U.add b m).2.2)], [], []⟩
def s12 : Vc.Sum := .pure [tBox, tMsg] true fun x => d12 x.1 x.2
def d17 (b : Box) (ids : List Int) : Done := ⟨[], .tup [.of false tBox (U.take b ids).1, one (.psl false tMsg (U.take b ids).2.1), one (.int .i64 (U.take b ids).2.2)], [], []⟩
def s17 : Vc.Sum := .pure [tBox, tInts] true fun x => d17 x.1 x.2
def Q4 : List (Nat × Vc.Sum) := (14, s14) :: (12, s12) :: (17, s17) :: Q3
def s9 : Vc.Sum := .pure [] false fun _ => rB true
def Q5 : List (Nat × Vc.Sum) := (9, s9) :: Q4
end Go.Proofs.Ytddakledpipanaa
