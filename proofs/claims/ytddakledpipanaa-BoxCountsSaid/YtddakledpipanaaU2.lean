/- What the other functions of this seat compute, in plain Lean. -/
import Derived.Test.YtddakledpipanaaU
set_option linter.unusedVariables false
set_option linter.unusedSimpArgs false
namespace Go.Proofs.Ytddakledpipanaa
open Go.Vc
abbrev tTwo : Ty := .arr 2 (.int .i64)
abbrev tTurn : Ty := .pair tMsg (.pair .bool (.int .u8))
abbrev tTurns : Ty := .slice tTurn
abbrev Turn := Msg × Bool × Int
namespace U
def five (x : Int) : Bool := decide (0 ≤ x) && decide (x ≤ 31)
def orI (a b : Int) : Int := IntKind.wrap .i64 (BitVec.toNat (BitVec.ofInt 64 a ||| BitVec.ofInt 64 b))
def notI (a b : Int) : Int := IntKind.wrap .i64 (BitVec.toNat (BitVec.ofInt 64 a &&& ~~~ (BitVec.ofInt 64 b)))
def apply (x mode y : Int) : Int × Int :=
  cond (five x && five y && decide (0 ≤ mode) && decide (mode ≤ 2)) (cond (decide (mode = 0)) (y, 0) (cond (decide (mode = 1)) (orI x y, 0) (notI x y, 0))) (0, 1)
def mayN (m : Msg) : Bool := decide (1 ≤ m.1) && decide (m.1 ≤ 4294967295) && may m
def eqI (a b : List Int) : Bool := a == b
def uids (l : List Msg) : List Int := l.map fun m => m.1
def find (b : Box) (u : Int) : Msg × Bool := cond (decide (place b.2.2.2 u = 0)) ((0, 0, 0, []), false) (b.2.2.2.getD (place b.2.2.2 u - 1).toNat (0, 0, 0, []), true)
def step1 (mode f u : Int) (l : List Msg) : List Msg :=
  l.set (place l u - 1).toNat ((l.getD (place l u - 1).toNat (0, 0, 0, [])).1, (apply (l.getD (place l u - 1).toNat (0, 0, 0, [])).2.1 mode f).1, (l.getD (place l u - 1).toNat (0, 0, 0, [])).2.2)
def stepAll (mode f : Int) : List Int → List Msg → List Msg
  | [], l => l
  | u :: r, l => stepAll mode f r (step1 mode f u l)
def store (b : Box) (ids : List Int) (mode f : Int) : Box × Int :=
  cond (right b && decide ((apply 0 mode f).2 = 0)) (cond (missing b.2.2.2 ids) (b, 6) ((b.1, b.2.1, b.2.2.1, stepAll mode f ids b.2.2.2), 0)) (b, 1)
def own (k : Nat) : Option SV := some (.one (.own k))
def sB (b : Bool) : Option SV := some (.one (.bool b))
def zBox : Entry := .obj [.str [], .int .i64 0, .int .i64 0, .nils]
def oBox (b : Box) (k : Nat) : Entry := .obj [.str b.1, .int .i64 b.2.1, .int .i64 b.2.2.1, .own k]
def rMsgs (l : List Msg) : Entry := .row 27 tMsg true true l
def st19 (b : Box) (o : List Int) (i : Int) : St2 := ⟨⟨n 3 ++ [own 0] ++ n 3 ++ [sL false tMsg b.2.2.2, sI b.2.2.2.length, sI i] ++ n 10, [], [(0, .row 3 (.int .i64) true true o)]⟩, 1, []⟩
def st32 (b : Box) (o : List Int) (i : Int) : St2 := ⟨⟨[none, sP 0 0, none, own 1, sI i] ++ n 17, [], [(0, .obj (boxLs b)), (1, .row 3 (.int .i64) true true o)]⟩, 2, []⟩
def st29 (b : Box) (u i : Int) : St2 := ⟨⟨[none, sI u, sP 0 0, none, none, sI i] ++ n 17, [], [(0, .obj (boxLs b))]⟩, 1, []⟩
def st30 (b : Box) (f c i : Int) : St2 := ⟨⟨[none, sI f, sP 0 0, none, none, sI c, sI i] ++ n 20, [], [(0, .obj (boxLs b))]⟩, 1, []⟩
def st31 (a b : List Int) (i : Int) : St2 := ⟨⟨[sL false (.int .i64) a, sL false (.int .i64) b, none, none, none, sI i] ++ n 20, [], []⟩, 0, []⟩
def st16 (b : Box) (i : Int) : St2 := ⟨⟨[none, sP 0 0, none, sI i] ++ n 69, [], [(0, .obj (boxLs b))]⟩, 1, []⟩
def st11 (b : Box) (l : List Msg) (i : Int) : St2 := ⟨⟨[none, sP 0 0, sP 1 0, own 2, sI i] ++ n 19, [], [(0, .obj (boxLs b)), (1, zBox), (2, rMsgs l)]⟩, 3, []⟩
def st44 (b : Box) (l : List Int) (i : Int) : St2 := ⟨⟨[none, sL false (.int .i64) l, sP 0 0, none, none, sI i] ++ n 13, [], [(0, .obj (boxLs b))]⟩, 1, []⟩
def st47 (a b : Box) (i : Int) : St2 := ⟨⟨[none, sL false tMsg b.2.2.2, some (.one (.fn 48 []))] ++ n 12 ++ [sL false tMsg a.2.2.2, sI a.2.2.2.length, sI i] ++ n 14, [], [(0, .obj (boxLs a)), (1, .obj (boxLs b))]⟩, 2, []⟩
def st20 (b : Box) (l : List Int) (m f : Int) (ms : List Msg) (i : Int) : St2 := ⟨⟨[none, sL false (.int .i64) l, sI m, sI f, sP 0 0, none, none, none, sP 1 0] ++ n 26 ++ [sL false (.int .i64) l, sI l.length, sI i] ++ n 25, [], [(0, oBox b 2), (1, zBox), (2, rMsgs ms)]⟩, 3, []⟩
def st21 (b : Box) (l : List Int) (m f : Int) (ms : List Msg) (i : Int) : St2 := ⟨⟨[none, sL false (.int .i64) l, sI m, sI f] ++ n 4 ++ [sP 0 0] ++ n 3 ++ [sP 1 0, sI i] ++ n 55, [], [(0, zBox), (1, oBox b 2), (2, rMsgs ms)]⟩, 3, []⟩
def st22a (b : Box) (ids : List Int) (left gone : List Msg) (i : Int) : St2 := ⟨⟨[none, sL false (.int .i64) ids, none, none, sP 0 0, none, none, sP 1 0, own 2, own 3, sI i] ++ n 63, [], [(0, zBox), (1, oBox b 4), (2, rMsgs left), (3, rMsgs gone), (4, rMsgs b.2.2.2)]⟩, 5, []⟩
def st22b (b : Box) (ids : List Int) (left gone : List Msg) (i : Int) (is : Bool) (k : Int) : St2 := ⟨⟨[none, sL false (.int .i64) ids, none, none, sP 0 0, none, none, sP 1 0, own 2, own 3, sI i, sB is, sI k] ++ n 61, [], [(0, zBox), (1, oBox b 4), (2, rMsgs left), (3, rMsgs gone), (4, rMsgs b.2.2.2)]⟩, 5, []⟩
def lastU (l : List Msg) (i : Nat) : Int := match i with
  | 0 => 0
  | k + 1 => (l.getD k (0, 0, 0, [])).1
end U
def lpOf2 (f k : Nat) (l : Vc.Loop) (k2 : Nat) (l2 : Vc.Loop) : Nat → Nat → Option Vc.Loop := fun f' k' => cond (Nat.beq f f') (cond (Nat.beq k k') (some l) (cond (Nat.beq k2 k') (some l2) none)) none
def lp19 (b : Box) := lpOf 19 3 ⟨kw [3, 7, 8, 9] [(3, 3)] [], List Int × Int, fun x => U.st19 b x.1 x.2, fun _ x => U.at_ b.2.2.2 x.2 ∧ x.1 = U.uids (b.2.2.2.take x.2.toNat), fun x => b.2.2.2.length - x.2.toNat⟩
def lp32 (b : Box) := lpOf 32 3 ⟨kw [1, 3, 4] [(3, 3)] [], List Int × Int, fun x => U.st32 b x.1 x.2, fun _ x => U.at_ b.2.2.2 x.2 ∧ x.1 = U.uids (b.2.2.2.take x.2.toNat), fun x => b.2.2.2.length - x.2.toNat⟩
def lp29 (b : Box) (u : Int) := lpOf 29 2 ⟨kp [1, 2, 5], Int, fun i => U.st29 b u i, fun _ i => U.at_ b.2.2.2 i ∧ U.idx1 (fun m : Msg => decide (m.1 = u)) (b.2.2.2.drop i.toNat) i = U.idx1 (fun m : Msg => decide (m.1 = u)) b.2.2.2 0, fun i => b.2.2.2.length - i.toNat⟩
def lp30 (b : Box) (f : Int) := lpOf 30 3 ⟨kp [1, 2, 5, 6], Int × Int, fun x => U.st30 b f x.1 x.2, fun _ x => U.at_ b.2.2.2 x.2 ∧ (0 ≤ x.1 ∧ x.1 ≤ x.2) ∧ U.countGo f (b.2.2.2.drop x.2.toNat) x.1 = U.countGo f b.2.2.2 0, fun x => b.2.2.2.length - x.2.toNat⟩
def lp31 (a b : List Int) := lpOf 31 4 ⟨kp [0, 1, 5], Int, fun i => U.st31 a b i, fun _ i => U.at_ a i ∧ a.length = b.length ∧ a.take i.toNat = b.take i.toNat, fun i => a.length - i.toNat⟩
def lp16 (b : Box) := lpOf 16 4 ⟨kp [1, 3], Int, fun i => U.st16 b i, fun _ i => U.at_ b.2.2.2 i ∧ 0 ≤ U.lastU b.2.2.2 i.toNat ∧ U.rightGo b.2.2.1 (b.2.2.2.drop i.toNat) (U.lastU b.2.2.2 i.toNat) = U.rightGo b.2.2.1 b.2.2.2 0, fun i => b.2.2.2.length - i.toNat⟩
def lp11 (b : Box) := lpOf 11 3 ⟨kw [1, 2, 3, 4] [(3, 27)] [], List Msg × Int, fun x => U.st11 b x.1 x.2, fun _ x => U.at_ b.2.2.2 x.2 ∧ x.1 = b.2.2.2.take x.2.toNat, fun x => b.2.2.2.length - x.2.toNat⟩
def lp44 (b : Box) (l : List Int) := lpOf 44 2 ⟨kp [1, 2, 5], Int, fun i => U.st44 b l i, fun _ i => U.at_ l i ∧ U.missing b.2.2.2 (l.drop i.toNat) = U.missing b.2.2.2 l, fun i => l.length - i.toNat⟩
def lp33 (a b : Box) := lpOf 47 4 ⟨kp [1, 2, 15, 16, 17], Int, fun i => U.st47 a b i, fun _ i => U.at_ a.2.2.2 i ∧ a.2.2.2.length = b.2.2.2.length ∧ a.2.2.2.take i.toNat = b.2.2.2.take i.toNat, fun i => a.2.2.2.length - i.toNat⟩
def storeI (b : Box) (l : List Int) (m f : Int) (x : List Msg × Int) : Prop := U.at_ l x.2 ∧ x.1.length = b.2.2.2.length ∧ U.uids x.1 = U.uids b.2.2.2 ∧ U.stepAll m f (l.drop x.2.toNat) x.1 = U.stepAll m f l b.2.2.2
def lp20 (b : Box) (l : List Int) (m f : Int) := lpOf 20 8 ⟨kp [1, 2, 3, 4, 8, 35, 36, 37], List Msg × Int, fun x => U.st20 b l m f x.1 x.2, fun _ x => storeI b l m f x, fun x => l.length - x.2.toNat⟩
def lp21 (b : Box) (l : List Int) (m f : Int) := lpOf 21 8 ⟨kp [1, 2, 3, 8, 12, 13], List Msg × Int, fun x => U.st21 b l m f x.1 x.2, fun _ x => storeI b l m f x, fun x => l.length - x.2.toNat⟩
def takeI (b : Box) (ids : List Int) (left gone : List Msg) (i : Int) : Prop := U.at_ b.2.2.2 i ∧ gone = (b.2.2.2.take i.toNat).filter (fun m => U.contains ids m.1) ∧ left = (b.2.2.2.take i.toNat).filter (fun m => !U.contains ids m.1)
def lp22 (b : Box) (ids : List Int) := lpOf2 22 8 ⟨kw [1, 4, 7, 8, 9, 10] [(8, 27), (9, 27)] [], List Msg × List Msg × Int, fun x => U.st22a b ids x.1 x.2.1 x.2.2, fun _ x => takeI b ids x.1 x.2.1 x.2.2, fun x => b.2.2.2.length - x.2.2.toNat⟩
  12 ⟨kp [1, 4, 7, 8, 9, 10, 11, 12], List Msg × List Msg × Int × Bool × Int, fun x => U.st22b b ids x.1 x.2.1 x.2.2.1 x.2.2.2.1 x.2.2.2.2,
    fun x0 x => takeI b ids x.1 x.2.1 x.2.2.1 ∧ x.2.2.1 = x0.2.2.1 ∧ x.2.2.1 < b.2.2.2.length ∧ U.at_ ids x.2.2.2.2 ∧ x.2.2.2.1 = U.contains (ids.take x.2.2.2.2.toNat) (b.2.2.2.getD x.2.2.1.toNat (0, 0, 0, [])).1, fun x => ids.length - x.2.2.2.2.toNat⟩
def s51 : Vc.Sum := .pure [.int .i64] false fun x => rB (U.five x)
def d42 (x m y : Int) : Done := ⟨[], .tup [Vc.one (.int .i64 (U.apply x m y).1), Vc.one (.int .i64 (U.apply x m y).2)], [], []⟩
def s42 : Vc.Sum := .pure [.int .i64, .int .i64, .int .i64] true fun x => d42 x.1 x.2.1 x.2.2
def s55 : Vc.Sum := .pure [tBytes, tBytes] false fun x => rB (U.eqB x.1 x.2)
def s31 : Vc.Sum := .pure [tInts, tInts] false fun x => rB (U.eqI x.1 x.2)
def s34 : Vc.Sum := .pure [tMsg] false fun m => ⟨[List.length m.2.2.2 ≤ 5000], .v (.of true tMsg m), [], []⟩
def s38 : Vc.Sum := .pure [tMsg] false fun m => rB (U.mayN m)
def s48 : Vc.Sum := .pure [tMsg, tMsg] false fun x => rB (U.eqM x.1 x.2)
def d25 (b : Box) (u : Int) : Done := ⟨[U.small b.2.2.2], .tup [.of true tMsg (U.find b u).1, Vc.one (.bool (U.find b u).2)], [], []⟩
def s25 : Vc.Sum := .pure [tBox, .int .i64] true fun x => d25 x.1 x.2
def s44 : Vc.Sum := .pure [tBox, tInts] false fun x => rB (!U.missing x.1.2.2.2 x.2)
def d20 (b : Box) (ids : List Int) (m f : Int) : Done := ⟨[], .tup [.of false tBox (U.store b ids m f).1, Vc.one (.int .i64 (U.store b ids m f).2)], [], []⟩
def s20 : Vc.Sum := .pure [tBox, tInts, .int .i64, .int .i64] true fun x => d20 x.1 x.2.1 x.2.2.1 x.2.2.2
def d19 (b : Box) : Done := ⟨[List.length b.2.2.2 ≤ 5000], .one (.psl true (.int .i64) (U.uids b.2.2.2)), [], []⟩
def s19 : Vc.Sum := .pure [tBox] false d19
def s29 : Vc.Sum := s28
def s30 : Vc.Sum := s24
def QA : List (Nat × Vc.Sum) := (51, s51) :: (42, s42) :: (55, s55) :: (31, s31) :: (34, s34) :: (25, s25) :: (19, s19) :: (29, s28) :: (30, s24) :: (32, s19) :: Q4
def QB : List (Nat × Vc.Sum) := (43, s42) :: (38, s38) :: (48, s48) :: (11, s27) :: (44, s44) :: (26, s25) :: QA
def QC : List (Nat × Vc.Sum) := (16, s15) :: (33, s14) :: QB
def QD : List (Nat × Vc.Sum) := (13, s12) :: (20, s20) :: (21, s20) :: (22, s17) :: QC
def QE : List (Nat × Vc.Sum) := (9, s9) :: QD
end Go.Proofs.Ytddakledpipanaa
