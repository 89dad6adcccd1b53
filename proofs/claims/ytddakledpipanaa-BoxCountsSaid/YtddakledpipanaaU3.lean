/- What is told of the laws' loops. -/
import Derived.Test.YtddakledpipanaaU2
set_option linter.unusedVariables false
set_option linter.unusedSimpArgs false
namespace Go.Proofs.Ytddakledpipanaa
open Go.Vc
namespace U
def st5 (l : List Turn) (a : List Int) (v t : Int) (m : List Msg) (last i : Int) : St2 := ⟨⟨[sL false tTurn l] ++ n 4 ++ [sP 0 0, sI last, sI i] ++ n 128, [], [(0, .obj [.str a, .int .i64 v, .int .i64 t, .psl false tMsg m])]⟩, 1, []⟩
def inv5 (l : List Turn) (b : Box) (last i : Int) : Prop := at_ l i ∧ right b = true ∧ b.2.2.1 = last + 1 ∧ b.2.1 = 7 ∧ b.1 = [97]
def f7 (k : Int) : Int := Int.tmod (IntKind.wrap .i64 k) 32
def st7a (b x : Box) (ids : List Int) (f i : Int) : St2 := ⟨⟨[none, sL false (.int .i64) ids, none, sP 0 0, none, none, none, sI f, sP 1 0, none, sI i] ++ n 118, [], [(0, .obj (boxLs b)), (1, .obj (boxLs x))]⟩, 2, []⟩
def msgLs (m : Msg) : List Leaf := [.int .i64 m.1, .int .i64 m.2.1, .int .i64 m.2.2.1, .psl false (.int .u8) m.2.2.2]
def st7b (b x : Box) (ids : List Int) (f i : Int) (m w : Msg) (is : Bool) (k : Int) : St2 := ⟨⟨[none, sL false (.int .i64) ids, none, sP 0 0, none, none, none, sI f, sP 1 0, none, sI i, sP 2 0, sP 3 0, sB is, sI k] ++ n 114, [], [(0, .obj (boxLs b)), (1, .obj (boxLs x)), (2, .obj (msgLs m)), (3, .obj (msgLs w))]⟩, 4, []⟩
def nth (l : List Msg) (i : Int) : Msg := l.getD i.toNat (0, 0, 0, [])
def inv7 (b x : Box) (ids : List Int) (i : Int) (is : Bool) (k : Int) : Prop := 0 ≤ i ∧ i < b.2.2.2.length ∧ x.2.2.2.length = b.2.2.2.length ∧ at_ ids k ∧ is = contains (ids.take k.toNat) (nth b.2.2.2 i).1
end U
def lp5 (l : List Turn) := lpOf 5 8 ⟨{ keep := [0, 5, 6, 7], calmO := [(5, 3, 22)] }, Box × Int × Int, fun x => U.st5 l x.1.1 x.1.2.1 x.1.2.2.1 x.1.2.2.2 x.2.1 x.2.2, fun _ x => U.inv5 l x.1 x.2.1 x.2.2, fun x => l.length - x.2.2.toNat⟩
def lp7 (b x : Box) (ids : List Int) (f : Int) := lpOf2 7 12 ⟨kp [1, 3, 7, 8, 10], Int, fun i => U.st7a b x ids f i, fun _ i => U.at_ b.2.2.2 i ∧ x.2.2.2.length = b.2.2.2.length, fun i => b.2.2.2.length - i.toNat⟩
  17 ⟨kp [1, 3, 7, 8, 10, 11, 12, 13, 14], Int × Bool × Int, fun y => U.st7b b x ids f y.1 (b.2.2.2.getD y.1.toNat (0, 0, 0, [])) (x.2.2.2.getD y.1.toNat (0, 0, 0, [])) y.2.1 y.2.2, fun y0 y => y.1 = y0.1 ∧ U.inv7 b x ids y.1 y.2.1 y.2.2, fun y => ids.length - y.2.2.toNat⟩
end Go.Proofs.Ytddakledpipanaa
