/- What functions of this seat compute, in plain Lean. -/
import Derived.Test.YtlmkekoenfelcaaDoorAZ
import Derived.Test.YtlmkekoenfelcaaDoorAVcF
import Derived.Test.YtlmkekoenfelcaaDoorAS
set_option linter.unusedVariables false
set_option linter.unusedSimpArgs false
set_option maxRecDepth 100000
namespace Go.Proofs.YtlmkekoenfelcaaDoor
open Go.Vc
abbrev Dk : Ty := .slice (.int .u8)
namespace U
def yld : Option SV := some (.one .yld)
def OJ (s t : List Int) : Bool := decide (t.length <= s.length) && decide (s.drop (s.length - t.length) = t)
def Kq (s t : List Int) : List Int := cond (OJ s t) (s.take (s.length - t.length)) s
def rG (s : List Int) (c : Int) : List Int := cond (decide (aK s c >= 0)) (s.take (aK s c).toNat) s
def IG (s : List Int) (c : Int) : List Int := cond (decide (aK s c >= 0)) (s.drop (aK s c + 1).toNat) []
def blank (c : Int) : Bool := decide (c = 32) || decide (c = 9)
def gV : List Int -> Nat
 | [] => 0
 | x :: r => cond (blank x) (gV r + 1) 0
def aB (l : List Int) : Nat := l.length - gV l.reverse
def trimB (l : List Int) : List Int := (l.take (aB l)).drop (gV (l.take (aB l)))
def cO (l : List Int) : List Bool := l.foldl (fun a c => a.set c.toNat true) (List.replicate 256 false)
def Dn (c : Int) : List Int -> List (List Int)
 | [] => [[]]
 | x :: r => if x = c then [x] :: Dn c r else (x :: (Dn c r).headD []) :: (Dn c r).tail
end U
def oL : Vc.Sum := .pure [.str, .int .u8] false fun x => LX x.1 x.2
def oM : List (Nat × Ent) := (54, .sum oL) :: []
end Go.Proofs.YtlmkekoenfelcaaDoor
set_option maxRecDepth 100000
set_option linter.unusedVariables false
set_option linter.unusedSimpArgs false
set_option linter.unusedVariables false
set_option maxRecDepth 100000
namespace Go.Proofs.YtlmkekoenfelcaaDoor
open Go.Vc
open Go.Vc.T
theorem Ej (a b : List Int) : a.beq b = decide (a = b) := by rw [Iw, Bool.eq_iff_iff]; simp
theorem Px {α : Type} (l : List α) {k : Nat} (h : l.length <= k) : l.take k = l := List.take_of_length_le h
theorem rH (s : List Int) (k : Nat) : List.take ((s.length : Int).toNat.sub k) (List.drop k s) = s.drop k := by
 refine Px _ ?_
 rw [List.length_drop, bZ]; omega
theorem Nv (s : List Int) (k : Nat) : List.take (k.sub 0) (List.drop 0 s) = s.take k := rfl
theorem zI {a b : Int} (h1 : -9223372036854775808 <= a - b) (h2 : a - b <= 9223372036854775807) : IntKind.i64.wrap (a.sub b) = a - b := Nr h1 h2
theorem iK {a b : Int} (h1 : -9223372036854775808 <= a + b) (h2 : a + b <= 9223372036854775807) : IntKind.i64.wrap (a.add b) = a + b := Nr h1 h2
theorem II : ∀ l : List Int, U.gV l <= l.length
 | [] => Nat.le_refl 0
 | x :: r => by
   have ih := II r
   unfold U.gV; rw [List.length_cons]
   cases U.blank x
   ·exact Nat.zero_le _
   ·show U.gV r + 1 <= _; omega
theorem IJ (l : List Int) : U.aB l <= l.length := by unfold U.aB; omega
theorem L6 (a : List Int) (x : Int) : U.aB (a ++ [x]) = cond (U.blank x) (U.aB a) (a.length + 1) := by
 unfold U.aB
 rw [List.reverse_append, List.length_append]
 show a.length + 1 - U.gV (x :: a.reverse) = _
 rw [U.gV]
 cases U.blank x
 ·rfl
 ·show a.length + 1 - (U.gV a.reverse + 1) = a.length - _; omega
theorem Kr {x : Int} (h0 : 0 <= x) (h1 : x < 256) : (U.cO [32, 9]).getD x.toNat false = U.blank x := by
 have key : ∀ k : Fin 256, (U.cO [32, 9]).getD k.val false = U.blank (k.val : Int) := by decide +kernel
 have := key ⟨x.toNat, by omega⟩
 rw [show ((x.toNat : Nat) : Int) = x by omega] at this
 exact this
end Go.Proofs.YtlmkekoenfelcaaDoor
set_option linter.unusedSimpArgs false
set_option maxRecDepth 100000
set_option linter.unusedVariables false
namespace Go.Proofs.YtlmkekoenfelcaaDoor
open Go.Vc
theorem yP : fO Tryd.prog gl 54 oL := Ko (fn := Tryd.f54) (by kernel_rfl) (by kernel_rfl) (by kernel_rfl) Tryd.strings_IndexByte
theorem xE : dL oM := .cons yP Qd
end Go.Proofs.YtlmkekoenfelcaaDoor
set_option linter.unusedVariables false
set_option linter.unusedSimpArgs false
set_option maxRecDepth 100000
namespace Go.Proofs.YtlmkekoenfelcaaDoor
open Go.Vc
abbrev Field := List Int × List Int × Int × Int
namespace U
def says (l : List Int) : List Int := cond (OJ l [10]) (Kq (Kq l [10]) [13]) l
def QT (c : Int) : Bool := decide (c <= 32) || decide (c > 126)
def begins (l : List Int) : Bool := decide (aK l 58 >= 0) && (decide ((rG l 58).length >= 1) && (decide ((rG l 58).length <= 60) && !((rG l 58).any QT)))
abbrev HS := List Field × List Int × Int
def f0 : Field := ([], [], 0, 0)
def setLast (fs : List Field) (v : List Int) (e : Int) : List Field := fs.set (fs.length - 1) ((fs.getD (fs.length - 1) f0).1, v, (fs.getD (fs.length - 1) f0).2.2.1, e)
def more (s : HS) (l : List Int) : Bool := blank ((says l).getD 0 0) && decide (s.1 ≠ [])
def goes (s : HS) (l : List Int) : Bool := !(decide (says l = [])) && (more s l || begins (says l))
def OL (s : HS) (l : List Int) : List Int := cond (more s l) (s.2.1 ++ says l) (IG (says l) 58)
def QA (s : HS) (l : List Int) : List Field := cond (more s l) s.1 (s.1 ++ [(rG (says l) 58, [], s.2.2, 0)])
def QB (s : HS) (l : List Int) : HS := (setLast (QA s l) (trimB (OL s l)) (s.2.2 + l.length), OL s l, s.2.2 + l.length)
def Nw : HS -> List (List Int) -> HS × Int
 | s, [] => (s, 0)
 | s, l :: r => cond (decide (l = [])) (s, 0) (cond (goes s l) (Nw (QB s l) r) (s, cond (decide (says l = [])) l.length 0))
def hread (b : List Int) : HS × Int := Nw ([], [], 0) (Dn 10 b)
def fieldsOf (b : List Int) : List Field := (hread b).1.1.take 40
end U
end Go.Proofs.YtlmkekoenfelcaaDoor
set_option maxRecDepth 100000
set_option linter.unusedVariables false
set_option linter.unusedSimpArgs false
set_option linter.unusedVariables false
set_option maxRecDepth 100000
namespace Go.Proofs.YtlmkekoenfelcaaDoor
open Go.Vc
open Go.Vc.T
theorem IK (x c : Int) (l : List Int) : aK (x :: l) c = if x = c then 0 else if aK l c = -1 then -1 else aK l c + 1 := rfl
end Go.Proofs.YtlmkekoenfelcaaDoor
set_option linter.unusedSimpArgs false
set_option maxRecDepth 100000
set_option linter.unusedVariables false
