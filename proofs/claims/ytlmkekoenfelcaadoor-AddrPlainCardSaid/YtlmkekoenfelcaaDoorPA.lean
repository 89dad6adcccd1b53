/- What functions of this seat compute, in plain Lean. -/
import Derived.Test.YtlmkekoenfelcaaDoorPZ
import Derived.Test.YtlmkekoenfelcaaDoorPVcF
import Derived.Test.YtlmkekoenfelcaaDoorPS
set_option linter.unusedVariables false
set_option linter.unusedSimpArgs false
set_option maxRecDepth 100000
namespace Go.Proofs.YtlmkekoenfelcaaDoor
open Go.Vc
abbrev DX : Ty := .slice (.int .u8)
namespace U
def yld : Option SV := some (.one .yld)
def PI (s t : List Int) : Bool := decide (t.length <= s.length) && decide (s.drop (s.length - t.length) = t)
def KY (s t : List Int) : List Int := cond (PI s t) (s.take (s.length - t.length)) s
def nP (s : List Int) (c : Int) : List Int := cond (decide (aH s c >= 0)) (s.take (aH s c).toNat) s
def Jl (s : List Int) (c : Int) : List Int := cond (decide (aH s c >= 0)) (s.drop (aH s c + 1).toNat) []
def blank (c : Int) : Bool := decide (c = 32) || decide (c = 9)
def dS : List Int -> Nat
 | [] => 0
 | x :: r => cond (blank x) (dS r + 1) 0
def aB (l : List Int) : Nat := l.length - dS l.reverse
def trimB (l : List Int) : List Int := (l.take (aB l)).drop (dS (l.take (aB l)))
def cO (l : List Int) : List Bool := l.foldl (fun a c => a.set c.toNat true) (List.replicate 256 false)
def DY (c : Int) : List Int -> List (List Int)
 | [] => [[]]
 | x :: r => if x = c then [x] :: DY c r else (x :: (DY c r).headD []) :: (DY c r).tail
end U
def o8 : Vc.Sum := .pure [.str, .int .u8] false fun x => MX x.1 x.2
def o9 : List (Nat × Ent) := (54, .sum o8) :: []
end Go.Proofs.YtlmkekoenfelcaaDoor
set_option maxRecDepth 100000
set_option linter.unusedVariables false
set_option linter.unusedSimpArgs false
set_option linter.unusedVariables false
set_option maxRecDepth 100000
namespace Go.Proofs.YtlmkekoenfelcaaDoor
open Go.Vc
open Go.Vc.T
theorem EN (a b : List Int) : a.beq b = decide (a = b) := by rw [Jf, Bool.eq_iff_iff]; simp
theorem Ql {α : Type} (l : List α) {k : Nat} (h : l.length <= k) : l.take k = l := List.take_of_length_le h
theorem rW (s : List Int) (k : Nat) : List.take ((s.length : Int).toNat.sub k) (List.drop k s) = s.drop k := by
 refine Ql _ ?_
 rw [List.length_drop, bZ]; omega
theorem Oa (s : List Int) (k : Nat) : List.take (k.sub 0) (List.drop 0 s) = s.take k := rfl
theorem Aa {a b : Int} (h1 : -9223372036854775808 <= a - b) (h2 : a - b <= 9223372036854775807) : IntKind.i64.wrap (a.sub b) = a - b := N7 h1 h2
theorem iJ {a b : Int} (h1 : -9223372036854775808 <= a + b) (h2 : a + b <= 9223372036854775807) : IntKind.i64.wrap (a.add b) = a + b := N7 h1 h2
theorem Jm : ∀ l : List Int, U.dS l <= l.length
 | [] => Nat.le_refl 0
 | x :: r => by
   have ih := Jm r
   unfold U.dS; rw [List.length_cons]
   cases U.blank x
   ·exact Nat.zero_le _
   ·show U.dS r + 1 <= _; omega
theorem BL (l : List Int) : U.aB l <= l.length := by unfold U.aB; omega
theorem xC (a : List Int) (x : Int) : U.aB (a ++ [x]) = cond (U.blank x) (U.aB a) (a.length + 1) := by
 unfold U.aB
 rw [List.reverse_append, List.length_append]
 show a.length + 1 - U.dS (x :: a.reverse) = _
 rw [U.dS]
 cases U.blank x
 ·rfl
 ·show a.length + 1 - (U.dS a.reverse + 1) = a.length - _; omega
theorem KZ {x : Int} (h0 : 0 <= x) (h1 : x < 256) : (U.cO [32, 9]).getD x.toNat false = U.blank x := by
 have key : ∀ k : Fin 256, (U.cO [32, 9]).getD k.val false = U.blank (k.val : Int) := by decide +kernel
 have := key ⟨x.toNat, by omega⟩
 rw [show ((x.toNat : Nat) : Int) = x by omega] at this
 exact this
end Go.Proofs.YtlmkekoenfelcaaDoor
set_option linter.unusedSimpArgs false
set_option maxRecDepth 100000
set_option linter.unusedVariables false
namespace Go.Proofs.YtlmkekoenfelcaaDoor
open Go.Vc
theorem zh : fF Tryd.prog gl 54 o8 := KX (fn := Tryd.f54) (by kernel_rfl) (by kernel_rfl) (by kernel_rfl) Tryd.strings_IndexByte
theorem xY : dG o9 := .cons zh QO
end Go.Proofs.YtlmkekoenfelcaaDoor
set_option linter.unusedVariables false
set_option linter.unusedSimpArgs false
set_option maxRecDepth 100000
namespace Go.Proofs.YtlmkekoenfelcaaDoor
open Go.Vc
abbrev Field := List Int × List Int × Int × Int
namespace U
def says (l : List Int) : List Int := cond (PI l [10]) (KY (KY l [10]) [13]) l
def RX (c : Int) : Bool := decide (c <= 32) || decide (c > 126)
def begins (l : List Int) : Bool := decide (aH l 58 >= 0) && (decide ((nP l 58).length >= 1) && (decide ((nP l 58).length <= 60) && !((nP l 58).any RX)))
abbrev HS := List Field × List Int × Int
def f0 : Field := ([], [], 0, 0)
def setLast (fs : List Field) (v : List Int) (e : Int) : List Field := fs.set (fs.length - 1) ((fs.getD (fs.length - 1) f0).1, v, (fs.getD (fs.length - 1) f0).2.2.1, e)
def more (s : HS) (l : List Int) : Bool := blank ((says l).getD 0 0) && decide (s.1 ≠ [])
def goes (s : HS) (l : List Int) : Bool := !(decide (says l = [])) && (more s l || begins (says l))
def PK (s : HS) (l : List Int) : List Int := cond (more s l) (s.2.1 ++ says l) (Jl (says l) 58)
def Rq (s : HS) (l : List Int) : List Field := cond (more s l) s.1 (s.1 ++ [(nP (says l) 58, [], s.2.2, 0)])
def Rt (s : HS) (l : List Int) : HS := (setLast (Rq s l) (trimB (PK s l)) (s.2.2 + l.length), PK s l, s.2.2 + l.length)
def Ob : HS -> List (List Int) -> HS × Int
 | s, [] => (s, 0)
 | s, l :: r => cond (decide (l = [])) (s, 0) (cond (goes s l) (Ob (Rt s l) r) (s, cond (decide (says l = [])) l.length 0))
def hread (b : List Int) : HS × Int := Ob ([], [], 0) (DY 10 b)
def fieldsOf (b : List Int) : List Field := (hread b).1.1.take 40
end U
end Go.Proofs.YtlmkekoenfelcaaDoor
set_option maxRecDepth 100000
set_option linter.unusedVariables false
set_option linter.unusedSimpArgs false
set_option linter.unusedVariables false
set_option maxRecDepth 100000
namespace Go.Proofs.YtlmkekoenfelcaaDoor
open Go.Vc
open Go.Vc.T
theorem rX (x c : Int) (l : List Int) : aH (x :: l) c = if x = c then 0 else if aH l c = -1 then -1 else aH l c + 1 := rfl
theorem Jo (c : Int) : ∀ (a b : List Int), (∀ x ∈ a, x ≠ c) -> aH (a ++ b) c = if aH b c = -1 then -1 else a.length + aH b c
 | [], b, _ => by
   have := eU b c
   rw [List.nil_append]; split
   ·assumption
   ·simp
 | x :: a, b, h => by
   have ih := Jo c a b fun y hy => h y (List.mem_cons_of_mem _ hy)
   have hx : x ≠ c := h x (by simp)
   have := eU b c
   rw [List.cons_append, rX, if_neg hx, ih, List.length_cons]
   by_cases hb : aH b c = -1
   ·simp [hb]
   ·rw [if_neg hb, if_neg (by omega), if_neg hb]; push_cast; omega
end Go.Proofs.YtlmkekoenfelcaaDoor
set_option linter.unusedSimpArgs false
set_option maxRecDepth 100000
set_option linter.unusedVariables false
