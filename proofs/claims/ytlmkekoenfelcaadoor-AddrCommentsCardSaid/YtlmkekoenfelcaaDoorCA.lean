/- What functions of this seat compute, in plain Lean. -/
import Derived.Test.YtlmkekoenfelcaaDoorCZ
import Derived.Test.YtlmkekoenfelcaaDoorCVcF
import Derived.Test.YtlmkekoenfelcaaDoorCS
set_option linter.unusedVariables false
set_option linter.unusedSimpArgs false
set_option maxRecDepth 100000
namespace Go.Proofs.YtlmkekoenfelcaaDoor
open Go.Vc
abbrev Ec : Ty := .slice (.int .u8)
namespace U
def yld : Option SV := some (.one .yld)
def P9 (s t : List Int) : Bool := decide (t.length <= s.length) && decide (s.drop (s.length - t.length) = t)
def LP (s t : List Int) : List Int := cond (P9 s t) (s.take (s.length - t.length)) s
def sJ (s : List Int) (c : Int) : List Int := cond (decide (aO s c >= 0)) (s.take (aO s c).toNat) s
def Jz (s : List Int) (c : Int) : List Int := cond (decide (aO s c >= 0)) (s.drop (aO s c + 1).toNat) []
def blank (c : Int) : Bool := decide (c = 32) || decide (c = 9)
def aF : List Int -> Nat
 | [] => 0
 | x :: r => cond (blank x) (aF r + 1) 0
def aA (l : List Int) : Nat := l.length - aF l.reverse
def trimB (l : List Int) : List Int := (l.take (aA l)).drop (aF (l.take (aA l)))
def dw (l : List Int) : List Bool := l.foldl (fun a c => a.set c.toNat true) (List.replicate 256 false)
def Ed (c : Int) : List Int -> List (List Int)
 | [] => [[]]
 | x :: r => if x = c then [x] :: Ed c r else (x :: (Ed c r).headD []) :: (Ed c r).tail
end U
def pI : Vc.Sum := .pure [.str, .int .u8] false fun x => NH x.1 x.2
def pJ : List (Nat × Ent) := (54, .sum pI) :: []
end Go.Proofs.YtlmkekoenfelcaaDoor
set_option maxRecDepth 100000
set_option linter.unusedVariables false
set_option linter.unusedSimpArgs false
set_option linter.unusedVariables false
set_option maxRecDepth 100000
namespace Go.Proofs.YtlmkekoenfelcaaDoor
open Go.Vc
open Go.Vc.T
theorem Fb (a b : List Int) : a.beq b = decide (a = b) := by rw [Js, Bool.eq_iff_iff]; simp
theorem QD {α : Type} (l : List α) {k : Nat} (h : l.length <= k) : l.take k = l := List.take_of_length_le h
theorem nY (s : List Int) (k : Nat) : List.take ((s.length : Int).toNat.sub k) (List.drop k s) = s.drop k := by
 refine QD _ ?_
 rw [List.length_drop, bU]; omega
theorem OG (s : List Int) (k : Nat) : List.take (k.sub 0) (List.drop 0 s) = s.take k := rfl
theorem xK {a b : Int} (h1 : -9223372036854775808 <= a - b) (h2 : a - b <= 9223372036854775807) : IntKind.i64.wrap (a.sub b) = a - b := OC h1 h2
theorem fJ {a b : Int} (h1 : -9223372036854775808 <= a + b) (h2 : a + b <= 9223372036854775807) : IntKind.i64.wrap (a.add b) = a + b := OC h1 h2
theorem nZ : ∀ l : List Int, U.aF l <= l.length
 | [] => Nat.le_refl 0
 | x :: r => by
   have ih := nZ r
   unfold U.aF; rw [List.length_cons]
   cases U.blank x
   ·exact Nat.zero_le _
   ·show U.aF r + 1 <= _; omega
theorem Ci (l : List Int) : U.aA l <= l.length := by unfold U.aA; omega
theorem Ee (a : List Int) (x : Int) : U.aA (a ++ [x]) = cond (U.blank x) (U.aA a) (a.length + 1) := by
 unfold U.aA
 rw [List.reverse_append, List.length_append]
 show a.length + 1 - U.aF (x :: a.reverse) = _
 rw [U.aF]
 cases U.blank x
 ·rfl
 ·show a.length + 1 - (U.aF a.reverse + 1) = a.length - _; omega
theorem LQ {x : Int} (h0 : 0 <= x) (h1 : x < 256) : (U.dw [32, 9]).getD x.toNat false = U.blank x := by
 have key : ∀ k : Fin 256, (U.dw [32, 9]).getD k.val false = U.blank (k.val : Int) := by decide +kernel
 have := key ⟨x.toNat, by omega⟩
 rw [show ((x.toNat : Nat) : Int) = x by omega] at this
 exact this
end Go.Proofs.YtlmkekoenfelcaaDoor
set_option linter.unusedSimpArgs false
set_option maxRecDepth 100000
set_option linter.unusedVariables false
namespace Go.Proofs.YtlmkekoenfelcaaDoor
open Go.Vc
theorem zy : dZ Tryd.prog gl 54 pI := LM (fn := Tryd.f54) (by kernel_rfl) (by kernel_rfl) (by kernel_rfl) Tryd.strings_IndexByte
theorem yu : dh pJ := .cons zy Rn
end Go.Proofs.YtlmkekoenfelcaaDoor
set_option linter.unusedVariables false
set_option linter.unusedSimpArgs false
set_option maxRecDepth 100000
namespace Go.Proofs.YtlmkekoenfelcaaDoor
open Go.Vc
abbrev Field := List Int × List Int × Int × Int
namespace U
def says (l : List Int) : List Int := cond (P9 l [10]) (LP (LP l [10]) [13]) l
def SQ (c : Int) : Bool := decide (c <= 32) || decide (c > 126)
def begins (l : List Int) : Bool := decide (aO l 58 >= 0) && (decide ((sJ l 58).length >= 1) && (decide ((sJ l 58).length <= 60) && !((sJ l 58).any SQ)))
abbrev HS := List Field × List Int × Int
def f0 : Field := ([], [], 0, 0)
def setLast (fs : List Field) (v : List Int) (e : Int) : List Field := fs.set (fs.length - 1) ((fs.getD (fs.length - 1) f0).1, v, (fs.getD (fs.length - 1) f0).2.2.1, e)
def more (s : HS) (l : List Int) : Bool := blank ((says l).getD 0 0) && decide (s.1 ≠ [])
def goes (s : HS) (l : List Int) : Bool := !(decide (says l = [])) && (more s l || begins (says l))
def Qa (s : HS) (l : List Int) : List Int := cond (more s l) (s.2.1 ++ says l) (Jz (says l) 58)
def RZ (s : HS) (l : List Int) : List Field := cond (more s l) s.1 (s.1 ++ [(sJ (says l) 58, [], s.2.2, 0)])
def Si (s : HS) (l : List Int) : HS := (setLast (RZ s l) (trimB (Qa s l)) (s.2.2 + l.length), Qa s l, s.2.2 + l.length)
def OH : HS -> List (List Int) -> HS × Int
 | s, [] => (s, 0)
 | s, l :: r => cond (decide (l = [])) (s, 0) (cond (goes s l) (OH (Si s l) r) (s, cond (decide (says l = [])) l.length 0))
def hread (b : List Int) : HS × Int := OH ([], [], 0) (Ed 10 b)
def fieldsOf (b : List Int) : List Field := (hread b).1.1.take 40
def trimF (l : List Int) : List Int := (l.drop (aF l)).take (aA (l.drop (aF l)))
end U
end Go.Proofs.YtlmkekoenfelcaaDoor
set_option maxRecDepth 100000
set_option linter.unusedVariables false
set_option linter.unusedSimpArgs false
set_option linter.unusedVariables false
set_option maxRecDepth 100000
namespace Go.Proofs.YtlmkekoenfelcaaDoor
open Go.Vc
open Go.Vc.T
theorem JA (x c : Int) (l : List Int) : aO (x :: l) c = if x = c then 0 else if aO l c = -1 then -1 else aO l c + 1 := rfl
theorem zA : ∀ (a b : List Int), U.aF (a ++ b) = cond (decide (U.aF a = a.length)) (a.length + U.aF b) (U.aF a)
 | [], b => by show U.aF b = 0 + _; omega
 | x :: a, b => by
   have ih := zA a b
   have hle := nZ a
   rw [List.cons_append, U.aF, U.aF, List.length_cons]
   cases U.blank x
   ·rw [decide_eq_false (show ¬ (cond false (U.aF a + 1) 0) = a.length + 1 by show ¬ 0 = _; omega)]; rfl
   ·show U.aF (a ++ b) + 1 = cond (decide (U.aF a + 1 = a.length + 1)) _ (U.aF a + 1)
    rw [ih]
    by_cases h : U.aF a = a.length
    ·rw [decide_eq_true h, decide_eq_true (by omega : U.aF a + 1 = a.length + 1)]; show a.length + U.aF b + 1 = a.length + 1 + U.aF b; omega
    ·rw [decide_eq_false h, decide_eq_false (by omega : ¬ U.aF a + 1 = a.length + 1)]; rfl
theorem NK (l : List Int) : U.aF (l.take (U.aF l)) = U.aF l := by
 induction l with
 | nil => rfl
 | cons x r ih =>
   rw [U.aF]
   cases hb : U.blank x
   ·rfl
   ·show U.aF (x :: r.take (U.aF r)) = U.aF r + 1
    rw [U.aF, hb, ih]; rfl
theorem NM (l : List Int) : U.aF (l.drop (U.aF l)) = 0 := by
 induction l with
 | nil => rfl
 | cons x r ih =>
   rw [U.aF]
   cases hb : U.blank x
   ·show U.aF (x :: r) = 0
    rw [U.aF, hb]; rfl
   ·exact ih
theorem zB : ∀ (l : List Int), U.aF l = l.length -> ∀ x ∈ l, U.blank x = true
 | [], _, _, h => by cases h
 | y :: r, h, x, hx => by
   rw [U.aF, List.length_cons] at h
   cases hb : U.blank y with
   | false => rw [hb] at h; have h : 0 = r.length + 1 := h; omega
   | true =>
     rw [hb] at h
     have h : U.aF r + 1 = r.length + 1 := h
     rcases List.mem_cons.1 hx with rfl | hx
     ·exact hb
     ·exact zB r (by omega) x hx
theorem zC : ∀ (l : List Int), (∀ x ∈ l, U.blank x = true) -> U.aF l = l.length
 | [], _ => rfl
 | y :: r, h => by
   rw [U.aF, h y (by simp), List.length_cons]
   show U.aF r + 1 = _
   rw [zC r fun x hx => h x (List.mem_cons_of_mem _ hx)]
theorem OI (a m : List Int) (h : 0 < U.aA m) : U.aA (a ++ m) = a.length + U.aA m := by
 unfold U.aA at *
 have hle := nZ m.reverse
 rw [List.length_reverse] at hle
 rw [List.reverse_append, List.length_append, zA, List.length_reverse, decide_eq_false (by omega : ¬ U.aF m.reverse = m.length)]
 show a.length + m.length - U.aF m.reverse = _; omega
theorem OJ {x : Int} {r : List Int} (h : U.blank x = false) : 0 < U.aA (x :: r) := by
 unfold U.aA
 have hle := nZ (x :: r).reverse
 rw [List.length_reverse] at hle
 by_cases he : U.aF (x :: r).reverse = (x :: r).reverse.length
 ·have := zB _ he x (by simp)
  rw [h] at this; cases this
 ·rw [List.length_reverse] at he; omega
theorem JB {α : Type} (A B : List α) (t : Nat) : (A ++ B).take (A.length + t) = A ++ B.take t := by
 rw [List.take_append, List.take_of_length_le (by omega), show A.length + t - A.length = t by omega]
theorem JC (l : List Int) : U.trimF l = U.trimB l := by
 have hL := nZ l
 have hd := NM l
 have hs : l.take (U.aF l) ++ l.drop (U.aF l) = l := List.take_append_drop _ _
 have hal : (l.take (U.aF l)).length = U.aF l := by rw [List.length_take]; omega
 unfold U.trimF U.trimB
 cases hm : l.drop (U.aF l) with
 | nil =>
   rw [hm, List.append_nil] at hs
   have hall : ∀ x ∈ l, U.blank x = true := zB l (by have := congrArg List.length hs; omega)
   have hT : U.aA l = 0 := by
    unfold U.aA
    rw [zC l.reverse fun x hx => hall x (List.mem_reverse.1 hx), List.length_reverse]; omega
   rw [hT]; rfl
 | cons x r =>
   have hx : U.blank x = false := by
    rw [hm, U.aF] at hd
    cases hb : U.blank x
    ·rfl
    ·rw [hb] at hd; have hd : U.aF r + 1 = 0 := hd; omega
   have hp := OJ (r := r) hx
   have hT : U.aA l = U.aF l + U.aA (x :: r) := by
    have := OI (l.take (U.aF l)) (x :: r) hp
    rw [hal, <- hm, hs] at this; rw [<- hm]; exact this
   have hlead : U.aF (l.take (U.aA l)) = U.aF l := by
    have e : l.take (U.aA l) = l.take (U.aF l) ++ (x :: r).take (U.aA (x :: r)) := by
     have := JB (l.take (U.aF l)) (x :: r) (U.aA (x :: r))
     rw [<- hm, hs, hal, hm, <- hT] at this; exact this
    rw [e, zA, hal, NK, decide_eq_true rfl]
    show U.aF l + U.aF _ = _
    obtain ⟨n, hn⟩ : ∃ n, U.aA (x :: r) = n + 1 := ⟨U.aA (x :: r) - 1, by omega⟩
    rw [hn, List.take_succ_cons, U.aF, hx]; rfl
   rw [hlead, List.drop_take, <- hm, hm, hT]
   congr 1; omega
end Go.Proofs.YtlmkekoenfelcaaDoor
set_option linter.unusedSimpArgs false
set_option maxRecDepth 100000
set_option linter.unusedVariables false
