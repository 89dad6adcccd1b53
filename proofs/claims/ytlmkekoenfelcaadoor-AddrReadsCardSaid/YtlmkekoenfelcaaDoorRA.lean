/- What functions of this seat compute, in plain Lean. -/
import Derived.Test.YtlmkekoenfelcaaDoorRZ
import Derived.Test.YtlmkekoenfelcaaDoorRVcF
import Derived.Test.YtlmkekoenfelcaaDoorRS
set_option linter.unusedVariables false
set_option linter.unusedSimpArgs false
set_option maxRecDepth 100000
namespace Go.Proofs.YtlmkekoenfelcaaDoor
open Go.Vc
abbrev FM : Ty := .slice (.int .u8)
namespace U
def yld : Option SV := some (.one .yld)
def SB (s t : List Int) : Bool := decide (t.length <= s.length) && decide (s.drop (s.length - t.length) = t)
def OD (s t : List Int) : List Int := cond (SB s t) (s.take (s.length - t.length)) s
def oC (s : List Int) (c : Int) : List Int := cond (decide (aG s c >= 0)) (s.take (aG s c).toNat) s
def LJ (s : List Int) (c : Int) : List Int := cond (decide (aG s c >= 0)) (s.drop (aG s c + 1).toNat) []
def blank (c : Int) : Bool := decide (c = 32) || decide (c = 9)
def au : List Int -> Nat
 | [] => 0
 | x :: r => cond (blank x) (au r + 1) 0
def aB (l : List Int) : Nat := l.length - au l.reverse
def trimB (l : List Int) : List Int := (l.take (aB l)).drop (au (l.take (aB l)))
def dK (l : List Int) : List Bool := l.foldl (fun a c => a.set c.toNat true) (List.replicate 256 false)
def FN (c : Int) : List Int -> List (List Int)
 | [] => [[]]
 | x :: r => if x = c then [x] :: FN c r else (x :: (FN c r).headD []) :: (FN c r).tail
end U
def qM : Vc.Sum := .pure [.str, .int .u8] false fun x => P7 x.1 x.2
def qN : List (Nat × Ent) := (54, .sum qM) :: []
end Go.Proofs.YtlmkekoenfelcaaDoor
set_option maxRecDepth 100000
set_option linter.unusedVariables false
set_option linter.unusedSimpArgs false
set_option linter.unusedVariables false
set_option maxRecDepth 100000
namespace Go.Proofs.YtlmkekoenfelcaaDoor
open Go.Vc
open Go.Vc.T
theorem xK (a b : List Int) : a.beq b = decide (a = b) := by rw [Ls, Bool.eq_iff_iff]; simp
theorem Tz {α : Type} (l : List α) {k : Nat} (h : l.length <= k) : l.take k = l := List.take_of_length_le h
theorem jP (s : List Int) (k : Nat) : List.take ((s.length : Int).toNat.sub k) (List.drop k s) = s.drop k := by
 refine Tz _ ?_
 rw [List.length_drop, aY]; omega
theorem vV (s : List Int) (k : Nat) : List.take (k.sub 0) (List.drop 0 s) = s.take k := rfl
theorem oD {a b : Int} (h1 : -9223372036854775808 <= a - b) (h2 : a - b <= 9223372036854775807) : IntKind.i64.wrap (a.sub b) = a - b := QO h1 h2
theorem cZ {a b : Int} (h1 : -9223372036854775808 <= a + b) (h2 : a + b <= 9223372036854775807) : IntKind.i64.wrap (a.add b) = a + b := QO h1 h2
theorem mM : ∀ l : List Int, U.au l <= l.length
 | [] => Nat.le_refl 0
 | x :: r => by
   have ih := mM r
   unfold U.au; rw [List.length_cons]
   cases U.blank x
   ·exact Nat.zero_le _
   ·show U.au r + 1 <= _; omega
theorem yY (l : List Int) : U.aB l <= l.length := by unfold U.aB; omega
theorem FP (a : List Int) (x : Int) : U.aB (a ++ [x]) = cond (U.blank x) (U.aB a) (a.length + 1) := by
 unfold U.aB
 rw [List.reverse_append, List.length_append]
 show a.length + 1 - U.au (x :: a.reverse) = _
 rw [U.au]
 cases U.blank x
 ·rfl
 ·show a.length + 1 - (U.au a.reverse + 1) = a.length - _; omega
theorem OE {x : Int} (h0 : 0 <= x) (h1 : x < 256) : (U.dK [32, 9]).getD x.toNat false = U.blank x := by
 have key : ∀ k : Fin 256, (U.dK [32, 9]).getD k.val false = U.blank (k.val : Int) := by decide +kernel
 have := key ⟨x.toNat, by omega⟩
 rw [show ((x.toNat : Nat) : Int) = x by omega] at this
 exact this
end Go.Proofs.YtlmkekoenfelcaaDoor
set_option linter.unusedSimpArgs false
set_option maxRecDepth 100000
set_option linter.unusedVariables false
namespace Go.Proofs.YtlmkekoenfelcaaDoor
open Go.Vc
theorem AB : dH Tryd.prog gl 54 qM := OC (fn := Tryd.f54) (by kernel_rfl) (by kernel_rfl) (by kernel_rfl) Tryd.strings_IndexByte
theorem zB : bU qN := .cons AB Uh
end Go.Proofs.YtlmkekoenfelcaaDoor
set_option linter.unusedVariables false
set_option linter.unusedSimpArgs false
set_option maxRecDepth 100000
namespace Go.Proofs.YtlmkekoenfelcaaDoor
open Go.Vc
abbrev vW : Ty := .slice .str
abbrev Field := List Int × List Int × Int × Int
namespace U
def says (l : List Int) : List Int := cond (SB l [10]) (OD (OD l [10]) [13]) l
def U4 (c : Int) : Bool := decide (c <= 32) || decide (c > 126)
def begins (l : List Int) : Bool := decide (aG l 58 >= 0) && (decide ((oC l 58).length >= 1) && (decide ((oC l 58).length <= 60) && !((oC l 58).any U4)))
abbrev HS := List Field × List Int × Int
def f0 : Field := ([], [], 0, 0)
def setLast (fs : List Field) (v : List Int) (e : Int) : List Field := fs.set (fs.length - 1) ((fs.getD (fs.length - 1) f0).1, v, (fs.getD (fs.length - 1) f0).2.2.1, e)
def more (s : HS) (l : List Int) : Bool := blank ((says l).getD 0 0) && decide (s.1 ≠ [])
def goes (s : HS) (l : List Int) : Bool := !(decide (says l = [])) && (more s l || begins (says l))
def SC (s : HS) (l : List Int) : List Int := cond (more s l) (s.2.1 ++ says l) (LJ (says l) 58)
def UH (s : HS) (l : List Int) : List Field := cond (more s l) s.1 (s.1 ++ [(oC (says l) 58, [], s.2.2, 0)])
def UJ (s : HS) (l : List Int) : HS := (setLast (UH s l) (trimB (SC s l)) (s.2.2 + l.length), SC s l, s.2.2 + l.length)
def QU : HS -> List (List Int) -> HS × Int
 | s, [] => (s, 0)
 | s, l :: r => cond (decide (l = [])) (s, 0) (cond (goes s l) (QU (UJ s l) r) (s, cond (decide (says l = [])) l.length 0))
def hread (b : List Int) : HS × Int := QU ([], [], 0) (FN 10 b)
def fieldsOf (b : List Int) : List Field := (hread b).1.1.take 40
def trimF (l : List Int) : List Int := (l.drop (au l)).take (aB (l.drop (au l)))
end U
end Go.Proofs.YtlmkekoenfelcaaDoor
set_option maxRecDepth 100000
set_option linter.unusedVariables false
set_option linter.unusedSimpArgs false
set_option linter.unusedVariables false
set_option maxRecDepth 100000
namespace Go.Proofs.YtlmkekoenfelcaaDoor
open Go.Vc
open Go.Vc.T
theorem pJ (x c : Int) (l : List Int) : aG (x :: l) c = if x = c then 0 else if aG l c = -1 then -1 else aG l c + 1 := rfl
theorem AL : ∀ (a b : List Int), U.au (a ++ b) = cond (decide (U.au a = a.length)) (a.length + U.au b) (U.au a)
 | [], b => by show U.au b = 0 + _; omega
 | x :: a, b => by
   have ih := AL a b
   have hle := mM a
   rw [List.cons_append, U.au, U.au, List.length_cons]
   cases U.blank x
   ·rw [decide_eq_false (show ¬ (cond false (U.au a + 1) 0) = a.length + 1 by show ¬ 0 = _; omega)]; rfl
   ·show U.au (a ++ b) + 1 = cond (decide (U.au a + 1 = a.length + 1)) _ (U.au a + 1)
    rw [ih]
    by_cases h : U.au a = a.length
    ·rw [decide_eq_true h, decide_eq_true (by omega : U.au a + 1 = a.length + 1)]; show a.length + U.au b + 1 = a.length + 1 + U.au b; omega
    ·rw [decide_eq_false h, decide_eq_false (by omega : ¬ U.au a + 1 = a.length + 1)]; rfl
theorem Qa (l : List Int) : U.au (l.take (U.au l)) = U.au l := by
 induction l with
 | nil => rfl
 | cons x r ih =>
   rw [U.au]
   cases hb : U.blank x
   ·rfl
   ·show U.au (x :: r.take (U.au r)) = U.au r + 1
    rw [U.au, hb, ih]; rfl
theorem Qb (l : List Int) : U.au (l.drop (U.au l)) = 0 := by
 induction l with
 | nil => rfl
 | cons x r ih =>
   rw [U.au]
   cases hb : U.blank x
   ·show U.au (x :: r) = 0
    rw [U.au, hb]; rfl
   ·exact ih
theorem AO : ∀ (l : List Int), U.au l = l.length -> ∀ x ∈ l, U.blank x = true
 | [], _, _, h => by cases h
 | y :: r, h, x, hx => by
   rw [U.au, List.length_cons] at h
   cases hb : U.blank y with
   | false => rw [hb] at h; have h : 0 = r.length + 1 := h; omega
   | true =>
     rw [hb] at h
     have h : U.au r + 1 = r.length + 1 := h
     rcases List.mem_cons.1 hx with rfl | hx
     ·exact hb
     ·exact AO r (by omega) x hx
theorem AP : ∀ (l : List Int), (∀ x ∈ l, U.blank x = true) -> U.au l = l.length
 | [], _ => rfl
 | y :: r, h => by
   rw [U.au, h y (by simp), List.length_cons]
   show U.au r + 1 = _
   rw [AP r fun x hx => h x (List.mem_cons_of_mem _ hx)]
theorem QV (a m : List Int) (h : 0 < U.aB m) : U.aB (a ++ m) = a.length + U.aB m := by
 unfold U.aB at *
 have hle := mM m.reverse
 rw [List.length_reverse] at hle
 rw [List.reverse_append, List.length_append, AL, List.length_reverse, decide_eq_false (by omega : ¬ U.au m.reverse = m.length)]
 show a.length + m.length - U.au m.reverse = _; omega
theorem QW {x : Int} {r : List Int} (h : U.blank x = false) : 0 < U.aB (x :: r) := by
 unfold U.aB
 have hle := mM (x :: r).reverse
 rw [List.length_reverse] at hle
 by_cases he : U.au (x :: r).reverse = (x :: r).reverse.length
 ·have := AO _ he x (by simp)
  rw [h] at this; cases this
 ·rw [List.length_reverse] at he; omega
theorem LK {α : Type} (A B : List α) (t : Nat) : (A ++ B).take (A.length + t) = A ++ B.take t := by
 rw [List.take_append, List.take_of_length_le (by omega), show A.length + t - A.length = t by omega]
theorem LM (l : List Int) : U.trimF l = U.trimB l := by
 have hL := mM l
 have hd := Qb l
 have hs : l.take (U.au l) ++ l.drop (U.au l) = l := List.take_append_drop _ _
 have hal : (l.take (U.au l)).length = U.au l := by rw [List.length_take]; omega
 unfold U.trimF U.trimB
 cases hm : l.drop (U.au l) with
 | nil =>
   rw [hm, List.append_nil] at hs
   have hall : ∀ x ∈ l, U.blank x = true := AO l (by have := congrArg List.length hs; omega)
   have hT : U.aB l = 0 := by
    unfold U.aB
    rw [AP l.reverse fun x hx => hall x (List.mem_reverse.1 hx), List.length_reverse]; omega
   rw [hT]; rfl
 | cons x r =>
   have hx : U.blank x = false := by
    rw [hm, U.au] at hd
    cases hb : U.blank x
    ·rfl
    ·rw [hb] at hd; have hd : U.au r + 1 = 0 := hd; omega
   have hp := QW (r := r) hx
   have hT : U.aB l = U.au l + U.aB (x :: r) := by
    have := QV (l.take (U.au l)) (x :: r) hp
    rw [hal, <- hm, hs] at this; rw [<- hm]; exact this
   have hlead : U.au (l.take (U.aB l)) = U.au l := by
    have e : l.take (U.aB l) = l.take (U.au l) ++ (x :: r).take (U.aB (x :: r)) := by
     have := LK (l.take (U.au l)) (x :: r) (U.aB (x :: r))
     rw [<- hm, hs, hal, hm, <- hT] at this; exact this
    rw [e, AL, hal, Qa, decide_eq_true rfl]
    show U.au l + U.au _ = _
    obtain ⟨n, hn⟩ : ∃ n, U.aB (x :: r) = n + 1 := ⟨U.aB (x :: r) - 1, by omega⟩
    rw [hn, List.take_succ_cons, U.au, hx]; rfl
   rw [hlead, List.drop_take, <- hm, hm, hT]
   congr 1; omega
end Go.Proofs.YtlmkekoenfelcaaDoor
set_option linter.unusedSimpArgs false
set_option maxRecDepth 100000
set_option linter.unusedVariables false
