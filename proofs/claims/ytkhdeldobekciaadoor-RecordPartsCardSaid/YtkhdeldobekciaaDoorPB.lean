/- What functions of this seat compute, in plain Lean. -/
import Derived.Test.YtkhdeldobekciaaDoorPA
set_option linter.unusedVariables false
set_option linter.unusedSimpArgs false
set_option maxRecDepth 100000
namespace Go.Proofs.YtkhdeldobekciaaDoor
open Go.Vc
namespace U
def ig (c : Int) : Bool := decide (c <= 32) || (decide (c > 126) || decide (aA [40, 41, 123, 37, 42, 34, 92] c >= 0))
def pI (p : Int -> Bool) : List Int -> Int -> Int
 | [], _ => -1
 | x :: r, i => if p x then i else pI p r (i + 1)
end U
namespace U
def eG (s : List Int) : Bool := decide (s.length <= 40) && (decide ((split 47 s).length <= 4) && (decide (wU [] (split 47 s) 0 < 0) && decide (pI ig s 0 < 0)))
end U
namespace U
def fF : List Int := [73, 78, 66, 79, 88]
def fG (s : List Int) : List Int := cond (decide (aA s 47 >= 0)) (s.take (aA s 47).toNat) s
def mZ (s : List Int) : List Int := cond (decide (aA s 47 >= 0)) (47 :: s.drop ((aA s 47).toNat + 1)) []
def bT (s : List Int) : List Int × Int := cond (eG s) ((cond (decide ((fG s).map dH = fF.map dH)) fF (fG s)) ++ mZ s, 0) ([], 3)
def lS (s : List Int) : Bool := decide ((bT s).2 = 0) && decide ((bT s).1 = s)
end U
abbrev rSE (x : List Int × Int) : SV := .tup [one (.str x.1), one (.int .i64 x.2)]
namespace U
def qF (l : List Int) (i : Int) : St2 := ⟨⟨[own 0] ++ [sF 82 []] ++ U.n 5 ++ [sI l.length] ++ [sI i] ++ U.n 10, [], [(0, .row 5 (.int .u8) true false l)]⟩, 1, []⟩
def tJ (l : List Int)  (i : Int) : Prop := at_ l i /\ pI ig (l.drop i.toNat) i = pI ig l 0
end U
def YZ (l : List Int) : Vc.Loop := ⟨{ keep := [0, 1, 7, 8] }, Int, fun x => U.qF l x, fun x0 x => U.tJ l  x, fun x => l.length - x.toNat, fun p => ∀ x, p x, fun _ h => h⟩
def L9 (c : Int) : Done := rB (U.ig c)
def Vx : Vc.Sum := .pure [.int .u8] false fun x => L9 x
def Vy (c : Int) : Nat -> List V -> Nat -> Option Vc.Loop := dw
def FB : List (Nat × Ent) := (82, .sum Vx) :: gq
def iI (l : List Int) : Done := ⟨[], .one (.bool (decide (U.pI U.ig l 0 >= 0))), [.dead], []⟩
def kN (l : List Int) : List V := [⟨false, [.own 0]⟩, ⟨false, [.fn 82 []]⟩]
def kP (l : List Int) : List Entry := [.row 5 (.int .u8) true false l]
def kZ (l : List Int) : Nat -> List V -> Nat -> Option Vc.Loop := fun f v k => cond (Nat.beq f 88 && Nat.beq k 2) (some (YZ l)) <| none
def iq : List V -> List Entry -> Option Done
 | [⟨false, [.own n1]⟩, ⟨false, [.fn n2 []]⟩], [.row n3 (.int .u8) true false l] => cond (Nat.beq n1 0 && Nat.beq n2 82 && Nat.beq n3 5) (some (iI l)) none
 | _, _ => none
theorem jA {args : List V} {es : List Entry} {d : Done} (h : iq args es = some d) : ∃ l, args = kN l /\ es = kP l /\ d = iI l := by
 unfold iq at h
 split at h
 ·obtain ⟨hb, hd⟩ := nU h; simp only [Bool.and_eq_true, Nat.beq_eq] at hb; (try obtain ⟨⟨rfl, rfl⟩, rfl⟩ := hb); subst hd; (try subst_vars); exact ⟨_, rfl, rfl, rfl⟩
 ·cases h
def fA (args : List V) (es : List Entry) : Option Done := orE (iq args es) (none)
def lT : Vc.Sum := .gen fA
def fB : List (Nat × Ent) := (81, .sum lT) :: FB
def wW (s : List Int) : Done := ⟨[s.length <= 1000000000000], .one (.bool (U.eG s)), [], []⟩
def Mc : Vc.Sum := .pure [.str] false fun x => wW x
def Md (s : List Int) : Nat -> List V -> Nat -> Option Vc.Loop := dw
def wX : List (Nat × Ent) := (75, .sum Mc) :: fB
def zn (s : List Int) : Done := ⟨[s.length <= 1000000000000], rSE (U.bT s), [], []⟩
def PO : Vc.Sum := .pure [.str] false fun x => zn x
def PS (s : List Int) : Nat -> List V -> Nat -> Option Vc.Loop := dw
def zo : List (Nat × Ent) := (68, .sum PO) :: wX
def zq (s : List Int) : Done := ⟨[s.length <= 1000000000000], .one (.bool (U.lS s)), [], []⟩
def PU : Vc.Sum := .pure [.str] false fun x => zq x
def PV (s : List Int) : Nat -> List V -> Nat -> Option Vc.Loop := dw
def zu : List (Nat × Ent) := (57, .sum PU) :: zo
end Go.Proofs.YtkhdeldobekciaaDoor
set_option maxRecDepth 100000
set_option linter.unusedVariables false
namespace Go.Proofs.YtkhdeldobekciaaDoor
open Go.Vc
def Jc (c : Int) : Prop := (bif bif decide (c <= (32 : Int)) then true else decide (c > (126 : Int)) then true else decide (aA [(40 : Int), (41 : Int), (123 : Int), (37 : Int), (42 : Int), (34 : Int), (92 : Int)] c >= (0 : Int))) = U.ig c /\ True
def iw (l : List Int) : Prop := ∃ (x0 : Int), (U.qF l (0 : Int) = U.qF l x0 /\ U.tJ l x0) /\ ∀ (x : Int), U.tJ l x -> bif decide (x < (↑l.length : Int)) then (0 : Int) <= x /\ x < (↑l.length : Int) /\ x.toNat < l.length /\ bif U.ig (l.getD x.toNat (0 : Int)) then decide (x >= (0 : Int)) = decide (U.pI U.ig l (0 : Int) >= (0 : Int)) /\
 True else ∃ (y : Int), U.qF l (IntKind.i64.wrap (x.add (1 : Int))) = U.qF l y /\ U.tJ l y /\ l.length.sub y.toNat < l.length.sub x.toNat else decide ((-1 : Int) >= (0 : Int)) = decide (U.pI U.ig l (0 : Int) >= (0 : Int)) /\ True
def AZ (s : List Int) : Prop := (1 : Nat) = (1 : Nat) /\ (0 : Int) = (0 : Int) /\ (-1 : Int) = (-1 : Int) /\ s.length <= (1000000000000 : Nat) /\ bif bif decide ((↑s.length : Int) <= (40 : Int)) then decide ((↑(U.split ([(47 : Int)].getD (0 : Nat) (0 : Int)) s).length : Int) <= (4 : Int)) else false then bif !decide (U.wU [] (U.split ([(47 : Int)].getD (0 : Nat) (0 : Int)) s) (0 : Int) >= (0 :
 Int)) then (!decide (U.pI U.ig s (0 : Int) >= (0 : Int))) = U.eG s /\ True else false = U.eG s /\ True else false = U.eG s /\ True
def Ej (s : List Int) : Prop := s.length <= (1000000000000 : Nat) /\ bif !U.eG s then [] = (U.bT s).1 /\ (3 : Int) = (U.bT s).2 /\ True else (1 : Nat) = (1 : Nat) /\ bif decide (aA s ([(47 : Int)].getD (0 : Nat) (0 : Int)) >= (0 : Int)) then (0 : Int) <= (0 : Int) /\ (0 : Int) <= aA s ([(47 : Int)].getD (0 : Nat) (0 : Int)) /\ aA s ([(47 : Int)].getD (0 : Nat) (0 : Int)) <=
 (↑s.length : Int) /\ (0 : Int) <= IntKind.i64.wrap ((aA s ([(47 : Int)].getD (0 : Nat) (0 : Int))).add (↑((1 : Nat)) : Int)) /\ IntKind.i64.wrap ((aA s ([(47 : Int)].getD (0 : Nat) (0 : Int))).add (↑((1 : Nat)) : Int)) <= (↑s.length : Int) /\ (↑s.length : Int) <= (↑s.length : Int) /\ ((∀ (x : Int), List.Mem x (List.take ((aA s ([(47 : Int)].getD (0 : Nat) (0 : Int))).toNat.sub (0 : Nat)) (List.drop
 (0 : Nat) s)) -> x < (128 : Int)) /\ (∀ (x : Int), List.Mem x [(73 : Int), (78 : Int), (66 : Int), (79 : Int), (88 : Int)] -> x < (128 : Int)) /\ (List.take ((aA s ([(47 : Int)].getD (0 : Nat) (0 : Int))).toNat.sub (0 : Nat)) (List.drop (0 : Nat) s)).length <= (4000000000 : Nat)) /\ bif decide (List.map (fun (x : Int) => if (65 : Int) <= x /\ x <= (90 : Int) then x.add (32 : Int) else x) (List.take ((aA
 s ([(47 : Int)].getD (0 : Nat) (0 : Int))).toNat.sub (0 : Nat)) (List.drop (0 : Nat) s)) = [(73 : Int).add (32 : Int), (78 : Int).add (32 : Int), (66 : Int).add (32 : Int), (79 : Int).add (32 : Int), (88 : Int).add (32 : Int)]) then Nat.add ((1 : Nat)) (List.take ((↑s.length : Int).toNat.sub (IntKind.i64.wrap ((aA s ([(47 : Int)].getD (0 : Nat) (0 : Int))).add (↑((1 : Nat)) : Int))).toNat)
 (List.drop (IntKind.i64.wrap ((aA s ([(47 : Int)].getD (0 : Nat) (0 : Int))).add (↑((1 : Nat)) : Int))).toNat s)).length <= (9223372036854775807 : Nat) /\ Nat.add ((5 : Nat)) ((List.take ((↑s.length : Int).toNat.sub (IntKind.i64.wrap ((aA s ([(47 : Int)].getD (0 : Nat) (0 : Int))).add (↑((1 : Nat)) : Int))).toNat) (List.drop (IntKind.i64.wrap ((aA s ([(47 : Int)].getD (0 : Nat) (0 : Int))).add
 (↑((1 : Nat)) : Int))).toNat s)).length.add (1 : Nat)) <= (9223372036854775807 : Nat) /\ (73 : Int) :: (78 : Int) :: (66 : Int) :: (79 : Int) :: (88 : Int) :: (47 : Int) :: List.take ((↑s.length : Int).toNat.sub (IntKind.i64.wrap ((aA s ([(47 : Int)].getD (0 : Nat) (0 : Int))).add (↑((1 : Nat)) : Int))).toNat) (List.drop (IntKind.i64.wrap ((aA s ([(47 : Int)].getD (0 : Nat) (0 : Int))).add (↑((1
 : Nat)) : Int))).toNat s) = (U.bT s).1 /\ (0 : Int) = (U.bT s).2 /\ True else Nat.add ((1 : Nat)) (List.take ((↑s.length : Int).toNat.sub (IntKind.i64.wrap ((aA s ([(47 : Int)].getD (0 : Nat) (0 : Int))).add (↑((1 : Nat)) : Int))).toNat) (List.drop (IntKind.i64.wrap ((aA s ([(47 : Int)].getD (0 : Nat) (0 : Int))).add (↑((1 : Nat)) : Int))).toNat s)).length <= (9223372036854775807 : Nat) /\
 (List.take ((aA s ([(47 : Int)].getD (0 : Nat) (0 : Int))).toNat.sub (0 : Nat)) (List.drop (0 : Nat) s)).length.add ((List.take ((↑s.length : Int).toNat.sub (IntKind.i64.wrap ((aA s ([(47 : Int)].getD (0 : Nat) (0 : Int))).add (↑((1 : Nat)) : Int))).toNat) (List.drop (IntKind.i64.wrap ((aA s ([(47 : Int)].getD (0 : Nat) (0 : Int))).add (↑((1 : Nat)) : Int))).toNat s)).length.add (1 : Nat)) <=
 (9223372036854775807 : Nat) /\ (List.take ((aA s ([(47 : Int)].getD (0 : Nat) (0 : Int))).toNat.sub (0 : Nat)) (List.drop (0 : Nat) s)).append ((47 : Int) :: List.take ((↑s.length : Int).toNat.sub (IntKind.i64.wrap ((aA s ([(47 : Int)].getD (0 : Nat) (0 : Int))).add (↑((1 : Nat)) : Int))).toNat) (List.drop (IntKind.i64.wrap ((aA s ([(47 : Int)].getD (0 : Nat) (0 : Int))).add (↑((1 : Nat)) :
 Int))).toNat s)) = (U.bT s).1 /\ (0 : Int) = (U.bT s).2 /\ True else ((∀ (x : Int), List.Mem x s -> x < (128 : Int)) /\ (∀ (x : Int), List.Mem x [(73 : Int), (78 : Int), (66 : Int), (79 : Int), (88 : Int)] -> x < (128 : Int)) /\ s.length <= (4000000000 : Nat)) /\ bif decide (List.map (fun (x : Int) => if (65 : Int) <= x /\ x <= (90 : Int) then x.add (32 : Int) else x) s = [(73 : Int).add (32 : Int),
 (78 : Int).add (32 : Int), (66 : Int).add (32 : Int), (79 : Int).add (32 : Int), (88 : Int).add (32 : Int)]) then [(73 : Int), (78 : Int), (66 : Int), (79 : Int), (88 : Int)] = (U.bT s).1 /\ (0 : Int) = (U.bT s).2 /\ True else s = (U.bT s).1 /\ (0 : Int) = (U.bT s).2 /\ True
def Me (s : List Int) : Prop := s.length <= (1000000000000 : Nat) /\ (bif decide ((U.bT s).2 = (0 : Int)) then (U.bT s).1.beq s else false) = U.lS s /\ True
end Go.Proofs.YtkhdeldobekciaaDoor
set_option linter.unusedSimpArgs false
set_option linter.unusedVariables false
set_option maxRecDepth 100000
namespace Go.Proofs.YtkhdeldobekciaaDoor
open Go.Vc
open Go.Vc.T
theorem ad6 (a : Int) : (!decide (a >= 0)) = decide (a < 0) := by
 rw [Bool.eq_iff_iff]; simp
theorem acR (c : Int) : Jc c := by
 unfold Jc U.ig
 simp only [dW]
 refine ⟨?_, trivial⟩
 rw [Bool.or_assoc]
theorem QD (p : Int -> Bool) : ∀ (l : List Int) (i : Int), 0 <= i -> (decide (U.pI p l i >= 0) = l.any p) /\ (U.pI p l i = -1 ∨ i <= U.pI p l i)
 | [], i, _ => ⟨rfl, .inl rfl⟩
 | x :: r, i, h => by
   have ih := QD p r (i + 1) (by omega)
   unfold U.pI
   cases hp : p x with
   | true => simp [hp]; omega
   | false =>
     rw [if_neg (by simp), List.any_cons, hp, Bool.false_or]
     refine ⟨ih.1, ?_⟩
     rcases ih.2 with h | h
     ·exact .inl h
     ·exact .inr (by omega)
theorem vw (l : List Int) (hl : l.length <= maxLen) : iw l := by
 unfold iw
 rw [maxLen_eq] at hl
 simp only [cond_prop, bG, jy, bW, U.tJ, U.at_, wrap_i64, decide_eq_true_eq, decide_eq_false_iff_not]
 refine ⟨0, ⟨rfl, ⟨by omega, by omega⟩, rfl⟩, ?_⟩
 rintro i ⟨⟨h0, h1⟩, h2⟩
 refine ⟨fun hi => ⟨h0, hi, by omega, fun he => ?_, fun he => ⟨i + 1, ?_, ⟨⟨by omega, by omega⟩, ?_⟩, by omega⟩⟩, fun hi => ?_⟩
 ·rw [drop_at h0 hi] at h2
  rw [getD_at (by omega)] at he
  rw [<- h2, U.pI, if_pos he]; simp
 ·rw [show (i + 1 + 9223372036854775808) % 18446744073709551616 - 9223372036854775808 = i + 1 by omega]
 ·rw [drop_at h0 hi] at h2
  rw [getD_at (by omega)] at he
  rw [<- h2, U.pI, if_neg (by rw [he]; simp)]
 ·rw [drop_end (by omega)] at h2
  rw [<- h2]; simp [U.pI]
theorem Y0 (s : List Int) (h : s.length <= 1000000000000) : Me s := by
 refine ⟨h, ?_, trivial⟩
 unfold U.lS
 rw [dA, fE]; congr 1
 rw [Bool.eq_iff_iff]; simp
theorem acS {s : List Int} (h : U.eG s = true) : s.length <= 40 := by
 unfold U.eG at h
 simp only [Bool.and_eq_true, decide_eq_true_eq] at h
 exact h.1
theorem Wj (s : List Int) (h : s.length <= 1000000000000) : AZ s := by
 unfold AZ U.eG
 have hg : [(47 : Int)].getD 0 0 = 47 := rfl
 rw [hg]
 simp only [dA, ad6]
 refine ⟨trivial, trivial, trivial, h, ?_⟩
 rw [show decide ((s.length : Int) <= 40) = decide (s.length <= 40) by rw [decide_eq_decide]; omega, show decide (((U.split 47 s).length : Int) <= 4) = decide ((U.split 47 s).length <= 4) by rw [decide_eq_decide]; omega]
 cases decide (s.length <= 40) <;> cases decide ((U.split 47 s).length <= 4) <;> cases decide (U.wU [] (U.split 47 s) 0 < 0) <;> simp
theorem Y1 {s : List Int} (h : U.eG s = true) : ∀ x ∈ s, U.ig x = false := by
 unfold U.eG at h
 simp only [Bool.and_eq_true, decide_eq_true_eq] at h
 have h2 := (QD U.ig s 0 (by omega)).1
 rw [show decide (U.pI U.ig s 0 >= 0) = false by rw [decide_eq_false_iff_not]; omega] at h2
 intro x hx
 have := h2.symm
 rw [List.any_eq_false] at this
 simpa using this x hx
theorem agl {x : Int} (h : U.ig x = false) : x < 128 := by
 unfold U.ig at h
 simp only [Bool.or_eq_false_iff, decide_eq_false_iff_not] at h
 omega
theorem Y2 (s : List Int) (hb : ∀ x ∈ s, Byte x) (h : s.length <= 1000000000000) : Ej s := by
 unfold Ej
 have hg : [(47 : Int)].getD 0 0 = 47 := rfl
 rw [hg]
 have hi := jX s 47
 refine ⟨h, ?_⟩
 cases hf : U.eG s with
 | false => unfold U.bT; rw [hf]; exact ⟨rfl, rfl, trivial⟩
 | true =>
   have h40 := acS hf
   have hasc : ∀ x ∈ s, x < 128 := fun x hx => agl (Y1 hf x hx)
   have hin : ∀ x : Int, x ∈ [(73 : Int), 78, 66, 79, 88] -> x < 128 := by intro x hx; simp at hx; omega
   simp only [Bool.not_true, cond_false, cond_prop, decide_eq_true_eq, decide_eq_false_iff_not, bW, dR, dn]
   refine ⟨trivial, fun hpos => ?_, fun hneg => ?_⟩
   ·have w1 : IntKind.i64.wrap (Int.add (aA s 47) ((1 : Nat) : Int)) = aA s 47 + 1 := by rw [wrap_i64, bG]; omega
    have hdl : (s.drop (aA s 47 + 1).toNat).length = s.length - (aA s 47 + 1).toNat := List.length_drop
    have htl : (s.take (aA s 47).toNat).length = (aA s 47).toNat := by rw [List.length_take]; omega
    rw [w1, show ((s.length : Int)).toNat = s.length by omega, List.take_of_length_le (l := s.drop (aA s 47 + 1).toNat) (by omega), List.drop_zero, Nat.sub_zero]
    have Y3 : U.fG s = s.take (aA s 47).toNat := by unfold U.fG; rw [show decide (aA s 47 >= 0) = true by rw [decide_eq_true_eq]; omega]; rfl
    have hrest : U.mZ s = 47 :: s.drop (aA s 47 + 1).toNat := by unfold U.mZ; rw [show decide (aA s 47 >= 0) = true by rw [decide_eq_true_eq]; omega, show (aA s 47 + 1).toNat = (aA s 47).toNat + 1 by omega]; rfl
    refine ⟨by omega, by omega, by omega, by omega, by omega, by omega, ⟨fun x hx => hasc x (List.mem_of_mem_take hx), hin, by omega⟩, fun heq => ?_, fun heq => ?_⟩
    ·refine ⟨by omega, by omega, ?_, ?_, trivial⟩
     ·unfold U.bT; rw [hf, Y3, hrest, show decide ((s.take (aA s 47).toNat).map dH = U.fF.map dH) = true from decide_eq_true heq]; rfl
     ·unfold U.bT; rw [hf]; rfl
    ·refine ⟨by omega, by omega, ?_, ?_, trivial⟩
     ·unfold U.bT; rw [hf, Y3, hrest, show decide ((s.take (aA s 47).toNat).map dH = U.fF.map dH) = false from decide_eq_false heq]; rfl
     ·unfold U.bT; rw [hf]; rfl
   ·have Y3 : U.fG s = s := by unfold U.fG; rw [show decide (aA s 47 >= 0) = false by rw [decide_eq_false_iff_not]; omega]; rfl
    have hrest : U.mZ s = [] := by unfold U.mZ; rw [show decide (aA s 47 >= 0) = false by rw [decide_eq_false_iff_not]; omega]; rfl
    refine ⟨⟨fun x hx => hasc x hx, hin, by omega⟩, fun heq => ?_, fun heq => ?_⟩
    ·refine ⟨?_, ?_, trivial⟩
     ·unfold U.bT; rw [hf, Y3, hrest, show decide (s.map dH = U.fF.map dH) = true from decide_eq_true heq]; rfl
     ·unfold U.bT; rw [hf]; rfl
    ·refine ⟨?_, ?_, trivial⟩
     ·unfold U.bT; rw [hf, Y3, hrest, show decide (s.map dH = U.fF.map dH) = false from decide_eq_false heq]
      show s = s ++ []
      rw [List.append_nil]
     ·unfold U.bT; rw [hf]; rfl
end Go.Proofs.YtkhdeldobekciaaDoor
set_option linter.unusedSimpArgs false
set_option maxRecDepth 100000
set_option linter.unusedVariables false
namespace Go.Proofs.YtkhdeldobekciaaDoor
open Go.Vc
theorem ad7 (x : aI [.int .u8]) : bM Tryd.prog (aU gq) (Vy x) 82 (bK [.int .u8] x) [] (L9 x) = Jc x := by kernel_rfl
theorem ad8 : Pok 82 [.int .u8] (fun x => L9 x) := by
 refine pk (L := fun x => Vy x) (l := gq) nK (fun _ => rfl) ?_
 intro x hv hp
 rw [ad7]
 exact acR x
theorem ad9 : aY Tryd.prog gl 82 Vx := ad8
theorem SI : aS FB := .cons ad9 nK
theorem wC (l : List Int) : bM Tryd.prog (aU FB) (kZ l) 81 (kN l) (kP l) (iI l) = iw l := by kernel_rfl
theorem wY : wO Tryd.prog gl 81 fA := by
 refine pkg (l := FB) SI (fun args es d h => ?_) (fun args es d h hv he hp => ?_)
 ·unfold fA at h
  rcases fM h with h | h
  ·obtain ⟨l, rfl, rfl, rfl⟩ := jA h
   rfl
  cases h
 ·unfold fA at h
  rcases fM h with h | h
  ·obtain ⟨l, rfl, rfl, rfl⟩ := jA h
   refine ⟨kZ l, ?_⟩
   rw [wC]
   exact vw l (he _ (.head _)).2
  cases h
theorem wZ : aY Tryd.prog gl 81 lT := wY
theorem lg : aS fB := .cons wZ SI
theorem Y4 (x : aI [.str]) : bM Tryd.prog (aU fB) (Md x) 75 (bK [.str] x) [] (wW x) = AZ x := by kernel_rfl
theorem Y5 : Pok 75 [.str] (fun x => wW x) := by
 refine pk (L := fun x => Md x) (l := fB) lg (fun _ => rfl) ?_
 intro x hv hp
 rw [Y4]
 exact Wj x (hp (List.length x <= 1000000000000) (by simp [wW]))
theorem Y6 : aY Tryd.prog gl 75 Mc := Y5
theorem JF : aS wX := .cons Y6 lg
theorem aaZ (x : aI [.str]) : bM Tryd.prog (aU wX) (PS x) 68 (bK [.str] x) [] (zn x) = Ej x := by kernel_rfl
theorem aa0 : Pok 68 [.str] (fun x => zn x) := by
 refine pk (L := fun x => PS x) (l := wX) JF (fun _ => rfl) ?_
 intro x hv hp
 rw [aaZ]
 exact Y2 x hv.1 (hp (List.length x <= 1000000000000) (by simp [zn]))
theorem aa1 : aY Tryd.prog gl 68 PO := aa0
theorem MB : aS zo := .cons aa1 JF
theorem aa2 (x : aI [.str]) : bM Tryd.prog (aU zo) (PV x) 57 (bK [.str] x) [] (zq x) = Me x := by kernel_rfl
theorem aa3 : Pok 57 [.str] (fun x => zq x) := by
 refine pk (L := fun x => PV x) (l := zo) MB (fun _ => rfl) ?_
 intro x hv hp
 rw [aa2]
 exact Y0 x (hp (List.length x <= 1000000000000) (by simp [zq]))
theorem aa4 : aY Tryd.prog gl 57 PU := aa3
theorem MC : aS zu := .cons aa4 MB
end Go.Proofs.YtkhdeldobekciaaDoor
