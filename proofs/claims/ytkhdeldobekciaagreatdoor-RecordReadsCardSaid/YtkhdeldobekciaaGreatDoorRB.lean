/- What functions of this seat compute, in plain Lean. -/
import Derived.Test.YtkhdeldobekciaaGreatDoorRA
set_option linter.unusedVariables false
set_option linter.unusedSimpArgs false
set_option maxRecDepth 100000
namespace Go.Proofs.YtkhdeldobekciaaGreatDoor
open Go.Vc
namespace U
def iI (c : Int) : Bool := decide (c <= 32) || (decide (c > 126) || decide (aH [40, 41, 123, 37, 42, 34, 92] c >= 0))
def rW (p : Int -> Bool) : List Int -> Int -> Int
 | [], _ => -1
 | x :: r, i => if p x then i else rW p r (i + 1)
end U
namespace U
def fE (s : List Int) : Bool := decide (s.length <= 40) && (decide ((split 47 s).length <= 4) && (decide (zO [] (split 47 s) 0 < 0) && decide (rW iI s 0 < 0)))
end U
namespace U
def gB : List Int := [73, 78, 66, 79, 88]
def gG (s : List Int) : List Int := cond (decide (aH s 47 >= 0)) (s.take (aH s 47).toNat) s
def oz (s : List Int) : List Int := cond (decide (aH s 47 >= 0)) (47 :: s.drop ((aH s 47).toNat + 1)) []
def bZ (s : List Int) : List Int × Int := cond (fE s) ((cond (decide ((gG s).map dV = gB.map dV)) gB (gG s)) ++ oz s, 0) ([], 3)
def mG (s : List Int) : Bool := decide ((bZ s).2 = 0) && decide ((bZ s).1 = s)
end U
abbrev rSE (x : List Int × Int) : SV := .tup [one (.str x.1), one (.int .i64 x.2)]
namespace U
def um (l : List Int) (i : Int) : St2 := ⟨⟨[own 0] ++ [sF 107 []] ++ U.n 5 ++ [sI l.length] ++ [sI i] ++ U.n 10, [], [(0, .row 5 (.int .u8) true false l)]⟩, 1, []⟩
def wZ (l : List Int)  (i : Int) : Prop := at_ l i /\ rW iI (l.drop i.toNat) i = rW iI l 0
end U
def adP (l : List Int) : Vc.Loop := ⟨{ keep := [0, 1, 7, 8] }, Int, fun x => U.um l x, fun x0 x => U.wZ l  x, fun x => l.length - x.toNat⟩
def Q7 (c : Int) : Done := rB (U.iI c)
def aaI : Vc.Sum := .pure [.int .u8] false fun x => Q7 x
def aaJ (c : Int) : Nat -> List V -> Nat -> Option Vc.Loop := bW
def J5 : List (Nat × Ent) := (107, .sum aaI) :: ig
def iV (l : List Int) : Done := ⟨[], .one (.bool (decide (U.rW U.iI l 0 >= 0))), [.dead], []⟩
def kY (l : List Int) : List V := [⟨false, [.own 0]⟩, ⟨false, [.fn 107 []]⟩]
def kZ (l : List Int) : List Entry := [.row 5 (.int .u8) true false l]
def lK (l : List Int) : Nat -> List V -> Nat -> Option Vc.Loop := fun f v k => cond (Nat.beq f 113 && Nat.beq k 2) (some (adP l)) <| none
def iJ : List V -> List Entry -> Option Done
 | [⟨false, [.own n1]⟩, ⟨false, [.fn n2 []]⟩], [.row n3 (.int .u8) true false l] => cond (Nat.beq n1 0 && Nat.beq n2 107 && Nat.beq n3 5) (some (iV l)) none
 | _, _ => none
theorem jO {args : List V} {es : List Entry} {d : Done} (h : iJ args es = some d) : ∃ l, args = kY l /\ es = kZ l /\ d = iV l := by
 unfold iJ at h
 split at h
 ·obtain ⟨hb, hd⟩ := gX h; simp only [Bool.and_eq_true, Nat.beq_eq] at hb; (try obtain ⟨⟨rfl, rfl⟩, rfl⟩ := hb); subst hd; (try subst_vars); exact ⟨_, rfl, rfl, rfl⟩
 ·cases h
def fP (args : List V) (es : List Entry) : Option Done := orE (iJ args es) (none)
def mJ : Vc.Sum := .gen fP
def fQ : List (Nat × Ent) := (106, .sum mJ) :: J5
def zS (s : List Int) : Done := ⟨[s.length <= 1000000000000], .one (.bool (U.fE s)), [], []⟩
def Q8 : Vc.Sum := .pure [.str] false fun x => zS x
def Q9 (s : List Int) : Nat -> List V -> Nat -> Option Vc.Loop := bW
def zT : List (Nat × Ent) := (99, .sum Q8) :: fQ
def Dn (s : List Int) : Done := ⟨[s.length <= 1000000000000], rSE (U.bZ s), [], []⟩
def Vt : Vc.Sum := .pure [.str] false fun x => Dn x
def Vu (s : List Int) : Nat -> List V -> Nat -> Option Vc.Loop := bW
def Dp : List (Nat × Ent) := (92, .sum Vt) :: zT
def Dq (s : List Int) : Done := ⟨[s.length <= 1000000000000], .one (.bool (U.mG s)), [], []⟩
def Vw : Vc.Sum := .pure [.str] false fun x => Dq x
def Vx (s : List Int) : Nat -> List V -> Nat -> Option Vc.Loop := bW
def Dt : List (Nat × Ent) := (79, .sum Vw) :: Dp
end Go.Proofs.YtkhdeldobekciaaGreatDoor
set_option maxRecDepth 100000
set_option linter.unusedVariables false
namespace Go.Proofs.YtkhdeldobekciaaGreatDoor
open Go.Vc
def NU (c : Int) : Prop := (bif bif decide (c <= (32 : Int)) then true else decide (c > (126 : Int)) then true else decide (aH [(40 : Int), (41 : Int), (123 : Int), (37 : Int), (42 : Int), (34 : Int), (92 : Int)] c >= (0 : Int))) = U.iI c /\ True
def iK (l : List Int) : Prop := ∃ (x0 : Int), (U.um l (0 : Int) = U.um l x0 /\ U.wZ l x0) /\ ∀ (x : Int), U.wZ l x -> bif decide (x < (↑l.length : Int)) then (0 : Int) <= x /\ x < (↑l.length : Int) /\ x.toNat < l.length /\ bif U.iI (l.getD x.toNat (0 : Int)) then decide (x >= (0 : Int)) = decide (U.rW U.iI l (0 : Int) >= (0 : Int)) /\
 True else ∃ (y : Int), U.um l (IntKind.i64.wrap (x.add (1 : Int))) = U.um l y /\ U.wZ l y /\ l.length.sub y.toNat < l.length.sub x.toNat else decide ((-1 : Int) >= (0 : Int)) = decide (U.rW U.iI l (0 : Int) >= (0 : Int)) /\ True
def Fa (s : List Int) : Prop := (1 : Nat) = (1 : Nat) /\ (0 : Int) = (0 : Int) /\ (-1 : Int) = (-1 : Int) /\ s.length <= (1000000000000 : Nat) /\ bif bif decide ((↑s.length : Int) <= (40 : Int)) then decide ((↑(U.split ([(47 : Int)].getD (0 : Nat) (0 : Int)) s).length : Int) <= (4 : Int)) else false then bif !decide (U.zO [] (U.split ([(47 : Int)].getD (0 : Nat) (0 : Int)) s) (0 : Int) >= (0 :
 Int)) then (!decide (U.rW U.iI s (0 : Int) >= (0 : Int))) = U.fE s /\ True else false = U.fE s /\ True else false = U.fE s /\ True
def IL (s : List Int) : Prop := s.length <= (1000000000000 : Nat) /\ bif !U.fE s then [] = (U.bZ s).1 /\ (3 : Int) = (U.bZ s).2 /\ True else (1 : Nat) = (1 : Nat) /\ bif decide (aH s ([(47 : Int)].getD (0 : Nat) (0 : Int)) >= (0 : Int)) then (0 : Int) <= (0 : Int) /\ (0 : Int) <= aH s ([(47 : Int)].getD (0 : Nat) (0 : Int)) /\ aH s ([(47 : Int)].getD (0 : Nat) (0 : Int)) <=
 (↑s.length : Int) /\ (0 : Int) <= IntKind.i64.wrap ((aH s ([(47 : Int)].getD (0 : Nat) (0 : Int))).add (↑((1 : Nat)) : Int)) /\ IntKind.i64.wrap ((aH s ([(47 : Int)].getD (0 : Nat) (0 : Int))).add (↑((1 : Nat)) : Int)) <= (↑s.length : Int) /\ (↑s.length : Int) <= (↑s.length : Int) /\ ((∀ (x : Int), List.Mem x (List.take ((aH s ([(47 : Int)].getD (0 : Nat) (0 : Int))).toNat.sub (0 : Nat)) (List.drop
 (0 : Nat) s)) -> x < (128 : Int)) /\ (∀ (x : Int), List.Mem x [(73 : Int), (78 : Int), (66 : Int), (79 : Int), (88 : Int)] -> x < (128 : Int)) /\ (List.take ((aH s ([(47 : Int)].getD (0 : Nat) (0 : Int))).toNat.sub (0 : Nat)) (List.drop (0 : Nat) s)).length <= (4000000000 : Nat)) /\ bif decide (List.map (fun (x : Int) => if (65 : Int) <= x /\ x <= (90 : Int) then x.add (32 : Int) else x) (List.take ((aH
 s ([(47 : Int)].getD (0 : Nat) (0 : Int))).toNat.sub (0 : Nat)) (List.drop (0 : Nat) s)) = [(73 : Int).add (32 : Int), (78 : Int).add (32 : Int), (66 : Int).add (32 : Int), (79 : Int).add (32 : Int), (88 : Int).add (32 : Int)]) then Nat.add ((1 : Nat)) (List.take ((↑s.length : Int).toNat.sub (IntKind.i64.wrap ((aH s ([(47 : Int)].getD (0 : Nat) (0 : Int))).add (↑((1 : Nat)) : Int))).toNat)
 (List.drop (IntKind.i64.wrap ((aH s ([(47 : Int)].getD (0 : Nat) (0 : Int))).add (↑((1 : Nat)) : Int))).toNat s)).length <= (9223372036854775807 : Nat) /\ Nat.add ((5 : Nat)) ((List.take ((↑s.length : Int).toNat.sub (IntKind.i64.wrap ((aH s ([(47 : Int)].getD (0 : Nat) (0 : Int))).add (↑((1 : Nat)) : Int))).toNat) (List.drop (IntKind.i64.wrap ((aH s ([(47 : Int)].getD (0 : Nat) (0 : Int))).add
 (↑((1 : Nat)) : Int))).toNat s)).length.add (1 : Nat)) <= (9223372036854775807 : Nat) /\ (73 : Int) :: (78 : Int) :: (66 : Int) :: (79 : Int) :: (88 : Int) :: (47 : Int) :: List.take ((↑s.length : Int).toNat.sub (IntKind.i64.wrap ((aH s ([(47 : Int)].getD (0 : Nat) (0 : Int))).add (↑((1 : Nat)) : Int))).toNat) (List.drop (IntKind.i64.wrap ((aH s ([(47 : Int)].getD (0 : Nat) (0 : Int))).add (↑((1
 : Nat)) : Int))).toNat s) = (U.bZ s).1 /\ (0 : Int) = (U.bZ s).2 /\ True else Nat.add ((1 : Nat)) (List.take ((↑s.length : Int).toNat.sub (IntKind.i64.wrap ((aH s ([(47 : Int)].getD (0 : Nat) (0 : Int))).add (↑((1 : Nat)) : Int))).toNat) (List.drop (IntKind.i64.wrap ((aH s ([(47 : Int)].getD (0 : Nat) (0 : Int))).add (↑((1 : Nat)) : Int))).toNat s)).length <= (9223372036854775807 : Nat) /\
 (List.take ((aH s ([(47 : Int)].getD (0 : Nat) (0 : Int))).toNat.sub (0 : Nat)) (List.drop (0 : Nat) s)).length.add ((List.take ((↑s.length : Int).toNat.sub (IntKind.i64.wrap ((aH s ([(47 : Int)].getD (0 : Nat) (0 : Int))).add (↑((1 : Nat)) : Int))).toNat) (List.drop (IntKind.i64.wrap ((aH s ([(47 : Int)].getD (0 : Nat) (0 : Int))).add (↑((1 : Nat)) : Int))).toNat s)).length.add (1 : Nat)) <=
 (9223372036854775807 : Nat) /\ (List.take ((aH s ([(47 : Int)].getD (0 : Nat) (0 : Int))).toNat.sub (0 : Nat)) (List.drop (0 : Nat) s)).append ((47 : Int) :: List.take ((↑s.length : Int).toNat.sub (IntKind.i64.wrap ((aH s ([(47 : Int)].getD (0 : Nat) (0 : Int))).add (↑((1 : Nat)) : Int))).toNat) (List.drop (IntKind.i64.wrap ((aH s ([(47 : Int)].getD (0 : Nat) (0 : Int))).add (↑((1 : Nat)) :
 Int))).toNat s)) = (U.bZ s).1 /\ (0 : Int) = (U.bZ s).2 /\ True else ((∀ (x : Int), List.Mem x s -> x < (128 : Int)) /\ (∀ (x : Int), List.Mem x [(73 : Int), (78 : Int), (66 : Int), (79 : Int), (88 : Int)] -> x < (128 : Int)) /\ s.length <= (4000000000 : Nat)) /\ bif decide (List.map (fun (x : Int) => if (65 : Int) <= x /\ x <= (90 : Int) then x.add (32 : Int) else x) s = [(73 : Int).add (32 : Int),
 (78 : Int).add (32 : Int), (66 : Int).add (32 : Int), (79 : Int).add (32 : Int), (88 : Int).add (32 : Int)]) then [(73 : Int), (78 : Int), (66 : Int), (79 : Int), (88 : Int)] = (U.bZ s).1 /\ (0 : Int) = (U.bZ s).2 /\ True else s = (U.bZ s).1 /\ (0 : Int) = (U.bZ s).2 /\ True
def Rf (s : List Int) : Prop := s.length <= (1000000000000 : Nat) /\ (bif decide ((U.bZ s).2 = (0 : Int)) then (U.bZ s).1.beq s else false) = U.mG s /\ True
end Go.Proofs.YtkhdeldobekciaaGreatDoor
set_option linter.unusedSimpArgs false
set_option linter.unusedVariables false
set_option maxRecDepth 100000
namespace Go.Proofs.YtkhdeldobekciaaGreatDoor
open Go.Vc
open Go.Vc.T
theorem ajm (a : Int) : (!decide (a >= 0)) = decide (a < 0) := by
 rw [Bool.eq_iff_iff]; simp
theorem ahZ (c : Int) : NU c := by
 unfold NU U.iI
 simp only [dZ]
 refine ⟨?_, trivial⟩
 rw [Bool.or_assoc]
theorem WS (p : Int -> Bool) : ∀ (l : List Int) (i : Int), 0 <= i -> (decide (U.rW p l i >= 0) = l.any p) /\ (U.rW p l i = -1 ∨ i <= U.rW p l i)
 | [], i, _ => ⟨rfl, .inl rfl⟩
 | x :: r, i, h => by
   have ih := WS p r (i + 1) (by omega)
   unfold U.rW
   cases hp : p x with
   | true => simp [hp]; omega
   | false =>
     rw [if_neg (by simp), List.any_cons, hp, Bool.false_or]
     refine ⟨ih.1, ?_⟩
     rcases ih.2 with h | h
     ·exact .inl h
     ·exact .inr (by omega)
theorem yJ (l : List Int) (hl : l.length <= maxLen) : iK l := by
 unfold iK
 rw [maxLen_eq] at hl
 simp only [cond_prop, bf, jw, bT, U.wZ, U.at_, wrap_i64, decide_eq_true_eq, decide_eq_false_iff_not]
 refine ⟨0, ⟨rfl, ⟨by omega, by omega⟩, rfl⟩, ?_⟩
 rintro i ⟨⟨h0, h1⟩, h2⟩
 refine ⟨fun hi => ⟨h0, hi, by omega, fun he => ?_, fun he => ⟨i + 1, ?_, ⟨⟨by omega, by omega⟩, ?_⟩, by omega⟩⟩, fun hi => ?_⟩
 ·rw [drop_at h0 hi] at h2
  rw [getD_at (by omega)] at he
  rw [<- h2, U.rW, if_pos he]; simp
 ·rw [show (i + 1 + 9223372036854775808) % 18446744073709551616 - 9223372036854775808 = i + 1 by omega]
 ·rw [drop_at h0 hi] at h2
  rw [getD_at (by omega)] at he
  rw [<- h2, U.rW, if_neg (by rw [he]; simp)]
 ·rw [drop_end (by omega)] at h2
  rw [<- h2]; simp [U.rW]
theorem adQ (s : List Int) (h : s.length <= 1000000000000) : Rf s := by
 refine ⟨h, ?_, trivial⟩
 unfold U.mG
 rw [bY, fO]; congr 1
 rw [Bool.eq_iff_iff]; simp
theorem ah0 {s : List Int} (h : U.fE s = true) : s.length <= 40 := by
 unfold U.fE at h
 simp only [Bool.and_eq_true, decide_eq_true_eq] at h
 exact h.1
theorem abg (s : List Int) (h : s.length <= 1000000000000) : Fa s := by
 unfold Fa U.fE
 have hg : [(47 : Int)].getD 0 0 = 47 := rfl
 rw [hg]
 simp only [bY, ajm]
 refine ⟨trivial, trivial, trivial, h, ?_⟩
 rw [show decide ((s.length : Int) <= 40) = decide (s.length <= 40) by rw [decide_eq_decide]; omega, show decide (((U.split 47 s).length : Int) <= 4) = decide ((U.split 47 s).length <= 4) by rw [decide_eq_decide]; omega]
 cases decide (s.length <= 40) <;> cases decide ((U.split 47 s).length <= 4) <;> cases decide (U.zO [] (U.split 47 s) 0 < 0) <;> simp
theorem adR {s : List Int} (h : U.fE s = true) : ∀ x ∈ s, U.iI x = false := by
 unfold U.fE at h
 simp only [Bool.and_eq_true, decide_eq_true_eq] at h
 have h2 := (WS U.iI s 0 (by omega)).1
 rw [show decide (U.rW U.iI s 0 >= 0) = false by rw [decide_eq_false_iff_not]; omega] at h2
 intro x hx
 have := h2.symm
 rw [List.any_eq_false] at this
 simpa using this x hx
theorem alT {x : Int} (h : U.iI x = false) : x < 128 := by
 unfold U.iI at h
 simp only [Bool.or_eq_false_iff, decide_eq_false_iff_not] at h
 omega
theorem adS (s : List Int) (hb : ∀ x ∈ s, Byte x) (h : s.length <= 1000000000000) : IL s := by
 unfold IL
 have hg : [(47 : Int)].getD 0 0 = 47 := rfl
 rw [hg]
 have hi := kL s 47
 refine ⟨h, ?_⟩
 cases hf : U.fE s with
 | false => unfold U.bZ; rw [hf]; exact ⟨rfl, rfl, trivial⟩
 | true =>
   have h40 := ah0 hf
   have hasc : ∀ x ∈ s, x < 128 := fun x hx => alT (adR hf x hx)
   have hin : ∀ x : Int, x ∈ [(73 : Int), 78, 66, 79, 88] -> x < 128 := by intro x hx; simp at hx; omega
   simp only [Bool.not_true, cond_false, cond_prop, decide_eq_true_eq, decide_eq_false_iff_not, bT, dX, dJ]
   refine ⟨trivial, fun hpos => ?_, fun hneg => ?_⟩
   ·have w1 : IntKind.i64.wrap (Int.add (aH s 47) ((1 : Nat) : Int)) = aH s 47 + 1 := by rw [wrap_i64, bf]; omega
    have hdl : (s.drop (aH s 47 + 1).toNat).length = s.length - (aH s 47 + 1).toNat := List.length_drop
    have htl : (s.take (aH s 47).toNat).length = (aH s 47).toNat := by rw [List.length_take]; omega
    rw [w1, show ((s.length : Int)).toNat = s.length by omega, List.take_of_length_le (l := s.drop (aH s 47 + 1).toNat) (by omega), List.drop_zero, Nat.sub_zero]
    have adT : U.gG s = s.take (aH s 47).toNat := by unfold U.gG; rw [show decide (aH s 47 >= 0) = true by rw [decide_eq_true_eq]; omega]; rfl
    have hrest : U.oz s = 47 :: s.drop (aH s 47 + 1).toNat := by unfold U.oz; rw [show decide (aH s 47 >= 0) = true by rw [decide_eq_true_eq]; omega, show (aH s 47 + 1).toNat = (aH s 47).toNat + 1 by omega]; rfl
    refine ⟨by omega, by omega, by omega, by omega, by omega, by omega, ⟨fun x hx => hasc x (List.mem_of_mem_take hx), hin, by omega⟩, fun heq => ?_, fun heq => ?_⟩
    ·refine ⟨by omega, by omega, ?_, ?_, trivial⟩
     ·unfold U.bZ; rw [hf, adT, hrest, show decide ((s.take (aH s 47).toNat).map dV = U.gB.map dV) = true from decide_eq_true heq]; rfl
     ·unfold U.bZ; rw [hf]; rfl
    ·refine ⟨by omega, by omega, ?_, ?_, trivial⟩
     ·unfold U.bZ; rw [hf, adT, hrest, show decide ((s.take (aH s 47).toNat).map dV = U.gB.map dV) = false from decide_eq_false heq]; rfl
     ·unfold U.bZ; rw [hf]; rfl
   ·have adT : U.gG s = s := by unfold U.gG; rw [show decide (aH s 47 >= 0) = false by rw [decide_eq_false_iff_not]; omega]; rfl
    have hrest : U.oz s = [] := by unfold U.oz; rw [show decide (aH s 47 >= 0) = false by rw [decide_eq_false_iff_not]; omega]; rfl
    refine ⟨⟨fun x hx => hasc x hx, hin, by omega⟩, fun heq => ?_, fun heq => ?_⟩
    ·refine ⟨?_, ?_, trivial⟩
     ·unfold U.bZ; rw [hf, adT, hrest, show decide (s.map dV = U.gB.map dV) = true from decide_eq_true heq]; rfl
     ·unfold U.bZ; rw [hf]; rfl
    ·refine ⟨?_, ?_, trivial⟩
     ·unfold U.bZ; rw [hf, adT, hrest, show decide (s.map dV = U.gB.map dV) = false from decide_eq_false heq]
      show s = s ++ []
      rw [List.append_nil]
     ·unfold U.bZ; rw [hf]; rfl
end Go.Proofs.YtkhdeldobekciaaGreatDoor
set_option linter.unusedSimpArgs false
set_option maxRecDepth 100000
set_option linter.unusedVariables false
namespace Go.Proofs.YtkhdeldobekciaaGreatDoor
open Go.Vc
theorem ajn (x : aP [.int .u8]) : bg Tryz.prog (aT ig) (aaJ x) 107 (aZ [.int .u8] x) [] (Q7 x) = NU x := by kernel_rfl
theorem ajo : Pok 107 [.int .u8] (fun x => Q7 x) := by
 refine pk (L := fun x => aaJ x) (l := ig) oQ (fun _ => rfl) ?_
 intro x hv hp
 rw [ajn]
 exact ahZ x
theorem ajp : aV Tryz.prog gl 107 aaI := ajo
theorem Yu : aQ J5 := .cons ajp oQ
theorem zy (l : List Int) : bg Tryz.prog (aT J5) (lK l) 106 (kY l) (kZ l) (iV l) = iK l := by kernel_rfl
theorem zU : l9 Tryz.prog gl 106 fP := by
 refine pkg (l := J5) Yu (fun args es d h => ?_) (fun args es d h hv he hp => ?_)
 ·unfold fP at h
  rcases dI h with h | h
  ·obtain ⟨l, rfl, rfl, rfl⟩ := jO h
   rfl
  cases h
 ·unfold fP at h
  rcases dI h with h | h
  ·obtain ⟨l, rfl, rfl, rfl⟩ := jO h
   refine ⟨lK l, ?_⟩
   rw [zy]
   exact yJ l (he _ (.head _)).2
  cases h
theorem zV : aV Tryz.prog gl 106 mJ := zU
theorem lM : aQ fQ := .cons zV Yu
theorem adU (x : aP [.str]) : bg Tryz.prog (aT fQ) (Q9 x) 99 (aZ [.str] x) [] (zS x) = Fa x := by kernel_rfl
theorem adV : Pok 99 [.str] (fun x => zS x) := by
 refine pk (L := fun x => Q9 x) (l := fQ) lM (fun _ => rfl) ?_
 intro x hv hp
 rw [adU]
 exact abg x (hp (List.length x <= 1000000000000) (by simp [zS]))
theorem adW : aV Tryz.prog gl 99 Q8 := adV
theorem OL : aQ zT := .cons adW lM
theorem afO (x : aP [.str]) : bg Tryz.prog (aT zT) (Vu x) 92 (aZ [.str] x) [] (Dn x) = IL x := by kernel_rfl
theorem afP : Pok 92 [.str] (fun x => Dn x) := by
 refine pk (L := fun x => Vu x) (l := zT) OL (fun _ => rfl) ?_
 intro x hv hp
 rw [afO]
 exact adS x hv.1 (hp (List.length x <= 1000000000000) (by simp [Dn]))
theorem afQ : aV Tryz.prog gl 92 Vt := afP
theorem Rh : aQ Dp := .cons afQ OL
theorem afR (x : aP [.str]) : bg Tryz.prog (aT Dp) (Vx x) 79 (aZ [.str] x) [] (Dq x) = Rf x := by kernel_rfl
theorem afS : Pok 79 [.str] (fun x => Dq x) := by
 refine pk (L := fun x => Vx x) (l := Dp) Rh (fun _ => rfl) ?_
 intro x hv hp
 rw [afR]
 exact adQ x (hp (List.length x <= 1000000000000) (by simp [Dq]))
theorem afT : aV Tryz.prog gl 79 Vw := afS
theorem Ri : aQ Dt := .cons afT Rh
end Go.Proofs.YtkhdeldobekciaaGreatDoor
