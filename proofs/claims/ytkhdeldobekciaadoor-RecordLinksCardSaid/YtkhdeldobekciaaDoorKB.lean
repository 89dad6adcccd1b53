/- What functions of this seat compute, in plain Lean. -/
import Derived.Test.YtkhdeldobekciaaDoorKA
set_option linter.unusedVariables false
set_option linter.unusedSimpArgs false
set_option maxRecDepth 100000
namespace Go.Proofs.YtkhdeldobekciaaDoor
open Go.Vc
namespace U
def qX (c : Int) : Bool := decide (c <= 32) || (decide (c > 126) || decide (aH [40, 41, 123, 37, 42, 34, 92] c >= 0))
def qY (p : Int -> Bool) : List Int -> Int -> Int
 | [], _ => -1
 | x :: r, i => if p x then i else qY p r (i + 1)
end U
namespace U
def jl (s : List Int) : Bool := decide (s.length <= 40) && (decide ((split 47 s).length <= 4) && (decide (CO [] (split 47 s) 0 < 0) && decide (qY qX s 0 < 0)))
end U
namespace U
def FK : List Int := [73, 78, 66, 79, 88]
def FM (s : List Int) : List Int := cond (decide (aH s 47 >= 0)) (s.take (aH s 47).toNat) s
def P8 (s : List Int) : List Int := cond (decide (aH s 47 >= 0)) (47 :: s.drop ((aH s 47).toNat + 1)) []
def eG (s : List Int) : List Int × Int := cond (jl s) ((cond (decide ((FM s).map lN = FK.map lN)) FK (FM s)) ++ P8 s, 0) ([], 3)
def rG (s : List Int) : Bool := decide ((eG s).2 = 0) && decide ((eG s).1 = s)
end U
abbrev rSE (x : List Int × Int) : SV := .tup [one (.str x.1), one (.int .i64 x.2)]
namespace U
def pJ (l : List Int) (i : Int) : St2 := ⟨⟨[own 0] ++ [sF 82 []] ++ U.n 5 ++ [sI l.length] ++ [sI i] ++ U.n 10, [], [(0, .row 5 (.int .u8) true false l)]⟩, 1, []⟩
def rH (l : List Int)  (i : Int) : Prop := at_ l i /\ qY qX (l.drop i.toNat) i = qY qX l 0
end U
def Wi (l : List Int) : Vc.Loop := ⟨{ keep := [0, 1, 7, 8] }, Int, fun x => U.pJ l x, fun x0 x => U.rH l  x, fun x => l.length - x.toNat⟩
def JI (c : Int) : Done := rB (U.qX c)
def SH : Vc.Sum := .pure [.int .u8] false fun x => JI x
def SI (c : Int) : Nat -> List V -> Nat -> Option Vc.Loop := dO
def D5 : List (Nat × Ent) := (82, .sum SH) :: fV
def ig (l : List Int) : Done := ⟨[], .one (.bool (decide (U.qY U.qX l 0 >= 0))), [.dead], []⟩
def jW (l : List Int) : List V := [⟨false, [.own 0]⟩, ⟨false, [.fn 82 []]⟩]
def jX (l : List Int) : List Entry := [.row 5 (.int .u8) true false l]
def kH (l : List Int) : Nat -> List V -> Nat -> Option Vc.Loop := fun f v k => cond (Nat.beq f 88 && Nat.beq k 2) (some (Wi l)) <| none
def gU : List V -> List Entry -> Option Done
 | [⟨false, [.own n1]⟩, ⟨false, [.fn n2 []]⟩], [.row n3 (.int .u8) true false l] => cond (Nat.beq n1 0 && Nat.beq n2 82 && Nat.beq n3 5) (some (ig l)) none
 | _, _ => none
theorem jm {args : List V} {es : List Entry} {d : Done} (h : gU args es = some d) : ∃ l, args = jW l /\ es = jX l /\ d = ig l := by
 unfold gU at h
 split at h
 ·obtain ⟨hb, hd⟩ := mQ h; simp only [Bool.and_eq_true, Nat.beq_eq] at hb; (try obtain ⟨⟨rfl, rfl⟩, rfl⟩ := hb); subst hd; (try subst_vars); exact ⟨_, rfl, rfl, rfl⟩
 ·cases h
def eU (args : List V) (es : List Entry) : Option Done := orE (gU args es) (none)
def kX : Vc.Sum := .gen eU
def eX : List (Nat × Ent) := (81, .sum kX) :: D5
def vO (s : List Int) : Done := ⟨[s.length <= 1000000000000], .one (.bool (U.jl s)), [], []⟩
def JJ : Vc.Sum := .pure [.str] false fun x => vO x
def JK (s : List Int) : Nat -> List V -> Nat -> Option Vc.Loop := dO
def vP : List (Nat × Ent) := (75, .sum JJ) :: eX
def xX (s : List Int) : Done := ⟨[s.length <= 1000000000000], rSE (U.eG s), [], []⟩
def Nl : Vc.Sum := .pure [.str] false fun x => xX x
def Np (s : List Int) : Nat -> List V -> Nat -> Option Vc.Loop := dO
def xY : List (Nat × Ent) := (68, .sum Nl) :: vP
def xZ (s : List Int) : Done := ⟨[s.length <= 1000000000000], .one (.bool (U.rG s)), [], []⟩
def Nq : Vc.Sum := .pure [.str] false fun x => xZ x
def Nr (s : List Int) : Nat -> List V -> Nat -> Option Vc.Loop := dO
def x9 : List (Nat × Ent) := (57, .sum Nq) :: xY
end Go.Proofs.YtkhdeldobekciaaDoor
set_option maxRecDepth 100000
set_option linter.unusedVariables false
namespace Go.Proofs.YtkhdeldobekciaaDoor
open Go.Vc
def G7 (c : Int) : Prop := (bif bif decide (c <= (32 : Int)) then true else decide (c > (126 : Int)) then true else decide (aH [(40 : Int), (41 : Int), (123 : Int), (37 : Int), (42 : Int), (34 : Int), (92 : Int)] c >= (0 : Int))) = U.qX c /\ True
def gV (l : List Int) : Prop := ∃ (x0 : Int), (U.pJ l (0 : Int) = U.pJ l x0 /\ U.rH l x0) /\ ∀ (x : Int), U.rH l x -> bif decide (x < (↑l.length : Int)) then (0 : Int) <= x /\ x < (↑l.length : Int) /\ x.toNat < l.length /\ bif U.qX (l.getD x.toNat (0 : Int)) then decide (x >= (0 : Int)) = decide (U.qY U.qX l (0 : Int) >= (0 : Int)) /\
 True else ∃ (y : Int), U.pJ l (IntKind.i64.wrap (x.add (1 : Int))) = U.pJ l y /\ U.rH l y /\ l.length.sub y.toNat < l.length.sub x.toNat else decide ((-1 : Int) >= (0 : Int)) = decide (U.qY U.qX l (0 : Int) >= (0 : Int)) /\ True
def zH (s : List Int) : Prop := (1 : Nat) = (1 : Nat) /\ (0 : Int) = (0 : Int) /\ (-1 : Int) = (-1 : Int) /\ s.length <= (1000000000000 : Nat) /\ bif bif decide ((↑s.length : Int) <= (40 : Int)) then decide ((↑(U.split ([(47 : Int)].getD (0 : Nat) (0 : Int)) s).length : Int) <= (4 : Int)) else false then bif !decide (U.CO [] (U.split ([(47 : Int)].getD (0 : Nat) (0 : Int)) s) (0 : Int) >= (0 :
 Int)) then (!decide (U.qY U.qX s (0 : Int) >= (0 : Int))) = U.jl s /\ True else false = U.jl s /\ True else false = U.jl s /\ True
def CP (s : List Int) : Prop := s.length <= (1000000000000 : Nat) /\ bif !U.jl s then [] = (U.eG s).1 /\ (3 : Int) = (U.eG s).2 /\ True else (1 : Nat) = (1 : Nat) /\ bif decide (aH s ([(47 : Int)].getD (0 : Nat) (0 : Int)) >= (0 : Int)) then (0 : Int) <= (0 : Int) /\ (0 : Int) <= aH s ([(47 : Int)].getD (0 : Nat) (0 : Int)) /\ aH s ([(47 : Int)].getD (0 : Nat) (0 : Int)) <=
 (↑s.length : Int) /\ (0 : Int) <= IntKind.i64.wrap ((aH s ([(47 : Int)].getD (0 : Nat) (0 : Int))).add (↑((1 : Nat)) : Int)) /\ IntKind.i64.wrap ((aH s ([(47 : Int)].getD (0 : Nat) (0 : Int))).add (↑((1 : Nat)) : Int)) <= (↑s.length : Int) /\ (↑s.length : Int) <= (↑s.length : Int) /\ ((∀ (x : Int), List.Mem x (List.take ((aH s ([(47 : Int)].getD (0 : Nat) (0 : Int))).toNat.sub (0 : Nat)) (List.drop
 (0 : Nat) s)) -> x < (128 : Int)) /\ (∀ (x : Int), List.Mem x [(73 : Int), (78 : Int), (66 : Int), (79 : Int), (88 : Int)] -> x < (128 : Int)) /\ (List.take ((aH s ([(47 : Int)].getD (0 : Nat) (0 : Int))).toNat.sub (0 : Nat)) (List.drop (0 : Nat) s)).length <= (4000000000 : Nat)) /\ bif decide (List.map (fun (x : Int) => if (65 : Int) <= x /\ x <= (90 : Int) then x.add (32 : Int) else x) (List.take ((aH
 s ([(47 : Int)].getD (0 : Nat) (0 : Int))).toNat.sub (0 : Nat)) (List.drop (0 : Nat) s)) = [(73 : Int).add (32 : Int), (78 : Int).add (32 : Int), (66 : Int).add (32 : Int), (79 : Int).add (32 : Int), (88 : Int).add (32 : Int)]) then Nat.add ((1 : Nat)) (List.take ((↑s.length : Int).toNat.sub (IntKind.i64.wrap ((aH s ([(47 : Int)].getD (0 : Nat) (0 : Int))).add (↑((1 : Nat)) : Int))).toNat)
 (List.drop (IntKind.i64.wrap ((aH s ([(47 : Int)].getD (0 : Nat) (0 : Int))).add (↑((1 : Nat)) : Int))).toNat s)).length <= (9223372036854775807 : Nat) /\ Nat.add ((5 : Nat)) ((List.take ((↑s.length : Int).toNat.sub (IntKind.i64.wrap ((aH s ([(47 : Int)].getD (0 : Nat) (0 : Int))).add (↑((1 : Nat)) : Int))).toNat) (List.drop (IntKind.i64.wrap ((aH s ([(47 : Int)].getD (0 : Nat) (0 : Int))).add
 (↑((1 : Nat)) : Int))).toNat s)).length.add (1 : Nat)) <= (9223372036854775807 : Nat) /\ (73 : Int) :: (78 : Int) :: (66 : Int) :: (79 : Int) :: (88 : Int) :: (47 : Int) :: List.take ((↑s.length : Int).toNat.sub (IntKind.i64.wrap ((aH s ([(47 : Int)].getD (0 : Nat) (0 : Int))).add (↑((1 : Nat)) : Int))).toNat) (List.drop (IntKind.i64.wrap ((aH s ([(47 : Int)].getD (0 : Nat) (0 : Int))).add (↑((1
 : Nat)) : Int))).toNat s) = (U.eG s).1 /\ (0 : Int) = (U.eG s).2 /\ True else Nat.add ((1 : Nat)) (List.take ((↑s.length : Int).toNat.sub (IntKind.i64.wrap ((aH s ([(47 : Int)].getD (0 : Nat) (0 : Int))).add (↑((1 : Nat)) : Int))).toNat) (List.drop (IntKind.i64.wrap ((aH s ([(47 : Int)].getD (0 : Nat) (0 : Int))).add (↑((1 : Nat)) : Int))).toNat s)).length <= (9223372036854775807 : Nat) /\
 (List.take ((aH s ([(47 : Int)].getD (0 : Nat) (0 : Int))).toNat.sub (0 : Nat)) (List.drop (0 : Nat) s)).length.add ((List.take ((↑s.length : Int).toNat.sub (IntKind.i64.wrap ((aH s ([(47 : Int)].getD (0 : Nat) (0 : Int))).add (↑((1 : Nat)) : Int))).toNat) (List.drop (IntKind.i64.wrap ((aH s ([(47 : Int)].getD (0 : Nat) (0 : Int))).add (↑((1 : Nat)) : Int))).toNat s)).length.add (1 : Nat)) <=
 (9223372036854775807 : Nat) /\ (List.take ((aH s ([(47 : Int)].getD (0 : Nat) (0 : Int))).toNat.sub (0 : Nat)) (List.drop (0 : Nat) s)).append ((47 : Int) :: List.take ((↑s.length : Int).toNat.sub (IntKind.i64.wrap ((aH s ([(47 : Int)].getD (0 : Nat) (0 : Int))).add (↑((1 : Nat)) : Int))).toNat) (List.drop (IntKind.i64.wrap ((aH s ([(47 : Int)].getD (0 : Nat) (0 : Int))).add (↑((1 : Nat)) :
 Int))).toNat s)) = (U.eG s).1 /\ (0 : Int) = (U.eG s).2 /\ True else ((∀ (x : Int), List.Mem x s -> x < (128 : Int)) /\ (∀ (x : Int), List.Mem x [(73 : Int), (78 : Int), (66 : Int), (79 : Int), (88 : Int)] -> x < (128 : Int)) /\ s.length <= (4000000000 : Nat)) /\ bif decide (List.map (fun (x : Int) => if (65 : Int) <= x /\ x <= (90 : Int) then x.add (32 : Int) else x) s = [(73 : Int).add (32 : Int),
 (78 : Int).add (32 : Int), (66 : Int).add (32 : Int), (79 : Int).add (32 : Int), (88 : Int).add (32 : Int)]) then [(73 : Int), (78 : Int), (66 : Int), (79 : Int), (88 : Int)] = (U.eG s).1 /\ (0 : Int) = (U.eG s).2 /\ True else s = (U.eG s).1 /\ (0 : Int) = (U.eG s).2 /\ True
def JL (s : List Int) : Prop := s.length <= (1000000000000 : Nat) /\ (bif decide ((U.eG s).2 = (0 : Int)) then (U.eG s).1.beq s else false) = U.rG s /\ True
end Go.Proofs.YtkhdeldobekciaaDoor
set_option linter.unusedSimpArgs false
set_option linter.unusedVariables false
set_option maxRecDepth 100000
namespace Go.Proofs.YtkhdeldobekciaaDoor
open Go.Vc
open Go.Vc.T
theorem adB (a : Int) : (!decide (a >= 0)) = decide (a < 0) := by
 rw [Bool.eq_iff_iff]; simp
theorem ZW (c : Int) : G7 c := by
 unfold G7 U.qX
 simp only [iI]
 refine ⟨?_, trivial⟩
 rw [Bool.or_assoc]
theorem Wj (p : Int -> Bool) : ∀ (l : List Int) (i : Int), 0 <= i -> (decide (U.qY p l i >= 0) = l.any p) /\ (U.qY p l i = -1 ∨ i <= U.qY p l i)
 | [], i, _ => ⟨rfl, .inl rfl⟩
 | x :: r, i, h => by
   have ih := Wj p r (i + 1) (by omega)
   unfold U.qY
   cases hp : p x with
   | true => simp [hp]; omega
   | false =>
     rw [if_neg (by simp), List.any_cons, hp, Bool.false_or]
     refine ⟨ih.1, ?_⟩
     rcases ih.2 with h | h
     ·exact .inl h
     ·exact .inr (by omega)
theorem tZ (l : List Int) (hl : l.length <= maxLen) : gV l := by
 unfold gV
 rw [maxLen_eq] at hl
 simp only [cond_prop, bU, l9, dB, U.rH, U.at_, wrap_i64, decide_eq_true_eq, decide_eq_false_iff_not]
 refine ⟨0, ⟨rfl, ⟨by omega, by omega⟩, rfl⟩, ?_⟩
 rintro i ⟨⟨h0, h1⟩, h2⟩
 refine ⟨fun hi => ⟨h0, hi, by omega, fun he => ?_, fun he => ⟨i + 1, ?_, ⟨⟨by omega, by omega⟩, ?_⟩, by omega⟩⟩, fun hi => ?_⟩
 ·rw [drop_at h0 hi] at h2
  rw [getD_at (by omega)] at he
  rw [<- h2, U.qY, if_pos he]; simp
 ·rw [show (i + 1 + 9223372036854775808) % 18446744073709551616 - 9223372036854775808 = i + 1 by omega]
 ·rw [drop_at h0 hi] at h2
  rw [getD_at (by omega)] at he
  rw [<- h2, U.qY, if_neg (by rw [he]; simp)]
 ·rw [drop_end (by omega)] at h2
  rw [<- h2]; simp [U.qY]
theorem Wn (s : List Int) (h : s.length <= 1000000000000) : JL s := by
 refine ⟨h, ?_, trivial⟩
 unfold U.rG
 rw [gQ, iT]; congr 1
 rw [Bool.eq_iff_iff]; simp
theorem P9 {s : List Int} (h : U.jl s = true) : s.length <= 40 := by
 unfold U.jl at h
 simp only [Bool.and_eq_true, decide_eq_true_eq] at h
 exact h.1
theorem Wp {s : List Int} (h : U.rG s = true) : U.jl s = true := by
 unfold U.rG U.eG at h
 cases hf : U.jl s with
 | true => rfl
 | false => rw [hf] at h; simp at h
theorem TN (s : List Int) (h : s.length <= 1000000000000) : zH s := by
 unfold zH U.jl
 have hg : [(47 : Int)].getD 0 0 = 47 := rfl
 rw [hg]
 simp only [gQ, adB]
 refine ⟨trivial, trivial, trivial, h, ?_⟩
 rw [show decide ((s.length : Int) <= 40) = decide (s.length <= 40) by rw [decide_eq_decide]; omega, show decide (((U.split 47 s).length : Int) <= 4) = decide ((U.split 47 s).length <= 4) by rw [decide_eq_decide]; omega]
 cases decide (s.length <= 40) <;> cases decide ((U.split 47 s).length <= 4) <;> cases decide (U.CO [] (U.split 47 s) 0 < 0) <;> simp
theorem Wq {s : List Int} (h : U.jl s = true) : ∀ x ∈ s, U.qX x = false := by
 unfold U.jl at h
 simp only [Bool.and_eq_true, decide_eq_true_eq] at h
 have h2 := (Wj U.qX s 0 (by omega)).1
 rw [show decide (U.qY U.qX s 0 >= 0) = false by rw [decide_eq_false_iff_not]; omega] at h2
 intro x hx
 have := h2.symm
 rw [List.any_eq_false] at this
 simpa using this x hx
theorem adC {x : Int} (h : U.qX x = false) : x < 128 := by
 unfold U.qX at h
 simp only [Bool.or_eq_false_iff, decide_eq_false_iff_not] at h
 omega
theorem Ws (s : List Int) (hb : ∀ x ∈ s, Byte x) (h : s.length <= 1000000000000) : CP s := by
 unfold CP
 have hg : [(47 : Int)].getD 0 0 = 47 := rfl
 rw [hg]
 have hi := lM s 47
 refine ⟨h, ?_⟩
 cases hf : U.jl s with
 | false => unfold U.eG; rw [hf]; exact ⟨rfl, rfl, trivial⟩
 | true =>
   have h40 := P9 hf
   have hasc : ∀ x ∈ s, x < 128 := fun x hx => adC (Wq hf x hx)
   have hin : ∀ x : Int, x ∈ [(73 : Int), 78, 66, 79, 88] -> x < 128 := by intro x hx; simp at hx; omega
   simp only [Bool.not_true, cond_false, cond_prop, decide_eq_true_eq, decide_eq_false_iff_not, dB, fC, dW]
   refine ⟨trivial, fun hpos => ?_, fun hneg => ?_⟩
   ·have w1 : IntKind.i64.wrap (Int.add (aH s 47) ((1 : Nat) : Int)) = aH s 47 + 1 := by rw [wrap_i64, bU]; omega
    have hdl : (s.drop (aH s 47 + 1).toNat).length = s.length - (aH s 47 + 1).toNat := List.length_drop
    have htl : (s.take (aH s 47).toNat).length = (aH s 47).toNat := by rw [List.length_take]; omega
    rw [w1, show ((s.length : Int)).toNat = s.length by omega, List.take_of_length_le (l := s.drop (aH s 47 + 1).toNat) (by omega), List.drop_zero, Nat.sub_zero]
    have Wu : U.FM s = s.take (aH s 47).toNat := by unfold U.FM; rw [show decide (aH s 47 >= 0) = true by rw [decide_eq_true_eq]; omega]; rfl
    have hrest : U.P8 s = 47 :: s.drop (aH s 47 + 1).toNat := by unfold U.P8; rw [show decide (aH s 47 >= 0) = true by rw [decide_eq_true_eq]; omega, show (aH s 47 + 1).toNat = (aH s 47).toNat + 1 by omega]; rfl
    refine ⟨by omega, by omega, by omega, by omega, by omega, by omega, ⟨fun x hx => hasc x (List.mem_of_mem_take hx), hin, by omega⟩, fun heq => ?_, fun heq => ?_⟩
    ·refine ⟨by omega, by omega, ?_, ?_, trivial⟩
     ·unfold U.eG; rw [hf, Wu, hrest, show decide ((s.take (aH s 47).toNat).map lN = U.FK.map lN) = true from decide_eq_true heq]; rfl
     ·unfold U.eG; rw [hf]; rfl
    ·refine ⟨by omega, by omega, ?_, ?_, trivial⟩
     ·unfold U.eG; rw [hf, Wu, hrest, show decide ((s.take (aH s 47).toNat).map lN = U.FK.map lN) = false from decide_eq_false heq]; rfl
     ·unfold U.eG; rw [hf]; rfl
   ·have Wu : U.FM s = s := by unfold U.FM; rw [show decide (aH s 47 >= 0) = false by rw [decide_eq_false_iff_not]; omega]; rfl
    have hrest : U.P8 s = [] := by unfold U.P8; rw [show decide (aH s 47 >= 0) = false by rw [decide_eq_false_iff_not]; omega]; rfl
    refine ⟨⟨fun x hx => hasc x hx, hin, by omega⟩, fun heq => ?_, fun heq => ?_⟩
    ·refine ⟨?_, ?_, trivial⟩
     ·unfold U.eG; rw [hf, Wu, hrest, show decide (s.map lN = U.FK.map lN) = true from decide_eq_true heq]; rfl
     ·unfold U.eG; rw [hf]; rfl
    ·refine ⟨?_, ?_, trivial⟩
     ·unfold U.eG; rw [hf, Wu, hrest, show decide (s.map lN = U.FK.map lN) = false from decide_eq_false heq]
      show s = s ++ []
      rw [List.append_nil]
     ·unfold U.eG; rw [hf]; rfl
end Go.Proofs.YtkhdeldobekciaaDoor
set_option linter.unusedSimpArgs false
set_option maxRecDepth 100000
set_option linter.unusedVariables false
namespace Go.Proofs.YtkhdeldobekciaaDoor
open Go.Vc
theorem aa4 (x : aQ [.int .u8]) : bY Tryd.prog (bC fV) (SI x) 82 (bV [.int .u8] x) [] (JI x) = G7 x := by kernel_rfl
theorem aa5 : Pok 82 [.int .u8] (fun x => JI x) := by
 refine pk (L := fun x => SI x) (l := fV) mD (fun _ => rfl) ?_
 intro x hv hp
 rw [aa4]
 exact ZW x
theorem aa6 : bH Tryd.prog gl 82 SH := aa5
theorem Qa : bn D5 := .cons aa6 mD
theorem uV (l : List Int) : bY Tryd.prog (bC D5) (kH l) 81 (jW l) (jX l) (ig l) = gV l := by kernel_rfl
theorem vS : vH Tryd.prog gl 81 eU := by
 refine pkg (l := D5) Qa (fun args es d h => ?_) (fun args es d h hv he hp => ?_)
 ·unfold eU at h
  rcases fK h with h | h
  ·obtain ⟨l, rfl, rfl, rfl⟩ := jm h
   rfl
  cases h
 ·unfold eU at h
  rcases fK h with h | h
  ·obtain ⟨l, rfl, rfl, rfl⟩ := jm h
   refine ⟨kH l, ?_⟩
   rw [uV]
   exact tZ l (he _ (.head _)).2
  cases h
theorem vT : bH Tryd.prog gl 81 kX := vS
theorem kJ : bn eX := .cons vT Qa
theorem Wv (x : aQ [.str]) : bY Tryd.prog (bC eX) (JK x) 75 (bV [.str] x) [] (vO x) = zH x := by kernel_rfl
theorem Wx : Pok 75 [.str] (fun x => vO x) := by
 refine pk (L := fun x => JK x) (l := eX) kJ (fun _ => rfl) ?_
 intro x hv hp
 rw [Wv]
 exact TN x (hp (List.length x <= 1000000000000) (by simp [vO]))
theorem WA : bH Tryd.prog gl 75 JJ := Wx
theorem Ib : bn vP := .cons WA kJ
theorem X7 (x : aQ [.str]) : bY Tryd.prog (bC vP) (Np x) 68 (bV [.str] x) [] (xX x) = CP x := by kernel_rfl
theorem X8 : Pok 68 [.str] (fun x => xX x) := by
 refine pk (L := fun x => Np x) (l := vP) Ib (fun _ => rfl) ?_
 intro x hv hp
 rw [X7]
 exact Ws x hv.1 (hp (List.length x <= 1000000000000) (by simp [xX]))
theorem X9 : bH Tryd.prog gl 68 Nl := X8
theorem JM : bn xY := .cons X9 Ib
theorem Ya (x : aQ [.str]) : bY Tryd.prog (bC xY) (Nr x) 57 (bV [.str] x) [] (xZ x) = JL x := by kernel_rfl
theorem Yb : Pok 57 [.str] (fun x => xZ x) := by
 refine pk (L := fun x => Nr x) (l := xY) JM (fun _ => rfl) ?_
 intro x hv hp
 rw [Ya]
 exact Wn x (hp (List.length x <= 1000000000000) (by simp [xZ]))
theorem Yc : bH Tryd.prog gl 57 Nq := Yb
theorem JO : bn x9 := .cons Yc JM
end Go.Proofs.YtkhdeldobekciaaDoor
