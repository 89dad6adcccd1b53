/- What functions of this seat compute, in plain Lean. -/
import Derived.Test.YtlmkekoenfelcaaDoorRC
import Derived.Test.YtlmkekoenfelcaaDoorRD
set_option linter.unusedVariables false
set_option linter.unusedSimpArgs false
set_option maxRecDepth 100000
namespace Go.Proofs.YtlmkekoenfelcaaDoor
open Go.Vc
namespace U
def jd (a b : List (List Int)) (i : Int) : St2 := ⟨⟨[sL false .str a] ++ [sL false .str b] ++ U.n 3 ++ [sI i] ++ U.n 20, [], []⟩, 0, []⟩
def lu (a b : List (List Int))  (i : Int) : Prop := at_ a i /\ a.length = b.length /\ a.take i.toNat = b.take i.toNat
def fE (s : List Int) (i : Int) : St2 := ⟨⟨U.n 3 ++ [sL true Ci (parse s)] ++ [sL true Ci (parse s)] ++ [sI i] ++ U.n 51, [], []⟩, 0, []⟩
def je (s : List Int)  (i : Int) : Prop := at_ (parse s) i
end U
def Gn (a b : List (List Int)) : Vc.Loop := ⟨{ keep := [0, 1, 5] }, Int, fun x => U.jd a b x, fun x0 x => U.lu a b  x, fun x => a.length - x.toNat, fun p => ∀ x, p x, fun _ h => h⟩
def zD (s : List Int) : Vc.Loop := ⟨{ keep := [3, 4, 5] }, Int, fun x => U.fE s x, fun x0 x => U.je s  x, fun x => (U.parse s).length - x.toNat, fun p => ∀ x, p x, fun _ h => h⟩
def uY (a : List (List Int)) (b : List (List Int)) : Done := rB (decide (a = b))
def Bv : Vc.Sum := .pure [vW, vW] false fun x => uY x.1 x.2
def Bz (a : List (List Int)) (b : List (List Int)) : Nat -> List V -> Nat -> Option Vc.Loop := fun f v k => cond (Nat.beq f 10 && Nat.beq k 4) (some (Gn a b)) <| none
def oV : List (Nat × Ent) := (10, .sum Bv) :: oU
def uZ  : Done := ⟨[], .one (.bool true), [], []⟩
def BA : Vc.Sum := .pure [] false fun _ => uZ
def BD  : Nat -> List V -> Nat -> Option Vc.Loop := JR
def vg : List (Nat × Ent) := (7, .sum BA) :: oV
def vk (s : List Int) : Nat -> List V -> Nat -> Option Vc.Loop := fun f v k => cond (Nat.beq f 3 && Nat.beq k 9) (some (zD s)) <| none
end Go.Proofs.YtlmkekoenfelcaaDoor
set_option maxRecDepth 100000
set_option linter.unusedVariables false
namespace Go.Proofs.YtlmkekoenfelcaaDoor
open Go.Vc
def rH (a : List (List Int)) (b : List (List Int)) : Prop := bif (↑a.length : Int) != (↑b.length : Int) then false = decide (a = b) /\ True else ∃ (x0 : Int), (U.jd a b (0 : Int) = U.jd a b x0 /\ U.lu a b x0) /\ ∀ (x : Int), U.lu a b x -> bif decide (x < (↑a.length : Int)) then (0 : Int) <= x /\ x < (↑a.length : Int) /\ (0 : Int) <= x /\ x <
 (↑b.length : Int) /\ bif !(a.getD x.toNat []).beq (b.getD x.toNat []) then false = decide (a = b) /\ True else ∃ (y : Int), U.jd a b (IntKind.i64.wrap (x.add (1 : Int))) = U.jd a b y /\ U.lu a b y /\ a.length.sub y.toNat < a.length.sub x.toNat else true = decide (a = b) /\ True
def rJ : Prop := (19 : Nat) <= (1000000000 : Nat) /\ (decide ((↑((2 : Nat)) : Int) = (2 : Int)) = true -> (0 : Int) <= (0 : Int)) /\ (decide ((↑((2 : Nat)) : Int) = (2 : Int)) = true -> (0 : Int) < (↑((2 : Nat)) : Int)) /\ ((bif decide ((↑((2 : Nat)) : Int) = (2 : Int)) then ((U.parse [(34 : Int), (65 : Int), (44 : Int), (32 : Int), (66 : Int), (34 : Int), (32 : Int), (60 : Int), (97 : Int),
 (64 : Int), (98 : Int), (62 : Int), (32 : Int), (40 : Int), (99 : Int), (41 : Int), (44 : Int), (32 : Int), (100 : Int)]).getD (0 : Nat) ([], [], [])).1.beq [(65 : Int), (44 : Int), (32 : Int), (66 : Int)] && (((U.parse [(34 : Int), (65 : Int), (44 : Int), (32 : Int), (66 : Int), (34 : Int), (32 : Int), (60 : Int), (97 : Int), (64 : Int), (98 : Int), (62 : Int), (32 : Int), (40 : Int), (99 : Int),
 (41 : Int), (44 : Int), (32 : Int), (100 : Int)]).getD (0 : Nat) ([], [], [])).2.1.beq [(97 : Int)] && (((U.parse [(34 : Int), (65 : Int), (44 : Int), (32 : Int), (66 : Int), (34 : Int), (32 : Int), (60 : Int), (97 : Int), (64 : Int), (98 : Int), (62 : Int), (32 : Int), (40 : Int), (99 : Int), (41 : Int), (44 : Int), (32 : Int), (100 : Int)]).getD (0 : Nat) ([], [], [])).2.2.beq [(98 : Int)] &&
 true)) else false) = true -> (0 : Int) <= (1 : Int)) /\ ((bif decide ((↑((2 : Nat)) : Int) = (2 : Int)) then ((U.parse [(34 : Int), (65 : Int), (44 : Int), (32 : Int), (66 : Int), (34 : Int), (32 : Int), (60 : Int), (97 : Int), (64 : Int), (98 : Int), (62 : Int), (32 : Int), (40 : Int), (99 : Int), (41 : Int), (44 : Int), (32 : Int), (100 : Int)]).getD (0 : Nat) ([], [], [])).1.beq [(65 : Int), (44 :
 Int), (32 : Int), (66 : Int)] && (((U.parse [(34 : Int), (65 : Int), (44 : Int), (32 : Int), (66 : Int), (34 : Int), (32 : Int), (60 : Int), (97 : Int), (64 : Int), (98 : Int), (62 : Int), (32 : Int), (40 : Int), (99 : Int), (41 : Int), (44 : Int), (32 : Int), (100 : Int)]).getD (0 : Nat) ([], [], [])).2.1.beq [(97 : Int)] && (((U.parse [(34 : Int), (65 : Int), (44 : Int), (32 : Int), (66 : Int),
 (34 : Int), (32 : Int), (60 : Int), (97 : Int), (64 : Int), (98 : Int), (62 : Int), (32 : Int), (40 : Int), (99 : Int), (41 : Int), (44 : Int), (32 : Int), (100 : Int)]).getD (0 : Nat) ([], [], [])).2.2.beq [(98 : Int)] && true)) else false) = true -> (1 : Int) < (↑((2 : Nat)) : Int)) /\ ((bif bif decide ((↑((2 : Nat)) : Int) = (2 : Int)) then ((U.parse [(34 : Int), (65 : Int), (44 : Int), (32 :
 Int), (66 : Int), (34 : Int), (32 : Int), (60 : Int), (97 : Int), (64 : Int), (98 : Int), (62 : Int), (32 : Int), (40 : Int), (99 : Int), (41 : Int), (44 : Int), (32 : Int), (100 : Int)]).getD (0 : Nat) ([], [], [])).1.beq [(65 : Int), (44 : Int), (32 : Int), (66 : Int)] && (((U.parse [(34 : Int), (65 : Int), (44 : Int), (32 : Int), (66 : Int), (34 : Int), (32 : Int), (60 : Int), (97 : Int), (64 :
 Int), (98 : Int), (62 : Int), (32 : Int), (40 : Int), (99 : Int), (41 : Int), (44 : Int), (32 : Int), (100 : Int)]).getD (0 : Nat) ([], [], [])).2.1.beq [(97 : Int)] && (((U.parse [(34 : Int), (65 : Int), (44 : Int), (32 : Int), (66 : Int), (34 : Int), (32 : Int), (60 : Int), (97 : Int), (64 : Int), (98 : Int), (62 : Int), (32 : Int), (40 : Int), (99 : Int), (41 : Int), (44 : Int), (32 : Int), (100
 : Int)]).getD (0 : Nat) ([], [], [])).2.2.beq [(98 : Int)] && true)) else false then ((U.parse [(34 : Int), (65 : Int), (44 : Int), (32 : Int), (66 : Int), (34 : Int), (32 : Int), (60 : Int), (97 : Int), (64 : Int), (98 : Int), (62 : Int), (32 : Int), (40 : Int), (99 : Int), (41 : Int), (44 : Int), (32 : Int), (100 : Int)]).getD (1 : Nat) ([], [], [])).1.beq [] && (((U.parse [(34 : Int), (65 :
 Int), (44 : Int), (32 : Int), (66 : Int), (34 : Int), (32 : Int), (60 : Int), (97 : Int), (64 : Int), (98 : Int), (62 : Int), (32 : Int), (40 : Int), (99 : Int), (41 : Int), (44 : Int), (32 : Int), (100 : Int)]).getD (1 : Nat) ([], [], [])).2.1.beq [(100 : Int)] && (((U.parse [(34 : Int), (65 : Int), (44 : Int), (32 : Int), (66 : Int), (34 : Int), (32 : Int), (60 : Int), (97 : Int), (64 : Int), (98
 : Int), (62 : Int), (32 : Int), (40 : Int), (99 : Int), (41 : Int), (44 : Int), (32 : Int), (100 : Int)]).getD (1 : Nat) ([], [], [])).2.2.beq [] && true)) else false) = true -> (11 : Nat) <= (1000000000 : Nat)) /\ (bif bif bif decide ((↑((2 : Nat)) : Int) = (2 : Int)) then ((U.parse [(34 : Int), (65 : Int), (44 : Int), (32 : Int), (66 : Int), (34 : Int), (32 : Int), (60 : Int), (97 : Int), (64 :
 Int), (98 : Int), (62 : Int), (32 : Int), (40 : Int), (99 : Int), (41 : Int), (44 : Int), (32 : Int), (100 : Int)]).getD (0 : Nat) ([], [], [])).1.beq [(65 : Int), (44 : Int), (32 : Int), (66 : Int)] && (((U.parse [(34 : Int), (65 : Int), (44 : Int), (32 : Int), (66 : Int), (34 : Int), (32 : Int), (60 : Int), (97 : Int), (64 : Int), (98 : Int), (62 : Int), (32 : Int), (40 : Int), (99 : Int), (41 :
 Int), (44 : Int), (32 : Int), (100 : Int)]).getD (0 : Nat) ([], [], [])).2.1.beq [(97 : Int)] && (((U.parse [(34 : Int), (65 : Int), (44 : Int), (32 : Int), (66 : Int), (34 : Int), (32 : Int), (60 : Int), (97 : Int), (64 : Int), (98 : Int), (62 : Int), (32 : Int), (40 : Int), (99 : Int), (41 : Int), (44 : Int), (32 : Int), (100 : Int)]).getD (0 : Nat) ([], [], [])).2.2.beq [(98 : Int)] && true))
 else false then ((U.parse [(34 : Int), (65 : Int), (44 : Int), (32 : Int), (66 : Int), (34 : Int), (32 : Int), (60 : Int), (97 : Int), (64 : Int), (98 : Int), (62 : Int), (32 : Int), (40 : Int), (99 : Int), (41 : Int), (44 : Int), (32 : Int), (100 : Int)]).getD (1 : Nat) ([], [], [])).1.beq [] && (((U.parse [(34 : Int), (65 : Int), (44 : Int), (32 : Int), (66 : Int), (34 : Int), (32 : Int), (60 :
 Int), (97 : Int), (64 : Int), (98 : Int), (62 : Int), (32 : Int), (40 : Int), (99 : Int), (41 : Int), (44 : Int), (32 : Int), (100 : Int)]).getD (1 : Nat) ([], [], [])).2.1.beq [(100 : Int)] && (((U.parse [(34 : Int), (65 : Int), (44 : Int), (32 : Int), (66 : Int), (34 : Int), (32 : Int), (60 : Int), (97 : Int), (64 : Int), (98 : Int), (62 : Int), (32 : Int), (40 : Int), (99 : Int), (41 : Int), (44
 : Int), (32 : Int), (100 : Int)]).getD (1 : Nat) ([], [], [])).2.2.beq [] && true)) else false then (U.bare [(32 : Int), (40 : Int), (97 : Int), (40 : Int), (98 : Int), (41 : Int), (99 : Int), (41 : Int), (32 : Int), (120 : Int), (32 : Int)]).beq [(120 : Int)] else false) = true /\ True
def lG (s : List Int) : Prop := bif decide ((↑s.length : Int) > (1000 : Int)) then true = true /\ True else s.length <= (1000000000 : Nat) /\ s.length <= (1000000000 : Nat) /\ (((↑(U.parse s).length : Int) != (↑(U.parse s).length : Int)) = false -> s.length <= (1000000000 : Nat)) /\ (((↑(U.parse s).length : Int) != (↑(U.parse s).length : Int)) = false -> s.length <= (1000000000 : Nat)) /\ ((bif
 (↑(U.parse s).length : Int) != (↑(U.parse s).length : Int) then true else !decide (U.items s = U.items s)) = false -> s.length <= (1000000000 : Nat)) /\ ((bif (↑(U.parse s).length : Int) != (↑(U.parse s).length : Int) then true else !decide (U.items s = U.items s)) = false -> s.length <= (1000000000 : Nat)) /\ ((bif bif (↑(U.parse s).length : Int) != (↑(U.parse s).length : Int) then true else !decide
 (U.items s = U.items s) then true else !(U.bare s).beq (U.bare s)) = false -> s.length <= (1000000000 : Nat)) /\ ((bif bif (↑(U.parse s).length : Int) != (↑(U.parse s).length : Int) then true else !decide (U.items s = U.items s) then true else !(U.bare s).beq (U.bare s)) = false -> s.length <= (1000000000 : Nat)) /\ bif bif bif bif (↑(U.parse s).length : Int) != (↑(U.parse s).length : Int) then true else
 !decide (U.items s = U.items s) then true else !(U.bare s).beq (U.bare s) then true else !((U.one s).1.beq (U.one s).1 && ((U.one s).2.1.beq (U.one s).2.1 && ((U.one s).2.2.beq (U.one s).2.2 && true))) then false = true /\ True else ∃ (x0 : Int), (U.fE s (0 : Int) = U.fE s x0 /\ U.je s x0) /\ ∀ (x : Int), U.je s x -> bif decide (x <
 (↑(U.parse s).length : Int)) then (0 : Int) <= x /\ x < (↑(U.parse s).length : Int) /\ (0 : Int) <= x /\ x < (↑(U.parse s).length : Int) /\ bif !(((U.parse s).getD x.toNat ([], [], [])).1.beq ((U.parse s).getD x.toNat ([], [], [])).1 && (((U.parse s).getD x.toNat ([], [], [])).2.1.beq ((U.parse s).getD x.toNat ([], [], [])).2.1 && (((U.parse s).getD x.toNat ([], [], [])).2.2.beq ((U.parse s).getD x.toNat
 ([], [], [])).2.2 && true))) then false = true /\ True else ∃ (y : Int), U.fE s (IntKind.i64.wrap (x.add (1 : Int))) = U.fE s y /\ U.je s y /\ (U.parse s).length.sub y.toNat < (U.parse s).length.sub x.toNat else true = true /\ True
end Go.Proofs.YtlmkekoenfelcaaDoor
set_option linter.unusedSimpArgs false
set_option linter.unusedVariables false
set_option maxRecDepth 100000
namespace Go.Proofs.YtlmkekoenfelcaaDoor
open Go.Vc
open Go.Vc.T
theorem Jt (a b : List (List Int)) (hl : a.length <= maxLen) : rH a b := by
 unfold rH
 rw [maxLen_eq] at hl
 by_cases hlen : a.length = b.length
 ·rw [show ((a.length : Int) != (b.length : Int)) = false by rw [hlen]; exact bne_self_eq_false _, cond_false]
  refine ⟨0, ⟨rfl, ⟨Int.le_refl 0, by omega⟩, hlen, rfl⟩, ?_⟩
  rintro i ⟨⟨i0, i1⟩, _, hI⟩
  rw [cond_prop]
  refine ⟨fun hi => ?_, fun hi => ?_⟩
  ·have hi : i < a.length := of_decide_eq_true hi
   rw [getD_at (by omega : i.toNat < a.length), getD_at (by omega : i.toNat < b.length), xK, cZ (by omega) (by omega)]
   refine ⟨i0, hi, i0, by omega, ?_⟩
   by_cases hx : a[i.toNat] = b[i.toNat]'(by omega)
   ·rw [decide_eq_true hx]
    refine ⟨i + 1, rfl, ⟨⟨by omega, by omega⟩, hlen, ?_⟩, by simp only [aY]; omega⟩
    rw [take_at i0 hi, take_at i0 (by omega), hI, hx]
   ·rw [decide_eq_false hx]
    refine ⟨?_, trivial⟩
    symm; rw [decide_eq_false_iff_not]
    intro h; subst h; exact hx rfl
  ·have hi : ¬ i < a.length := of_decide_eq_false hi
   rw [mJ (by omega), mJ (by omega)] at hI
   rw [hI]; exact ⟨(decide_eq_true rfl).symm, trivial⟩
 ·rw [show ((a.length : Int) != (b.length : Int)) = true from bne_iff_ne.2 (by omega), cond_true]
  refine ⟨?_, trivial⟩
  symm; rw [decide_eq_false_iff_not]
  intro h; rw [h] at hlen; exact hlen rfl
theorem Ju : rJ := by unfold rJ; decide +kernel
theorem Ei : ∀ (l : List (List Int)) (n : Nat), (U.fD n l).length <= n
 | [], n => Nat.zero_le _
 | x :: r, n => by
   show (cond (decide (0 < n) && !(decide (U.bare x = []))) (U.one x :: U.fD (n - 1) r) (U.fD n r)).length <= n
   have h1 := Ei r (n - 1)
   have h2 := Ei r n
   cases hc : (decide (0 < n) && !(decide (U.bare x = []))) with
   | true =>
     simp only [Bool.and_eq_true, decide_eq_true_eq] at hc
     rw [cond_true, List.length_cons]; omega
   | false => rw [cond_false]; exact h2
theorem Ul (l : List Int) : l.beq l = true := beq_self_eq_true l
theorem CG (s : List Int) (hv : Valid .str s) : lG s := by
 unfold lG
 rw [cond_prop]
 refine ⟨fun _ => ⟨rfl, trivial⟩, fun h => ?_⟩
 have h := of_decide_eq_false h
 have hl : s.length <= 1000000000 := by omega
 refine ⟨hl, hl, fun _ => hl, fun _ => hl, fun _ => hl, fun _ => hl, fun _ => hl, fun _ => hl, ?_⟩
 have hn : (U.parse s).length <= 1000000000 := Nat.le_trans (Ei _ 20) (by omega)
 simp only [bne_self_eq_false, decide_true, Bool.not_true, Ul, cond_false, Bool.and_self]
 refine ⟨0, ⟨rfl, Int.le_refl 0, by omega⟩, ?_⟩
 rintro i ⟨i0, i1⟩
 rw [cond_prop]
 refine ⟨fun hi => ?_, fun hi => ⟨trivial, trivial⟩⟩
 have hi : i < (U.parse s).length := of_decide_eq_true hi
 rw [cZ (by omega) (by omega)]
 exact ⟨i0, hi, i0, hi, i + 1, rfl, ⟨by omega, by omega⟩, by simp only [aY]; omega⟩
def U.fin : St -> List Int -> St
 | s, [] => s
 | s, c :: r => U.fin (U.scan s c).1 r
end Go.Proofs.YtlmkekoenfelcaaDoor
set_option linter.unusedSimpArgs false
set_option maxRecDepth 100000
set_option linter.unusedVariables false
namespace Go.Proofs.YtlmkekoenfelcaaDoor
open Go.Vc
theorem MP (x : aT [vW, vW]) : gu Tryd.prog (dw oU) (Bz x.1 x.2) 10 (dN [vW, vW] x) [] (uY x.1 x.2) = rH x.1 x.2 := by kernel_rfl
theorem MQ : Pok 10 [vW, vW] (fun x => uY x.1 x.2) := by
 refine pk (L := fun x => Bz x.1 x.2) (l := oU) zx (fun _ => rfl) ?_
 intro x hv hp
 rw [MP]
 exact Jt x.1 x.2 hv.1.2
theorem MR : dH Tryd.prog gl 10 Bv := MQ
theorem zy : bU oV := .cons MR zx
theorem MS (x : aT []) : gu Tryd.prog (dw oV) (BD ) 7 (dN [] x) [] (uZ ) = rJ  := by kernel_rfl
theorem MV : Pok 7 [] (fun x => uZ ) := by
 refine pk (L := fun x => BD ) (l := oV) zy (fun _ => rfl) ?_
 intro x hv hp
 rw [MS]
 exact Ju
theorem MW : dH Tryd.prog gl 7 BA := MV
theorem Jv : bU vg := .cons MW zy
end Go.Proofs.YtlmkekoenfelcaaDoor
