/- What functions of this seat compute, in plain Lean. -/
import Derived.Test.YtdobgidhhpdihaaDoorQB
set_option linter.unusedVariables false
set_option linter.unusedSimpArgs false
set_option maxRecDepth 100000
namespace Go.Proofs.YtdobgidhhpdihaaDoor
open Go.Vc
namespace U
def gq (q : Int) (l : List (List Int)) (t3 : List Int) (i : Int) : St2 := ⟨⟨[sI q] ++ [sL false .str l] ++ U.n 3 ++ [sP 0 0] ++ U.n 1 ++ [sI i] ++ U.n 109, [], [(0, .obj [.arr 3 true (.int .i64) t3])]⟩, 1, []⟩
def gI (q : Int) (l : List (List Int)) (t3 : List Int)  (i : Int) : Prop := at_ l i
end U
def Ap (q : Int) (l : List (List Int)) (t3 : List Int) : Vc.Loop := ⟨{ keep := [0, 1, 5, 7] }, Int, fun x => U.gq q l t3 x, fun x0 x => U.gI q l t3  x, fun x => l.length - x.toNat, fun p => ∀ x, p x, fun _ h => h⟩
def tN  : Done := ⟨[], .one (.bool true), [], []⟩
def Aq : Vc.Sum := .pure [] false fun _ => tN
def Ar  : Nat -> List V -> Nat -> Option Vc.Loop := pK
def tV : List (Nat × Ent) := (6, .sum Aq) :: nY
def uI (q : Int) (l : List (List Int)) (t3 : List Int) : Nat -> List V -> Nat -> Option Vc.Loop := fun f v k => cond (Nat.beq f 4 && Nat.beq k 6) (some (Ap q l t3)) <| none
end Go.Proofs.YtdobgidhhpdihaaDoor
set_option maxRecDepth 100000
set_option linter.unusedVariables false
namespace Go.Proofs.YtdobgidhhpdihaaDoor
open Go.Vc
def qC : Prop := (bif bif (U.sQ (9 : Int)).beq [(40 : Int), (92 : Int), (68 : Int), (101 : Int), (108 : Int), (101 : Int), (116 : Int), (101 : Int), (100 : Int), (32 : Int), (92 : Int), (83 : Int), (101 : Int), (101 : Int), (110 : Int), (41 : Int)] then decide ((U.dh [(92 : Int), (115 : Int), (101 : Int), (101 : Int), (110 : Int)]).1 = (1 : Int)) else false then decide ((U.dh
 [(92 : Int), (115 : Int), (101 : Int), (101 : Int), (110 : Int)]).2 = (0 : Int)) else false) = true /\ True
def l7 (q : Int) (l : List (List Int)) (t3 : List Int) : Prop := bif decide ((↑l.length : Int) > (50 : Int)) then true = true /\ True else ∃ (x0 : Int), (U.gq q l t3 (0 : Int) = U.gq q l t3 x0 /\ U.gI q l t3 x0) /\ ∀ (x : Int), U.gI q l t3 x -> bif decide (x < (↑l.length : Int)) then (0 : Int) <= x /\ x < (↑l.length : Int) /\ (0 :
 Int) <= x /\ x < (↑l.length : Int) /\ bif bif (U.dh (l.getD x.toNat [])).1 != (U.dh (l.getD x.toNat [])).1 then true else (U.dh (l.getD x.toNat [])).2 != (U.dh (l.getD x.toNat [])).2 then false = true /\ True else ∃ (y : Int), U.gq q l t3 (IntKind.i64.wrap (x.add (1 : Int))) = U.gq q l t3 y /\ U.gI q l t3 y /\ l.length.sub y.toNat < l.length.sub
 x.toNat else (0 : Int) <= (0 : Int) /\ (0 : Int) < (↑(3 : Nat) : Int) /\ (0 : Nat) < (3 : Nat) /\ (0 : Int) <= (1 : Int) /\ (1 : Int) < (↑(3 : Nat) : Int) /\ (1 : Nat) < (3 : Nat) /\ (0 : Int) <= (2 : Int) /\ (2 : Int) < (↑(3 : Nat) : Int) /\ (2 : Nat) < (3 : Nat) /\ (0 : Int) <= (0 : Int) /\ (0 : Int) < (↑(3 : Nat) : Int) /\ (0 : Nat) < (3 : Nat) /\ (0 : Int) <= (1 : Int) /\ (1 : Int) < (↑(3 : Nat) : Int) /\ (1 :
 Nat) < (3 : Nat) /\ (0 : Int) <= (2 : Int) /\ (2 : Int) < (↑(3 : Nat) : Int) /\ (2 : Nat) < (3 : Nat) /\ (bif bif bif bif bif decide ((U.dH l (0 : Int)).1 = (U.dH l (0 : Int)).1) then decide ((U.dH l (0 : Int)).2 = (U.dH l (0 : Int)).2) else false then decide ((U.bP (t3.getD (0 : Nat) (0 : Int)) (t3.getD (1 : Nat) (0 : Int)) (t3.getD (2 : Nat) (0 : Int))).1 = (U.bP (t3.getD (0 :
 Nat) (0 : Int)) (t3.getD (1 : Nat) (0 : Int)) (t3.getD (2 : Nat) (0 : Int))).1) else false then decide ((U.bP (t3.getD (0 : Nat) (0 : Int)) (t3.getD (1 : Nat) (0 : Int)) (t3.getD (2 : Nat) (0 : Int))).2 = (U.bP (t3.getD (0 : Nat) (0 : Int)) (t3.getD (1 : Nat) (0 : Int)) (t3.getD (2 : Nat) (0 : Int))).2) else false then (U.sQ q).beq (U.sQ q) else false then decide (U.eG q =
 U.eG q) else false) = true /\ True
end Go.Proofs.YtdobgidhhpdihaaDoor
set_option linter.unusedSimpArgs false
set_option linter.unusedVariables false
set_option maxRecDepth 100000
namespace Go.Proofs.YtdobgidhhpdihaaDoor
open Go.Vc
open Go.Vc.T
theorem Hq : qC := by unfold qC; decide +kernel
theorem Dj (q : Int) (l : List (List Int)) (t3 : List Int) (hv : pU [.int .i64, .slice .str, .arr 3 (.int .i64)] (q, l, t3)) : l7 q l t3 := by
 unfold l7 U.gI U.at_
 rw [cond_prop]
 refine ⟨fun _ => ⟨rfl, trivial⟩, fun h => ?_⟩
 have h := of_decide_eq_false h
 simp only [bne_self_eq_false, qX, kL, Bool.or_self, cond_false, JH, decide_true, Bool.and_self]
 refine ⟨0, ⟨rfl, Int.le_refl 0, by omega⟩, ?_⟩
 rintro i ⟨i0, i1⟩
 rw [cond_prop]
 refine ⟨fun hi => ?_, fun hi => ?_⟩
 ·have hi : i < l.length := of_decide_eq_true hi
  rw [lC (by omega) (by omega)]
  exact ⟨i0, hi, i0, hi, i + 1, rfl, ⟨by omega, by omega⟩, by simp only [eU]; omega⟩
 ·refine ⟨by decide, by decide, by decide, by decide, by decide, by decide, by decide, by decide, by decide, by decide, by decide, by decide, by decide, by decide, by decide, by decide, by decide, by decide, trivial, trivial⟩
end Go.Proofs.YtdobgidhhpdihaaDoor
set_option linter.unusedSimpArgs false
set_option maxRecDepth 100000
set_option linter.unusedVariables false
namespace Go.Proofs.YtdobgidhhpdihaaDoor
open Go.Vc
theorem Ku (x : aS []) : iO Tryd.prog (dY nY) (Ar ) 6 (fA [] x) [] (tN ) = qC  := by kernel_rfl
theorem Kv : Pok 6 [] (fun x => tN ) := by
 refine pk (L := fun x => Ar ) (l := nY) yw (fun _ => rfl) ?_
 intro x hv hp
 rw [Ku]
 exact Hq
theorem Kw : gu Tryd.prog gl 6 Aq := Kv
theorem Hr : dS tV := .cons Kw yw
end Go.Proofs.YtdobgidhhpdihaaDoor
