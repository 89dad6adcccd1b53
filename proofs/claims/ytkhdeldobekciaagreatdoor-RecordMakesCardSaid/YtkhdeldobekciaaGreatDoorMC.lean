/- What functions of this seat compute, in plain Lean. -/
import Derived.Test.YtkhdeldobekciaaGreatDoorMB
set_option linter.unusedVariables false
set_option linter.unusedSimpArgs false
set_option maxRecDepth 100000
namespace Go.Proofs.YtkhdeldobekciaaGreatDoor
open Go.Vc
namespace U
def okS : Bool -> List Int -> Bool
 | p, [] => !p
 | p, x :: r => cond (decide (x = 47)) (!p && okS true r) (okS false r)
def yS (s : List Int) (i : Int) : Bool := decide (i = 0) || decide (s.getD (i - 1).toNat 0 = 47)
def uM (s : List Int) : Int := ((s.filter (fun x => decide (x = 47))).length : Int)
end U
namespace U
def iC (s : List Int) (n : Int) (i : Int) : St2 := ⟨⟨[sS s] ++ U.n 2 ++ [sI n] ++ [sI i] ++ U.n 51, [], []⟩, 0, []⟩
def jI (s : List Int)  (n : Int) (i : Int) : Prop := 1 <= s.length /\ s.length <= 40 /\ at_ s i /\ (i = s.length -> yS s i = false) /\ 1 <= n /\ n <= i + 1 /\ s.any iq = (s.drop i.toNat).any iq /\ okS true s = okS (yS s i) (s.drop i.toNat) /\ 1 + uM s = n + uM (s.drop i.toNat)
def iQ (s : List Int) (i : Int) : St2 := ⟨⟨[sS s] ++ U.n 3 ++ [sI i] ++ U.n 41, [], []⟩, 0, []⟩
def kL (s : List Int)  (i : Int) : Prop := 5 <= s.length /\ (s.length = 5 ∨ s.getD 5 0 = 47) /\ 0 <= i /\ i <= 5 /\ (s.take i.toNat).map dJ = (fK.take i.toNat).map dJ
end U
def UF (s : List Int) : Vc.Loop := ⟨{ keep := [0, 3, 4] }, Int × Int, fun x => U.iC s x.1 x.2, fun x0 x => U.jI s  x.1 x.2, fun x => s.length - x.2.toNat⟩
def Wj (s : List Int) : Vc.Loop := ⟨{ keep := [0, 4] }, Int, fun x => U.iQ s x, fun x0 x => U.kL s  x, fun x => 5 - x.toNat⟩
def GH (c : Int) : Done := rB (!(U.iq c))
def Po : Vc.Sum := .pure [.int .u8] false fun x => GH x
def Pq (c : Int) : Nat -> List V -> Nat -> Option Vc.Loop := bZ
def yT : List (Nat × Ent) := (103, .sum Po) :: Bg
def wE (s : List Int) : Done := ⟨[s.length <= 1000000000000], .one (.bool (U.eG s)), [], []⟩
def MO : Vc.Sum := .pure [.str] false fun x => wE x
def MP (s : List Int) : Nat -> List V -> Nat -> Option Vc.Loop := fun f v k => cond (Nat.beq f 98 && Nat.beq k 5) (some (UF s)) <| none
def wF : List (Nat × Ent) := (98, .sum MO) :: yT
def yU (s : List Int) : Done := ⟨[s.length <= 1000000000000], rSE (U.bU s), [], []⟩
def Pv : Vc.Sum := .pure [.str] false fun x => yU x
def Px (s : List Int) : Nat -> List V -> Nat -> Option Vc.Loop := fun f v k => cond (Nat.beq f 87 && Nat.beq k 6) (some (Wj s)) <| none
def yV : List (Nat × Ent) := (87, .sum Pv) :: wF
def yX (s : List Int) : Done := ⟨[s.length <= 1000000000000], .one (.bool (U.l9 s)), [], []⟩
def Py : Vc.Sum := .pure [.str] false fun x => yX x
def Pz (s : List Int) : Nat -> List V -> Nat -> Option Vc.Loop := bZ
def yY : List (Nat × Ent) := (68, .sum Py) :: yV
end Go.Proofs.YtkhdeldobekciaaGreatDoor
set_option maxRecDepth 100000
set_option linter.unusedVariables false
namespace Go.Proofs.YtkhdeldobekciaaGreatDoor
open Go.Vc
def Dy (c : Int) : Prop := (bif bif bif bif bif bif bif bif decide (c > (32 : Int)) then decide (c <= (126 : Int)) else false then c != (40 : Int) else false then c != (41 : Int) else false then c != (123 : Int) else false then c != (37 : Int) else false then c != (42 : Int) else false then c != (34 : Int) else false then c != (92 : Int) else false) = !U.iq c /\ True
def Ak (s : List Int) : Prop := bif bif decide ((↑s.length : Int) < (1 : Int)) then true else decide ((↑s.length : Int) > (40 : Int)) then false = U.eG s /\ True else ∃ (x0 : Int × Int), (U.iC s (1 : Int) (0 : Int) = U.iC s x0.1 x0.2 /\ U.jI s x0.1 x0.2) /\ ∀ (x : Int × Int), U.jI s x.1 x.2 -> bif decide (x.2 < (↑s.length : Int))
 then (0 : Int) <= x.2 /\ x.2 < (↑s.length : Int) /\ ((!!U.iq (s.getD x.2.toNat (0 : Int))) = false -> (0 : Int) <= x.2) /\ ((!!U.iq (s.getD x.2.toNat (0 : Int))) = false -> x.2 < (↑s.length : Int)) /\ ((!!U.iq (s.getD x.2.toNat (0 : Int))) = false -> decide (s.getD x.2.toNat (0 : Int) = (47 : Int)) = true -> (bif decide (x.2 = (0 : Int)) then true else decide (x.2 = IntKind.i64.wrap ((↑s.length :
 Int).sub (1 : Int)))) = false -> (0 : Int) <= IntKind.i64.wrap (x.2.sub (1 : Int))) /\ ((!!U.iq (s.getD x.2.toNat (0 : Int))) = false -> decide (s.getD x.2.toNat (0 : Int) = (47 : Int)) = true -> (bif decide (x.2 = (0 : Int)) then true else decide (x.2 = IntKind.i64.wrap ((↑s.length : Int).sub (1 : Int)))) = false -> IntKind.i64.wrap (x.2.sub (1 : Int)) < (↑s.length : Int)) /\ bif bif !!U.iq (s.getD
 x.2.toNat (0 : Int)) then true else bif decide (s.getD x.2.toNat (0 : Int) = (47 : Int)) then bif bif decide (x.2 = (0 : Int)) then true else decide (x.2 = IntKind.i64.wrap ((↑s.length : Int).sub (1 : Int))) then true else decide (s.getD (IntKind.i64.wrap (x.2.sub (1 : Int))).toNat (0 : Int) = (47 : Int)) else false then false = U.eG s /\ True else (0 : Int) <= x.2 /\ x.2 < (↑s.length : Int) /\
 bif decide (s.getD x.2.toNat (0 : Int) = (47 : Int)) then ∃ (y : Int × Int), U.iC s (IntKind.i64.wrap (x.1.add (1 : Int))) (IntKind.i64.wrap (x.2.add (1 : Int))) = U.iC s y.1 y.2 /\ U.jI s y.1 y.2 /\ s.length.sub y.2.toNat < s.length.sub x.2.toNat else ∃ (y : Int × Int), U.iC s x.1 (IntKind.i64.wrap (x.2.add (1 : Int))) = U.iC s y.1
 y.2 /\ U.jI s y.1 y.2 /\ s.length.sub y.2.toNat < s.length.sub x.2.toNat else decide (x.1 <= (4 : Int)) = U.eG s /\ True
def Dz (s : List Int) : Prop := s.length <= (1000000000000 : Nat) /\ bif !U.eG s then [] = (U.bU s).1 /\ (3 : Int) = (U.bU s).2 /\ True else (decide ((↑s.length : Int) < (5 : Int)) = false -> decide ((↑s.length : Int) > (5 : Int)) = true -> (0 : Int) <= (5 : Int)) /\ (decide ((↑s.length : Int) < (5 : Int)) = false -> decide ((↑s.length : Int) > (5 : Int)) = true -> (5 : Int) <
 (↑s.length : Int)) /\ bif bif decide ((↑s.length : Int) < (5 : Int)) then true else bif decide ((↑s.length : Int) > (5 : Int)) then s.getD (5 : Nat) (0 : Int) != (47 : Int) else false then s = (U.bU s).1 /\ (0 : Int) = (U.bU s).2 /\ True else ∃ (x0 : Int), (U.iQ s (0 : Int) = U.iQ s x0 /\ U.kL s x0) /\ ∀ (x : Int), U.kL s x -> bif decide (x < (5 :
 Int)) then (0 : Int) <= x /\ x < (↑s.length : Int) /\ bif bif decide (s.getD x.toNat (0 : Int) >= (97 : Int)) then decide (s.getD x.toNat (0 : Int) <= (122 : Int)) else false then (0 : Int) <= x /\ x < (↑((5 : Nat)) : Int) /\ bif IntKind.u8.wrap ((s.getD x.toNat (0 : Int)).sub (32 : Int)) != [(73 : Int), (78 : Int), (66 : Int), (79 : Int), (88 : Int)].getD x.toNat (0 : Int) then s = (U.bU s).1 /\ (0 :
 Int) = (U.bU s).2 /\ True else ∃ (y : Int), U.iQ s (IntKind.i64.wrap (x.add (1 : Int))) = U.iQ s y /\ U.kL s y /\ Nat.sub (5 : Nat) y.toNat < Nat.sub (5 : Nat) x.toNat else (0 : Int) <= x /\ x < (↑((5 : Nat)) : Int) /\ bif s.getD x.toNat (0 : Int) != [(73 : Int), (78 : Int), (66 : Int), (79 : Int), (88 : Int)].getD x.toNat (0 : Int) then s = (U.bU s).1 /\ (0 :
 Int) = (U.bU s).2 /\ True else ∃ (y : Int), U.iQ s (IntKind.i64.wrap (x.add (1 : Int))) = U.iQ s y /\ U.kL s y /\ Nat.sub (5 : Nat) y.toNat < Nat.sub (5 : Nat) x.toNat else (0 : Int) <= (5 : Int) /\ (5 : Int) <= (↑s.length : Int) /\ (↑s.length : Int) <= (↑s.length : Int) /\ Nat.add ((5 : Nat)) (List.take ((↑s.length : Int).toNat.sub (5 : Nat)) (List.drop (5 : Nat)
 s)).length <= (9223372036854775807 : Nat) /\ (73 : Int) :: (78 : Int) :: (66 : Int) :: (79 : Int) :: (88 : Int) :: List.take ((↑s.length : Int).toNat.sub (5 : Nat)) (List.drop (5 : Nat) s) = (U.bU s).1 /\ (0 : Int) = (U.bU s).2 /\ True
def MQ (s : List Int) : Prop := s.length <= (1000000000000 : Nat) /\ (bif decide ((U.bU s).2 = (0 : Int)) then (U.bU s).1.beq s else false) = U.l9 s /\ True
end Go.Proofs.YtkhdeldobekciaaGreatDoor
set_option linter.unusedSimpArgs false
set_option linter.unusedVariables false
set_option maxRecDepth 100000
namespace Go.Proofs.YtkhdeldobekciaaGreatDoor
open Go.Vc
open Go.Vc.T
theorem nO : ∀ (l : List Int) (c : Int), (aA l c >= 0) ↔ c ∈ l
 | [], c => by simp [aA]
 | x :: l, c => by
   have ih := nO l c
   have hb := kG l c
   unfold aA; rw [List.mem_cons]
   by_cases hx : x = c
   ·simp [hx]
   ·rw [if_neg hx]
    by_cases hi : aA l c = -1
    ·rw [if_pos hi]
     constructor
     ·intro h; omega
     ·rintro (h | h)
      ·exact absurd h.symm hx
      ·have := ih.2 h; omega
    ·rw [if_neg hi]
     constructor
     ·intro _; exact .inr (ih.1 (by omega))
     ·intro _; omega
theorem akg (c : Int) : U.iq c = (decide (c <= 32) || decide (c > 126) || decide (c = 40) || decide (c = 41) || decide (c = 123) || decide (c = 37) || decide (c = 42) || decide (c = 34) || decide (c = 92)) := by
 have e : decide (aA [40, 41, 123, 37, 42, 34, 92] c >= 0) = (decide (c = 40) || decide (c = 41) || decide (c = 123) || decide (c = 37) || decide (c = 42) || decide (c = 34) || decide (c = 92)) := by
  rw [Bool.eq_iff_iff]
  simp only [decide_eq_true_eq, Bool.or_eq_true]
  have := nO [40, 41, 123, 37, 42, 34, 92] c
  rw [this]; simp only [List.mem_cons, List.not_mem_nil, or_false]
  omega
 unfold U.iq; rw [e]; simp only [Bool.or_assoc]
theorem Zn (c : Int) : Dy c := by
 unfold Dy
 refine ⟨?_, trivial⟩
 rw [akg, Bool.eq_iff_iff]
 simp only [dh, Bool.and_eq_true, decide_eq_true_eq, bne_iff_ne, Bool.not_eq_true', Bool.or_eq_false_iff, decide_eq_false_iff_not]
 omega
theorem Zo (s : List Int) (h : s.length <= 1000000000000) : MQ s := by
 refine ⟨h, ?_, trivial⟩
 unfold U.l9
 rw [dh, fJ]; congr 1
 rw [Bool.eq_iff_iff]; simp
theorem split_c (c x : Int) (r : List Int) : U.split c (x :: r) = if x = c then [] :: U.split c r else (x :: (U.split c r).headD []) :: (U.split c r).tail := rfl
theorem akK (p : Bool) (x : Int) (r : List Int) : U.okS p (x :: r) = cond (decide (x = 47)) (!p && U.okS true r) (U.okS false r) := rfl
theorem ai9 (x : Int) (r : List Int) : U.uM (x :: r) = cond (decide (x = 47)) 1 0 + U.uM r := by
 unfold U.uM; rw [List.filter_cons]
 cases decide (x = 47) <;> simp; omega
theorem ajr (s : List Int) : ((U.split 47 s).length : Int) = 1 + U.uM s := by
 induction s with
 | nil => rfl
 | cons x r ih =>
   rw [split_c, ai9]
   have hc : 0 <= U.uM r := by unfold U.uM; omega
   by_cases h : x = 47
   ·rw [if_pos h, decide_eq_true h, List.length_cons]; simp only [cond_true]; omega
   ·rw [if_neg h, decide_eq_false h, List.length_cons, List.length_tail]
    simp only [cond_false]
    omega
theorem ab7 (x : List Int) : ∀ (l : List (List Int)) (i : Int), 0 <= i -> (U.yM x l i < 0 ↔ x ∉ l)
 | [], i, h => by simp [U.yM]
 | y :: r, i, h => by
   have ih := ab7 x r (i + 1) (by omega)
   unfold U.yM
   by_cases hy : y = x
   ·rw [if_pos hy, hy]; simp; omega
   ·rw [if_neg hy, ih, List.mem_cons]
    constructor
    ·rintro h (rfl | h'); exact hy rfl; exact h h'
    ·intro h h'; exact h (.inr h')
theorem YT : ∀ s : List Int, (U.okS true s = true ↔ [] ∉ U.split 47 s) /\ (U.okS false s = true ↔ [] ∉ (U.split 47 s).tail)
 | [] => by simp [U.okS, U.split]
 | x :: r => by
   have ih := YT r
   unfold U.okS U.split
   by_cases h : x = 47
   ·rw [if_pos h, decide_eq_true h]
    simp only [cond_true, Bool.not_true, Bool.false_and, Bool.not_false, Bool.true_and, List.tail_cons, List.mem_cons, true_or, not_true_eq_false]
    exact ⟨by simp, ih.1⟩
   ·rw [if_neg h, decide_eq_false h]
    simp only [cond_false, List.tail_cons, List.mem_cons]
    refine ⟨?_, ih.2⟩
    rw [ih.2]
    simp
theorem PD (s : List Int) : U.eG s = (decide (s.length <= 40) && (decide (1 + U.uM s <= 4) && (U.okS true s && !s.any U.iq))) := by
 unfold U.eG
 congr 1
 rw [show decide ((U.split 47 s).length <= 4) = decide (1 + U.uM s <= 4) by rw [decide_eq_decide, <- ajr]; omega]
 congr 1
 rw [<- (UE U.iq s 0 (by omega)).1, show (!decide (U.qV U.iq s 0 >= 0)) = decide (U.qV U.iq s 0 < 0) from ahJ _]
 congr 1
 rw [Bool.eq_iff_iff, decide_eq_true_eq, ab7 [] _ 0 (by omega), (YT s).1]
theorem X8 (s : List Int) (h : s.length <= 1000000000000) : Ak s := by
 unfold Ak
 simp only [cond_prop, dh, dN, aX, dK, bP, decide_eq_true_eq, decide_eq_false_iff_not, Bool.or_eq_true, Bool.or_eq_false_iff, Bool.and_eq_true, Bool.and_eq_false_iff, Bool.not_not, U.jI, U.at_]
 refine ⟨fun hl => ⟨?_, trivial⟩, fun hl => ⟨(1, 0), ⟨rfl, by omega, by omega, ⟨by omega, by omega⟩, fun hz => by omega, by omega, by omega, rfl, rfl, by simp⟩, ?_⟩⟩
 ·rcases hl with hl | hl
  ·obtain rfl : s = [] := List.length_eq_zero_iff.1 (by omega)
   rfl
  ·rw [PD, show decide (s.length <= 40) = false by rw [decide_eq_false_iff_not]; omega]; rfl
 rintro ⟨n, i⟩ ⟨hs1, hs2, ⟨h0, h1⟩, hend, hn0, hn1, ha, ho, hc⟩
 simp only [] at *
 refine ⟨fun hi => ?_, fun hi => ⟨?_, trivial⟩⟩
 ·simp (disch := omega) only [dn]
  have hx : s.getD i.toNat 0 = s[i.toNat] := getD_at (by omega)
  rw [hx]
  have hd := drop_at h0 hi
  rw [hd, List.any_cons] at ha
  rw [hd] at ho hc
  have hp1 : U.yS s (i + 1) = decide (s[i.toNat] = 47) := by
   unfold U.yS
   rw [show decide (i + 1 = 0) = false by rw [decide_eq_false_iff_not]; omega, Bool.false_or, show (i + 1 - 1).toNat = i.toNat by omega, hx]
  rw [ai9] at hc
  rw [akK] at ho
  refine ⟨h0, hi, fun _ => h0, fun _ => hi, fun _ _ _ => by omega, fun _ _ _ => by omega, fun hb => ⟨?_, trivial⟩, fun hb => ⟨h0, hi, fun he => ⟨(n + 1, i + 1), rfl, ⟨hs1, hs2, ⟨by show 0 <= i + 1; omega, by show i + 1 <= _; omega⟩, ?_, by show 1 <= n + 1; omega, by show n + 1 <= i + 1 + 1; omega, ?_, ?_, ?_⟩, by show s.length - (i + 1).toNat < _; omega⟩, fun he => ⟨(n, i + 1), rfl, ⟨hs1, hs2, ⟨by show 0 <= i + 1; omega, by show i + 1 <= _; omega⟩, ?_, hn0, by show n <= i + 1 + 1; omega, ?_, ?_, ?_⟩, by show s.length - (i + 1).toNat < _; omega⟩⟩⟩
  ·rw [PD]
   rcases hb with hb | ⟨hb1, hb2⟩
   ·rw [ha, hb]; simp
   ·rw [ho, hb1]
    rcases hb2 with (hb2 | hb2) | hb2
    ·simp [U.yS, hb2]
    ·rw [drop_end (i := i + 1) (by omega)]; simp [U.okS]
    ·have hp : U.yS s i = true := by unfold U.yS; rw [Bool.or_eq_true]; exact .inr (decide_eq_true hb2)
     rw [hp]; simp
  ·show i + 1 = _ -> U.yS s (i + 1) = false
   rintro hie; exfalso; exact hb.2.elim (fun h => h he) (fun h => h.1.2 (by omega))
  ·rw [ha, hb.1, Bool.false_or]
  ·rw [ho, hp1, he]
   rcases hb.2 with h | h
   ·exact absurd he h
   ·have hp : U.yS s i = false := by unfold U.yS; rw [Bool.or_eq_false_iff]; exact ⟨decide_eq_false h.1.1, decide_eq_false h.2⟩
    rw [hp]; simp
  ·show 1 + U.uM s = n + 1 + _
   rw [hc, decide_eq_true he]; simp only [cond_true]; omega
  ·show i + 1 = _ -> U.yS s (i + 1) = false
   rintro hie; rw [hp1, decide_eq_false he]
  ·rw [ha, hb.1, Bool.false_or]
  ·rw [ho, hp1, decide_eq_false he]; rfl
  ·show 1 + U.uM s = n + _
   rw [hc, decide_eq_false he]; simp only [cond_false]; omega
 ·have hi : i = s.length := by omega
  rw [PD, ha, ho, hend hi, drop_end (by omega), decide_eq_true hs2, Bool.true_and]
  rw [drop_end (by omega)] at hc
  have : U.uM [] = 0 := rfl
  rw [hc, this]; simp [U.okS]
theorem uN (x : Int) (r : List Int) : U.fM (x :: r) = (if x = 47 then [] else x :: U.fM r) /\ U.nT (x :: r) = (if x = 47 then x :: r else U.nT r) := by
 unfold U.fM U.nT
 rw [aA]
 have hb := kG r 47
 by_cases hx : x = 47
 ·simp [hx]
 ·rw [if_neg hx, if_neg hx, if_neg hx]
  by_cases hi : aA r 47 = -1
  ·rw [if_pos hi, hi]; exact ⟨rfl, rfl⟩
  ·rw [if_neg hi, show decide (aA r 47 >= 0) = true by rw [decide_eq_true_eq]; omega, show decide (aA r 47 + 1 >= 0) = true by rw [decide_eq_true_eq]; omega, show (aA r 47 + 1).toNat = (aA r 47).toNat + 1 by omega]
   exact ⟨rfl, rfl⟩
theorem LM : ∀ s : List Int, U.fM s ++ U.nT s = s /\ 47 ∉ U.fM s /\ (U.nT s = [] ∨ ∃ r, U.nT s = 47 :: r)
 | [] => ⟨rfl, by simp [U.fM], .inl rfl⟩
 | x :: r => by
   obtain ⟨h1, h2, h3⟩ := LM r
   rw [(uN x r).1, (uN x r).2]
   by_cases hx : x = 47
   ·rw [if_pos hx, if_pos hx, hx]; exact ⟨rfl, by simp, .inr ⟨r, rfl⟩⟩
   ·rw [if_neg hx, if_neg hx]; refine ⟨by rw [List.cons_append, h1], ?_, h3⟩
    rw [List.mem_cons]; rintro (h | h)
    ·exact hx h.symm
    ·exact h2 h
theorem Wn : ∀ a b : List Int, 47 ∉ a -> (b = [] ∨ ∃ r, b = 47 :: r) -> U.fM (a ++ b) = a /\ U.nT (a ++ b) = b
 | [], b, _, h => by
   rcases h with rfl | ⟨r, rfl⟩
   ·exact ⟨rfl, rfl⟩
   ·rw [List.nil_append, (uN 47 r).1, (uN 47 r).2]; exact ⟨rfl, rfl⟩
 | x :: a, b, ha, h => by
   have ih := Wn a b (fun h => ha (List.mem_cons_of_mem _ h)) h
   have hx : x ≠ 47 := fun h => ha (by rw [h]; exact List.mem_cons_self ..)
   rw [List.cons_append, (uN x _).1, (uN x _).2, if_neg hx, if_neg hx, ih.1, ih.2]; exact ⟨rfl, rfl⟩
theorem ab8 {s : List Int} (hf : U.eG s = true) : U.bU s = (cond (decide ((U.fM s).map dJ = U.fK.map dJ)) U.fK (U.fM s) ++ U.nT s, 0) := by
 unfold U.bU; rw [hf]; rfl
theorem Wp {s : List Int} (hf : U.eG s = true) (hn : ¬ (U.fM s).map dJ = U.fK.map dJ) : U.bU s = (s, 0) := by
 rw [ab8 hf, decide_eq_false hn]
 show (U.fM s ++ U.nT s, (0 : Int)) = (s, 0)
 rw [(LM s).1]
theorem ab9 {s : List Int} (h : (U.fM s).map dJ = U.fK.map dJ) : 5 <= s.length /\ (s.length = 5 ∨ s.getD 5 0 = 47) /\ s.take 5 = U.fM s /\ s.drop 5 = U.nT s := by
 have hl : (U.fM s).length = 5 := by
  have := congrArg List.length h
  rw [List.length_map, List.length_map] at this; exact this
 obtain ⟨h1, h2, h3⟩ := LM s
 generalize U.fM s = a at *
 generalize U.nT s = b at *
 subst h1
 refine ⟨by rw [List.length_append]; omega, ?_, by rw [<- hl]; simp, by rw [<- hl]; simp⟩
 rcases h3 with rfl | ⟨r, rfl⟩
 ·left; rw [List.append_nil]; exact hl
 ·right; rw [getD_at (by rw [List.length_append, List.length_cons]; omega), List.getElem_append_right (by omega)]; simp [hl]
theorem akh {x y : Int} (hy : 65 <= y /\ y <= 90) : (97 <= x /\ x <= 122 -> (dJ x = dJ y ↔ x - 32 = y)) /\ (¬ (97 <= x /\ x <= 122) -> (dJ x = dJ y ↔ x = y)) := by
 unfold dJ
 constructor
 ·intro h; rw [if_neg (by omega), if_pos (by omega)]; omega
 ·intro h; rw [if_pos hy]; by_cases h2 : 65 <= x /\ x <= 90
  ·rw [if_pos h2]; omega
  ·rw [if_neg h2]; omega
theorem Zp (s : List Int) (hb : ∀ x ∈ s, Byte x) (h : s.length <= 1000000000000) : Dz s := by
 unfold Dz
 refine ⟨h, ?_⟩
 cases hf : U.eG s with
 | false => unfold U.bU; rw [hf]; exact ⟨rfl, rfl, trivial⟩
 | true =>
   simp only [Bool.not_true, cond_false, cond_prop, dh, dN, aX, dK, bP, dG, decide_eq_true_eq, decide_eq_false_iff_not, Bool.or_eq_true, Bool.or_eq_false_iff, Bool.and_eq_true, Bool.and_eq_false_iff, bne_iff_ne, bne_eq_false_iff_eq, U.kL]
   refine ⟨fun _ _ => by omega, fun _ _ => by omega, fun hl => ?_, fun hl => ⟨0, ⟨rfl, by omega, ?_, by omega, by omega, rfl⟩, ?_⟩⟩
   ·have hn : ¬ (U.fM s).map dJ = U.fK.map dJ := by
     intro he
     obtain ⟨h1, h2, _⟩ := ab9 he
     rcases hl with hl | hl
     ·omega
     ·rcases h2 with h2 | h2
      ·omega
      ·exact hl.2 h2
    rw [Wp hf hn]; exact ⟨rfl, rfl, trivial⟩
   ·rcases hl.2 with h' | h'
    ·left; omega
    ·exact .inr h'
   ·rintro i ⟨hs5, hs6, h0, h1, h2⟩
    refine ⟨fun hi => ?_, fun hi => ?_⟩
    ·have hx : s.getD i.toNat 0 = s[i.toNat] := getD_at (by omega)
     have hy : [(73 : Int), 78, 66, 79, 88].getD i.toNat 0 = U.fK[i.toNat]'(by show i.toNat < 5; omega) := getD_at (by show i.toNat < 5; omega)
     have hyb : 65 <= U.fK[i.toNat]'(by show i.toNat < 5; omega) /\ U.fK[i.toNat]'(by show i.toNat < 5; omega) <= 90 := by
      have : ∀ z ∈ U.fK, (65 : Int) <= z /\ z <= 90 := by decide
      exact this _ (List.getElem_mem _)
     have hup := akh (x := s[i.toNat]) hyb
     have hbx := hb s[i.toNat] (List.getElem_mem _)
     have hbx0 : 0 <= s[i.toNat] /\ s[i.toNat] <= 255 := ⟨hbx.1, by have := hbx.2; omega⟩
     have ht := take_at (l := s) h0 (by omega)
     have ht2 := take_at (l := U.fK) h0 (by show i < 5; omega)
     have hbad : ¬ dJ s[i.toNat] = dJ (U.fK[i.toNat]'(by show i.toNat < 5; omega)) -> s = (U.bU s).1 /\ 0 = (U.bU s).2 /\ True := by
      intro hne
      have hn : ¬ (U.fM s).map dJ = U.fK.map dJ := by
       intro he
       obtain ⟨_, _, h3, _⟩ := ab9 he
       rw [<- h3] at he
       apply hne
       have this : ((s.take 5).map dJ).getD i.toNat 0 = (U.fK.map dJ).getD i.toNat 0 := by rw [he]
       rw [getD_at (by rw [List.length_map, List.length_take]; omega), getD_at (by rw [List.length_map]; show i.toNat < 5; omega)] at this
       simpa using this
      rw [Wp hf hn]; exact ⟨rfl, rfl, trivial⟩
     have hgood : dJ s[i.toNat] = dJ (U.fK[i.toNat]'(by show i.toNat < 5; omega)) -> (s.take (i + 1).toNat).map dJ = (U.fK.take (i + 1).toNat).map dJ := by
      intro he
      rw [ht, ht2, List.map_append, List.map_append, h2, List.map_singleton, List.map_singleton, he]
     rw [hx, hy, dn (x := i + 1) (by omega) (by omega), wrap_u8]
     refine ⟨h0, by omega, fun hlo => ⟨h0, hi, fun hne => hbad ?_, fun he => ⟨i + 1, rfl, ⟨hs5, hs6, by omega, by omega, hgood ?_⟩, by omega⟩⟩, fun hlo => ⟨h0, hi, fun hne => hbad ?_, fun he => ⟨i + 1, rfl, ⟨hs5, hs6, by omega, by omega, hgood ?_⟩, by omega⟩⟩⟩
     ·rw [(hup.1 hlo)]; omega
     ·rw [(hup.1 hlo)]; omega
     ·rw [hup.2 (by omega)]; exact hne
     ·rw [hup.2 (by omega)]; exact he
    ·have h5 : i = 5 := by omega
     subst h5
     have h2 : (s.take 5).map dJ = U.fK.map dJ := h2
     have hno : 47 ∉ s.take 5 := by
      intro hm
      have : dJ 47 ∈ (s.take 5).map dJ := List.mem_map_of_mem hm
      rw [h2] at this; revert this; decide
     have hd : s.drop 5 = [] ∨ ∃ r, s.drop 5 = 47 :: r := by
      rcases hs6 with h6 | h6
      ·left; exact List.drop_eq_nil_of_le (by omega)
      ·by_cases hl5 : s.length = 5
       ·left; exact List.drop_eq_nil_of_le (by omega)
       ·right; rw [List.drop_eq_getElem_cons (by omega)]; rw [getD_at (by omega)] at h6; rw [h6]; exact ⟨_, rfl⟩
     have hu := Wn (s.take 5) (s.drop 5) hno hd
     rw [List.take_append_drop] at hu
     have hc := ab8 hf
     rw [hu.1, hu.2, decide_eq_true h2] at hc
     have htk : List.take ((s.length : Int).toNat - 5) (s.drop 5) = s.drop 5 := List.take_of_length_le (by rw [List.length_drop]; omega)
     rw [htk, hc]
     exact ⟨by omega, by omega, by omega, by rw [List.length_drop]; omega, rfl, rfl, trivial⟩
end Go.Proofs.YtkhdeldobekciaaGreatDoor
set_option linter.unusedSimpArgs false
set_option maxRecDepth 100000
set_option linter.unusedVariables false
namespace Go.Proofs.YtkhdeldobekciaaGreatDoor
open Go.Vc
theorem acd (x : aG [.int .u8]) : bf Tryz.prog (aK Bg) (Pq x) 103 (aY [.int .u8] x) [] (GH x) = Dy x := by kernel_rfl
theorem ace : Pok 103 [.int .u8] (fun x => GH x) := by
 refine pk (L := fun x => Pq x) (l := Bg) Pn (fun _ => rfl) ?_
 intro x hv hp
 rw [acd]
 exact Zn x
theorem acf : aP Tryz.prog gl 103 Po := ace
theorem MR : aI yT := .cons acf Pn
theorem Zq (x : aG [.str]) : bf Tryz.prog (aK yT) (MP x) 98 (aY [.str] x) [] (wE x) = Ak x := by kernel_rfl
theorem Zr : Pok 98 [.str] (fun x => wE x) := by
 refine pk (L := fun x => MP x) (l := yT) MR (fun _ => rfl) ?_
 intro x hv hp
 rw [Zq]
 exact X8 x (hp (List.length x <= 1000000000000) (by simp [wE]))
theorem Zt : aP Tryz.prog gl 98 MO := Zr
theorem J6 : aI wF := .cons Zt MR
theorem acg (x : aG [.str]) : bf Tryz.prog (aK wF) (Px x) 87 (aY [.str] x) [] (yU x) = Dz x := by kernel_rfl
theorem ach : Pok 87 [.str] (fun x => yU x) := by
 refine pk (L := fun x => Px x) (l := wF) J6 (fun _ => rfl) ?_
 intro x hv hp
 rw [acg]
 exact Zp x hv.1 (hp (List.length x <= 1000000000000) (by simp [yU]))
theorem aci : aP Tryz.prog gl 87 Pv := ach
theorem MS : aI yV := .cons aci J6
theorem acj (x : aG [.str]) : bf Tryz.prog (aK yV) (Pz x) 68 (aY [.str] x) [] (yX x) = MQ x := by kernel_rfl
theorem acn : Pok 68 [.str] (fun x => yX x) := by
 refine pk (L := fun x => Pz x) (l := yV) MS (fun _ => rfl) ?_
 intro x hv hp
 rw [acj]
 exact Zo x (hp (List.length x <= 1000000000000) (by simp [yX]))
theorem aco : aP Tryz.prog gl 68 Py := acn
theorem MV : aI yY := .cons aco MS
end Go.Proofs.YtkhdeldobekciaaGreatDoor
