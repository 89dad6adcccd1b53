/- What functions of this seat compute, in plain Lean. -/
import Derived.Test.YtkhdeldobekciaaGreatDoorRB
set_option linter.unusedVariables false
set_option linter.unusedSimpArgs false
set_option maxRecDepth 100000
namespace Go.Proofs.YtkhdeldobekciaaGreatDoor
open Go.Vc
namespace U
def okS : Bool -> List Int -> Bool
 | p, [] => !p
 | p, x :: r => cond (decide (x = 47)) (!p && okS true r) (okS false r)
def zW (s : List Int) (i : Int) : Bool := decide (i = 0) || decide (s.getD (i - 1).toNat 0 = 47)
def vU (s : List Int) : Int := ((s.filter (fun x => decide (x = 47))).length : Int)
end U
namespace U
def iL (s : List Int) (n : Int) (i : Int) : St2 := ⟨⟨[sS s] ++ U.n 2 ++ [sI n] ++ [sI i] ++ U.n 51, [], []⟩, 0, []⟩
def jP (s : List Int)  (n : Int) (i : Int) : Prop := 1 <= s.length /\ s.length <= 40 /\ at_ s i /\ (i = s.length -> zW s i = false) /\ 1 <= n /\ n <= i + 1 /\ s.any iI = (s.drop i.toNat).any iI /\ okS true s = okS (zW s i) (s.drop i.toNat) /\ 1 + vU s = n + vU (s.drop i.toNat)
def jc (s : List Int) (i : Int) : St2 := ⟨⟨[sS s] ++ U.n 3 ++ [sI i] ++ U.n 41, [], []⟩, 0, []⟩
def kQ (s : List Int)  (i : Int) : Prop := 5 <= s.length /\ (s.length = 5 ∨ s.getD 5 0 = 47) /\ 0 <= i /\ i <= 5 /\ (s.take i.toNat).map dV = (gB.take i.toNat).map dV
end U
def WT (s : List Int) : Vc.Loop := ⟨{ keep := [0, 3, 4] }, Int × Int, fun x => U.iL s x.1 x.2, fun x0 x => U.jP s  x.1 x.2, fun x => s.length - x.2.toNat⟩
def Yv (s : List Int) : Vc.Loop := ⟨{ keep := [0, 4] }, Int, fun x => U.jc s x, fun x0 x => U.kQ s  x, fun x => 5 - x.toNat⟩
def IQ (c : Int) : Done := rB (!(U.iI c))
def Rj : Vc.Sum := .pure [.int .u8] false fun x => IQ x
def Rk (c : Int) : Nat -> List V -> Nat -> Option Vc.Loop := bW
def zX : List (Nat × Ent) := (103, .sum Rj) :: Dt
def xM (s : List Int) : Done := ⟨[s.length <= 1000000000000], .one (.bool (U.fE s)), [], []⟩
def OM : Vc.Sum := .pure [.str] false fun x => xM x
def OO (s : List Int) : Nat -> List V -> Nat -> Option Vc.Loop := fun f v k => cond (Nat.beq f 98 && Nat.beq k 5) (some (WT s)) <| none
def xO : List (Nat × Ent) := (98, .sum OM) :: zX
def zY (s : List Int) : Done := ⟨[s.length <= 1000000000000], rSE (U.bZ s), [], []⟩
def Rl : Vc.Sum := .pure [.str] false fun x => zY x
def Rn (s : List Int) : Nat -> List V -> Nat -> Option Vc.Loop := fun f v k => cond (Nat.beq f 87 && Nat.beq k 6) (some (Yv s)) <| none
def zZ : List (Nat × Ent) := (87, .sum Rl) :: xO
def Aa (s : List Int) : Done := ⟨[s.length <= 1000000000000], .one (.bool (U.mG s)), [], []⟩
def Ro : Vc.Sum := .pure [.str] false fun x => Aa x
def Rq (s : List Int) : Nat -> List V -> Nat -> Option Vc.Loop := bW
def Ac : List (Nat × Ent) := (68, .sum Ro) :: zZ
end Go.Proofs.YtkhdeldobekciaaGreatDoor
set_option maxRecDepth 100000
set_option linter.unusedVariables false
namespace Go.Proofs.YtkhdeldobekciaaGreatDoor
open Go.Vc
def Fb (c : Int) : Prop := (bif bif bif bif bif bif bif bif decide (c > (32 : Int)) then decide (c <= (126 : Int)) else false then c != (40 : Int) else false then c != (41 : Int) else false then c != (123 : Int) else false then c != (37 : Int) else false then c != (42 : Int) else false then c != (34 : Int) else false then c != (92 : Int) else false) = !U.iI c /\ True
def Cm (s : List Int) : Prop := bif bif decide ((↑s.length : Int) < (1 : Int)) then true else decide ((↑s.length : Int) > (40 : Int)) then false = U.fE s /\ True else ∃ (x0 : Int × Int), (U.iL s (1 : Int) (0 : Int) = U.iL s x0.1 x0.2 /\ U.jP s x0.1 x0.2) /\ ∀ (x : Int × Int), U.jP s x.1 x.2 -> bif decide (x.2 < (↑s.length : Int))
 then (0 : Int) <= x.2 /\ x.2 < (↑s.length : Int) /\ ((!!U.iI (s.getD x.2.toNat (0 : Int))) = false -> (0 : Int) <= x.2) /\ ((!!U.iI (s.getD x.2.toNat (0 : Int))) = false -> x.2 < (↑s.length : Int)) /\ ((!!U.iI (s.getD x.2.toNat (0 : Int))) = false -> decide (s.getD x.2.toNat (0 : Int) = (47 : Int)) = true -> (bif decide (x.2 = (0 : Int)) then true else decide (x.2 = IntKind.i64.wrap ((↑s.length :
 Int).sub (1 : Int)))) = false -> (0 : Int) <= IntKind.i64.wrap (x.2.sub (1 : Int))) /\ ((!!U.iI (s.getD x.2.toNat (0 : Int))) = false -> decide (s.getD x.2.toNat (0 : Int) = (47 : Int)) = true -> (bif decide (x.2 = (0 : Int)) then true else decide (x.2 = IntKind.i64.wrap ((↑s.length : Int).sub (1 : Int)))) = false -> IntKind.i64.wrap (x.2.sub (1 : Int)) < (↑s.length : Int)) /\ bif bif !!U.iI (s.getD
 x.2.toNat (0 : Int)) then true else bif decide (s.getD x.2.toNat (0 : Int) = (47 : Int)) then bif bif decide (x.2 = (0 : Int)) then true else decide (x.2 = IntKind.i64.wrap ((↑s.length : Int).sub (1 : Int))) then true else decide (s.getD (IntKind.i64.wrap (x.2.sub (1 : Int))).toNat (0 : Int) = (47 : Int)) else false then false = U.fE s /\ True else (0 : Int) <= x.2 /\ x.2 < (↑s.length : Int) /\
 bif decide (s.getD x.2.toNat (0 : Int) = (47 : Int)) then ∃ (y : Int × Int), U.iL s (IntKind.i64.wrap (x.1.add (1 : Int))) (IntKind.i64.wrap (x.2.add (1 : Int))) = U.iL s y.1 y.2 /\ U.jP s y.1 y.2 /\ s.length.sub y.2.toNat < s.length.sub x.2.toNat else ∃ (y : Int × Int), U.iL s x.1 (IntKind.i64.wrap (x.2.add (1 : Int))) = U.iL s y.1
 y.2 /\ U.jP s y.1 y.2 /\ s.length.sub y.2.toNat < s.length.sub x.2.toNat else decide (x.1 <= (4 : Int)) = U.fE s /\ True
def Fe (s : List Int) : Prop := s.length <= (1000000000000 : Nat) /\ bif !U.fE s then [] = (U.bZ s).1 /\ (3 : Int) = (U.bZ s).2 /\ True else (decide ((↑s.length : Int) < (5 : Int)) = false -> decide ((↑s.length : Int) > (5 : Int)) = true -> (0 : Int) <= (5 : Int)) /\ (decide ((↑s.length : Int) < (5 : Int)) = false -> decide ((↑s.length : Int) > (5 : Int)) = true -> (5 : Int) <
 (↑s.length : Int)) /\ bif bif decide ((↑s.length : Int) < (5 : Int)) then true else bif decide ((↑s.length : Int) > (5 : Int)) then s.getD (5 : Nat) (0 : Int) != (47 : Int) else false then s = (U.bZ s).1 /\ (0 : Int) = (U.bZ s).2 /\ True else ∃ (x0 : Int), (U.jc s (0 : Int) = U.jc s x0 /\ U.kQ s x0) /\ ∀ (x : Int), U.kQ s x -> bif decide (x < (5 :
 Int)) then (0 : Int) <= x /\ x < (↑s.length : Int) /\ bif bif decide (s.getD x.toNat (0 : Int) >= (97 : Int)) then decide (s.getD x.toNat (0 : Int) <= (122 : Int)) else false then (0 : Int) <= x /\ x < (↑((5 : Nat)) : Int) /\ bif IntKind.u8.wrap ((s.getD x.toNat (0 : Int)).sub (32 : Int)) != [(73 : Int), (78 : Int), (66 : Int), (79 : Int), (88 : Int)].getD x.toNat (0 : Int) then s = (U.bZ s).1 /\ (0 :
 Int) = (U.bZ s).2 /\ True else ∃ (y : Int), U.jc s (IntKind.i64.wrap (x.add (1 : Int))) = U.jc s y /\ U.kQ s y /\ Nat.sub (5 : Nat) y.toNat < Nat.sub (5 : Nat) x.toNat else (0 : Int) <= x /\ x < (↑((5 : Nat)) : Int) /\ bif s.getD x.toNat (0 : Int) != [(73 : Int), (78 : Int), (66 : Int), (79 : Int), (88 : Int)].getD x.toNat (0 : Int) then s = (U.bZ s).1 /\ (0 :
 Int) = (U.bZ s).2 /\ True else ∃ (y : Int), U.jc s (IntKind.i64.wrap (x.add (1 : Int))) = U.jc s y /\ U.kQ s y /\ Nat.sub (5 : Nat) y.toNat < Nat.sub (5 : Nat) x.toNat else (0 : Int) <= (5 : Int) /\ (5 : Int) <= (↑s.length : Int) /\ (↑s.length : Int) <= (↑s.length : Int) /\ Nat.add ((5 : Nat)) (List.take ((↑s.length : Int).toNat.sub (5 : Nat)) (List.drop (5 : Nat)
 s)).length <= (9223372036854775807 : Nat) /\ (73 : Int) :: (78 : Int) :: (66 : Int) :: (79 : Int) :: (88 : Int) :: List.take ((↑s.length : Int).toNat.sub (5 : Nat)) (List.drop (5 : Nat) s) = (U.bZ s).1 /\ (0 : Int) = (U.bZ s).2 /\ True
def OQ (s : List Int) : Prop := s.length <= (1000000000000 : Nat) /\ (bif decide ((U.bZ s).2 = (0 : Int)) then (U.bZ s).1.beq s else false) = U.mG s /\ True
end Go.Proofs.YtkhdeldobekciaaGreatDoor
set_option linter.unusedSimpArgs false
set_option linter.unusedVariables false
set_option maxRecDepth 100000
namespace Go.Proofs.YtkhdeldobekciaaGreatDoor
open Go.Vc
open Go.Vc.T
theorem uo : ∀ (l : List Int) (c : Int), (aH l c >= 0) ↔ c ∈ l
 | [], c => by simp [aH]
 | x :: l, c => by
   have ih := uo l c
   have hb := kL l c
   unfold aH; rw [List.mem_cons]
   by_cases hx : x = c
   ·simp [hx]
   ·rw [if_neg hx]
    by_cases hi : aH l c = -1
    ·rw [if_pos hi]
     constructor
     ·intro h; omega
     ·rintro (h | h)
      ·exact absurd h.symm hx
      ·have := ih.2 h; omega
    ·rw [if_neg hi]
     constructor
     ·intro _; exact .inr (ih.1 (by omega))
     ·intro _; omega
theorem alU (c : Int) : U.iI c = (decide (c <= 32) || decide (c > 126) || decide (c = 40) || decide (c = 41) || decide (c = 123) || decide (c = 37) || decide (c = 42) || decide (c = 34) || decide (c = 92)) := by
 have e : decide (aH [40, 41, 123, 37, 42, 34, 92] c >= 0) = (decide (c = 40) || decide (c = 41) || decide (c = 123) || decide (c = 37) || decide (c = 42) || decide (c = 34) || decide (c = 92)) := by
  rw [Bool.eq_iff_iff]
  simp only [decide_eq_true_eq, Bool.or_eq_true]
  have := uo [40, 41, 123, 37, 42, 34, 92] c
  rw [this]; simp only [List.mem_cons, List.not_mem_nil, or_false]
  omega
 unfold U.iI; rw [e]; simp only [Bool.or_assoc]
theorem abh (c : Int) : Fb c := by
 unfold Fb
 refine ⟨?_, trivial⟩
 rw [alU, Bool.eq_iff_iff]
 simp only [bY, Bool.and_eq_true, decide_eq_true_eq, bne_iff_ne, Bool.not_eq_true', Bool.or_eq_false_iff, decide_eq_false_iff_not]
 omega
theorem abj (s : List Int) (h : s.length <= 1000000000000) : OQ s := by
 refine ⟨h, ?_, trivial⟩
 unfold U.mG
 rw [bY, fO]; congr 1
 rw [Bool.eq_iff_iff]; simp
theorem split_c (c x : Int) (r : List Int) : U.split c (x :: r) = if x = c then [] :: U.split c r else (x :: (U.split c r).headD []) :: (U.split c r).tail := rfl
theorem aml (p : Bool) (x : Int) (r : List Int) : U.okS p (x :: r) = cond (decide (x = 47)) (!p && U.okS true r) (U.okS false r) := rfl
theorem akV (x : Int) (r : List Int) : U.vU (x :: r) = cond (decide (x = 47)) 1 0 + U.vU r := by
 unfold U.vU; rw [List.filter_cons]
 cases decide (x = 47) <;> simp; omega
theorem ald (s : List Int) : ((U.split 47 s).length : Int) = 1 + U.vU s := by
 induction s with
 | nil => rfl
 | cons x r ih =>
   rw [split_c, akV]
   have hc : 0 <= U.vU r := by unfold U.vU; omega
   by_cases h : x = 47
   ·rw [if_pos h, decide_eq_true h, List.length_cons]; simp only [cond_true]; omega
   ·rw [if_neg h, decide_eq_false h, List.length_cons, List.length_tail]
    simp only [cond_false]
    omega
theorem adX (x : List Int) : ∀ (l : List (List Int)) (i : Int), 0 <= i -> (U.zO x l i < 0 ↔ x ∉ l)
 | [], i, h => by simp [U.zO]
 | y :: r, i, h => by
   have ih := adX x r (i + 1) (by omega)
   unfold U.zO
   by_cases hy : y = x
   ·rw [if_pos hy, hy]; simp; omega
   ·rw [if_neg hy, ih, List.mem_cons]
    constructor
    ·rintro h (rfl | h'); exact hy rfl; exact h h'
    ·intro h h'; exact h (.inr h')
theorem aaK : ∀ s : List Int, (U.okS true s = true ↔ [] ∉ U.split 47 s) /\ (U.okS false s = true ↔ [] ∉ (U.split 47 s).tail)
 | [] => by simp [U.okS, U.split]
 | x :: r => by
   have ih := aaK r
   unfold U.okS U.split
   by_cases h : x = 47
   ·rw [if_pos h, decide_eq_true h]
    simp only [cond_true, Bool.not_true, Bool.false_and, Bool.not_false, Bool.true_and, List.tail_cons, List.mem_cons, true_or, not_true_eq_false]
    exact ⟨by simp, ih.1⟩
   ·rw [if_neg h, decide_eq_false h]
    simp only [cond_false, List.tail_cons, List.mem_cons]
    refine ⟨?_, ih.2⟩
    rw [ih.2]
    simp
theorem Rt (s : List Int) : U.fE s = (decide (s.length <= 40) && (decide (1 + U.vU s <= 4) && (U.okS true s && !s.any U.iI))) := by
 unfold U.fE
 congr 1
 rw [show decide ((U.split 47 s).length <= 4) = decide (1 + U.vU s <= 4) by rw [decide_eq_decide, <- ald]; omega]
 congr 1
 rw [<- (WS U.iI s 0 (by omega)).1, show (!decide (U.rW U.iI s 0 >= 0)) = decide (U.rW U.iI s 0 < 0) from ajm _]
 congr 1
 rw [Bool.eq_iff_iff, decide_eq_true_eq, adX [] _ 0 (by omega), (aaK s).1]
theorem ZR (s : List Int) (h : s.length <= 1000000000000) : Cm s := by
 unfold Cm
 simp only [cond_prop, bY, dZ, bf, dF, bT, decide_eq_true_eq, decide_eq_false_iff_not, Bool.or_eq_true, Bool.or_eq_false_iff, Bool.and_eq_true, Bool.and_eq_false_iff, Bool.not_not, U.jP, U.at_]
 refine ⟨fun hl => ⟨?_, trivial⟩, fun hl => ⟨(1, 0), ⟨rfl, by omega, by omega, ⟨by omega, by omega⟩, fun hz => by omega, by omega, by omega, rfl, rfl, by simp⟩, ?_⟩⟩
 ·rcases hl with hl | hl
  ·obtain rfl : s = [] := List.length_eq_zero_iff.1 (by omega)
   rfl
  ·rw [Rt, show decide (s.length <= 40) = false by rw [decide_eq_false_iff_not]; omega]; rfl
 rintro ⟨n, i⟩ ⟨hs1, hs2, ⟨h0, h1⟩, hend, hn0, hn1, ha, ho, hc⟩
 simp only [] at *
 refine ⟨fun hi => ?_, fun hi => ⟨?_, trivial⟩⟩
 ·simp (disch := omega) only [dw]
  have hx : s.getD i.toNat 0 = s[i.toNat] := getD_at (by omega)
  rw [hx]
  have hd := drop_at h0 hi
  rw [hd, List.any_cons] at ha
  rw [hd] at ho hc
  have hp1 : U.zW s (i + 1) = decide (s[i.toNat] = 47) := by
   unfold U.zW
   rw [show decide (i + 1 = 0) = false by rw [decide_eq_false_iff_not]; omega, Bool.false_or, show (i + 1 - 1).toNat = i.toNat by omega, hx]
  rw [akV] at hc
  rw [aml] at ho
  refine ⟨h0, hi, fun _ => h0, fun _ => hi, fun _ _ _ => by omega, fun _ _ _ => by omega, fun hb => ⟨?_, trivial⟩, fun hb => ⟨h0, hi, fun he => ⟨(n + 1, i + 1), rfl, ⟨hs1, hs2, ⟨by show 0 <= i + 1; omega, by show i + 1 <= _; omega⟩, ?_, by show 1 <= n + 1; omega, by show n + 1 <= i + 1 + 1; omega, ?_, ?_, ?_⟩, by show s.length - (i + 1).toNat < _; omega⟩, fun he => ⟨(n, i + 1), rfl, ⟨hs1, hs2, ⟨by show 0 <= i + 1; omega, by show i + 1 <= _; omega⟩, ?_, hn0, by show n <= i + 1 + 1; omega, ?_, ?_, ?_⟩, by show s.length - (i + 1).toNat < _; omega⟩⟩⟩
  ·rw [Rt]
   rcases hb with hb | ⟨hb1, hb2⟩
   ·rw [ha, hb]; simp
   ·rw [ho, hb1]
    rcases hb2 with (hb2 | hb2) | hb2
    ·simp [U.zW, hb2]
    ·rw [drop_end (i := i + 1) (by omega)]; simp [U.okS]
    ·have hp : U.zW s i = true := by unfold U.zW; rw [Bool.or_eq_true]; exact .inr (decide_eq_true hb2)
     rw [hp]; simp
  ·show i + 1 = _ -> U.zW s (i + 1) = false
   rintro hie; exfalso; exact hb.2.elim (fun h => h he) (fun h => h.1.2 (by omega))
  ·rw [ha, hb.1, Bool.false_or]
  ·rw [ho, hp1, he]
   rcases hb.2 with h | h
   ·exact absurd he h
   ·have hp : U.zW s i = false := by unfold U.zW; rw [Bool.or_eq_false_iff]; exact ⟨decide_eq_false h.1.1, decide_eq_false h.2⟩
    rw [hp]; simp
  ·show 1 + U.vU s = n + 1 + _
   rw [hc, decide_eq_true he]; simp only [cond_true]; omega
  ·show i + 1 = _ -> U.zW s (i + 1) = false
   rintro hie; rw [hp1, decide_eq_false he]
  ·rw [ha, hb.1, Bool.false_or]
  ·rw [ho, hp1, decide_eq_false he]; rfl
  ·show 1 + U.vU s = n + _
   rw [hc, decide_eq_false he]; simp only [cond_false]; omega
 ·have hi : i = s.length := by omega
  rw [Rt, ha, ho, hend hi, drop_end (by omega), decide_eq_true hs2, Bool.true_and]
  rw [drop_end (by omega)] at hc
  have : U.vU [] = 0 := rfl
  rw [hc, this]; simp [U.okS]
theorem vV (x : Int) (r : List Int) : U.gG (x :: r) = (if x = 47 then [] else x :: U.gG r) /\ U.oz (x :: r) = (if x = 47 then x :: r else U.oz r) := by
 unfold U.gG U.oz
 rw [aH]
 have hb := kL r 47
 by_cases hx : x = 47
 ·simp [hx]
 ·rw [if_neg hx, if_neg hx, if_neg hx]
  by_cases hi : aH r 47 = -1
  ·rw [if_pos hi, hi]; exact ⟨rfl, rfl⟩
  ·rw [if_neg hi, show decide (aH r 47 >= 0) = true by rw [decide_eq_true_eq]; omega, show decide (aH r 47 + 1 >= 0) = true by rw [decide_eq_true_eq]; omega, show (aH r 47 + 1).toNat = (aH r 47).toNat + 1 by omega]
   exact ⟨rfl, rfl⟩
theorem NV : ∀ s : List Int, U.gG s ++ U.oz s = s /\ 47 ∉ U.gG s /\ (U.oz s = [] ∨ ∃ r, U.oz s = 47 :: r)
 | [] => ⟨rfl, by simp [U.gG], .inl rfl⟩
 | x :: r => by
   obtain ⟨h1, h2, h3⟩ := NV r
   rw [(vV x r).1, (vV x r).2]
   by_cases hx : x = 47
   ·rw [if_pos hx, if_pos hx, hx]; exact ⟨rfl, by simp, .inr ⟨r, rfl⟩⟩
   ·rw [if_neg hx, if_neg hx]; refine ⟨by rw [List.cons_append, h1], ?_, h3⟩
    rw [List.mem_cons]; rintro (h | h)
    ·exact hx h.symm
    ·exact h2 h
theorem Yw : ∀ a b : List Int, 47 ∉ a -> (b = [] ∨ ∃ r, b = 47 :: r) -> U.gG (a ++ b) = a /\ U.oz (a ++ b) = b
 | [], b, _, h => by
   rcases h with rfl | ⟨r, rfl⟩
   ·exact ⟨rfl, rfl⟩
   ·rw [List.nil_append, (vV 47 r).1, (vV 47 r).2]; exact ⟨rfl, rfl⟩
 | x :: a, b, ha, h => by
   have ih := Yw a b (fun h => ha (List.mem_cons_of_mem _ h)) h
   have hx : x ≠ 47 := fun h => ha (by rw [h]; exact List.mem_cons_self ..)
   rw [List.cons_append, (vV x _).1, (vV x _).2, if_neg hx, if_neg hx, ih.1, ih.2]; exact ⟨rfl, rfl⟩
theorem adY {s : List Int} (hf : U.fE s = true) : U.bZ s = (cond (decide ((U.gG s).map dV = U.gB.map dV)) U.gB (U.gG s) ++ U.oz s, 0) := by
 unfold U.bZ; rw [hf]; rfl
theorem Yx {s : List Int} (hf : U.fE s = true) (hn : ¬ (U.gG s).map dV = U.gB.map dV) : U.bZ s = (s, 0) := by
 rw [adY hf, decide_eq_false hn]
 show (U.gG s ++ U.oz s, (0 : Int)) = (s, 0)
 rw [(NV s).1]
theorem adZ {s : List Int} (h : (U.gG s).map dV = U.gB.map dV) : 5 <= s.length /\ (s.length = 5 ∨ s.getD 5 0 = 47) /\ s.take 5 = U.gG s /\ s.drop 5 = U.oz s := by
 have hl : (U.gG s).length = 5 := by
  have := congrArg List.length h
  rw [List.length_map, List.length_map] at this; exact this
 obtain ⟨h1, h2, h3⟩ := NV s
 generalize U.gG s = a at *
 generalize U.oz s = b at *
 subst h1
 refine ⟨by rw [List.length_append]; omega, ?_, by rw [<- hl]; simp, by rw [<- hl]; simp⟩
 rcases h3 with rfl | ⟨r, rfl⟩
 ·left; rw [List.append_nil]; exact hl
 ·right; rw [getD_at (by rw [List.length_append, List.length_cons]; omega), List.getElem_append_right (by omega)]; simp [hl]
theorem alV {x y : Int} (hy : 65 <= y /\ y <= 90) : (97 <= x /\ x <= 122 -> (dV x = dV y ↔ x - 32 = y)) /\ (¬ (97 <= x /\ x <= 122) -> (dV x = dV y ↔ x = y)) := by
 unfold dV
 constructor
 ·intro h; rw [if_neg (by omega), if_pos (by omega)]; omega
 ·intro h; rw [if_pos hy]; by_cases h2 : 65 <= x /\ x <= 90
  ·rw [if_pos h2]; omega
  ·rw [if_neg h2]; omega
theorem abk (s : List Int) (hb : ∀ x ∈ s, Byte x) (h : s.length <= 1000000000000) : Fe s := by
 unfold Fe
 refine ⟨h, ?_⟩
 cases hf : U.fE s with
 | false => unfold U.bZ; rw [hf]; exact ⟨rfl, rfl, trivial⟩
 | true =>
   simp only [Bool.not_true, cond_false, cond_prop, bY, dZ, bf, dF, bT, dX, decide_eq_true_eq, decide_eq_false_iff_not, Bool.or_eq_true, Bool.or_eq_false_iff, Bool.and_eq_true, Bool.and_eq_false_iff, bne_iff_ne, bne_eq_false_iff_eq, U.kQ]
   refine ⟨fun _ _ => by omega, fun _ _ => by omega, fun hl => ?_, fun hl => ⟨0, ⟨rfl, by omega, ?_, by omega, by omega, rfl⟩, ?_⟩⟩
   ·have hn : ¬ (U.gG s).map dV = U.gB.map dV := by
     intro he
     obtain ⟨h1, h2, _⟩ := adZ he
     rcases hl with hl | hl
     ·omega
     ·rcases h2 with h2 | h2
      ·omega
      ·exact hl.2 h2
    rw [Yx hf hn]; exact ⟨rfl, rfl, trivial⟩
   ·rcases hl.2 with h' | h'
    ·left; omega
    ·exact .inr h'
   ·rintro i ⟨hs5, hs6, h0, h1, h2⟩
    refine ⟨fun hi => ?_, fun hi => ?_⟩
    ·have hx : s.getD i.toNat 0 = s[i.toNat] := getD_at (by omega)
     have hy : [(73 : Int), 78, 66, 79, 88].getD i.toNat 0 = U.gB[i.toNat]'(by show i.toNat < 5; omega) := getD_at (by show i.toNat < 5; omega)
     have hyb : 65 <= U.gB[i.toNat]'(by show i.toNat < 5; omega) /\ U.gB[i.toNat]'(by show i.toNat < 5; omega) <= 90 := by
      have : ∀ z ∈ U.gB, (65 : Int) <= z /\ z <= 90 := by decide
      exact this _ (List.getElem_mem _)
     have hup := alV (x := s[i.toNat]) hyb
     have hbx := hb s[i.toNat] (List.getElem_mem _)
     have hbx0 : 0 <= s[i.toNat] /\ s[i.toNat] <= 255 := ⟨hbx.1, by have := hbx.2; omega⟩
     have ht := take_at (l := s) h0 (by omega)
     have ht2 := take_at (l := U.gB) h0 (by show i < 5; omega)
     have hbad : ¬ dV s[i.toNat] = dV (U.gB[i.toNat]'(by show i.toNat < 5; omega)) -> s = (U.bZ s).1 /\ 0 = (U.bZ s).2 /\ True := by
      intro hne
      have hn : ¬ (U.gG s).map dV = U.gB.map dV := by
       intro he
       obtain ⟨_, _, h3, _⟩ := adZ he
       rw [<- h3] at he
       apply hne
       have this : ((s.take 5).map dV).getD i.toNat 0 = (U.gB.map dV).getD i.toNat 0 := by rw [he]
       rw [getD_at (by rw [List.length_map, List.length_take]; omega), getD_at (by rw [List.length_map]; show i.toNat < 5; omega)] at this
       simpa using this
      rw [Yx hf hn]; exact ⟨rfl, rfl, trivial⟩
     have hgood : dV s[i.toNat] = dV (U.gB[i.toNat]'(by show i.toNat < 5; omega)) -> (s.take (i + 1).toNat).map dV = (U.gB.take (i + 1).toNat).map dV := by
      intro he
      rw [ht, ht2, List.map_append, List.map_append, h2, List.map_singleton, List.map_singleton, he]
     rw [hx, hy, dw (x := i + 1) (by omega) (by omega), wrap_u8]
     refine ⟨h0, by omega, fun hlo => ⟨h0, hi, fun hne => hbad ?_, fun he => ⟨i + 1, rfl, ⟨hs5, hs6, by omega, by omega, hgood ?_⟩, by omega⟩⟩, fun hlo => ⟨h0, hi, fun hne => hbad ?_, fun he => ⟨i + 1, rfl, ⟨hs5, hs6, by omega, by omega, hgood ?_⟩, by omega⟩⟩⟩
     ·rw [(hup.1 hlo)]; omega
     ·rw [(hup.1 hlo)]; omega
     ·rw [hup.2 (by omega)]; exact hne
     ·rw [hup.2 (by omega)]; exact he
    ·have h5 : i = 5 := by omega
     subst h5
     have h2 : (s.take 5).map dV = U.gB.map dV := h2
     have hno : 47 ∉ s.take 5 := by
      intro hm
      have : dV 47 ∈ (s.take 5).map dV := List.mem_map_of_mem hm
      rw [h2] at this; revert this; decide
     have hd : s.drop 5 = [] ∨ ∃ r, s.drop 5 = 47 :: r := by
      rcases hs6 with h6 | h6
      ·left; exact List.drop_eq_nil_of_le (by omega)
      ·by_cases hl5 : s.length = 5
       ·left; exact List.drop_eq_nil_of_le (by omega)
       ·right; rw [List.drop_eq_getElem_cons (by omega)]; rw [getD_at (by omega)] at h6; rw [h6]; exact ⟨_, rfl⟩
     have hu := Yw (s.take 5) (s.drop 5) hno hd
     rw [List.take_append_drop] at hu
     have hc := adY hf
     rw [hu.1, hu.2, decide_eq_true h2] at hc
     have htk : List.take ((s.length : Int).toNat - 5) (s.drop 5) = s.drop 5 := List.take_of_length_le (by rw [List.length_drop]; omega)
     rw [htk, hc]
     exact ⟨by omega, by omega, by omega, by rw [List.length_drop]; omega, rfl, rfl, trivial⟩
end Go.Proofs.YtkhdeldobekciaaGreatDoor
set_option linter.unusedSimpArgs false
set_option maxRecDepth 100000
set_option linter.unusedVariables false
namespace Go.Proofs.YtkhdeldobekciaaGreatDoor
open Go.Vc
theorem ad1 (x : aP [.int .u8]) : bg Tryz.prog (aT Dt) (Rk x) 103 (aZ [.int .u8] x) [] (IQ x) = Fb x := by kernel_rfl
theorem ad2 : Pok 103 [.int .u8] (fun x => IQ x) := by
 refine pk (L := fun x => Rk x) (l := Dt) Ri (fun _ => rfl) ?_
 intro x hv hp
 rw [ad1]
 exact abh x
theorem ad3 : aV Tryz.prog gl 103 Rj := ad2
theorem OT : aQ zX := .cons ad3 Ri
theorem abl (x : aP [.str]) : bg Tryz.prog (aT zX) (OO x) 98 (aZ [.str] x) [] (xM x) = Cm x := by kernel_rfl
theorem abm : Pok 98 [.str] (fun x => xM x) := by
 refine pk (L := fun x => OO x) (l := zX) OT (fun _ => rfl) ?_
 intro x hv hp
 rw [abl]
 exact ZR x (hp (List.length x <= 1000000000000) (by simp [xM]))
theorem abn : aV Tryz.prog gl 98 OM := abm
theorem L9 : aQ xO := .cons abn OT
theorem ad4 (x : aP [.str]) : bg Tryz.prog (aT xO) (Rn x) 87 (aZ [.str] x) [] (zY x) = Fe x := by kernel_rfl
theorem ad5 : Pok 87 [.str] (fun x => zY x) := by
 refine pk (L := fun x => Rn x) (l := xO) L9 (fun _ => rfl) ?_
 intro x hv hp
 rw [ad4]
 exact abk x hv.1 (hp (List.length x <= 1000000000000) (by simp [zY]))
theorem ad6 : aV Tryz.prog gl 87 Rl := ad5
theorem OU : aQ zZ := .cons ad6 L9
theorem ad7 (x : aP [.str]) : bg Tryz.prog (aT zZ) (Rq x) 68 (aZ [.str] x) [] (Aa x) = OQ x := by kernel_rfl
theorem ad8 : Pok 68 [.str] (fun x => Aa x) := by
 refine pk (L := fun x => Rq x) (l := zZ) OU (fun _ => rfl) ?_
 intro x hv hp
 rw [ad7]
 exact abj x (hp (List.length x <= 1000000000000) (by simp [Aa]))
theorem ad9 : aV Tryz.prog gl 68 Ro := ad8
theorem OV : aQ Ac := .cons ad9 OU
end Go.Proofs.YtkhdeldobekciaaGreatDoor
