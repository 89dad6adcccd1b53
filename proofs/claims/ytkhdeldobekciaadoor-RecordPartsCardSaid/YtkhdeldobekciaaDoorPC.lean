/- What functions of this seat compute, in plain Lean. -/
import Derived.Test.YtkhdeldobekciaaDoorPB
set_option linter.unusedVariables false
set_option linter.unusedSimpArgs false
set_option maxRecDepth 100000
namespace Go.Proofs.YtkhdeldobekciaaDoor
open Go.Vc
namespace U
def okS : Bool -> List Int -> Bool
 | p, [] => !p
 | p, x :: r => cond (decide (x = 47)) (!p && okS true r) (okS false r)
def xg (s : List Int) (i : Int) : Bool := decide (i = 0) || decide (s.getD (i - 1).toNat 0 = 47)
def rW (s : List Int) : Int := ((s.filter (fun x => decide (x = 47))).length : Int)
end U
namespace U
def iy (s : List Int) (n : Int) (i : Int) : St2 := ⟨⟨[sS s] ++ U.n 2 ++ [sI n] ++ [sI i] ++ U.n 51, [], []⟩, 0, []⟩
def jB (s : List Int)  (n : Int) (i : Int) : Prop := 1 <= s.length /\ s.length <= 40 /\ at_ s i /\ (i = s.length -> xg s i = false) /\ 1 <= n /\ n <= i + 1 /\ s.any ig = (s.drop i.toNat).any ig /\ okS true s = okS (xg s i) (s.drop i.toNat) /\ 1 + rW s = n + rW (s.drop i.toNat)
def iM (s : List Int) (i : Int) : St2 := ⟨⟨[sS s] ++ U.n 3 ++ [sI i] ++ U.n 41, [], []⟩, 0, []⟩
def kC (s : List Int)  (i : Int) : Prop := 5 <= s.length /\ (s.length = 5 ∨ s.getD 5 0 = 47) /\ 0 <= i /\ i <= 5 /\ (s.take i.toNat).map dH = (fF.take i.toNat).map dH
end U
def QE (s : List Int) : Vc.Loop := ⟨{ keep := [0, 3, 4] }, Int × Int, fun x => U.iy s x.1 x.2, fun x0 x => U.jB s  x.1 x.2, fun x => s.length - x.2.toNat, fun p => ∀ x, p x, fun _ h => h⟩
def SK (s : List Int) : Vc.Loop := ⟨{ keep := [0, 4] }, Int, fun x => U.iM s x, fun x0 x => U.kC s  x, fun x => 5 - x.toNat, fun p => ∀ x, p x, fun _ h => h⟩
def Em (c : Int) : Done := rB (!(U.ig c))
def MF : Vc.Sum := .pure [.int .u8] false fun x => Em x
def MG (c : Int) : Nat -> List V -> Nat -> Option Vc.Loop := dw
def xk : List (Nat × Ent) := (74, .sum MF) :: zu
def uD (s : List Int) : Done := ⟨[s.length <= 1000000000000], .one (.bool (U.eG s)), [], []⟩
def JG : Vc.Sum := .pure [.str] false fun x => uD x
def JH (s : List Int) : Nat -> List V -> Nat -> Option Vc.Loop := fun f v k => cond (Nat.beq f 67 && Nat.beq k 5) (some (QE s)) <| none
def uF : List (Nat × Ent) := (67, .sum JG) :: xk
def xq (s : List Int) : Done := ⟨[s.length <= 1000000000000], rSE (U.bT s), [], []⟩
def MH : Vc.Sum := .pure [.str] false fun x => xq x
def MI (s : List Int) : Nat -> List V -> Nat -> Option Vc.Loop := fun f v k => cond (Nat.beq f 55 && Nat.beq k 6) (some (SK s)) <| none
def xu : List (Nat × Ent) := (55, .sum MH) :: uF
def xw (s : List Int) : Done := ⟨[s.length <= 1000000000000], .one (.bool (U.lS s)), [], []⟩
def MJ : Vc.Sum := .pure [.str] false fun x => xw x
def MK (s : List Int) : Nat -> List V -> Nat -> Option Vc.Loop := dw
def xA : List (Nat × Ent) := (39, .sum MJ) :: xu
end Go.Proofs.YtkhdeldobekciaaDoor
set_option maxRecDepth 100000
set_option linter.unusedVariables false
namespace Go.Proofs.YtkhdeldobekciaaDoor
open Go.Vc
def A8 (c : Int) : Prop := (bif bif bif bif bif bif bif bif decide (c > (32 : Int)) then decide (c <= (126 : Int)) else false then c != (40 : Int) else false then c != (41 : Int) else false then c != (123 : Int) else false then c != (37 : Int) else false then c != (42 : Int) else false then c != (34 : Int) else false then c != (92 : Int) else false) = !U.ig c /\ True
def yQ (s : List Int) : Prop := bif bif decide ((↑s.length : Int) < (1 : Int)) then true else decide ((↑s.length : Int) > (40 : Int)) then false = U.eG s /\ True else ∃ (x0 : Int × Int), (U.iy s (1 : Int) (0 : Int) = U.iy s x0.1 x0.2 /\ U.jB s x0.1 x0.2) /\ ∀ (x : Int × Int), U.jB s x.1 x.2 -> bif decide (x.2 < (↑s.length : Int))
 then (0 : Int) <= x.2 /\ x.2 < (↑s.length : Int) /\ ((!!U.ig (s.getD x.2.toNat (0 : Int))) = false -> (0 : Int) <= x.2) /\ ((!!U.ig (s.getD x.2.toNat (0 : Int))) = false -> x.2 < (↑s.length : Int)) /\ ((!!U.ig (s.getD x.2.toNat (0 : Int))) = false -> decide (s.getD x.2.toNat (0 : Int) = (47 : Int)) = true -> (bif decide (x.2 = (0 : Int)) then true else decide (x.2 = IntKind.i64.wrap ((↑s.length :
 Int).sub (1 : Int)))) = false -> (0 : Int) <= IntKind.i64.wrap (x.2.sub (1 : Int))) /\ ((!!U.ig (s.getD x.2.toNat (0 : Int))) = false -> decide (s.getD x.2.toNat (0 : Int) = (47 : Int)) = true -> (bif decide (x.2 = (0 : Int)) then true else decide (x.2 = IntKind.i64.wrap ((↑s.length : Int).sub (1 : Int)))) = false -> IntKind.i64.wrap (x.2.sub (1 : Int)) < (↑s.length : Int)) /\ bif bif !!U.ig (s.getD
 x.2.toNat (0 : Int)) then true else bif decide (s.getD x.2.toNat (0 : Int) = (47 : Int)) then bif bif decide (x.2 = (0 : Int)) then true else decide (x.2 = IntKind.i64.wrap ((↑s.length : Int).sub (1 : Int))) then true else decide (s.getD (IntKind.i64.wrap (x.2.sub (1 : Int))).toNat (0 : Int) = (47 : Int)) else false then false = U.eG s /\ True else (0 : Int) <= x.2 /\ x.2 < (↑s.length : Int) /\
 bif decide (s.getD x.2.toNat (0 : Int) = (47 : Int)) then ∃ (y : Int × Int), U.iy s (IntKind.i64.wrap (x.1.add (1 : Int))) (IntKind.i64.wrap (x.2.add (1 : Int))) = U.iy s y.1 y.2 /\ U.jB s y.1 y.2 /\ s.length.sub y.2.toNat < s.length.sub x.2.toNat else ∃ (y : Int × Int), U.iy s x.1 (IntKind.i64.wrap (x.2.add (1 : Int))) = U.iy s y.1
 y.2 /\ U.jB s y.1 y.2 /\ s.length.sub y.2.toNat < s.length.sub x.2.toNat else decide (x.1 <= (4 : Int)) = U.eG s /\ True
def Ba (s : List Int) : Prop := s.length <= (1000000000000 : Nat) /\ bif !U.eG s then [] = (U.bT s).1 /\ (3 : Int) = (U.bT s).2 /\ True else (decide ((↑s.length : Int) < (5 : Int)) = false -> decide ((↑s.length : Int) > (5 : Int)) = true -> (0 : Int) <= (5 : Int)) /\ (decide ((↑s.length : Int) < (5 : Int)) = false -> decide ((↑s.length : Int) > (5 : Int)) = true -> (5 : Int) <
 (↑s.length : Int)) /\ bif bif decide ((↑s.length : Int) < (5 : Int)) then true else bif decide ((↑s.length : Int) > (5 : Int)) then s.getD (5 : Nat) (0 : Int) != (47 : Int) else false then s = (U.bT s).1 /\ (0 : Int) = (U.bT s).2 /\ True else ∃ (x0 : Int), (U.iM s (0 : Int) = U.iM s x0 /\ U.kC s x0) /\ ∀ (x : Int), U.kC s x -> bif decide (x < (5 :
 Int)) then (0 : Int) <= x /\ x < (↑s.length : Int) /\ bif bif decide (s.getD x.toNat (0 : Int) >= (97 : Int)) then decide (s.getD x.toNat (0 : Int) <= (122 : Int)) else false then (0 : Int) <= x /\ x < (↑((5 : Nat)) : Int) /\ bif IntKind.u8.wrap ((s.getD x.toNat (0 : Int)).sub (32 : Int)) != [(73 : Int), (78 : Int), (66 : Int), (79 : Int), (88 : Int)].getD x.toNat (0 : Int) then s = (U.bT s).1 /\ (0 :
 Int) = (U.bT s).2 /\ True else ∃ (y : Int), U.iM s (IntKind.i64.wrap (x.add (1 : Int))) = U.iM s y /\ U.kC s y /\ Nat.sub (5 : Nat) y.toNat < Nat.sub (5 : Nat) x.toNat else (0 : Int) <= x /\ x < (↑((5 : Nat)) : Int) /\ bif s.getD x.toNat (0 : Int) != [(73 : Int), (78 : Int), (66 : Int), (79 : Int), (88 : Int)].getD x.toNat (0 : Int) then s = (U.bT s).1 /\ (0 :
 Int) = (U.bT s).2 /\ True else ∃ (y : Int), U.iM s (IntKind.i64.wrap (x.add (1 : Int))) = U.iM s y /\ U.kC s y /\ Nat.sub (5 : Nat) y.toNat < Nat.sub (5 : Nat) x.toNat else (0 : Int) <= (5 : Int) /\ (5 : Int) <= (↑s.length : Int) /\ (↑s.length : Int) <= (↑s.length : Int) /\ Nat.add ((5 : Nat)) (List.take ((↑s.length : Int).toNat.sub (5 : Nat)) (List.drop (5 : Nat)
 s)).length <= (9223372036854775807 : Nat) /\ (73 : Int) :: (78 : Int) :: (66 : Int) :: (79 : Int) :: (88 : Int) :: List.take ((↑s.length : Int).toNat.sub (5 : Nat)) (List.drop (5 : Nat) s) = (U.bT s).1 /\ (0 : Int) = (U.bT s).2 /\ True
def JI (s : List Int) : Prop := s.length <= (1000000000000 : Nat) /\ (bif decide ((U.bT s).2 = (0 : Int)) then (U.bT s).1.beq s else false) = U.lS s /\ True
end Go.Proofs.YtkhdeldobekciaaDoor
set_option linter.unusedSimpArgs false
set_option linter.unusedVariables false
set_option maxRecDepth 100000
namespace Go.Proofs.YtkhdeldobekciaaDoor
open Go.Vc
open Go.Vc.T
theorem mV : ∀ (l : List Int) (c : Int), (aA l c >= 0) ↔ c ∈ l
 | [], c => by simp [aA]
 | x :: l, c => by
   have ih := mV l c
   have hb := jX l c
   unfold aA; rw [List.mem_cons]
   by_cases hx : x = c
   ·simp [hx]
   ·rw [if_neg hx]
    by_cases hi : aA l c = -1
    ·rw [if_pos hi]
     constructor
     ·intro h; omega
     ·rintro (h | h)
      ·exact absurd h.symm hx
      ·have := ih.2 h; omega
    ·rw [if_neg hi]
     constructor
     ·intro _; exact .inr (ih.1 (by omega))
     ·intro _; omega
theorem agm (c : Int) : U.ig c = (decide (c <= 32) || decide (c > 126) || decide (c = 40) || decide (c = 41) || decide (c = 123) || decide (c = 37) || decide (c = 42) || decide (c = 34) || decide (c = 92)) := by
 have e : decide (aA [40, 41, 123, 37, 42, 34, 92] c >= 0) = (decide (c = 40) || decide (c = 41) || decide (c = 123) || decide (c = 37) || decide (c = 42) || decide (c = 34) || decide (c = 92)) := by
  rw [Bool.eq_iff_iff]
  simp only [decide_eq_true_eq, Bool.or_eq_true]
  have := mV [40, 41, 123, 37, 42, 34, 92] c
  rw [this]; simp only [List.mem_cons, List.not_mem_nil, or_false]
  omega
 unfold U.ig; rw [e]; simp only [Bool.or_assoc]
theorem Wn (c : Int) : A8 c := by
 unfold A8
 refine ⟨?_, trivial⟩
 rw [agm, Bool.eq_iff_iff]
 simp only [dA, Bool.and_eq_true, decide_eq_true_eq, bne_iff_ne, Bool.not_eq_true', Bool.or_eq_false_iff, decide_eq_false_iff_not]
 omega
theorem Wp (s : List Int) (h : s.length <= 1000000000000) : JI s := by
 refine ⟨h, ?_, trivial⟩
 unfold U.lS
 rw [dA, fE]; congr 1
 rw [Bool.eq_iff_iff]; simp
theorem split_c (c x : Int) (r : List Int) : U.split c (x :: r) = if x = c then [] :: U.split c r else (x :: (U.split c r).headD []) :: (U.split c r).tail := rfl
theorem agK (p : Bool) (x : Int) (r : List Int) : U.okS p (x :: r) = cond (decide (x = 47)) (!p && U.okS true r) (U.okS false r) := rfl
theorem afm (x : Int) (r : List Int) : U.rW (x :: r) = cond (decide (x = 47)) 1 0 + U.rW r := by
 unfold U.rW; rw [List.filter_cons]
 cases decide (x = 47) <;> simp; omega
theorem afE (s : List Int) : ((U.split 47 s).length : Int) = 1 + U.rW s := by
 induction s with
 | nil => rfl
 | cons x r ih =>
   rw [split_c, afm]
   have hc : 0 <= U.rW r := by unfold U.rW; omega
   by_cases h : x = 47
   ·rw [if_pos h, decide_eq_true h, List.length_cons]; simp only [cond_true]; omega
   ·rw [if_neg h, decide_eq_false h, List.length_cons, List.length_tail]
    simp only [cond_false]
    omega
theorem Y7 (x : List Int) : ∀ (l : List (List Int)) (i : Int), 0 <= i -> (U.wU x l i < 0 ↔ x ∉ l)
 | [], i, h => by simp [U.wU]
 | y :: r, i, h => by
   have ih := Y7 x r (i + 1) (by omega)
   unfold U.wU
   by_cases hy : y = x
   ·rw [if_pos hy, hy]; simp; omega
   ·rw [if_neg hy, ih, List.mem_cons]
    constructor
    ·rintro h (rfl | h'); exact hy rfl; exact h h'
    ·intro h h'; exact h (.inr h')
theorem Vz : ∀ s : List Int, (U.okS true s = true ↔ [] ∉ U.split 47 s) /\ (U.okS false s = true ↔ [] ∉ (U.split 47 s).tail)
 | [] => by simp [U.okS, U.split]
 | x :: r => by
   have ih := Vz r
   unfold U.okS U.split
   by_cases h : x = 47
   ·rw [if_pos h, decide_eq_true h]
    simp only [cond_true, Bool.not_true, Bool.false_and, Bool.not_false, Bool.true_and, List.tail_cons, List.mem_cons, true_or, not_true_eq_false]
    exact ⟨by simp, ih.1⟩
   ·rw [if_neg h, decide_eq_false h]
    simp only [cond_false, List.tail_cons, List.mem_cons]
    refine ⟨?_, ih.2⟩
    rw [ih.2]
    simp
theorem ML (s : List Int) : U.eG s = (decide (s.length <= 40) && (decide (1 + U.rW s <= 4) && (U.okS true s && !s.any U.ig))) := by
 unfold U.eG
 congr 1
 rw [show decide ((U.split 47 s).length <= 4) = decide (1 + U.rW s <= 4) by rw [decide_eq_decide, <- afE]; omega]
 congr 1
 rw [<- (QD U.ig s 0 (by omega)).1, show (!decide (U.pI U.ig s 0 >= 0)) = decide (U.pI U.ig s 0 < 0) from ad6 _]
 congr 1
 rw [Bool.eq_iff_iff, decide_eq_true_eq, Y7 [] _ 0 (by omega), (Vz s).1]
theorem UM (s : List Int) (h : s.length <= 1000000000000) : yQ s := by
 unfold yQ
 simp only [cond_prop, dA, dW, bG, eF, bW, decide_eq_true_eq, decide_eq_false_iff_not, Bool.or_eq_true, Bool.or_eq_false_iff, Bool.and_eq_true, Bool.and_eq_false_iff, Bool.not_not, U.jB, U.at_]
 refine ⟨fun hl => ⟨?_, trivial⟩, fun hl => ⟨(1, 0), ⟨rfl, by omega, by omega, ⟨by omega, by omega⟩, fun hz => by omega, by omega, by omega, rfl, rfl, by simp⟩, ?_⟩⟩
 ·rcases hl with hl | hl
  ·obtain rfl : s = [] := List.length_eq_zero_iff.1 (by omega)
   rfl
  ·rw [ML, show decide (s.length <= 40) = false by rw [decide_eq_false_iff_not]; omega]; rfl
 rintro ⟨n, i⟩ ⟨hs1, hs2, ⟨h0, h1⟩, hend, hn0, hn1, ha, ho, hc⟩
 simp only [] at *
 refine ⟨fun hi => ?_, fun hi => ⟨?_, trivial⟩⟩
 ·simp (disch := omega) only [bQ]
  have hx : s.getD i.toNat 0 = s[i.toNat] := getD_at (by omega)
  rw [hx]
  have hd := drop_at h0 hi
  rw [hd, List.any_cons] at ha
  rw [hd] at ho hc
  have hp1 : U.xg s (i + 1) = decide (s[i.toNat] = 47) := by
   unfold U.xg
   rw [show decide (i + 1 = 0) = false by rw [decide_eq_false_iff_not]; omega, Bool.false_or, show (i + 1 - 1).toNat = i.toNat by omega, hx]
  rw [afm] at hc
  rw [agK] at ho
  refine ⟨h0, hi, fun _ => h0, fun _ => hi, fun _ _ _ => by omega, fun _ _ _ => by omega, fun hb => ⟨?_, trivial⟩, fun hb => ⟨h0, hi, fun he => ⟨(n + 1, i + 1), rfl, ⟨hs1, hs2, ⟨by show 0 <= i + 1; omega, by show i + 1 <= _; omega⟩, ?_, by show 1 <= n + 1; omega, by show n + 1 <= i + 1 + 1; omega, ?_, ?_, ?_⟩, by show s.length - (i + 1).toNat < _; omega⟩, fun he => ⟨(n, i + 1), rfl, ⟨hs1, hs2, ⟨by show 0 <= i + 1; omega, by show i + 1 <= _; omega⟩, ?_, hn0, by show n <= i + 1 + 1; omega, ?_, ?_, ?_⟩, by show s.length - (i + 1).toNat < _; omega⟩⟩⟩
  ·rw [ML]
   rcases hb with hb | ⟨hb1, hb2⟩
   ·rw [ha, hb]; simp
   ·rw [ho, hb1]
    rcases hb2 with (hb2 | hb2) | hb2
    ·simp [U.xg, hb2]
    ·rw [drop_end (i := i + 1) (by omega)]; simp [U.okS]
    ·have hp : U.xg s i = true := by unfold U.xg; rw [Bool.or_eq_true]; exact .inr (decide_eq_true hb2)
     rw [hp]; simp
  ·show i + 1 = _ -> U.xg s (i + 1) = false
   rintro hie; exfalso; exact hb.2.elim (fun h => h he) (fun h => h.1.2 (by omega))
  ·rw [ha, hb.1, Bool.false_or]
  ·rw [ho, hp1, he]
   rcases hb.2 with h | h
   ·exact absurd he h
   ·have hp : U.xg s i = false := by unfold U.xg; rw [Bool.or_eq_false_iff]; exact ⟨decide_eq_false h.1.1, decide_eq_false h.2⟩
    rw [hp]; simp
  ·show 1 + U.rW s = n + 1 + _
   rw [hc, decide_eq_true he]; simp only [cond_true]; omega
  ·show i + 1 = _ -> U.xg s (i + 1) = false
   rintro hie; rw [hp1, decide_eq_false he]
  ·rw [ha, hb.1, Bool.false_or]
  ·rw [ho, hp1, decide_eq_false he]; rfl
  ·show 1 + U.rW s = n + _
   rw [hc, decide_eq_false he]; simp only [cond_false]; omega
 ·have hi : i = s.length := by omega
  rw [ML, ha, ho, hend hi, drop_end (by omega), decide_eq_true hs2, Bool.true_and]
  rw [drop_end (by omega)] at hc
  have : U.rW [] = 0 := rfl
  rw [hc, this]; simp [U.okS]
theorem rX (x : Int) (r : List Int) : U.fG (x :: r) = (if x = 47 then [] else x :: U.fG r) /\ U.mZ (x :: r) = (if x = 47 then x :: r else U.mZ r) := by
 unfold U.fG U.mZ
 rw [aA]
 have hb := jX r 47
 by_cases hx : x = 47
 ·simp [hx]
 ·rw [if_neg hx, if_neg hx, if_neg hx]
  by_cases hi : aA r 47 = -1
  ·rw [if_pos hi, hi]; exact ⟨rfl, rfl⟩
  ·rw [if_neg hi, show decide (aA r 47 >= 0) = true by rw [decide_eq_true_eq]; omega, show decide (aA r 47 + 1 >= 0) = true by rw [decide_eq_true_eq]; omega, show (aA r 47 + 1).toNat = (aA r 47).toNat + 1 by omega]
   exact ⟨rfl, rfl⟩
theorem Jd : ∀ s : List Int, U.fG s ++ U.mZ s = s /\ 47 ∉ U.fG s /\ (U.mZ s = [] ∨ ∃ r, U.mZ s = 47 :: r)
 | [] => ⟨rfl, by simp [U.fG], .inl rfl⟩
 | x :: r => by
   obtain ⟨h1, h2, h3⟩ := Jd r
   rw [(rX x r).1, (rX x r).2]
   by_cases hx : x = 47
   ·rw [if_pos hx, if_pos hx, hx]; exact ⟨rfl, by simp, .inr ⟨r, rfl⟩⟩
   ·rw [if_neg hx, if_neg hx]; refine ⟨by rw [List.cons_append, h1], ?_, h3⟩
    rw [List.mem_cons]; rintro (h | h)
    ·exact hx h.symm
    ·exact h2 h
theorem SL : ∀ a b : List Int, 47 ∉ a -> (b = [] ∨ ∃ r, b = 47 :: r) -> U.fG (a ++ b) = a /\ U.mZ (a ++ b) = b
 | [], b, _, h => by
   rcases h with rfl | ⟨r, rfl⟩
   ·exact ⟨rfl, rfl⟩
   ·rw [List.nil_append, (rX 47 r).1, (rX 47 r).2]; exact ⟨rfl, rfl⟩
 | x :: a, b, ha, h => by
   have ih := SL a b (fun h => ha (List.mem_cons_of_mem _ h)) h
   have hx : x ≠ 47 := fun h => ha (by rw [h]; exact List.mem_cons_self ..)
   rw [List.cons_append, (rX x _).1, (rX x _).2, if_neg hx, if_neg hx, ih.1, ih.2]; exact ⟨rfl, rfl⟩
theorem Y8 {s : List Int} (hf : U.eG s = true) : U.bT s = (cond (decide ((U.fG s).map dH = U.fF.map dH)) U.fF (U.fG s) ++ U.mZ s, 0) := by
 unfold U.bT; rw [hf]; rfl
theorem SN {s : List Int} (hf : U.eG s = true) (hn : ¬ (U.fG s).map dH = U.fF.map dH) : U.bT s = (s, 0) := by
 rw [Y8 hf, decide_eq_false hn]
 show (U.fG s ++ U.mZ s, (0 : Int)) = (s, 0)
 rw [(Jd s).1]
theorem Y9 {s : List Int} (h : (U.fG s).map dH = U.fF.map dH) : 5 <= s.length /\ (s.length = 5 ∨ s.getD 5 0 = 47) /\ s.take 5 = U.fG s /\ s.drop 5 = U.mZ s := by
 have hl : (U.fG s).length = 5 := by
  have := congrArg List.length h
  rw [List.length_map, List.length_map] at this; exact this
 obtain ⟨h1, h2, h3⟩ := Jd s
 generalize U.fG s = a at *
 generalize U.mZ s = b at *
 subst h1
 refine ⟨by rw [List.length_append]; omega, ?_, by rw [<- hl]; simp, by rw [<- hl]; simp⟩
 rcases h3 with rfl | ⟨r, rfl⟩
 ·left; rw [List.append_nil]; exact hl
 ·right; rw [getD_at (by rw [List.length_append, List.length_cons]; omega), List.getElem_append_right (by omega)]; simp [hl]
theorem agn {x y : Int} (hy : 65 <= y /\ y <= 90) : (97 <= x /\ x <= 122 -> (dH x = dH y ↔ x - 32 = y)) /\ (¬ (97 <= x /\ x <= 122) -> (dH x = dH y ↔ x = y)) := by
 unfold dH
 constructor
 ·intro h; rw [if_neg (by omega), if_pos (by omega)]; omega
 ·intro h; rw [if_pos hy]; by_cases h2 : 65 <= x /\ x <= 90
  ·rw [if_pos h2]; omega
  ·rw [if_neg h2]; omega
theorem Wq (s : List Int) (hb : ∀ x ∈ s, Byte x) (h : s.length <= 1000000000000) : Ba s := by
 unfold Ba
 refine ⟨h, ?_⟩
 cases hf : U.eG s with
 | false => unfold U.bT; rw [hf]; exact ⟨rfl, rfl, trivial⟩
 | true =>
   simp only [Bool.not_true, cond_false, cond_prop, dA, dW, bG, eF, bW, dR, decide_eq_true_eq, decide_eq_false_iff_not, Bool.or_eq_true, Bool.or_eq_false_iff, Bool.and_eq_true, Bool.and_eq_false_iff, bne_iff_ne, bne_eq_false_iff_eq, U.kC]
   refine ⟨fun _ _ => by omega, fun _ _ => by omega, fun hl => ?_, fun hl => ⟨0, ⟨rfl, by omega, ?_, by omega, by omega, rfl⟩, ?_⟩⟩
   ·have hn : ¬ (U.fG s).map dH = U.fF.map dH := by
     intro he
     obtain ⟨h1, h2, _⟩ := Y9 he
     rcases hl with hl | hl
     ·omega
     ·rcases h2 with h2 | h2
      ·omega
      ·exact hl.2 h2
    rw [SN hf hn]; exact ⟨rfl, rfl, trivial⟩
   ·rcases hl.2 with h' | h'
    ·left; omega
    ·exact .inr h'
   ·rintro i ⟨hs5, hs6, h0, h1, h2⟩
    refine ⟨fun hi => ?_, fun hi => ?_⟩
    ·have hx : s.getD i.toNat 0 = s[i.toNat] := getD_at (by omega)
     have hy : [(73 : Int), 78, 66, 79, 88].getD i.toNat 0 = U.fF[i.toNat]'(by show i.toNat < 5; omega) := getD_at (by show i.toNat < 5; omega)
     have hyb : 65 <= U.fF[i.toNat]'(by show i.toNat < 5; omega) /\ U.fF[i.toNat]'(by show i.toNat < 5; omega) <= 90 := by
      have : ∀ z ∈ U.fF, (65 : Int) <= z /\ z <= 90 := by decide
      exact this _ (List.getElem_mem _)
     have hup := agn (x := s[i.toNat]) hyb
     have hbx := hb s[i.toNat] (List.getElem_mem _)
     have hbx0 : 0 <= s[i.toNat] /\ s[i.toNat] <= 255 := ⟨hbx.1, by have := hbx.2; omega⟩
     have ht := take_at (l := s) h0 (by omega)
     have ht2 := take_at (l := U.fF) h0 (by show i < 5; omega)
     have hbad : ¬ dH s[i.toNat] = dH (U.fF[i.toNat]'(by show i.toNat < 5; omega)) -> s = (U.bT s).1 /\ 0 = (U.bT s).2 /\ True := by
      intro hne
      have hn : ¬ (U.fG s).map dH = U.fF.map dH := by
       intro he
       obtain ⟨_, _, h3, _⟩ := Y9 he
       rw [<- h3] at he
       apply hne
       have this : ((s.take 5).map dH).getD i.toNat 0 = (U.fF.map dH).getD i.toNat 0 := by rw [he]
       rw [getD_at (by rw [List.length_map, List.length_take]; omega), getD_at (by rw [List.length_map]; show i.toNat < 5; omega)] at this
       simpa using this
      rw [SN hf hn]; exact ⟨rfl, rfl, trivial⟩
     have hgood : dH s[i.toNat] = dH (U.fF[i.toNat]'(by show i.toNat < 5; omega)) -> (s.take (i + 1).toNat).map dH = (U.fF.take (i + 1).toNat).map dH := by
      intro he
      rw [ht, ht2, List.map_append, List.map_append, h2, List.map_singleton, List.map_singleton, he]
     rw [hx, hy, bQ (x := i + 1) (by omega) (by omega), wrap_u8]
     refine ⟨h0, by omega, fun hlo => ⟨h0, hi, fun hne => hbad ?_, fun he => ⟨i + 1, rfl, ⟨hs5, hs6, by omega, by omega, hgood ?_⟩, by omega⟩⟩, fun hlo => ⟨h0, hi, fun hne => hbad ?_, fun he => ⟨i + 1, rfl, ⟨hs5, hs6, by omega, by omega, hgood ?_⟩, by omega⟩⟩⟩
     ·rw [(hup.1 hlo)]; omega
     ·rw [(hup.1 hlo)]; omega
     ·rw [hup.2 (by omega)]; exact hne
     ·rw [hup.2 (by omega)]; exact he
    ·have h5 : i = 5 := by omega
     subst h5
     have h2 : (s.take 5).map dH = U.fF.map dH := h2
     have hno : 47 ∉ s.take 5 := by
      intro hm
      have : dH 47 ∈ (s.take 5).map dH := List.mem_map_of_mem hm
      rw [h2] at this; revert this; decide
     have hd : s.drop 5 = [] ∨ ∃ r, s.drop 5 = 47 :: r := by
      rcases hs6 with h6 | h6
      ·left; exact List.drop_eq_nil_of_le (by omega)
      ·by_cases hl5 : s.length = 5
       ·left; exact List.drop_eq_nil_of_le (by omega)
       ·right; rw [List.drop_eq_getElem_cons (by omega)]; rw [getD_at (by omega)] at h6; rw [h6]; exact ⟨_, rfl⟩
     have hu := SL (s.take 5) (s.drop 5) hno hd
     rw [List.take_append_drop] at hu
     have hc := Y8 hf
     rw [hu.1, hu.2, decide_eq_true h2] at hc
     have htk : List.take ((s.length : Int).toNat - 5) (s.drop 5) = s.drop 5 := List.take_of_length_le (by rw [List.length_drop]; omega)
     rw [htk, hc]
     exact ⟨by omega, by omega, by omega, by rw [List.length_drop]; omega, rfl, rfl, trivial⟩
end Go.Proofs.YtkhdeldobekciaaDoor
set_option linter.unusedSimpArgs false
set_option maxRecDepth 100000
set_option linter.unusedVariables false
namespace Go.Proofs.YtkhdeldobekciaaDoor
open Go.Vc
theorem Za (x : aI [.int .u8]) : bM Tryd.prog (aU zu) (MG x) 74 (bK [.int .u8] x) [] (Em x) = A8 x := by kernel_rfl
theorem Zb : Pok 74 [.int .u8] (fun x => Em x) := by
 refine pk (L := fun x => MG x) (l := zu) MC (fun _ => rfl) ?_
 intro x hv hp
 rw [Za]
 exact Wn x
theorem Zc : aY Tryd.prog gl 74 MF := Zb
theorem JJ : aS xk := .cons Zc MC
theorem Ws (x : aI [.str]) : bM Tryd.prog (aU xk) (JH x) 67 (bK [.str] x) [] (uD x) = yQ x := by kernel_rfl
theorem Wu : Pok 67 [.str] (fun x => uD x) := by
 refine pk (L := fun x => JH x) (l := xk) JJ (fun _ => rfl) ?_
 intro x hv hp
 rw [Ws]
 exact UM x (hp (List.length x <= 1000000000000) (by simp [uD]))
theorem Wv : aY Tryd.prog gl 67 JG := Wu
theorem Hu : aS uF := .cons Wv JJ
theorem Zd (x : aI [.str]) : bM Tryd.prog (aU uF) (MI x) 55 (bK [.str] x) [] (xq x) = Ba x := by kernel_rfl
theorem Ze : Pok 55 [.str] (fun x => xq x) := by
 refine pk (L := fun x => MI x) (l := uF) Hu (fun _ => rfl) ?_
 intro x hv hp
 rw [Zd]
 exact Wq x hv.1 (hp (List.length x <= 1000000000000) (by simp [xq]))
theorem Zf : aY Tryd.prog gl 55 MH := Ze
theorem JK : aS xu := .cons Zf Hu
theorem Zg (x : aI [.str]) : bM Tryd.prog (aU xu) (MK x) 39 (bK [.str] x) [] (xw x) = JI x := by kernel_rfl
theorem Zh : Pok 39 [.str] (fun x => xw x) := by
 refine pk (L := fun x => MK x) (l := xu) JK (fun _ => rfl) ?_
 intro x hv hp
 rw [Zg]
 exact Wp x (hp (List.length x <= 1000000000000) (by simp [xw]))
theorem Zi : aY Tryd.prog gl 39 MJ := Zh
theorem JL : aS xA := .cons Zi JK
end Go.Proofs.YtkhdeldobekciaaDoor
