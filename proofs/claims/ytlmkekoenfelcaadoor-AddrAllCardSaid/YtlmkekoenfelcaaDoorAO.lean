/- What functions of this seat compute, in plain Lean. -/
import Derived.Test.YtlmkekoenfelcaaDoorAC
import Derived.Test.YtlmkekoenfelcaaDoorAD
set_option linter.unusedVariables false
set_option linter.unusedSimpArgs false
set_option maxRecDepth 100000
namespace Go.Proofs.YtlmkekoenfelcaaDoor
open Go.Vc
namespace U
def gW : List (List Int) -> List Int
 | [] => []
 | [x] => x
 | x :: r => x ++ 44 :: gW r
end U
namespace U
def dh (s : List Int) (a : List Int) (i : Int) : St2 := ⟨⟨[sS s] ++ U.n 2 ++ [sL true .str (items s)] ++ [sS a] ++ [sI i] ++ U.n 40, [], []⟩, 0, []⟩
def eF (s : List Int)  (a : List Int) (i : Int) : Prop := at_ (items s) i /\ a = gW ((items s).take i.toNat)
end U
def zM (s : List Int) : Vc.Loop := ⟨{ keep := [0, 3, 4, 5] }, List Int × Int, fun x => U.dh s x.1 x.2, fun x0 x => U.eF s  x.1 x.2, fun x => (U.items s).length - x.2.toNat, fun p => ∀ x, p x, fun _ h => h⟩
def rU  : Done := ⟨[], .one (.bool true), [], []⟩
def yZ : Vc.Sum := .pure [] false fun _ => rU
def y7  : Nat -> List V -> Nat -> Option Vc.Loop := Gu
def rV : List (Nat × Ent) := (7, .sum yZ) :: oh
def vG (s : List Int) : Nat -> List V -> Nat -> Option Vc.Loop := fun f v k => cond (Nat.beq f 4 && Nat.beq k 8) (some (zM s)) <| none
end Go.Proofs.YtlmkekoenfelcaaDoor
set_option maxRecDepth 100000
set_option linter.unusedVariables false
namespace Go.Proofs.YtlmkekoenfelcaaDoor
open Go.Vc
def pF : Prop := (19 : Nat) <= (1000000000 : Nat) /\ (decide ((↑((2 : Nat)) : Int) = (2 : Int)) = true -> (0 : Int) <= (0 : Int)) /\ (decide ((↑((2 : Nat)) : Int) = (2 : Int)) = true -> (0 : Int) < (↑((2 : Nat)) : Int)) /\ ((bif decide ((↑((2 : Nat)) : Int) = (2 : Int)) then ((U.parse [(34 : Int), (65 : Int), (44 : Int), (32 : Int), (66 : Int), (34 : Int), (32 : Int), (60 : Int), (97 : Int),
 (64 : Int), (98 : Int), (62 : Int), (32 : Int), (40 : Int), (99 : Int), (41 : Int), (44 : Int), (32 : Int), (100 : Int)]).getD (0 : Nat) ([], [], [])).1.beq [(65 : Int), (44 : Int), (32 : Int), (66 : Int)] && (((U.parse [(34 : Int), (65 : Int), (44 : Int), (32 : Int), (66 : Int), (34 : Int), (32 : Int), (60 : Int), (97 : Int), (64 : Int), (98 : Int), (62 : Int), (32 : Int), (40 : Int), (99 : Int),
 (41 : Int), (44 : Int), (32 : Int), (100 : Int)]).getD (0 : Nat) ([], [], [])).2.1.beq [(97 : Int)] && (((U.parse [(34 : Int), (65 : Int), (44 : Int), (32 : Int), (66 : Int), (34 : Int), (32 : Int), (60 : Int), (97 : Int), (64 : Int), (98 : Int), (62 : Int), (32 : Int), (40 : Int), (99 : Int), (41 : Int), (44 : Int), (32 : Int), (100 : Int)]).getD (0 : Nat) ([], [], [])).2.2.beq [(98 : Int)] &&
 true)) else false) = true -> (0 : Int) <= (1 : Int)) /\ ((bif decide ((↑((2 : Nat)) : Int) = (2 : Int)) then ((U.parse [(34 : Int), (65 : Int), (44 : Int), (32 : Int), (66 : Int), (34 : Int), (32 : Int), (60 : Int), (97 : Int), (64 : Int), (98 : Int), (62 : Int), (32 : Int), (40 : Int), (99 : Int), (41 : Int), (44 : Int), (32 : Int), (100 : Int)]).getD (0 : Nat) ([], [], [])).1.beq [(65 : Int), (44 :
 Int), (32 : Int), (66 : Int)] && (((U.parse [(34 : Int), (65 : Int), (44 : Int), (32 : Int), (66 : Int), (34 : Int), (32 : Int), (60 : Int), (97 : Int), (64 : Int), (98 : Int), (62 : Int), (32 : Int), (40 : Int), (99 : Int), (41 : Int), (44 : Int), (32 : Int), (100 : Int)]).getD (0 : Nat) ([], [], [])).2.1.beq [(97 : Int)] && (((U.parse [(34 : Int), (65 : Int), (44 : Int), (32 : Int), (66 : Int),
 (34 : Int), (32 : Int), (60 : Int), (97 : Int), (64 : Int), (98 : Int), (62 : Int), (32 : Int), (40 : Int), (99 : Int), (41 : Int), (44 : Int), (32 : Int), (100 : Int)]).getD (0 : Nat) ([], [], [])).2.2.beq [(98 : Int)] && true)) else false) = true -> (1 : Int) < (↑((2 : Nat)) : Int)) /\ ((bif bif decide ((↑((2 : Nat)) : Int) = (2 : Int)) then ((U.parse [(34 : Int), (65 : Int), (44 : Int), (32 :
 Int), (66 : Int), (34 : Int), (32 : Int), (60 : Int), (97 : Int), (64 : Int), (98 : Int), (62 : Int), (32 : Int), (40 : Int), (99 : Int), (41 : Int), (44 : Int), (32 : Int), (100 : Int)]).getD (0 : Nat) ([], [], [])).1.beq [(65 : Int), (44 : Int), (32 : Int), (66 : Int)] && (((U.parse [(34 : Int), (65 : Int), (44 : Int), (32 : Int), (66 : Int), (34 : Int), (32 : Int), (60 : Int), (97 : Int), (64 :
 Int), (98 : Int), (62 : Int), (32 : Int), (40 : Int), (99 : Int), (41 : Int), (44 : Int), (32 : Int), (100 : Int)]).getD (0 : Nat) ([], [], [])).2.1.beq [(97 : Int)] && (((U.parse [(34 : Int), (65 : Int), (44 : Int), (32 : Int), (66 : Int), (34 : Int), (32 : Int), (60 : Int), (97 : Int), (64 : Int), (98 : Int), (62 : Int), (32 : Int), (40 : Int), (99 : Int), (41 : Int), (44 : Int), (32 : Int), (100
 : Int)]).getD (0 : Nat) ([], [], [])).2.2.beq [(98 : Int)] && true)) else false then ((U.parse [(34 : Int), (65 : Int), (44 : Int), (32 : Int), (66 : Int), (34 : Int), (32 : Int), (60 : Int), (97 : Int), (64 : Int), (98 : Int), (62 : Int), (32 : Int), (40 : Int), (99 : Int), (41 : Int), (44 : Int), (32 : Int), (100 : Int)]).getD (1 : Nat) ([], [], [])).1.beq [] && (((U.parse [(34 : Int), (65 :
 Int), (44 : Int), (32 : Int), (66 : Int), (34 : Int), (32 : Int), (60 : Int), (97 : Int), (64 : Int), (98 : Int), (62 : Int), (32 : Int), (40 : Int), (99 : Int), (41 : Int), (44 : Int), (32 : Int), (100 : Int)]).getD (1 : Nat) ([], [], [])).2.1.beq [(100 : Int)] && (((U.parse [(34 : Int), (65 : Int), (44 : Int), (32 : Int), (66 : Int), (34 : Int), (32 : Int), (60 : Int), (97 : Int), (64 : Int), (98
 : Int), (62 : Int), (32 : Int), (40 : Int), (99 : Int), (41 : Int), (44 : Int), (32 : Int), (100 : Int)]).getD (1 : Nat) ([], [], [])).2.2.beq [] && true)) else false) = true -> (11 : Nat) <= (1000000000 : Nat)) /\ (bif bif bif decide ((↑((2 : Nat)) : Int) = (2 : Int)) then ((U.parse [(34 : Int), (65 : Int), (44 : Int), (32 : Int), (66 : Int), (34 : Int), (32 : Int), (60 : Int), (97 : Int), (64 :
 Int), (98 : Int), (62 : Int), (32 : Int), (40 : Int), (99 : Int), (41 : Int), (44 : Int), (32 : Int), (100 : Int)]).getD (0 : Nat) ([], [], [])).1.beq [(65 : Int), (44 : Int), (32 : Int), (66 : Int)] && (((U.parse [(34 : Int), (65 : Int), (44 : Int), (32 : Int), (66 : Int), (34 : Int), (32 : Int), (60 : Int), (97 : Int), (64 : Int), (98 : Int), (62 : Int), (32 : Int), (40 : Int), (99 : Int), (41 :
 Int), (44 : Int), (32 : Int), (100 : Int)]).getD (0 : Nat) ([], [], [])).2.1.beq [(97 : Int)] && (((U.parse [(34 : Int), (65 : Int), (44 : Int), (32 : Int), (66 : Int), (34 : Int), (32 : Int), (60 : Int), (97 : Int), (64 : Int), (98 : Int), (62 : Int), (32 : Int), (40 : Int), (99 : Int), (41 : Int), (44 : Int), (32 : Int), (100 : Int)]).getD (0 : Nat) ([], [], [])).2.2.beq [(98 : Int)] && true))
 else false then ((U.parse [(34 : Int), (65 : Int), (44 : Int), (32 : Int), (66 : Int), (34 : Int), (32 : Int), (60 : Int), (97 : Int), (64 : Int), (98 : Int), (62 : Int), (32 : Int), (40 : Int), (99 : Int), (41 : Int), (44 : Int), (32 : Int), (100 : Int)]).getD (1 : Nat) ([], [], [])).1.beq [] && (((U.parse [(34 : Int), (65 : Int), (44 : Int), (32 : Int), (66 : Int), (34 : Int), (32 : Int), (60 :
 Int), (97 : Int), (64 : Int), (98 : Int), (62 : Int), (32 : Int), (40 : Int), (99 : Int), (41 : Int), (44 : Int), (32 : Int), (100 : Int)]).getD (1 : Nat) ([], [], [])).2.1.beq [(100 : Int)] && (((U.parse [(34 : Int), (65 : Int), (44 : Int), (32 : Int), (66 : Int), (34 : Int), (32 : Int), (60 : Int), (97 : Int), (64 : Int), (98 : Int), (62 : Int), (32 : Int), (40 : Int), (99 : Int), (41 : Int), (44
 : Int), (32 : Int), (100 : Int)]).getD (1 : Nat) ([], [], [])).2.2.beq [] && true)) else false then (U.bare [(32 : Int), (40 : Int), (97 : Int), (40 : Int), (98 : Int), (41 : Int), (99 : Int), (41 : Int), (32 : Int), (120 : Int), (32 : Int)]).beq [(120 : Int)] else false) = true /\ True
def mX (s : List Int) : Prop := bif decide ((↑s.length : Int) > (1000 : Int)) then true = true /\ True else s.length <= (1000000000 : Nat) /\ ∃ (x0 : List Int × Int), (U.dh s [] (0 : Int) = U.dh s x0.1 x0.2 /\ U.eF s x0.1 x0.2) /\ ∀ (x : List Int × Int), U.eF s x.1 x.2 -> bif decide (x.2 < (↑(U.items s).length : Int)) then bif decide
 (x.2 > (0 : Int)) then x.1.length.add ((1 : Nat)) <= (9223372036854775807 : Nat) /\ (0 : Int) <= x.2 /\ x.2 < (↑(U.items s).length : Int) /\ (x.1.append [(44 : Int)]).length.add ((U.items s).getD x.2.toNat []).length <= (9223372036854775807 : Nat) /\ ∃ (y : List Int × Int), U.dh s ((x.1.append [(44 : Int)]).append ((U.items s).getD x.2.toNat [])) (IntKind.i64.wrap (x.2.add (1 : Int))) =
 U.dh s y.1 y.2 /\ U.eF s y.1 y.2 /\ (U.items s).length.sub y.2.toNat < (U.items s).length.sub x.2.toNat else (0 : Int) <= x.2 /\ x.2 < (↑(U.items s).length : Int) /\ x.1.length.add ((U.items s).getD x.2.toNat []).length <= (9223372036854775807 : Nat) /\ ∃ (y : List Int × Int), U.dh s (x.1.append ((U.items s).getD x.2.toNat [])) (IntKind.i64.wrap (x.2.add (1 :
 Int))) = U.dh s y.1 y.2 /\ U.eF s y.1 y.2 /\ (U.items s).length.sub y.2.toNat < (U.items s).length.sub x.2.toNat else ((bif x.1.beq s then decide ((↑(U.items s).length : Int) >= (1 : Int)) else false) = true -> s.length <= (1000000000 : Nat)) /\ (bif bif x.1.beq s then decide ((↑(U.items s).length : Int) >= (1 : Int)) else false then decide ((↑(U.parse s).length : Int) <= KC
 (↑(U.items s).length : Int) (20 : Int)) else false) = true /\ True
end Go.Proofs.YtlmkekoenfelcaaDoor
set_option linter.unusedSimpArgs false
set_option linter.unusedVariables false
set_option maxRecDepth 100000
namespace Go.Proofs.YtlmkekoenfelcaaDoor
open Go.Vc
open Go.Vc.T
theorem FW : pF := by unfold pF; decide +kernel
theorem Bh : ∀ (l : List (List Int)) (n : Nat), (U.gK n l).length <= n
 | [], n => Nat.zero_le _
 | x :: r, n => by
   show (cond (decide (0 < n) && !(decide (U.bare x = []))) (U.one x :: U.gK (n - 1) r) (U.gK n r)).length <= n
   have h1 := Bh r (n - 1)
   have h2 := Bh r n
   cases hc : (decide (0 < n) && !(decide (U.bare x = []))) with
   | true =>
     simp only [Bool.and_eq_true, decide_eq_true_eq] at hc
     rw [cond_true, List.length_cons]; omega
   | false => rw [cond_false]; exact h2
theorem Qh (l : List Int) : l.beq l = true := beq_self_eq_true l
def U.fin : St -> List Int -> St
 | s, [] => s
 | s, c :: r => U.fin (U.scan s c).1 r
theorem DC : ∀ (a : List (List Int)) (x : List Int), a ≠ [] -> U.gW (a ++ [x]) = U.gW a ++ 44 :: x
 | [], x, h => absurd rfl h
 | [y], x, _ => rfl
 | y :: z :: r, x, _ => by
   show y ++ 44 :: U.gW (z :: r ++ [x]) = (y ++ 44 :: U.gW (z :: r)) ++ 44 :: x
   rw [DC (z :: r) x (by simp)]; simp
theorem y8 : ∀ (c k cur : List Int), U.bJ c k cur ≠ []
 | [], k, cur => by cases k <;> simp [U.bJ]
 | c :: r, [], cur => by simp [U.bJ]
 | c :: r, k :: ks, cur => by
   show cond (decide (k = 0) && decide (c = 44)) (cur :: U.bJ r ks []) (U.bJ r ks (cur ++ [c])) ≠ []
   cases (decide (k = 0) && decide (c = 44))
   ·exact y8 r ks _
   ·simp
theorem uw : ∀ (c k cur : List Int), k.length = c.length -> U.gW (U.bJ c k cur) = cur ++ c
 | [], [], cur, _ => by simp [U.bJ, U.gW]
 | [], _ :: _, cur, h => by simp at h
 | _ :: _, [], cur, h => by simp at h
 | c :: r, k :: ks, cur, h => by
   show U.gW (cond (decide (k = 0) && decide (c = 44)) (cur :: U.bJ r ks []) (U.bJ r ks (cur ++ [c]))) = _
   cases hc : (decide (k = 0) && decide (c = 44)) with
   | false => rw [cond_false, uw r ks _ (by simpa using h)]; simp
   | true =>
     rw [cond_true]
     simp only [Bool.and_eq_true, decide_eq_true_eq] at hc
     have ih := uw r ks [] (by simpa using h)
     match he : U.bJ r ks [], y8 r ks [] with
     | y :: l, _ =>
       rw [he] at ih
       show cur ++ 44 :: U.gW (y :: l) = _
       rw [ih, hc.2]; rfl
theorem I5 : ∀ (l : List (List Int)) (n : Nat), (U.gW (l.take n)).length <= (U.gW l).length
 | [], n => by simp
 | [x], 0 => by simp [U.gW]
 | [x], n + 1 => by simp
 | x :: y :: r, 0 => by simp [U.gW]
 | x :: y :: r, 1 => by simp [U.gW]
 | x :: y :: r, n + 2 => by
   have := I5 (y :: r) (n + 1)
   show (x ++ 44 :: U.gW ((y :: r).take (n + 1))).length <= (x ++ 44 :: U.gW (y :: r)).length
   simp only [List.length_append, List.length_cons]; omega
theorem Bj : ∀ (l : List (List Int)) (n : Nat), (U.gK n l).length <= l.length
 | [], n => Nat.zero_le _
 | x :: r, n => by
   show (cond (decide (0 < n) && !(decide (U.bare x = []))) (U.one x :: U.gK (n - 1) r) (U.gK n r)).length <= _
   have h1 := Bj r (n - 1)
   have h2 := Bj r n
   cases (decide (0 < n) && !(decide (U.bare x = [])))
   ·rw [cond_false, List.length_cons]; omega
   ·rw [cond_true, List.length_cons, List.length_cons]; omega
theorem DF (s : List Int) (hv : Valid .str s) : mX s := by
 unfold mX U.eF U.at_
 rw [cond_prop]
 refine ⟨fun _ => ⟨rfl, trivial⟩, fun h => ?_⟩
 have h := of_decide_eq_false h
 have hl : s.length <= 1000 := by omega
 have hn := Ku s
 have hj : U.gW (U.items s) = s := uw s (U.sorts s) [] (aY s)
 refine ⟨by omega, ([], 0), ⟨rfl, ⟨Int.le_refl 0, by dsimp only; omega⟩, rfl⟩, ?_⟩
 rintro ⟨a, i⟩ ⟨⟨i0, i1⟩, hI⟩
 dsimp only at i0 i1 hI ⊢
 have hal : a.length <= s.length := by rw [hI]; have := I5 (U.items s) i.toNat; rw [hj] at this; exact this
 rw [cond_prop]
 refine ⟨fun hi => ?_, fun hi => ?_⟩
 ·have hi : i < (U.items s).length := of_decide_eq_true hi
  have hg : (U.items s).getD i.toNat [] = (U.items s)[i.toNat]'(by omega) := getD_at (by omega)
  have hx := IY (List.getElem_mem (show i.toNat < (U.items s).length by omega))
  simp only [JC, hg, gu, List.length_append, List.length_cons, List.length_nil, bZ]
  rw [iK (by omega) (by omega), cond_prop]
  refine ⟨fun hp => ?_, fun hp => ?_⟩
  ·have hp : i > 0 := of_decide_eq_true hp
   refine ⟨by omega, i0, hi, by omega, (_, i + 1), rfl, ⟨⟨by omega, by omega⟩, ?_⟩, by dsimp only; omega⟩
   dsimp only
   rw [take_at i0 hi, DC _ _ (by
    intro he
    have := congrArg List.length he
    rw [List.length_take, List.length_nil] at this; omega), <- hI]
   simp
  ·have hp : ¬ i > 0 := of_decide_eq_false hp
   have : i = 0 := by omega
   subst this
   refine ⟨i0, hi, by omega, (_, 0 + 1), rfl, ⟨⟨by omega, by omega⟩, ?_⟩, by dsimp only; omega⟩
   dsimp only
   rw [take_at (by omega) hi, hI]; rfl
 ·have hi : ¬ i < (U.items s).length := of_decide_eq_false hi
  rw [wU (by omega), hj] at hI
  subst hI
  refine ⟨fun _ => by omega, ?_, trivial⟩
  have h1 : 1 <= (U.items a).length := by
   have := y8 a (U.sorts a) []
   rcases Nat.eq_zero_or_pos (U.items a).length with h0 | h0
   ·exact absurd (List.length_eq_zero_iff.1 h0) this
   ·exact h0
  have h2 : (U.parse a).length <= 20 := Bh _ 20
  have h3 : (U.parse a).length <= (U.items a).length := Bj _ 20
  rw [Qh, cond_true, decide_eq_true (by omega : ((U.items a).length : Int) >= 1), cond_true, Ph, decide_eq_true (by omega)]
end Go.Proofs.YtlmkekoenfelcaaDoor
set_option linter.unusedSimpArgs false
set_option maxRecDepth 100000
set_option linter.unusedVariables false
namespace Go.Proofs.YtlmkekoenfelcaaDoor
open Go.Vc
theorem I7 (x : aT []) : jE Tryd.prog (fD oh) (y7 ) 7 (gU [] x) [] (rU ) = pF  := by kernel_rfl
theorem I8 : Pok 7 [] (fun x => rU ) := by
 refine pk (L := fun x => y7 ) (l := oh) yY (fun _ => rfl) ?_
 intro x hv hp
 rw [I7]
 exact FW
theorem I9 : fO Tryd.prog gl 7 yZ := I8
theorem FX : dL rV := .cons I9 yY
end Go.Proofs.YtlmkekoenfelcaaDoor
