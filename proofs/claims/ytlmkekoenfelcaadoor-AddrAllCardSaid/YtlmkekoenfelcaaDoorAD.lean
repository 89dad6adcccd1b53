/- What is owed of the functions, proved in plain Lean. -/
import Derived.Test.YtlmkekoenfelcaaDoorAC
import Derived.Test.YtlmkekoenfelcaaDoorAB
set_option linter.unusedSimpArgs false
set_option linter.unusedVariables false
set_option maxRecDepth 100000
namespace Go.Proofs.YtlmkekoenfelcaaDoor
open Go.Vc
open Go.Vc.T
theorem IV : ∀ (l : List Int) (s : St), (U.runs s l).length = l.length
 | [], _ => rfl
 | _ :: l, _ => congrArg (· + 1) (IV l _)
theorem aY (s : List Int) : (U.sorts s).length = s.length := IV s _
theorem Om {l : List Int} {i : Int} {v : Int} (i0 : 0 <= i) (hi : i < l.length) : (l.set i.toNat v).take (i + 1).toNat = l.take i.toNat ++ [v] := by
 rw [take_at i0 (by rw [List.length_set]; exact hi), List.take_set_of_le (Nat.le_refl _), List.getElem_set_self]
theorem IW (s : List Int) (hv : Valid .str s) (hl : s.length <= 1000000000) : rO s := by
 unfold rO
 refine ⟨by omega, by omega, by show (s.length : Int) * 1 <= _; omega, by omega, (0, 0, false, List.replicate s.length 0, 0), ⟨rfl, ⟨Int.le_refl 0, by show (0 : Int) <= _; omega⟩, by show U.Ol 0 0 0; exact ⟨by omega, by omega, by omega, by omega, by omega⟩, List.length_replicate .., rfl⟩, ?_⟩
 rintro ⟨k, d, q, l, i⟩ ⟨⟨i0, i1⟩, ⟨k0, k3, d0, d1, kd⟩, hll, hI⟩
 dsimp only at i0 i1 k0 k3 d0 d1 kd hll hI ⊢
 rw [cond_prop]
 refine ⟨fun hi => ?_, fun hi => ?_⟩
 ·have hi : i < s.length := of_decide_eq_true hi
  refine ⟨i0, hi, ?_⟩
  rw [getD_at (by omega : i.toNat < s.length), iK (a := i) (by omega) (by omega), iK (a := d) (by omega) (by omega), zI (a := d) (by omega) (by omega)]
  rw [drop_at i0 hi] at hI
  generalize s[i.toNat] = c at hI ⊢
  have leaf : ∀ (k' d' : Int) (q' : Bool) (v : Int), U.scan (k, d, q) c = ((k', d', q'), v) -> U.Ol k' d' (i + 1) -> 0 <= i /\ i < (l.length : Int) /\ i.toNat < l.length /\ ∃ (y : Int × Int × Bool × List Int × Int), U.aA s k' d' q' (l.set i.toNat v) (i + 1) = U.aA s y.1 y.2.1 y.2.2.1 y.2.2.2.1 y.2.2.2.2 /\ U.aV s y.1 y.2.1 y.2.2.1 y.2.2.2.1 y.2.2.2.2 /\ s.length.sub y.2.2.2.2.toNat < s.length.sub i.toNat := by
   intro k' d' q' v hs ho
   refine ⟨i0, by omega, by omega, (k', d', q', l.set i.toNat v, i + 1), rfl, ⟨⟨by show 0 <= i + 1; omega, by show i + 1 <= _; omega⟩, ho, by show (l.set _ _).length = _; rw [List.length_set]; exact hll, ?_⟩, by simp only [bZ]; omega⟩
   show (l.set i.toNat v).take (i + 1).toNat ++ U.runs (k', d', q') _ = _
   rw [Om i0 (by omega), List.append_assoc, <- hI]
   show _ = _ ++ ((U.scan (k, d, q) c).2 :: U.runs (U.scan (k, d, q) c).1 _)
   rw [hs]; rfl
  simp only [rF]
  by_cases h0 : k = 0
  ·subst h0
   rw [decide_eq_true (rfl : (0 : Int) = 0), cond_true]
   by_cases h1 : c = 34
   ·rw [decide_eq_true h1, cond_true]; exact leaf 1 d q 1 (by subst h1; rfl) ⟨by omega, by omega, d0, by omega, by omega⟩
   rw [decide_eq_false h1, cond_false]
   by_cases h2 : c = 40
   ·rw [decide_eq_true h2, cond_true]; exact leaf 2 1 q 2 (by subst h2; rfl) ⟨by omega, by omega, by omega, by omega, by omega⟩
   rw [decide_eq_false h2, cond_false]
   by_cases h3 : c = 60
   ·rw [decide_eq_true h3, cond_true]; exact leaf 3 d q 3 (by subst h3; rfl) ⟨by omega, by omega, d0, by omega, by omega⟩
   rw [decide_eq_false h3, cond_false]
   exact leaf 0 d q 0 (by simp [U.scan, U.opens, h1, h2, h3]) ⟨by omega, by omega, d0, by omega, by omega⟩
  rw [decide_eq_false h0, cond_false]
  by_cases h3 : k = 3
  ·subst h3
   rw [decide_eq_true (rfl : (3 : Int) = 3), cond_true]
   by_cases h1 : c = 62
   ·rw [decide_eq_true h1, cond_true]; exact leaf 0 d q 3 (by simp [U.scan, h1]) ⟨by omega, by omega, d0, by omega, by omega⟩
   rw [decide_eq_false h1, cond_false]; exact leaf 3 d q 3 (by simp [U.scan, h1]) ⟨by omega, by omega, d0, by omega, by omega⟩
  rw [decide_eq_false h3, cond_false]
  cases q with
  | true => exact leaf k d false k (by simp [U.scan, h0, h3]) ⟨k0, k3, d0, by omega, kd⟩
  | false =>
    rw [cond_false]
    by_cases h4 : c = 92
    ·rw [decide_eq_true h4, cond_true]; exact leaf k d true k (by simp [U.scan, h0, h3, h4]) ⟨k0, k3, d0, by omega, kd⟩
    rw [decide_eq_false h4, cond_false]
    by_cases h1 : k = 1
    ·subst h1
     rw [show decide ((1 : Int) = 1) = true from rfl, show decide ((1 : Int) = 2) = false from rfl]
     simp only [Bool.true_and, Bool.false_and, cond_false]
     by_cases h5 : c = 34
     ·rw [decide_eq_true h5, cond_true]; exact leaf 0 d false 1 (by simp [U.scan, h5]) ⟨by omega, by omega, d0, by omega, by omega⟩
     ·rw [decide_eq_false h5, cond_false]; exact leaf 1 d false 1 (by simp [U.scan, h4, h5]) ⟨by omega, by omega, d0, by omega, by omega⟩
    ·have h2 : k = 2 := by omega
     have hd := kd h2
     subst h2
     rw [show decide ((2 : Int) = 2) = true from rfl, show decide ((2 : Int) = 1) = false from rfl]
     simp only [Bool.true_and, Bool.false_and, cond_false]
     by_cases h5 : c = 40
     ·rw [decide_eq_true h5, cond_true]; exact leaf 2 (d + 1) false 2 (by simp [U.scan, h5]) ⟨by omega, by omega, by omega, by omega, by omega⟩
     rw [decide_eq_false h5, cond_false]
     by_cases h6 : c = 41
     ·rw [decide_eq_true h6, cond_true]
      by_cases h7 : d - 1 = 0
      ·rw [decide_eq_true h7, cond_true]; exact leaf 0 (d - 1) false 2 (by simp [U.scan, h6, h7]) ⟨by omega, by omega, by omega, by omega, by omega⟩
      ·rw [decide_eq_false h7, cond_false]; exact leaf 2 (d - 1) false 2 (by simp [U.scan, h6, h7]) ⟨by omega, by omega, by omega, by omega, by omega⟩
     ·rw [decide_eq_false h6, cond_false]; exact leaf 2 d false 2 (by simp [U.scan, h4, h5, h6]) ⟨by omega, by omega, d0, by omega, by omega⟩
 ·have hi : ¬ i < s.length := of_decide_eq_false hi
  rw [drop_end (by omega), wU (by omega)] at hI
  have hI : l ++ [] = _ := hI
  rw [List.append_nil] at hI
  exact ⟨hI, trivial⟩
theorem JE (l : List Int) (c : Int) (hl : l.length <= maxLen) : uo l c := by
 unfold uo
 rw [maxLen_eq] at hl
 refine ⟨0, ⟨rfl, ⟨Int.le_refl 0, by omega⟩, ?_⟩, ?_⟩
 ·show aK l c = if aK (l.drop 0) c = -1 then -1 else 0 + aK (l.drop 0) c
  rw [List.drop_zero]; split
  ·assumption
  ·omega
 rintro i ⟨⟨i0, i1⟩, hI⟩
 rw [cond_prop]
 refine ⟨fun hi => ?_, fun hi => ?_⟩
 ·have hi : i < l.length := of_decide_eq_true hi
  rw [getD_at (by omega : i.toNat < l.length)]
  rw [drop_at i0 hi, IK] at hI
  refine ⟨i0, hi, ?_⟩
  by_cases hx : c = l[i.toNat]
  ·rw [decide_eq_true hx, cond_true]
   have he : (if l[i.toNat] = c then (0 : Int) else if aK (List.drop (i + 1).toNat l) c = -1 then -1 else aK (List.drop (i + 1).toNat l) c + 1) = 0 := if_pos hx.symm
   rw [he, if_neg (by omega)] at hI
   exact ⟨by omega, trivial⟩
  ·rw [decide_eq_false hx, cond_false, iK (by omega) (by omega)]
   have he : (if l[i.toNat] = c then (0 : Int) else if aK (List.drop (i + 1).toNat l) c = -1 then -1 else aK (List.drop (i + 1).toNat l) c + 1) = if aK (List.drop (i + 1).toNat l) c = -1 then -1 else aK (List.drop (i + 1).toNat l) c + 1 := if_neg (fun h => hx h.symm)
   rw [he] at hI
   refine ⟨i + 1, rfl, ⟨⟨by omega, by omega⟩, ?_⟩, by simp only [bZ]; omega⟩
   have hb := iP (l.drop (i + 1).toNat) c
   rw [hI]
   generalize aK (List.drop (i + 1).toNat l) c = N at hb ⊢
   by_cases hn : N = -1
   ·rw [if_pos hn, if_pos rfl, if_pos hn]
   ·rw [if_neg hn, if_neg (by omega), if_neg hn]; omega
 ·have hi : ¬ i < l.length := of_decide_eq_false hi
  rw [drop_end (by omega)] at hI
  exact ⟨hI.symm, trivial⟩
theorem OO {s : List Int} {i : Int} (i0 : 0 <= i) (hi : i < s.length) : (U.sorts s).drop i.toNat = (U.sorts s)[i.toNat]'(by rw [aY]; omega) :: (U.sorts s).drop (i + 1).toNat := drop_at i0 (by rw [aY]; exact hi)
theorem Ny {s : List Int} {i : Int} (cur : List Int) (i0 : 0 <= i) (hi : i < s.length) : U.bJ (s.drop i.toNat) ((U.sorts s).drop i.toNat) cur =
 cond (decide ((U.sorts s)[i.toNat]'(by rw [aY]; omega) = 0) && decide (s[i.toNat] = 44)) (cur :: U.bJ (s.drop (i + 1).toNat) ((U.sorts s).drop (i + 1).toNat) []) (U.bJ (s.drop (i + 1).toNat) ((U.sorts s).drop (i + 1).toNat) (cur ++ [s[i.toNat]])) := by
 rw [drop_at i0 hi, OO i0 hi]; rfl
theorem L9 {s : List Int} {i : Int} (cur : List Int) (hi : (s.length : Int) <= i) : U.bJ (s.drop i.toNat) ((U.sorts s).drop i.toNat) cur = [cur] := by
 rw [drop_end hi]; rfl
theorem Oo {s : List Int} {fr i : Int} (f0 : 0 <= fr) (hf : fr <= i) (hi : i < s.length) : (s.drop fr.toNat).take ((i + 1).toNat - fr.toNat) = (s.drop fr.toNat).take (i.toNat - fr.toNat) ++ [s[i.toNat]] := by
 have h1 : i.toNat - fr.toNat < (s.drop fr.toNat).length := by rw [List.length_drop]; omega
 rw [show (i + 1).toNat - fr.toNat = (i.toNat - fr.toNat) + 1 by omega, List.take_succ_eq_append_getElem h1, List.getElem_drop]
 congr 3; omega
theorem Oq {s : List Int} {i : Int} : (s.drop i.toNat).take (i.toNat - i.toNat) = [] := by rw [Nat.sub_self, List.take_zero]
theorem Nz {s : List Int} {i : Int} (i0 : 0 <= i) (hi : i < s.length) : U.noC (s.drop i.toNat) ((U.sorts s).drop i.toNat) =
 cond (decide ((U.sorts s)[i.toNat]'(by rw [aY]; omega) = 2)) (U.noC (s.drop (i + 1).toNat) ((U.sorts s).drop (i + 1).toNat)) (s[i.toNat] :: U.noC (s.drop (i + 1).toNat) ((U.sorts s).drop (i + 1).toNat)) := by
 rw [drop_at i0 hi, OO i0 hi]; rfl
theorem Kt {s : List Int} {i : Int} (hi : (s.length : Int) <= i) : U.noC (s.drop i.toNat) ((U.sorts s).drop i.toNat) = [] := by
 rw [drop_end hi]; rfl
theorem IX (s : List Int) (hv : Valid .str s) (hl : s.length <= 1000000000) : rP s := by
 unfold rP
 refine ⟨hl, ([], 0, 0), ⟨rfl, ⟨Int.le_refl 0, by show (0 : Int) <= _; omega⟩, Int.le_refl 0, Int.le_refl 0, Int.le_refl 0, rfl⟩, ?_⟩
 rintro ⟨l, fr, i⟩ ⟨⟨i0, i1⟩, f0, f1, hll, hI⟩
 dsimp only at i0 i1 f0 f1 hll hI ⊢
 rw [aY, cond_prop]
 refine ⟨fun hi => ?_, fun hi => ?_⟩
 ·have hi : i < s.length := of_decide_eq_true hi
  rw [Ny _ i0 hi] at hI
  rw [getD_at (by omega : i.toNat < s.length), getD_at (by rw [aY]; omega : i.toNat < (U.sorts s).length), iK (by omega) (by omega)]
  refine ⟨i0, hi, fun _ => i0, fun _ => hi, ?_⟩
  rw [rF]
  cases hc : (decide ((U.sorts s)[i.toNat]'(by rw [aY]; omega) = 0) && decide (s[i.toNat] = 44)) with
  | true =>
    rw [hc, cond_true] at hI
    refine ⟨f0, f1, by omega, by simp only [gu, uX]; omega, by simp only [gu, maxLen_eq]; omega, (l ++ [(s.drop fr.toNat).take (i.toNat - fr.toNat)], i + 1, i + 1), rfl, ⟨⟨by show 0 <= i + 1; omega, by show i + 1 <= _; omega⟩, by show 0 <= i + 1; omega, Int.le_refl _, by show ((l ++ [_]).length : Int) <= i + 1; rw [List.length_append]; show ((l.length + 1 : Nat) : Int) <= _; omega, ?_⟩, by simp only [bZ]; omega⟩
    show l ++ [_] ++ U.bJ _ _ ((s.drop (i + 1).toNat).take ((i + 1).toNat - (i + 1).toNat)) = _
    rw [Oq, List.append_assoc]; exact hI
  | false =>
    rw [hc, cond_false] at hI
    refine ⟨(l, fr, i + 1), rfl, ⟨⟨by show 0 <= i + 1; omega, by show i + 1 <= _; omega⟩, f0, by show fr <= i + 1; omega, by show (l.length : Int) <= i + 1; omega, ?_⟩, by simp only [bZ]; omega⟩
    show l ++ U.bJ _ _ ((s.drop fr.toNat).take ((i + 1).toNat - fr.toNat)) = _
    rw [Oo f0 f1 hi]; exact hI
 ·have hi : ¬ i < s.length := of_decide_eq_false hi
  rw [L9 _ (by omega)] at hI
  refine ⟨f0, by omega, by omega, by simp only [gu, uX]; omega, by simp only [gu, maxLen_eq]; omega, ?_, trivial⟩
  rw [rH]
  rw [List.take_of_length_le (by rw [List.length_drop]; omega)] at hI
  exact hI
theorem JF (s : List Int) (hv : Valid .str s) (hl : s.length <= 1000000000) : um s := by
 unfold um
 refine ⟨hl, ([], 0), ⟨rfl, ⟨Int.le_refl 0, by show (0 : Int) <= _; omega⟩, Int.le_refl 0, rfl⟩, ?_, ?_⟩
 ·rintro i ⟨⟨i0, i1⟩, hol, hI⟩
  rw [aY, cond_prop]
  refine ⟨fun hi => ?_, fun hi => ?_⟩
  ·have hi : i < s.length := of_decide_eq_true hi
   rw [Nz i0 hi] at hI
   rw [getD_at (by omega : i.toNat < s.length), getD_at (by rw [aY]; omega : i.toNat < (U.sorts s).length), iK (by omega) (by omega)]
   refine ⟨i0, hi, ?_⟩
   by_cases hc : (U.sorts s)[i.toNat]'(by rw [aY]; omega) = 2
   ·rw [decide_eq_true hc, cond_true] at hI
    rw [show ((U.sorts s)[i.toNat]'(by rw [aY]; omega) != 2) = false by rw [hc]; rfl, cond_false]
    exact ⟨([], i + 1), (by have e : ((s.length : Nat) : Int) = (U.sorts s).length := (congrArg Int.ofNat (aY s)).symm; generalize s[i.toNat] = z; rw [e]; rfl), ⟨⟨by show 0 <= i + 1; omega, by show i + 1 <= _; omega⟩, by show (0 : Int) <= i + 1; omega, hI⟩, by simp only [bZ]; omega⟩
   ·rw [decide_eq_false hc, cond_false] at hI
    rw [show ((U.sorts s)[i.toNat]'(by rw [aY]; omega) != 2) = true from bne_iff_ne.2 hc, cond_true]
    exact ⟨i0, hi, by omega, by simp only [maxLen_eq]; omega, ([s[i.toNat]], i + 1), (by have e : ((s.length : Nat) : Int) = (U.sorts s).length := (congrArg Int.ofNat (aY s)).symm; generalize s[i.toNat] = z; rw [e]; rfl), ⟨⟨by show 0 <= i + 1; omega, by show i + 1 <= _; omega⟩, by show (1 : Int) <= i + 1; omega, hI⟩, by simp only [bZ]; omega⟩
  ·have hi : ¬ i < s.length := of_decide_eq_false hi
   rw [Kt (by omega)] at hI
   refine ⟨rfl, ?_, trivial⟩
   unfold U.bare; rw [<- hI]; rfl
 ·rintro c o i ⟨⟨i0, i1⟩, hol, hI⟩
  have hol : ((o.length + 1 : Nat) : Int) <= i := hol
  rw [aY, cond_prop]
  refine ⟨fun hi => ?_, fun hi => ?_⟩
  ·have hi : i < s.length := of_decide_eq_true hi
   rw [Nz i0 hi] at hI
   rw [getD_at (by omega : i.toNat < s.length), getD_at (by rw [aY]; omega : i.toNat < (U.sorts s).length), iK (by omega) (by omega)]
   refine ⟨i0, hi, ?_⟩
   by_cases hc : (U.sorts s)[i.toNat]'(by rw [aY]; omega) = 2
   ·rw [decide_eq_true hc, cond_true] at hI
    rw [show ((U.sorts s)[i.toNat]'(by rw [aY]; omega) != 2) = false by rw [hc]; rfl, cond_false]
    exact ⟨(c :: o, i + 1), (by have e : ((s.length : Nat) : Int) = (U.sorts s).length := (congrArg Int.ofNat (aY s)).symm; generalize s[i.toNat] = z; rw [e]; rfl), ⟨⟨by show 0 <= i + 1; omega, by show i + 1 <= _; omega⟩, by show ((o.length + 1 : Nat) : Int) <= i + 1; omega, hI⟩, by simp only [bZ]; omega⟩
   ·rw [decide_eq_false hc, cond_false] at hI
    rw [show ((U.sorts s)[i.toNat]'(by rw [aY]; omega) != 2) = true from bne_iff_ne.2 hc, cond_true]
    refine ⟨i0, hi, by simp only [gu, uX]; omega, by simp only [gu, maxLen_eq]; omega, (c :: (o ++ [s[i.toNat]]), i + 1), (by have e : ((s.length : Nat) : Int) = (U.sorts s).length := (congrArg Int.ofNat (aY s)).symm; generalize s[i.toNat] = z; rw [e]; rfl), ⟨⟨by show 0 <= i + 1; omega, by show i + 1 <= _; omega⟩, by show ((c :: (o ++ [s[i.toNat]])).length : Int) <= i + 1; rw [List.length_cons, List.length_append]; show ((o.length + 1 + 1 : Nat) : Int) <= _; omega, ?_⟩, by simp only [bZ]; omega⟩
    show c :: (o ++ [s[i.toNat]]) ++ _ = _
    rw [<- hI]; simp
  ·have hi : ¬ i < s.length := of_decide_eq_false hi
   rw [Kt (by omega), List.append_nil] at hI
   refine ⟨by simp only [gu]; omega, rfl, ?_, trivial⟩
   unfold U.bare; rw [<- hI]
theorem Bf (s : List Int) : (U.trimB s).length <= s.length := by
 unfold U.trimB; rw [List.length_drop, List.length_take]; omega
theorem NC {m : List Int} {i : Int} (q : Bool) (i0 : 0 <= i) (hi : i < m.length) : U.unq q (m.drop i.toNat) = cond (decide (m[i.toNat] = 92) && !q) (U.unq true (m.drop (i + 1).toNat)) (m[i.toNat] :: U.unq false (m.drop (i + 1).toNat)) := by
 rw [drop_at i0 hi]; rfl
theorem last_at {T : List Int} (h : T.length <= 1000000000) : (IntKind.i64.wrap ((T.length : Int).sub 1)).toNat = T.length - 1 := by
 rw [zI (by omega) (by omega)]; omega
theorem ND {T : List Int} (h : T.length <= 1000000000) : (bif bif decide ((T.length : Int) < 2) then true else T.getD 0 0 != 34 then true else T.getD (IntKind.i64.wrap ((T.length : Int).sub 1)).toNat 0 != 34) = !(U.vC T) := by
 rw [last_at h]
 unfold U.vC
 by_cases h2 : 2 <= T.length
 ·rw [decide_eq_false (by omega : ¬ (T.length : Int) < 2), decide_eq_true h2, cond_false]
  by_cases h3 : T.getD 0 0 = 34
  ·rw [h3, decide_eq_true rfl]
   show (T.getD (T.length - 1) 0 != 34) = !(true && (true && decide (T.getD (T.length - 1) 0 = 34)))
   by_cases h4 : T.getD (T.length - 1) 0 = 34
   ·rw [h4]; rfl
   ·rw [decide_eq_false h4, bne_iff_ne.2 h4]; rfl
  ·rw [bne_iff_ne.2 h3, decide_eq_false h3]; rfl
 ·rw [decide_eq_true (by omega : (T.length : Int) < 2), decide_eq_false h2]; rfl
theorem Eu (s : List Int) (hv : Valid .str s) (hl : s.length <= 1000000000) : nM s := by
 unfold nM
 have hT : (U.trimB s).length <= 1000000000 := Nat.le_trans (Bf s) hl
 have hun : U.jR s = U.rM (U.trimB s) := rfl
 rw [ND hT, hun]
 generalize U.trimB s = T at hT ⊢
 have hw : IntKind.i64.wrap ((T.length : Int).sub 1) = (T.length : Int) - 1 := zI (by omega) (by omega)
 rw [hw]
 refine ⟨rfl, fun _ => by omega, fun h => by have := of_decide_eq_false h; omega, fun h => ?_, fun h => by omega, ?_⟩
 ·have : ¬ (T.length : Int) < 2 := fun h2 => by rw [decide_eq_true h2] at h; cases h
  omega
 cases hq : U.vC T with
 | false =>
   refine ⟨?_, trivial⟩
   unfold U.rM; rw [hq]; rfl
 | true =>
   have h2 : 2 <= T.length := by
    unfold U.vC at hq
    simp only [Bool.and_eq_true, decide_eq_true_eq] at hq
    exact hq.1
   have hr : U.rM T = U.unq false ((T.drop 1).take (T.length - 2)) := by unfold U.rM; rw [hq]; rfl
   show (0 : Int) <= 1 /\ _
   rw [hr, show ((T.length : Int) - 1).toNat.sub 1 = T.length - 2 by rw [bZ]; omega]
   have hml : ((T.drop 1).take (T.length - 2)).length <= 1000000000 := by rw [List.length_take]; omega
   generalize (T.drop 1).take (T.length - 2) = m0 at hml ⊢
   refine ⟨by omega, by omega, by omega, (m0, [], false, 0), ⟨rfl, rfl, hml, ⟨Int.le_refl 0, by show (0 : Int) <= _; omega⟩, Int.le_refl 0, rfl⟩, ?_, ?_⟩
   ·rintro m q i ⟨he, hmm, ⟨i0, i1⟩, hol, hI⟩
    subst he
    rw [cond_prop]
    refine ⟨fun hi => ?_, fun hi => ?_⟩
    ·have hi : i < m.length := of_decide_eq_true hi
     rw [NC q i0 hi] at hI
     rw [getD_at (by omega : i.toNat < m.length), rF, iK (by omega) (by omega)]
     refine ⟨i0, hi, by omega, ?_⟩
     cases hc : (decide (m[i.toNat] = 92) && !q) with
     | true =>
       rw [hc, cond_true] at hI
       exact ⟨(m, [], true, i + 1), rfl, ⟨rfl, hmm, ⟨by show 0 <= i + 1; omega, by show i + 1 <= (m.length : Int); omega⟩, by show (0 : Int) <= i + 1; omega, hI⟩, by simp only [bZ]; omega⟩
     | false =>
       rw [hc, cond_false] at hI
       exact ⟨by omega, by simp only [maxLen_eq]; omega, (m, [m[i.toNat]], false, i + 1), rfl, ⟨rfl, hmm, ⟨by show 0 <= i + 1; omega, by show i + 1 <= (m.length : Int); omega⟩, by show (1 : Int) <= i + 1; omega, hI⟩, by simp only [bZ]; omega⟩
    ·have hi : ¬ i < m.length := of_decide_eq_false hi
     rw [drop_end (by omega)] at hI
     exact ⟨hI, trivial⟩
   ·rintro m c o q i ⟨he, hmm, ⟨i0, i1⟩, hol, hI⟩
    subst he
    have hol : ((o.length + 1 : Nat) : Int) <= i := hol
    rw [cond_prop]
    refine ⟨fun hi => ?_, fun hi => ?_⟩
    ·have hi : i < m.length := of_decide_eq_true hi
     rw [NC q i0 hi] at hI
     rw [getD_at (by omega : i.toNat < m.length), rF, iK (by omega) (by omega)]
     refine ⟨i0, hi, by omega, ?_⟩
     cases hc : (decide (m[i.toNat] = 92) && !q) with
     | true =>
       rw [hc, cond_true] at hI
       exact ⟨(m, c :: o, true, i + 1), rfl, ⟨rfl, hmm, ⟨by show 0 <= i + 1; omega, by show i + 1 <= (m.length : Int); omega⟩, by show ((o.length + 1 : Nat) : Int) <= i + 1; omega, hI⟩, by simp only [bZ]; omega⟩
     | false =>
       rw [hc, cond_false] at hI
       refine ⟨by simp only [gu, uX]; omega, by simp only [gu, maxLen_eq]; omega, (m, c :: (o ++ [m[i.toNat]]), false, i + 1), rfl, ⟨rfl, hmm, ⟨by show 0 <= i + 1; omega, by show i + 1 <= (m.length : Int); omega⟩, by show ((c :: (o ++ [m[i.toNat]])).length : Int) <= i + 1; rw [List.length_cons, List.length_append]; show ((o.length + 1 + 1 : Nat) : Int) <= _; omega, ?_⟩, by simp only [bZ]; omega⟩
       show c :: (o ++ [m[i.toNat]]) ++ _ = _
       rw [<- hI]; simp
    ·have hi : ¬ i < m.length := of_decide_eq_false hi
     rw [drop_end (by omega)] at hI
     have hI : c :: o ++ [] = _ := hI
     rw [List.append_nil] at hI
     exact ⟨by simp only [gu]; omega, hI, trivial⟩
theorem yU : ∀ (c k cur : List Int), ∀ x ∈ U.bJ c k cur, x.length <= cur.length + c.length
 | [], k, cur, x, h => by
   have h : x ∈ [cur] := by cases k <;> exact h
   rw [List.mem_singleton.1 h]; simp
 | c :: r, [], cur, x, h => by
   have h : x ∈ [cur] := h
   rw [List.mem_singleton.1 h]; simp
 | c :: r, k :: ks, cur, x, h => by
   have h : x ∈ cond (decide (k = 0) && decide (c = 44)) (cur :: U.bJ r ks []) (U.bJ r ks (cur ++ [c])) := h
   rw [List.length_cons]
   cases hc : (decide (k = 0) && decide (c = 44)) with
   | true =>
     rw [hc, cond_true] at h
     rcases List.mem_cons.1 h with rfl | h
     ·omega
     ·have := yU r ks [] x h; simp at this; omega
   | false =>
     rw [hc, cond_false] at h
     have := yU r ks (cur ++ [c]) x h
     rw [List.length_append] at this; simp at this; omega
theorem IY {s x : List Int} (h : x ∈ U.items s) : x.length <= s.length := by
 have := yU s (U.sorts s) [] x h; simpa using this
theorem Bg : ∀ (c k cur : List Int), (U.bJ c k cur).length <= c.length + 1
 | [], k, cur => by cases k <;> simp [U.bJ]
 | c :: r, [], cur => by simp [U.bJ]
 | c :: r, k :: ks, cur => by
   show (cond (decide (k = 0) && decide (c = 44)) (cur :: U.bJ r ks []) (U.bJ r ks (cur ++ [c]))).length <= _
   rw [List.length_cons]
   have h1 := Bg r ks []
   have h2 := Bg r ks (cur ++ [c])
   cases (decide (k = 0) && decide (c = 44))
   ·rw [cond_false]; omega
   ·rw [cond_true, List.length_cons]; omega
theorem Ku (s : List Int) : (U.items s).length <= s.length + 1 := Bg s _ _
theorem NG {L : List (List Int)} {i : Int} (n : Nat) (i0 : 0 <= i) (hi : i < L.length) : U.gK n (L.drop i.toNat) = cond (decide (0 < n) && !(decide (U.bare L[i.toNat] = []))) (U.one L[i.toNat] :: U.gK (n - 1) (L.drop (i + 1).toNat)) (U.gK n (L.drop (i + 1).toNat)) := by
 rw [drop_at i0 hi]; rfl
theorem IZ (s : List Int) (hv : Valid .str s) (hl : s.length <= 1000000000) : rQ s := by
 unfold rQ
 have hn := Ku s
 have hbd : ∀ x ∈ U.items s, x.length <= 1000000000 := fun x hx => Nat.le_trans (IY hx) hl
 have hp : U.parse s = U.gK 20 (U.items s) := rfl
 rw [hp]
 refine ⟨hl, ([], 0), ⟨rfl, ⟨Int.le_refl 0, by show (0 : Int) <= _; omega⟩, by show 0 <= 20; omega, rfl⟩, ?_⟩
 rintro ⟨l, i⟩ ⟨⟨i0, i1⟩, hll, hI⟩
 dsimp only at i0 i1 hll hI ⊢
 rw [hp] at hI
 rw [cond_prop]
 refine ⟨fun hi => ?_, fun hi => ?_⟩
 ·have hi : i < (U.items s).length := of_decide_eq_true hi
  rw [NG _ i0 hi] at hI
  rw [getD_at (by omega : i.toNat < (U.items s).length), iK (by omega) (by omega), Ej, rF]
  have hx := hbd _ (List.getElem_mem (by omega : i.toNat < (U.items s).length))
  rw [show decide (0 < 20 - l.length) = decide ((l.length : Int) < 20) from decide_eq_decide.2 (by omega)] at hI
  refine ⟨i0, hi, fun _ => hx, ?_⟩
  cases hc : (decide ((l.length : Int) < 20) && !(decide (U.bare (U.items s)[i.toNat] = []))) with
  | true =>
    rw [hc, cond_true] at hI
    simp only [Bool.and_eq_true, decide_eq_true_eq] at hc
    refine ⟨hx, by simp only [gu, uX]; omega, by simp only [gu, maxLen_eq]; omega, (l ++ [U.one (U.items s)[i.toNat]], i + 1), rfl, ⟨⟨by show 0 <= i + 1; omega, by show i + 1 <= _; omega⟩, by show (l ++ [_]).length <= 20; rw [List.length_append]; show l.length + 1 <= 20; omega, ?_⟩, by simp only [bZ]; omega⟩
    show l ++ [_] ++ U.gK (20 - (l ++ [_]).length) _ = _
    rw [List.append_assoc, List.length_append, hp, <- hI]
    rfl
  | false =>
    rw [hc, cond_false] at hI
    exact ⟨(l, i + 1), rfl, ⟨⟨by show 0 <= i + 1; omega, by show i + 1 <= _; omega⟩, hll, by rw [hp]; exact hI⟩, by simp only [bZ]; omega⟩
 ·have hi : ¬ i < (U.items s).length := of_decide_eq_false hi
  rw [drop_end (by omega)] at hI
  have hI : l ++ [] = _ := hI
  rw [List.append_nil] at hI
  exact ⟨hI, trivial⟩
theorem NH : ∀ (l k : List Int), (U.noC l k).length <= l.length
 | [], k => by cases k <;> simp [U.noC]
 | c :: r, [] => by simp [U.noC]
 | c :: r, k :: ks => by
   have ih := NH r ks
   show (cond (decide (k = 2)) (U.noC r ks) (c :: U.noC r ks)).length <= _
   rw [List.length_cons]
   cases decide (k = 2)
   ·rw [cond_false, List.length_cons]; omega
   ·rw [cond_true]; omega
theorem Py (s : List Int) : (U.bare s).length <= s.length := Nat.le_trans (Bf _) (NH _ _)
theorem Ot (s : List Int) (c : Int) : -1 <= U.lastB s c /\ U.lastB s c < s.length := by
 have h := iP s.reverse c
 rw [List.length_reverse] at h
 unfold U.lastB
 by_cases hi : aK s.reverse c >= 0
 ·rw [decide_eq_true hi, cond_true]; omega
 ·rw [decide_eq_false hi, cond_false]; omega
theorem Qg (b : List Int) : -1 <= U.mW b /\ U.mW b < b.length := by
 have h := iP (U.sorts b) 3
 rw [aY] at h; exact h
theorem Mc (s : List Int) (hv : Valid .str s) (hl : s.length <= 1000000000) : wX s := by
 unfold wX U.Du
 have hB := Nat.le_trans (Py s) hl
 have h1 : U.one s = U.addrOf (U.Dt (U.bare s)) (U.trimB (U.Dq (U.bare s))) := rfl
 have hang : aK (U.sorts (U.bare s)) 3 = U.mW (U.bare s) := rfl
 have hb := Qg (U.bare s)
 rw [h1, hang]
 generalize U.bare s = b at hB hb ⊢
 refine ⟨hl, ⟨hB, ?_⟩, ?_⟩
 ·unfold U.Dq U.Dt
  by_cases hi : U.mW b >= 0
  ·rw [decide_eq_true hi]
   simp only [cond_true]
   rw [iK (by omega) (by omega)]
   refine ⟨by omega, by omega, by omega, by omega, by omega, by omega, trivial, (_, _), rfl, ?_, rfl⟩
   rw [rH]; rfl
  ·rw [decide_eq_false hi]
   exact ⟨(_, _), rfl, rfl, rfl⟩
 ·rintro ⟨r, nm⟩ ⟨hr, hnm⟩
  dsimp only at hr hnm ⊢
  rw [<- hr, <- hnm]
  have hnl : nm.length <= 1000000000 := by
   rw [hnm]; unfold U.Dt
   cases decide (U.mW b >= 0)
   ·rw [cond_false]; simp
   ·rw [cond_true, List.length_take]; omega
  have hrl : r.length <= 1000000000 := by
   rw [hr]; unfold U.Dq U.rG
   by_cases h2 : U.mW b >= 0
   ·rw [decide_eq_true h2, cond_true]
    cases decide (aK (b.drop (U.mW b + 1).toNat) 62 >= 0)
    ·rw [cond_false, List.length_drop]; omega
    ·rw [cond_true, List.length_take, List.length_drop]; omega
   ·rw [decide_eq_false h2, cond_false]; exact hB
  have htl := Bf r
  generalize U.trimB r = t at htl ⊢
  have hlb := Ot t 64
  unfold U.addrOf
  refine ⟨rfl, hnl, ?_⟩
  by_cases hi : U.lastB t 64 >= 0
  ·rw [decide_eq_true hi]
   simp only [cond_true]
   rw [iK (by omega) (by omega)]
   refine ⟨by omega, by omega, by omega, by omega, by omega, by omega, trivial, rfl, ?_, trivial⟩
   rw [rH]
  ·rw [decide_eq_false hi]
   exact ⟨rfl, rfl, rfl, trivial⟩
end Go.Proofs.YtlmkekoenfelcaaDoor
set_option linter.unusedSimpArgs false
set_option maxRecDepth 100000
set_option linter.unusedVariables false
namespace Go.Proofs.YtlmkekoenfelcaaDoor
open Go.Vc
theorem JG (x : aT [.str]) : jE Tryd.prog (fD kU) (Ai x) 18 (gU [.str] x) [] (nV x) = rO x := by kernel_rfl
theorem JH : Pok 18 [.str] (fun x => nV x) := by
 refine pk (L := fun x => Ai x) (l := kU) vk (fun _ => rfl) ?_
 intro x hv hp
 rw [JG]
 exact IW x hv (hp (List.length x <= 1000000000) (by simp [nV]))
theorem JI : fO Tryd.prog gl 18 Ah := JH
theorem yV : dL nX := .cons JI vk
theorem JJ (x : aT [.str]) : jE Tryd.prog (fD nX) (Ak x) 11 (gU [.str] x) [] (nY x) = rP x := by kernel_rfl
theorem JK : Pok 11 [.str] (fun x => nY x) := by
 refine pk (L := fun x => Ak x) (l := nX) yV (fun _ => rfl) ?_
 intro x hv hp
 rw [JJ]
 exact IX x hv (hp (List.length x <= 1000000000) (by simp [nY]))
theorem JL : fO Tryd.prog gl 11 Aj := JK
theorem yX : dL nZ := .cons JL yV
theorem Md (x : aT [.str]) : jE Tryd.prog (fD nZ) (Dw x) 13 (gU [.str] x) [] (qc x) = um x := by kernel_rfl
theorem Me : Pok 13 [.str] (fun x => qc x) := by
 refine pk (L := fun x => Dw x) (l := nZ) yX (fun _ => rfl) ?_
 intro x hv hp
 rw [Md]
 exact JF x hv (hp (List.length x <= 1000000000) (by simp [qc]))
theorem MB : fO Tryd.prog gl 13 Dv := Me
theorem Aq : dL qg := .cons MB yX
theorem FT (x : aT [.str]) : jE Tryd.prog (fD qg) (xB x) 26 (gU [.str] x) [] (kV x) = nM x := by kernel_rfl
theorem FU : Pok 26 [.str] (fun x => kV x) := by
 refine pk (L := fun x => xB x) (l := qg) Aq (fun _ => rfl) ?_
 intro x hv hp
 rw [FT]
 exact Eu x hv (hp (List.length x <= 1000000000) (by simp [kV]))
theorem FV : fO Tryd.prog gl 26 xA := FU
theorem vF : dL kW := .cons FV Aq
theorem MC (x : aT [Dk, .int .u8]) : jE Tryd.prog (fD kW) (Dy x.1 x.2) 24 (gU [Dk, .int .u8] x) [] (wW x.1 x.2) = uo x.1 x.2 := by kernel_rfl
theorem MF : Pok 24 [Dk, .int .u8] (fun x => wW x.1 x.2) := by
 refine pk (L := fun x => Dy x.1 x.2) (l := kW) vF (fun _ => rfl) ?_
 intro x hv hp
 rw [MC]
 exact JE x.1 x.2 hv.1.2
theorem MG : fO Tryd.prog gl 24 Dx := MF
theorem Ar : dL qh := .cons MG vF
theorem NI (x : aT [.str]) : jE Tryd.prog (fD qh) (Fa x) 15 (gU [.str] x) [] (tq x) = wX x := by kernel_rfl
theorem NJ : Pok 15 [.str] (fun x => tq x) := by
 refine pk (L := fun x => Fa x) (l := qh) Ar (fun _ => rfl) ?_
 intro x hv hp
 rw [NI]
 exact Mc x hv (hp (List.length x <= 1000000000) (by simp [tq]))
theorem NK : fO Tryd.prog gl 15 E8 := NJ
theorem Dz : dL tu := .cons NK Ar
theorem JM (x : aT [.str]) : jE Tryd.prog (fD tu) (Ap x) 8 (gU [.str] x) [] (og x) = rQ x := by kernel_rfl
theorem JO : Pok 8 [.str] (fun x => og x) := by
 refine pk (L := fun x => Ap x) (l := tu) Dz (fun _ => rfl) ?_
 intro x hv hp
 rw [JM]
 exact IZ x hv (hp (List.length x <= 1000000000) (by simp [og]))
theorem JQ : fO Tryd.prog gl 8 Am := JO
theorem yY : dL oh := .cons JQ Dz
end Go.Proofs.YtlmkekoenfelcaaDoor
