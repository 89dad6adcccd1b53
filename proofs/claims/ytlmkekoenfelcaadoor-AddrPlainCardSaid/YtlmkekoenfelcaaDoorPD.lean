/- What is owed of the functions, proved in plain Lean. -/
import Derived.Test.YtlmkekoenfelcaaDoorPC
import Derived.Test.YtlmkekoenfelcaaDoorPB
set_option linter.unusedSimpArgs false
set_option linter.unusedVariables false
set_option maxRecDepth 100000
namespace Go.Proofs.YtlmkekoenfelcaaDoor
open Go.Vc
open Go.Vc.T
theorem BO : ∀ (l : List Int) (s : St), (U.runs s l).length = l.length
 | [], _ => rfl
 | _ :: l, _ => congrArg (· + 1) (BO l _)
theorem aX (s : List Int) : (U.sorts s).length = s.length := BO s _
theorem O1 {l : List Int} {i : Int} {v : Int} (i0 : 0 <= i) (hi : i < l.length) : (l.set i.toNat v).take (i + 1).toNat = l.take i.toNat ++ [v] := by
 rw [take_at i0 (by rw [List.length_set]; exact hi), List.take_set_of_le (Nat.le_refl _), List.getElem_set_self]
theorem Jt (s : List Int) (hv : Valid .str s) (hl : s.length <= 1000000000) : rZ s := by
 unfold rZ
 refine ⟨by omega, by omega, by show (s.length : Int) * 1 <= _; omega, by omega, (0, 0, false, List.replicate s.length 0, 0), ⟨rfl, ⟨Int.le_refl 0, by show (0 : Int) <= _; omega⟩, by show U.OZ 0 0 0; exact ⟨by omega, by omega, by omega, by omega, by omega⟩, List.length_replicate .., rfl⟩, ?_⟩
 rintro ⟨k, d, q, l, i⟩ ⟨⟨i0, i1⟩, ⟨k0, k3, d0, d1, kd⟩, hll, hI⟩
 dsimp only at i0 i1 k0 k3 d0 d1 kd hll hI ⊢
 rw [cond_prop]
 refine ⟨fun hi => ?_, fun hi => ?_⟩
 ·have hi : i < s.length := of_decide_eq_true hi
  refine ⟨i0, hi, ?_⟩
  rw [getD_at (by omega : i.toNat < s.length), iJ (a := i) (by omega) (by omega), iJ (a := d) (by omega) (by omega), Aa (a := d) (by omega) (by omega)]
  rw [drop_at i0 hi] at hI
  generalize s[i.toNat] = c at hI ⊢
  have leaf : ∀ (k' d' : Int) (q' : Bool) (v : Int), U.scan (k, d, q) c = ((k', d', q'), v) -> U.OZ k' d' (i + 1) -> 0 <= i /\ i < (l.length : Int) /\ i.toNat < l.length /\ ∃ (y : Int × Int × Bool × List Int × Int), U.aA s k' d' q' (l.set i.toNat v) (i + 1) = U.aA s y.1 y.2.1 y.2.2.1 y.2.2.2.1 y.2.2.2.2 /\ U.aW s y.1 y.2.1 y.2.2.1 y.2.2.2.1 y.2.2.2.2 /\ s.length.sub y.2.2.2.2.toNat < s.length.sub i.toNat := by
   intro k' d' q' v hs ho
   refine ⟨i0, by omega, by omega, (k', d', q', l.set i.toNat v, i + 1), rfl, ⟨⟨by show 0 <= i + 1; omega, by show i + 1 <= _; omega⟩, ho, by show (l.set _ _).length = _; rw [List.length_set]; exact hll, ?_⟩, by simp only [bZ]; omega⟩
   show (l.set i.toNat v).take (i + 1).toNat ++ U.runs (k', d', q') _ = _
   rw [O1 i0 (by omega), List.append_assoc, <- hI]
   show _ = _ ++ ((U.scan (k, d, q) c).2 :: U.runs (U.scan (k, d, q) c).1 _)
   rw [hs]; rfl
  simp only [lD]
  by_cases h0 : k = 0
  ·subst h0
   rw [decide_eq_true (rfl : (0 : Int) = 0), cond_true]
   by_cases h1 : c = 34
   ·rw [decide_eq_true h1, cond_true]; exact leaf 1 d q 1 (by subst h1; rfl) ⟨by omega, by omega, d0, by omega, by omega⟩
   rw [decide_eq_false h1, cond_false]
   by_cases h2 : c = 40
   ·rw [decide_eq_true h2, cond_true]; exact leaf 2 1 q 2 (by subst h2; rfl) ⟨by omega, by omega, by omega, by omega, by omega⟩
   rw [decide_eq_false h2, cond_false]
   by_cases h3 : c = 60
   ·rw [decide_eq_true h3, cond_true]; exact leaf 3 d q 3 (by subst h3; rfl) ⟨by omega, by omega, d0, by omega, by omega⟩
   rw [decide_eq_false h3, cond_false]
   exact leaf 0 d q 0 (by simp [U.scan, U.opens, h1, h2, h3]) ⟨by omega, by omega, d0, by omega, by omega⟩
  rw [decide_eq_false h0, cond_false]
  by_cases h3 : k = 3
  ·subst h3
   rw [decide_eq_true (rfl : (3 : Int) = 3), cond_true]
   by_cases h1 : c = 62
   ·rw [decide_eq_true h1, cond_true]; exact leaf 0 d q 3 (by simp [U.scan, h1]) ⟨by omega, by omega, d0, by omega, by omega⟩
   rw [decide_eq_false h1, cond_false]; exact leaf 3 d q 3 (by simp [U.scan, h1]) ⟨by omega, by omega, d0, by omega, by omega⟩
  rw [decide_eq_false h3, cond_false]
  cases q with
  | true => exact leaf k d false k (by simp [U.scan, h0, h3]) ⟨k0, k3, d0, by omega, kd⟩
  | false =>
    rw [cond_false]
    by_cases h4 : c = 92
    ·rw [decide_eq_true h4, cond_true]; exact leaf k d true k (by simp [U.scan, h0, h3, h4]) ⟨k0, k3, d0, by omega, kd⟩
    rw [decide_eq_false h4, cond_false]
    by_cases h1 : k = 1
    ·subst h1
     rw [show decide ((1 : Int) = 1) = true from rfl, show decide ((1 : Int) = 2) = false from rfl]
     simp only [Bool.true_and, Bool.false_and, cond_false]
     by_cases h5 : c = 34
     ·rw [decide_eq_true h5, cond_true]; exact leaf 0 d false 1 (by simp [U.scan, h5]) ⟨by omega, by omega, d0, by omega, by omega⟩
     ·rw [decide_eq_false h5, cond_false]; exact leaf 1 d false 1 (by simp [U.scan, h4, h5]) ⟨by omega, by omega, d0, by omega, by omega⟩
    ·have h2 : k = 2 := by omega
     have hd := kd h2
     subst h2
     rw [show decide ((2 : Int) = 2) = true from rfl, show decide ((2 : Int) = 1) = false from rfl]
     simp only [Bool.true_and, Bool.false_and, cond_false]
     by_cases h5 : c = 40
     ·rw [decide_eq_true h5, cond_true]; exact leaf 2 (d + 1) false 2 (by simp [U.scan, h5]) ⟨by omega, by omega, by omega, by omega, by omega⟩
     rw [decide_eq_false h5, cond_false]
     by_cases h6 : c = 41
     ·rw [decide_eq_true h6, cond_true]
      by_cases h7 : d - 1 = 0
      ·rw [decide_eq_true h7, cond_true]; exact leaf 0 (d - 1) false 2 (by simp [U.scan, h6, h7]) ⟨by omega, by omega, by omega, by omega, by omega⟩
      ·rw [decide_eq_false h7, cond_false]; exact leaf 2 (d - 1) false 2 (by simp [U.scan, h6, h7]) ⟨by omega, by omega, by omega, by omega, by omega⟩
     ·rw [decide_eq_false h6, cond_false]; exact leaf 2 d false 2 (by simp [U.scan, h4, h5, h6]) ⟨by omega, by omega, d0, by omega, by omega⟩
 ·have hi : ¬ i < s.length := of_decide_eq_false hi
  rw [drop_end (by omega), xA (by omega)] at hI
  have hI : l ++ [] = _ := hI
  rw [List.append_nil] at hI
  exact ⟨hI, trivial⟩
theorem Kq (l : List Int) (c : Int) (hl : l.length <= maxLen) : uN l c := by
 unfold uN
 rw [maxLen_eq] at hl
 refine ⟨0, ⟨rfl, ⟨Int.le_refl 0, by omega⟩, ?_⟩, ?_⟩
 ·show aH l c = if aH (l.drop 0) c = -1 then -1 else 0 + aH (l.drop 0) c
  rw [List.drop_zero]; split
  ·assumption
  ·omega
 rintro i ⟨⟨i0, i1⟩, hI⟩
 rw [cond_prop]
 refine ⟨fun hi => ?_, fun hi => ?_⟩
 ·have hi : i < l.length := of_decide_eq_true hi
  rw [getD_at (by omega : i.toNat < l.length)]
  rw [drop_at i0 hi, rX] at hI
  refine ⟨i0, hi, ?_⟩
  by_cases hx : c = l[i.toNat]
  ·rw [decide_eq_true hx, cond_true]
   have he : (if l[i.toNat] = c then (0 : Int) else if aH (List.drop (i + 1).toNat l) c = -1 then -1 else aH (List.drop (i + 1).toNat l) c + 1) = 0 := if_pos hx.symm
   rw [he, if_neg (by omega)] at hI
   exact ⟨by omega, trivial⟩
  ·rw [decide_eq_false hx, cond_false, iJ (by omega) (by omega)]
   have he : (if l[i.toNat] = c then (0 : Int) else if aH (List.drop (i + 1).toNat l) c = -1 then -1 else aH (List.drop (i + 1).toNat l) c + 1) = if aH (List.drop (i + 1).toNat l) c = -1 then -1 else aH (List.drop (i + 1).toNat l) c + 1 := if_neg (fun h => hx h.symm)
   rw [he] at hI
   refine ⟨i + 1, rfl, ⟨⟨by omega, by omega⟩, ?_⟩, by simp only [bZ]; omega⟩
   have hb := eU (l.drop (i + 1).toNat) c
   rw [hI]
   generalize aH (List.drop (i + 1).toNat l) c = N at hb ⊢
   by_cases hn : N = -1
   ·rw [if_pos hn, if_pos rfl, if_pos hn]
   ·rw [if_neg hn, if_neg (by omega), if_neg hn]; omega
 ·have hi : ¬ i < l.length := of_decide_eq_false hi
  rw [drop_end (by omega)] at hI
  exact ⟨hI.symm, trivial⟩
theorem PN {s : List Int} {i : Int} (i0 : 0 <= i) (hi : i < s.length) : (U.sorts s).drop i.toNat = (U.sorts s)[i.toNat]'(by rw [aX]; omega) :: (U.sorts s).drop (i + 1).toNat := drop_at i0 (by rw [aX]; exact hi)
theorem Oc {s : List Int} {i : Int} (cur : List Int) (i0 : 0 <= i) (hi : i < s.length) : U.dV (s.drop i.toNat) ((U.sorts s).drop i.toNat) cur =
 cond (decide ((U.sorts s)[i.toNat]'(by rw [aX]; omega) = 0) && decide (s[i.toNat] = 44)) (cur :: U.dV (s.drop (i + 1).toNat) ((U.sorts s).drop (i + 1).toNat) []) (U.dV (s.drop (i + 1).toNat) ((U.sorts s).drop (i + 1).toNat) (cur ++ [s[i.toNat]])) := by
 rw [drop_at i0 hi, PN i0 hi]; rfl
theorem Nc {s : List Int} {i : Int} (cur : List Int) (hi : (s.length : Int) <= i) : U.dV (s.drop i.toNat) ((U.sorts s).drop i.toNat) cur = [cur] := by
 rw [drop_end hi]; rfl
theorem O4 {s : List Int} {fr i : Int} (f0 : 0 <= fr) (hf : fr <= i) (hi : i < s.length) : (s.drop fr.toNat).take ((i + 1).toNat - fr.toNat) = (s.drop fr.toNat).take (i.toNat - fr.toNat) ++ [s[i.toNat]] := by
 have h1 : i.toNat - fr.toNat < (s.drop fr.toNat).length := by rw [List.length_drop]; omega
 rw [show (i + 1).toNat - fr.toNat = (i.toNat - fr.toNat) + 1 by omega, List.take_succ_eq_append_getElem h1, List.getElem_drop]
 congr 3; omega
theorem O5 {s : List Int} {i : Int} : (s.drop i.toNat).take (i.toNat - i.toNat) = [] := by rw [Nat.sub_self, List.take_zero]
theorem Oe {s : List Int} {i : Int} (i0 : 0 <= i) (hi : i < s.length) : U.noC (s.drop i.toNat) ((U.sorts s).drop i.toNat) =
 cond (decide ((U.sorts s)[i.toNat]'(by rw [aX]; omega) = 2)) (U.noC (s.drop (i + 1).toNat) ((U.sorts s).drop (i + 1).toNat)) (s[i.toNat] :: U.noC (s.drop (i + 1).toNat) ((U.sorts s).drop (i + 1).toNat)) := by
 rw [drop_at i0 hi, PN i0 hi]; rfl
theorem La {s : List Int} {i : Int} (hi : (s.length : Int) <= i) : U.noC (s.drop i.toNat) ((U.sorts s).drop i.toNat) = [] := by
 rw [drop_end hi]; rfl
theorem Ju (s : List Int) (hv : Valid .str s) (hl : s.length <= 1000000000) : su s := by
 unfold su
 refine ⟨hl, ([], 0, 0), ⟨rfl, ⟨Int.le_refl 0, by show (0 : Int) <= _; omega⟩, Int.le_refl 0, Int.le_refl 0, Int.le_refl 0, rfl⟩, ?_⟩
 rintro ⟨l, fr, i⟩ ⟨⟨i0, i1⟩, f0, f1, hll, hI⟩
 dsimp only at i0 i1 f0 f1 hll hI ⊢
 rw [aX, cond_prop]
 refine ⟨fun hi => ?_, fun hi => ?_⟩
 ·have hi : i < s.length := of_decide_eq_true hi
  rw [Oc _ i0 hi] at hI
  rw [getD_at (by omega : i.toNat < s.length), getD_at (by rw [aX]; omega : i.toNat < (U.sorts s).length), iJ (by omega) (by omega)]
  refine ⟨i0, hi, fun _ => i0, fun _ => hi, ?_⟩
  rw [lD]
  cases hc : (decide ((U.sorts s)[i.toNat]'(by rw [aX]; omega) = 0) && decide (s[i.toNat] = 44)) with
  | true =>
    rw [hc, cond_true] at hI
    refine ⟨f0, f1, by omega, by simp only [gB, vM]; omega, by simp only [gB, maxLen_eq]; omega, (l ++ [(s.drop fr.toNat).take (i.toNat - fr.toNat)], i + 1, i + 1), rfl, ⟨⟨by show 0 <= i + 1; omega, by show i + 1 <= _; omega⟩, by show 0 <= i + 1; omega, Int.le_refl _, by show ((l ++ [_]).length : Int) <= i + 1; rw [List.length_append]; show ((l.length + 1 : Nat) : Int) <= _; omega, ?_⟩, by simp only [bZ]; omega⟩
    show l ++ [_] ++ U.dV _ _ ((s.drop (i + 1).toNat).take ((i + 1).toNat - (i + 1).toNat)) = _
    rw [O5, List.append_assoc]; exact hI
  | false =>
    rw [hc, cond_false] at hI
    refine ⟨(l, fr, i + 1), rfl, ⟨⟨by show 0 <= i + 1; omega, by show i + 1 <= _; omega⟩, f0, by show fr <= i + 1; omega, by show (l.length : Int) <= i + 1; omega, ?_⟩, by simp only [bZ]; omega⟩
    show l ++ U.dV _ _ ((s.drop fr.toNat).take ((i + 1).toNat - fr.toNat)) = _
    rw [O4 f0 f1 hi]; exact hI
 ·have hi : ¬ i < s.length := of_decide_eq_false hi
  rw [Nc _ (by omega)] at hI
  refine ⟨f0, by omega, by omega, by simp only [gB, vM]; omega, by simp only [gB, maxLen_eq]; omega, ?_, trivial⟩
  rw [rW]
  rw [List.take_of_length_le (by rw [List.length_drop]; omega)] at hI
  exact hI
theorem Kr (s : List Int) (hv : Valid .str s) (hl : s.length <= 1000000000) : uM s := by
 unfold uM
 refine ⟨hl, ([], 0), ⟨rfl, ⟨Int.le_refl 0, by show (0 : Int) <= _; omega⟩, Int.le_refl 0, rfl⟩, ?_, ?_⟩
 ·rintro i ⟨⟨i0, i1⟩, hol, hI⟩
  rw [aX, cond_prop]
  refine ⟨fun hi => ?_, fun hi => ?_⟩
  ·have hi : i < s.length := of_decide_eq_true hi
   rw [Oe i0 hi] at hI
   rw [getD_at (by omega : i.toNat < s.length), getD_at (by rw [aX]; omega : i.toNat < (U.sorts s).length), iJ (by omega) (by omega)]
   refine ⟨i0, hi, ?_⟩
   by_cases hc : (U.sorts s)[i.toNat]'(by rw [aX]; omega) = 2
   ·rw [decide_eq_true hc, cond_true] at hI
    rw [show ((U.sorts s)[i.toNat]'(by rw [aX]; omega) != 2) = false by rw [hc]; rfl, cond_false]
    exact ⟨([], i + 1), (by have e : ((s.length : Nat) : Int) = (U.sorts s).length := (congrArg Int.ofNat (aX s)).symm; generalize s[i.toNat] = z; rw [e]; rfl), ⟨⟨by show 0 <= i + 1; omega, by show i + 1 <= _; omega⟩, by show (0 : Int) <= i + 1; omega, hI⟩, by simp only [bZ]; omega⟩
   ·rw [decide_eq_false hc, cond_false] at hI
    rw [show ((U.sorts s)[i.toNat]'(by rw [aX]; omega) != 2) = true from bne_iff_ne.2 hc, cond_true]
    exact ⟨i0, hi, by omega, by simp only [maxLen_eq]; omega, ([s[i.toNat]], i + 1), (by have e : ((s.length : Nat) : Int) = (U.sorts s).length := (congrArg Int.ofNat (aX s)).symm; generalize s[i.toNat] = z; rw [e]; rfl), ⟨⟨by show 0 <= i + 1; omega, by show i + 1 <= _; omega⟩, by show (1 : Int) <= i + 1; omega, hI⟩, by simp only [bZ]; omega⟩
  ·have hi : ¬ i < s.length := of_decide_eq_false hi
   rw [La (by omega)] at hI
   refine ⟨rfl, ?_, trivial⟩
   unfold U.bare; rw [<- hI]; rfl
 ·rintro c o i ⟨⟨i0, i1⟩, hol, hI⟩
  have hol : ((o.length + 1 : Nat) : Int) <= i := hol
  rw [aX, cond_prop]
  refine ⟨fun hi => ?_, fun hi => ?_⟩
  ·have hi : i < s.length := of_decide_eq_true hi
   rw [Oe i0 hi] at hI
   rw [getD_at (by omega : i.toNat < s.length), getD_at (by rw [aX]; omega : i.toNat < (U.sorts s).length), iJ (by omega) (by omega)]
   refine ⟨i0, hi, ?_⟩
   by_cases hc : (U.sorts s)[i.toNat]'(by rw [aX]; omega) = 2
   ·rw [decide_eq_true hc, cond_true] at hI
    rw [show ((U.sorts s)[i.toNat]'(by rw [aX]; omega) != 2) = false by rw [hc]; rfl, cond_false]
    exact ⟨(c :: o, i + 1), (by have e : ((s.length : Nat) : Int) = (U.sorts s).length := (congrArg Int.ofNat (aX s)).symm; generalize s[i.toNat] = z; rw [e]; rfl), ⟨⟨by show 0 <= i + 1; omega, by show i + 1 <= _; omega⟩, by show ((o.length + 1 : Nat) : Int) <= i + 1; omega, hI⟩, by simp only [bZ]; omega⟩
   ·rw [decide_eq_false hc, cond_false] at hI
    rw [show ((U.sorts s)[i.toNat]'(by rw [aX]; omega) != 2) = true from bne_iff_ne.2 hc, cond_true]
    refine ⟨i0, hi, by simp only [gB, vM]; omega, by simp only [gB, maxLen_eq]; omega, (c :: (o ++ [s[i.toNat]]), i + 1), (by have e : ((s.length : Nat) : Int) = (U.sorts s).length := (congrArg Int.ofNat (aX s)).symm; generalize s[i.toNat] = z; rw [e]; rfl), ⟨⟨by show 0 <= i + 1; omega, by show i + 1 <= _; omega⟩, by show ((c :: (o ++ [s[i.toNat]])).length : Int) <= i + 1; rw [List.length_cons, List.length_append]; show ((o.length + 1 + 1 : Nat) : Int) <= _; omega, ?_⟩, by simp only [bZ]; omega⟩
    show c :: (o ++ [s[i.toNat]]) ++ _ = _
    rw [<- hI]; simp
  ·have hi : ¬ i < s.length := of_decide_eq_false hi
   rw [La (by omega), List.append_nil] at hI
   refine ⟨by simp only [gB]; omega, rfl, ?_, trivial⟩
   unfold U.bare; rw [<- hI]
theorem BP (s : List Int) : (U.trimB s).length <= s.length := by
 unfold U.trimB; rw [List.length_drop, List.length_take]; omega
theorem Og {m : List Int} {i : Int} (q : Bool) (i0 : 0 <= i) (hi : i < m.length) : U.unq q (m.drop i.toNat) = cond (decide (m[i.toNat] = 92) && !q) (U.unq true (m.drop (i + 1).toNat)) (m[i.toNat] :: U.unq false (m.drop (i + 1).toNat)) := by
 rw [drop_at i0 hi]; rfl
theorem last_at {T : List Int} (h : T.length <= 1000000000) : (IntKind.i64.wrap ((T.length : Int).sub 1)).toNat = T.length - 1 := by
 rw [Aa (by omega) (by omega)]; omega
theorem Oh {T : List Int} (h : T.length <= 1000000000) : (bif bif decide ((T.length : Int) < 2) then true else T.getD 0 0 != 34 then true else T.getD (IntKind.i64.wrap ((T.length : Int).sub 1)).toNat 0 != 34) = !(U.l9 T) := by
 rw [last_at h]
 unfold U.l9
 by_cases h2 : 2 <= T.length
 ·rw [decide_eq_false (by omega : ¬ (T.length : Int) < 2), decide_eq_true h2, cond_false]
  by_cases h3 : T.getD 0 0 = 34
  ·rw [h3, decide_eq_true rfl]
   show (T.getD (T.length - 1) 0 != 34) = !(true && (true && decide (T.getD (T.length - 1) 0 = 34)))
   by_cases h4 : T.getD (T.length - 1) 0 = 34
   ·rw [h4]; rfl
   ·rw [decide_eq_false h4, bne_iff_ne.2 h4]; rfl
  ·rw [bne_iff_ne.2 h3, decide_eq_false h3]; rfl
 ·rw [decide_eq_true (by omega : (T.length : Int) < 2), decide_eq_false h2]; rfl
theorem EW (s : List Int) (hv : Valid .str s) (hl : s.length <= 1000000000) : nU s := by
 unfold nU
 have hT : (U.trimB s).length <= 1000000000 := Nat.le_trans (BP s) hl
 have hun : U.gU s = U.jw (U.trimB s) := rfl
 rw [Oh hT, hun]
 generalize U.trimB s = T at hT ⊢
 have hw : IntKind.i64.wrap ((T.length : Int).sub 1) = (T.length : Int) - 1 := Aa (by omega) (by omega)
 rw [hw]
 refine ⟨rfl, fun _ => by omega, fun h => by have := of_decide_eq_false h; omega, fun h => ?_, fun h => by omega, ?_⟩
 ·have : ¬ (T.length : Int) < 2 := fun h2 => by rw [decide_eq_true h2] at h; cases h
  omega
 cases hq : U.l9 T with
 | false =>
   refine ⟨?_, trivial⟩
   unfold U.jw; rw [hq]; rfl
 | true =>
   have h2 : 2 <= T.length := by
    unfold U.l9 at hq
    simp only [Bool.and_eq_true, decide_eq_true_eq] at hq
    exact hq.1
   have hr : U.jw T = U.unq false ((T.drop 1).take (T.length - 2)) := by unfold U.jw; rw [hq]; rfl
   show (0 : Int) <= 1 /\ _
   rw [hr, show ((T.length : Int) - 1).toNat.sub 1 = T.length - 2 by rw [bZ]; omega]
   have hml : ((T.drop 1).take (T.length - 2)).length <= 1000000000 := by rw [List.length_take]; omega
   generalize (T.drop 1).take (T.length - 2) = m0 at hml ⊢
   refine ⟨by omega, by omega, by omega, (m0, [], false, 0), ⟨rfl, rfl, hml, ⟨Int.le_refl 0, by show (0 : Int) <= _; omega⟩, Int.le_refl 0, rfl⟩, ?_, ?_⟩
   ·rintro m q i ⟨he, hmm, ⟨i0, i1⟩, hol, hI⟩
    subst he
    rw [cond_prop]
    refine ⟨fun hi => ?_, fun hi => ?_⟩
    ·have hi : i < m.length := of_decide_eq_true hi
     rw [Og q i0 hi] at hI
     rw [getD_at (by omega : i.toNat < m.length), lD, iJ (by omega) (by omega)]
     refine ⟨i0, hi, by omega, ?_⟩
     cases hc : (decide (m[i.toNat] = 92) && !q) with
     | true =>
       rw [hc, cond_true] at hI
       exact ⟨(m, [], true, i + 1), rfl, ⟨rfl, hmm, ⟨by show 0 <= i + 1; omega, by show i + 1 <= (m.length : Int); omega⟩, by show (0 : Int) <= i + 1; omega, hI⟩, by simp only [bZ]; omega⟩
     | false =>
       rw [hc, cond_false] at hI
       exact ⟨by omega, by simp only [maxLen_eq]; omega, (m, [m[i.toNat]], false, i + 1), rfl, ⟨rfl, hmm, ⟨by show 0 <= i + 1; omega, by show i + 1 <= (m.length : Int); omega⟩, by show (1 : Int) <= i + 1; omega, hI⟩, by simp only [bZ]; omega⟩
    ·have hi : ¬ i < m.length := of_decide_eq_false hi
     rw [drop_end (by omega)] at hI
     exact ⟨hI, trivial⟩
   ·rintro m c o q i ⟨he, hmm, ⟨i0, i1⟩, hol, hI⟩
    subst he
    have hol : ((o.length + 1 : Nat) : Int) <= i := hol
    rw [cond_prop]
    refine ⟨fun hi => ?_, fun hi => ?_⟩
    ·have hi : i < m.length := of_decide_eq_true hi
     rw [Og q i0 hi] at hI
     rw [getD_at (by omega : i.toNat < m.length), lD, iJ (by omega) (by omega)]
     refine ⟨i0, hi, by omega, ?_⟩
     cases hc : (decide (m[i.toNat] = 92) && !q) with
     | true =>
       rw [hc, cond_true] at hI
       exact ⟨(m, c :: o, true, i + 1), rfl, ⟨rfl, hmm, ⟨by show 0 <= i + 1; omega, by show i + 1 <= (m.length : Int); omega⟩, by show ((o.length + 1 : Nat) : Int) <= i + 1; omega, hI⟩, by simp only [bZ]; omega⟩
     | false =>
       rw [hc, cond_false] at hI
       refine ⟨by simp only [gB, vM]; omega, by simp only [gB, maxLen_eq]; omega, (m, c :: (o ++ [m[i.toNat]]), false, i + 1), rfl, ⟨rfl, hmm, ⟨by show 0 <= i + 1; omega, by show i + 1 <= (m.length : Int); omega⟩, by show ((c :: (o ++ [m[i.toNat]])).length : Int) <= i + 1; rw [List.length_cons, List.length_append]; show ((o.length + 1 + 1 : Nat) : Int) <= _; omega, ?_⟩, by simp only [bZ]; omega⟩
       show c :: (o ++ [m[i.toNat]]) ++ _ = _
       rw [<- hI]; simp
    ·have hi : ¬ i < m.length := of_decide_eq_false hi
     rw [drop_end (by omega)] at hI
     have hI : c :: o ++ [] = _ := hI
     rw [List.append_nil] at hI
     exact ⟨by simp only [gB]; omega, hI, trivial⟩
theorem zo : ∀ (c k cur : List Int), ∀ x ∈ U.dV c k cur, x.length <= cur.length + c.length
 | [], k, cur, x, h => by
   have h : x ∈ [cur] := by cases k <;> exact h
   rw [List.mem_singleton.1 h]; simp
 | c :: r, [], cur, x, h => by
   have h : x ∈ [cur] := h
   rw [List.mem_singleton.1 h]; simp
 | c :: r, k :: ks, cur, x, h => by
   have h : x ∈ cond (decide (k = 0) && decide (c = 44)) (cur :: U.dV r ks []) (U.dV r ks (cur ++ [c])) := h
   rw [List.length_cons]
   cases hc : (decide (k = 0) && decide (c = 44)) with
   | true =>
     rw [hc, cond_true] at h
     rcases List.mem_cons.1 h with rfl | h
     ·omega
     ·have := zo r ks [] x h; simp at this; omega
   | false =>
     rw [hc, cond_false] at h
     have := zo r ks (cur ++ [c]) x h
     rw [List.length_append] at this; simp at this; omega
theorem O6 {s x : List Int} (h : x ∈ U.items s) : x.length <= s.length := by
 have := zo s (U.sorts s) [] x h; simpa using this
theorem BQ : ∀ (c k cur : List Int), (U.dV c k cur).length <= c.length + 1
 | [], k, cur => by cases k <;> simp [U.dV]
 | c :: r, [], cur => by simp [U.dV]
 | c :: r, k :: ks, cur => by
   show (cond (decide (k = 0) && decide (c = 44)) (cur :: U.dV r ks []) (U.dV r ks (cur ++ [c]))).length <= _
   rw [List.length_cons]
   have h1 := BQ r ks []
   have h2 := BQ r ks (cur ++ [c])
   cases (decide (k = 0) && decide (c = 44))
   ·rw [cond_false]; omega
   ·rw [cond_true, List.length_cons]; omega
theorem Qm (s : List Int) : (U.items s).length <= s.length + 1 := BQ s _ _
theorem Oi {L : List (List Int)} {i : Int} (n : Nat) (i0 : 0 <= i) (hi : i < L.length) : U.ni n (L.drop i.toNat) = cond (decide (0 < n) && !(decide (U.bare L[i.toNat] = []))) (U.one L[i.toNat] :: U.ni (n - 1) (L.drop (i + 1).toNat)) (U.ni n (L.drop (i + 1).toNat)) := by
 rw [drop_at i0 hi]; rfl
theorem Jv (s : List Int) (hv : Valid .str s) (hl : s.length <= 1000000000) : sD s := by
 unfold sD
 have hn := Qm s
 have hbd : ∀ x ∈ U.items s, x.length <= 1000000000 := fun x hx => Nat.le_trans (O6 hx) hl
 have hp : U.parse s = U.ni 20 (U.items s) := rfl
 rw [hp]
 refine ⟨hl, ([], 0), ⟨rfl, ⟨Int.le_refl 0, by show (0 : Int) <= _; omega⟩, by show 0 <= 20; omega, rfl⟩, ?_⟩
 rintro ⟨l, i⟩ ⟨⟨i0, i1⟩, hll, hI⟩
 dsimp only at i0 i1 hll hI ⊢
 rw [hp] at hI
 rw [cond_prop]
 refine ⟨fun hi => ?_, fun hi => ?_⟩
 ·have hi : i < (U.items s).length := of_decide_eq_true hi
  rw [Oi _ i0 hi] at hI
  rw [getD_at (by omega : i.toNat < (U.items s).length), iJ (by omega) (by omega), EN, lD]
  have hx := hbd _ (List.getElem_mem (by omega : i.toNat < (U.items s).length))
  rw [show decide (0 < 20 - l.length) = decide ((l.length : Int) < 20) from decide_eq_decide.2 (by omega)] at hI
  refine ⟨i0, hi, fun _ => hx, ?_⟩
  cases hc : (decide ((l.length : Int) < 20) && !(decide (U.bare (U.items s)[i.toNat] = []))) with
  | true =>
    rw [hc, cond_true] at hI
    simp only [Bool.and_eq_true, decide_eq_true_eq] at hc
    refine ⟨hx, by simp only [gB, vM]; omega, by simp only [gB, maxLen_eq]; omega, (l ++ [U.one (U.items s)[i.toNat]], i + 1), rfl, ⟨⟨by show 0 <= i + 1; omega, by show i + 1 <= _; omega⟩, by show (l ++ [_]).length <= 20; rw [List.length_append]; show l.length + 1 <= 20; omega, ?_⟩, by simp only [bZ]; omega⟩
    show l ++ [_] ++ U.ni (20 - (l ++ [_]).length) _ = _
    rw [List.append_assoc, List.length_append, hp, <- hI]
    rfl
  | false =>
    rw [hc, cond_false] at hI
    exact ⟨(l, i + 1), rfl, ⟨⟨by show 0 <= i + 1; omega, by show i + 1 <= _; omega⟩, hll, by rw [hp]; exact hI⟩, by simp only [bZ]; omega⟩
 ·have hi : ¬ i < (U.items s).length := of_decide_eq_false hi
  rw [drop_end (by omega)] at hI
  have hI : l ++ [] = _ := hI
  rw [List.append_nil] at hI
  exact ⟨hI, trivial⟩
theorem Oj : ∀ (l k : List Int), (U.noC l k).length <= l.length
 | [], k => by cases k <;> simp [U.noC]
 | c :: r, [] => by simp [U.noC]
 | c :: r, k :: ks => by
   have ih := Oj r ks
   show (cond (decide (k = 2)) (U.noC r ks) (c :: U.noC r ks)).length <= _
   rw [List.length_cons]
   cases decide (k = 2)
   ·rw [cond_false, List.length_cons]; omega
   ·rw [cond_true]; omega
theorem Qn (s : List Int) : (U.bare s).length <= s.length := Nat.le_trans (BP _) (Oj _ _)
theorem O7 (s : List Int) (c : Int) : -1 <= U.lastB s c /\ U.lastB s c < s.length := by
 have h := eU s.reverse c
 rw [List.length_reverse] at h
 unfold U.lastB
 by_cases hi : aH s.reverse c >= 0
 ·rw [decide_eq_true hi, cond_true]; omega
 ·rw [decide_eq_false hi, cond_false]; omega
theorem QT (b : List Int) : -1 <= U.jK b /\ U.jK b < b.length := by
 have h := eU (U.sorts b) 3
 rw [aX] at h; exact h
theorem Nh (s : List Int) (hv : Valid .str s) (hl : s.length <= 1000000000) : xI s := by
 unfold xI U.D5
 have hB := Nat.le_trans (Qn s) hl
 have h1 : U.one s = U.addrOf (U.xG (U.bare s)) (U.trimB (U.xE (U.bare s))) := rfl
 have hang : aH (U.sorts (U.bare s)) 3 = U.jK (U.bare s) := rfl
 have hb := QT (U.bare s)
 rw [h1, hang]
 generalize U.bare s = b at hB hb ⊢
 refine ⟨hl, ⟨hB, ?_⟩, ?_⟩
 ·unfold U.xE U.xG
  by_cases hi : U.jK b >= 0
  ·rw [decide_eq_true hi]
   simp only [cond_true]
   rw [iJ (by omega) (by omega)]
   refine ⟨by omega, by omega, by omega, by omega, by omega, by omega, trivial, (_, _), rfl, ?_, rfl⟩
   rw [rW]; rfl
  ·rw [decide_eq_false hi]
   exact ⟨(_, _), rfl, rfl, rfl⟩
 ·rintro ⟨r, nm⟩ ⟨hr, hnm⟩
  dsimp only at hr hnm ⊢
  rw [<- hr, <- hnm]
  have hnl : nm.length <= 1000000000 := by
   rw [hnm]; unfold U.xG
   cases decide (U.jK b >= 0)
   ·rw [cond_false]; simp
   ·rw [cond_true, List.length_take]; omega
  have hrl : r.length <= 1000000000 := by
   rw [hr]; unfold U.xE U.nP
   by_cases h2 : U.jK b >= 0
   ·rw [decide_eq_true h2, cond_true]
    cases decide (aH (b.drop (U.jK b + 1).toNat) 62 >= 0)
    ·rw [cond_false, List.length_drop]; omega
    ·rw [cond_true, List.length_take, List.length_drop]; omega
   ·rw [decide_eq_false h2, cond_false]; exact hB
  have htl := BP r
  generalize U.trimB r = t at htl ⊢
  have hlb := O7 t 64
  unfold U.addrOf
  refine ⟨rfl, hnl, ?_⟩
  by_cases hi : U.lastB t 64 >= 0
  ·rw [decide_eq_true hi]
   simp only [cond_true]
   rw [iJ (by omega) (by omega)]
   refine ⟨by omega, by omega, by omega, by omega, by omega, by omega, trivial, rfl, ?_, trivial⟩
   rw [rW]
  ·rw [decide_eq_false hi]
   exact ⟨rfl, rfl, rfl, trivial⟩
end Go.Proofs.YtlmkekoenfelcaaDoor
set_option linter.unusedSimpArgs false
set_option maxRecDepth 100000
set_option linter.unusedVariables false
namespace Go.Proofs.YtlmkekoenfelcaaDoor
open Go.Vc
theorem Kt (x : aT [.str]) : jk Tryd.prog (eX kX) (AV x) 18 (fQ [.str] x) [] (oz x) = rZ x := by kernel_rfl
theorem Ku : Pok 18 [.str] (fun x => oz x) := by
 refine pk (L := fun x => AV x) (l := kX) vS (fun _ => rfl) ?_
 intro x hv hp
 rw [Kt]
 exact Jt x hv (hp (List.length x <= 1000000000) (by simp [oz]))
theorem Kv : fF Tryd.prog gl 18 AU := Ku
theorem zq : dG oC := .cons Kv vS
theorem Kw (x : aT [.str]) : jk Tryd.prog (eX oC) (AY x) 11 (fQ [.str] x) [] (oD x) = su x := by kernel_rfl
theorem Ky : Pok 11 [.str] (fun x => oD x) := by
 refine pk (L := fun x => AY x) (l := oC) zq (fun _ => rfl) ?_
 intro x hv hp
 rw [Kw]
 exact Ju x hv (hp (List.length x <= 1000000000) (by simp [oD]))
theorem Kz : fF Tryd.prog gl 11 AX := Ky
theorem zu : dG oG := .cons Kz zq
theorem Nj (x : aT [.str]) : jk Tryd.prog (eX oG) (D7 x) 13 (fQ [.str] x) [] (qA x) = uM x := by kernel_rfl
theorem Nk : Pok 13 [.str] (fun x => qA x) := by
 refine pk (L := fun x => D7 x) (l := oG) zu (fun _ => rfl) ?_
 intro x hv hp
 rw [Nj]
 exact Kr x hv (hp (List.length x <= 1000000000) (by simp [qA]))
theorem Nl : fF Tryd.prog gl 13 D6 := Nk
theorem Ba : dG qB := .cons Nl zu
theorem Gz (x : aT [.str]) : jk Tryd.prog (eX qB) (xW x) 26 (fQ [.str] x) [] (kY x) = nU x := by kernel_rfl
theorem GH : Pok 26 [.str] (fun x => kY x) := by
 refine pk (L := fun x => xW x) (l := qB) Ba (fun _ => rfl) ?_
 intro x hv hp
 rw [Gz]
 exact EW x hv (hp (List.length x <= 1000000000) (by simp [kY]))
theorem GI : fF Tryd.prog gl 26 xU := GH
theorem vT : dG kZ := .cons GI Ba
theorem Np (x : aT [DX, .int .u8]) : jk Tryd.prog (eX kZ) (D9 x.1 x.2) 24 (fQ [DX, .int .u8] x) [] (xH x.1 x.2) = uN x.1 x.2 := by kernel_rfl
theorem Nq : Pok 24 [DX, .int .u8] (fun x => xH x.1 x.2) := by
 refine pk (L := fun x => D9 x.1 x.2) (l := kZ) vT (fun _ => rfl) ?_
 intro x hv hp
 rw [Np]
 exact Kq x.1 x.2 hv.1.2
theorem Nr : fF Tryd.prog gl 24 D8 := Nq
theorem Bc : dG qC := .cons Nr vT
theorem Ol (x : aT [.str]) : jk Tryd.prog (eX qC) (FX x) 15 (fQ [.str] x) [] (tZ x) = xI x := by kernel_rfl
theorem Om : Pok 15 [.str] (fun x => tZ x) := by
 refine pk (L := fun x => FX x) (l := qC) Bc (fun _ => rfl) ?_
 intro x hv hp
 rw [Ol]
 exact Nh x hv (hp (List.length x <= 1000000000) (by simp [tZ]))
theorem Oo : fF Tryd.prog gl 15 FW := Om
theorem Ea : dG uf := .cons Oo Bc
theorem KA (x : aT [.str]) : jk Tryd.prog (eX uf) (A8 x) 8 (fQ [.str] x) [] (oH x) = sD x := by kernel_rfl
theorem KC : Pok 8 [.str] (fun x => oH x) := by
 refine pk (L := fun x => A8 x) (l := uf) Ea (fun _ => rfl) ?_
 intro x hv hp
 rw [KA]
 exact Jv x hv (hp (List.length x <= 1000000000) (by simp [oH]))
theorem KD : fF Tryd.prog gl 8 AZ := KC
theorem zx : dG oI := .cons KD Ea
end Go.Proofs.YtlmkekoenfelcaaDoor
