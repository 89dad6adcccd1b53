/- What is owed of the functions, proved in plain Lean. -/
import Derived.Test.YtlmkekoenfelcaaDoorCC
import Derived.Test.YtlmkekoenfelcaaDoorCB
set_option linter.unusedSimpArgs false
set_option linter.unusedVariables false
set_option maxRecDepth 100000
namespace Go.Proofs.YtlmkekoenfelcaaDoor
open Go.Vc
open Go.Vc.T
theorem oz : ∀ (l : List Int) (s : St), (U.runs s l).length = l.length
 | [], _ => rfl
 | _ :: l, _ => congrArg (· + 1) (oz l _)
theorem aS (s : List Int) : (U.sorts s).length = s.length := oz s _
theorem Gm (s : List Int) : (U.kinds s).length = s.length := by unfold U.kinds; rw [List.length_map, aS]
theorem JG {l : List Int} {i : Int} {v : Int} (i0 : 0 <= i) (hi : i < l.length) : (l.set i.toNat v).take (i + 1).toNat = l.take i.toNat ++ [v] := by
 rw [take_at i0 (by rw [List.length_set]; exact hi), List.take_set_of_le (Nat.le_refl _), List.getElem_set_self]
theorem JH (s : List Int) (hv : Valid .str s) (hl : s.length <= 1000000000) : sQ s := by
 unfold sQ
 refine ⟨by omega, by omega, by show (s.length : Int) * 1 <= _; omega, by omega, (0, 0, false, List.replicate s.length 0, 0), ⟨rfl, ⟨Int.le_refl 0, by show (0 : Int) <= _; omega⟩, by show U.Fg 0 0 0; exact ⟨by omega, by omega, by omega, by omega, by omega⟩, List.length_replicate .., rfl⟩, ?_⟩
 rintro ⟨k, d, q, l, i⟩ ⟨⟨i0, i1⟩, ⟨k0, k3, d0, d1, kd⟩, hll, hI⟩
 dsimp only at i0 i1 k0 k3 d0 d1 kd hll hI ⊢
 rw [cond_prop]
 refine ⟨fun hi => ?_, fun hi => ?_⟩
 ·have hi : i < s.length := of_decide_eq_true hi
  refine ⟨i0, hi, ?_⟩
  rw [getD_at (by omega : i.toNat < s.length), fJ (a := i) (by omega) (by omega), fJ (a := d) (by omega) (by omega), xK (a := d) (by omega) (by omega)]
  rw [drop_at i0 hi] at hI
  generalize s[i.toNat] = c at hI ⊢
  have leaf : ∀ (k' d' : Int) (q' : Bool) (v : Int), U.scan (k, d, q) c = ((k', d', q'), v) -> U.Fg k' d' (i + 1) -> 0 <= i /\ i < (l.length : Int) /\ i.toNat < l.length /\ ∃ (y : Int × Int × Bool × List Int × Int), U.aC s k' d' q' (l.set i.toNat v) (i + 1) = U.aC s y.1 y.2.1 y.2.2.1 y.2.2.2.1 y.2.2.2.2 /\ U.aZ s y.1 y.2.1 y.2.2.1 y.2.2.2.1 y.2.2.2.2 /\ s.length.sub y.2.2.2.2.toNat < s.length.sub i.toNat := by
   intro k' d' q' v hs ho
   refine ⟨i0, by omega, by omega, (k', d', q', l.set i.toNat v, i + 1), rfl, ⟨⟨by show 0 <= i + 1; omega, by show i + 1 <= _; omega⟩, ho, by show (l.set _ _).length = _; rw [List.length_set]; exact hll, ?_⟩, by simp only [bU]; omega⟩
   show (l.set i.toNat v).take (i + 1).toNat ++ U.runs (k', d', q') _ = _
   rw [JG i0 (by omega), List.append_assoc, <- hI]
   show _ = _ ++ ((U.scan (k, d, q) c).2 :: U.runs (U.scan (k, d, q) c).1 _)
   rw [hs]; rfl
  simp only [jU]
  by_cases h0 : k = 0
  ·subst h0
   rw [decide_eq_true (rfl : (0 : Int) = 0), cond_true]
   by_cases h1 : c = 34
   ·rw [decide_eq_true h1, cond_true]; exact leaf 1 d q 1 (by subst h1; rfl) ⟨by omega, by omega, d0, by omega, by omega⟩
   rw [decide_eq_false h1, cond_false]
   by_cases h2 : c = 40
   ·rw [decide_eq_true h2, cond_true]; exact leaf 2 1 q 2 (by subst h2; rfl) ⟨by omega, by omega, by omega, by omega, by omega⟩
   rw [decide_eq_false h2, cond_false]
   by_cases h3 : c = 60
   ·rw [decide_eq_true h3, cond_true]; exact leaf 3 d q 3 (by subst h3; rfl) ⟨by omega, by omega, d0, by omega, by omega⟩
   rw [decide_eq_false h3, cond_false]
   exact leaf 0 d q 0 (by simp [U.scan, U.opens, h1, h2, h3]) ⟨by omega, by omega, d0, by omega, by omega⟩
  rw [decide_eq_false h0, cond_false]
  by_cases h3 : k = 3
  ·subst h3
   rw [decide_eq_true (rfl : (3 : Int) = 3), cond_true]
   by_cases h1 : c = 62
   ·rw [decide_eq_true h1, cond_true]; exact leaf 0 d q 3 (by simp [U.scan, h1]) ⟨by omega, by omega, d0, by omega, by omega⟩
   rw [decide_eq_false h1, cond_false]; exact leaf 3 d q 3 (by simp [U.scan, h1]) ⟨by omega, by omega, d0, by omega, by omega⟩
  rw [decide_eq_false h3, cond_false]
  cases q with
  | true => exact leaf k d false k (by simp [U.scan, h0, h3]) ⟨k0, k3, d0, by omega, kd⟩
  | false =>
    rw [cond_false]
    by_cases h4 : c = 92
    ·rw [decide_eq_true h4, cond_true]; exact leaf k d true k (by simp [U.scan, h0, h3, h4]) ⟨k0, k3, d0, by omega, kd⟩
    rw [decide_eq_false h4, cond_false]
    by_cases h1 : k = 1
    ·subst h1
     rw [show decide ((1 : Int) = 1) = true from rfl, show decide ((1 : Int) = 2) = false from rfl]
     simp only [Bool.true_and, Bool.false_and, cond_false]
     by_cases h5 : c = 34
     ·rw [decide_eq_true h5, cond_true]; exact leaf 0 d false 1 (by simp [U.scan, h5]) ⟨by omega, by omega, d0, by omega, by omega⟩
     ·rw [decide_eq_false h5, cond_false]; exact leaf 1 d false 1 (by simp [U.scan, h4, h5]) ⟨by omega, by omega, d0, by omega, by omega⟩
    ·have h2 : k = 2 := by omega
     have hd := kd h2
     subst h2
     rw [show decide ((2 : Int) = 2) = true from rfl, show decide ((2 : Int) = 1) = false from rfl]
     simp only [Bool.true_and, Bool.false_and, cond_false]
     by_cases h5 : c = 40
     ·rw [decide_eq_true h5, cond_true]; exact leaf 2 (d + 1) false 2 (by simp [U.scan, h5]) ⟨by omega, by omega, by omega, by omega, by omega⟩
     rw [decide_eq_false h5, cond_false]
     by_cases h6 : c = 41
     ·rw [decide_eq_true h6, cond_true]
      by_cases h7 : d - 1 = 0
      ·rw [decide_eq_true h7, cond_true]; exact leaf 0 (d - 1) false 2 (by simp [U.scan, h6, h7]) ⟨by omega, by omega, by omega, by omega, by omega⟩
      ·rw [decide_eq_false h7, cond_false]; exact leaf 2 (d - 1) false 2 (by simp [U.scan, h6, h7]) ⟨by omega, by omega, by omega, by omega, by omega⟩
     ·rw [decide_eq_false h6, cond_false]; exact leaf 2 d false 2 (by simp [U.scan, h4, h5, h6]) ⟨by omega, by omega, d0, by omega, by omega⟩
 ·have hi : ¬ i < s.length := of_decide_eq_false hi
  rw [drop_end (by omega), sH (by omega)] at hI
  have hI : l ++ [] = _ := hI
  rw [List.append_nil] at hI
  exact ⟨hI, trivial⟩
theorem KQ (l : List Int) (c : Int) (hl : l.length <= maxLen) : uV l c := by
 unfold uV
 rw [maxLen_eq] at hl
 refine ⟨0, ⟨rfl, ⟨Int.le_refl 0, by omega⟩, ?_⟩, ?_⟩
 ·show aO l c = if aO (l.drop 0) c = -1 then -1 else 0 + aO (l.drop 0) c
  rw [List.drop_zero]; split
  ·assumption
  ·omega
 rintro i ⟨⟨i0, i1⟩, hI⟩
 rw [cond_prop]
 refine ⟨fun hi => ?_, fun hi => ?_⟩
 ·have hi : i < l.length := of_decide_eq_true hi
  rw [getD_at (by omega : i.toNat < l.length)]
  rw [drop_at i0 hi, JA] at hI
  refine ⟨i0, hi, ?_⟩
  by_cases hx : c = l[i.toNat]
  ·rw [decide_eq_true hx, cond_true]
   have he : (if l[i.toNat] = c then (0 : Int) else if aO (List.drop (i + 1).toNat l) c = -1 then -1 else aO (List.drop (i + 1).toNat l) c + 1) = 0 := if_pos hx.symm
   rw [he, if_neg (by omega)] at hI
   exact ⟨by omega, trivial⟩
  ·rw [decide_eq_false hx, cond_false, fJ (by omega) (by omega)]
   have he : (if l[i.toNat] = c then (0 : Int) else if aO (List.drop (i + 1).toNat l) c = -1 then -1 else aO (List.drop (i + 1).toNat l) c + 1) = if aO (List.drop (i + 1).toNat l) c = -1 then -1 else aO (List.drop (i + 1).toNat l) c + 1 := if_neg (fun h => hx h.symm)
   rw [he] at hI
   refine ⟨i + 1, rfl, ⟨⟨by omega, by omega⟩, ?_⟩, by simp only [bU]; omega⟩
   have hb := iP (l.drop (i + 1).toNat) c
   rw [hI]
   generalize aO (List.drop (i + 1).toNat l) c = N at hb ⊢
   by_cases hn : N = -1
   ·rw [if_pos hn, if_pos rfl, if_pos hn]
   ·rw [if_neg hn, if_neg (by omega), if_neg hn]; omega
 ·have hi : ¬ i < l.length := of_decide_eq_false hi
  rw [drop_end (by omega)] at hI
  exact ⟨hI.symm, trivial⟩
theorem GZ (s : List Int) (hv : Valid .str s) (hl : s.length <= 1000000000) : qm s := by
 unfold qm
 refine ⟨by omega, by omega, by show (s.length : Int) * 1 <= _; omega, by omega, (0, 0, false, List.replicate s.length 0, 0), ⟨rfl, ⟨Int.le_refl 0, by show (0 : Int) <= _; omega⟩, by show U.Fg 0 0 0; exact ⟨by omega, by omega, by omega, by omega, by omega⟩, List.length_replicate .., rfl⟩, ?_⟩
 rintro ⟨k, d, q, l, i⟩ ⟨⟨i0, i1⟩, ⟨k0, k3, d0, d1, kd⟩, hll, hI⟩
 dsimp only at i0 i1 k0 k3 d0 d1 kd hll hI ⊢
 rw [cond_prop]
 refine ⟨fun hi => ?_, fun hi => ?_⟩
 ·have hi : i < s.length := of_decide_eq_true hi
  refine ⟨i0, hi, ?_⟩
  rw [getD_at (by omega : i.toNat < s.length), fJ (a := i) (by omega) (by omega), fJ (a := d) (by omega) (by omega), xK (a := d) (by omega) (by omega)]
  rw [drop_at i0 hi] at hI
  generalize s[i.toNat] = c at hI ⊢
  have leaf : ∀ (k' d' : Int) (q' : Bool) (v : Int), U.scan (k, d, q) c = ((k', d', q'), v) -> U.Fg k' d' (i + 1) -> ∃ (y : Int × Int × Bool × List Int × Int), U.aB s k' d' q' (l.set i.toNat (U.kb v)) (i + 1) = U.aB s y.1 y.2.1 y.2.2.1 y.2.2.2.1 y.2.2.2.2 /\ U.aQ s y.1 y.2.1 y.2.2.1 y.2.2.2.1 y.2.2.2.2 /\ s.length.sub y.2.2.2.2.toNat < s.length.sub i.toNat := by
   intro k' d' q' v hs ho
   refine ⟨(k', d', q', l.set i.toNat (U.kb v), i + 1), rfl, ⟨⟨by show 0 <= i + 1; omega, by show i + 1 <= _; omega⟩, ho, by show (l.set _ _).length = _; rw [List.length_set]; exact hll, ?_⟩, by simp only [bU]; omega⟩
   show (l.set i.toNat (U.kb v)).take (i + 1).toNat ++ (U.runs (k', d', q') _).map U.kb = _
   rw [JG i0 (by omega), List.append_assoc, <- hI]
   show _ = _ ++ ((U.scan (k, d, q) c).2 :: U.runs (U.scan (k, d, q) c).1 _).map U.kb
   rw [hs]; rfl
  have hb : 0 <= i /\ i < (l.length : Int) /\ i.toNat < l.length := ⟨i0, by omega, by omega⟩
  have h4 : k = 0 ∨ k = 1 ∨ k = 2 ∨ k = 3 := by omega
  rcases h4 with rfl | rfl | rfl | rfl
  ·rw [show decide (U.kb 0 = 112) = true from rfl, cond_true]
   by_cases h1 : c = 34
   ·rw [decide_eq_true h1, cond_true]; exact ⟨hb.1, hb.2.1, hb.2.2, leaf 1 d q 1 (by subst h1; rfl) ⟨by omega, by omega, d0, by omega, by omega⟩⟩
   rw [decide_eq_false h1, cond_false]
   by_cases h2 : c = 40
   ·rw [decide_eq_true h2, cond_true]; exact ⟨hb.1, hb.2.1, hb.2.2, leaf 2 1 q 2 (by subst h2; rfl) ⟨by omega, by omega, by omega, by omega, by omega⟩⟩
   rw [decide_eq_false h2, cond_false]
   by_cases h3 : c = 60
   ·rw [decide_eq_true h3, cond_true]; exact ⟨hb.1, hb.2.1, hb.2.2, leaf 3 d q 3 (by subst h3; rfl) ⟨by omega, by omega, d0, by omega, by omega⟩⟩
   rw [decide_eq_false h3, cond_false]
   exact ⟨hb.1, hb.2.1, hb.2.2, leaf 0 d q 0 (by simp [U.scan, U.opens, h1, h2, h3]) ⟨by omega, by omega, d0, by omega, by omega⟩⟩
  ·rw [show decide (U.kb 1 = 112) = false from rfl, cond_false, show decide (U.kb 1 = 113) = true from rfl, cond_true]
   refine ⟨hb.1, hb.2.1, hb.2.2, ?_⟩
   cases q with
   | true => exact leaf 1 d false 1 (by simp [U.scan]) ⟨by omega, by omega, d0, by omega, by omega⟩
   | false =>
     rw [cond_false]
     by_cases h4 : c = 92
     ·rw [decide_eq_true h4, cond_true]; exact leaf 1 d true 1 (by simp [U.scan, h4]) ⟨by omega, by omega, d0, by omega, by omega⟩
     rw [decide_eq_false h4, cond_false]
     by_cases h5 : c = 34
     ·rw [decide_eq_true h5, cond_true]; exact leaf 0 d false 1 (by simp [U.scan, h5]) ⟨by omega, by omega, d0, by omega, by omega⟩
     ·rw [decide_eq_false h5, cond_false]; exact leaf 1 d false 1 (by simp [U.scan, h4, h5]) ⟨by omega, by omega, d0, by omega, by omega⟩
  ·have hd := kd rfl
   rw [show decide (U.kb 2 = 112) = false from rfl, cond_false, show decide (U.kb 2 = 113) = false from rfl, cond_false, show decide (U.kb 2 = 99) = true from rfl, cond_true]
   refine ⟨hb.1, hb.2.1, hb.2.2, ?_⟩
   cases q with
   | true => exact leaf 2 d false 2 (by simp [U.scan]) ⟨by omega, by omega, d0, by omega, by omega⟩
   | false =>
     rw [cond_false]
     by_cases h4 : c = 92
     ·rw [decide_eq_true h4, cond_true]; exact leaf 2 d true 2 (by simp [U.scan, h4]) ⟨by omega, by omega, d0, by omega, by omega⟩
     rw [decide_eq_false h4, cond_false]
     by_cases h5 : c = 40
     ·rw [decide_eq_true h5, cond_true]; exact leaf 2 (d + 1) false 2 (by simp [U.scan, h5]) ⟨by omega, by omega, by omega, by omega, by omega⟩
     rw [decide_eq_false h5, cond_false]
     by_cases h6 : c = 41
     ·rw [decide_eq_true h6, cond_true]
      by_cases h7 : d - 1 = 0
      ·rw [decide_eq_true h7, cond_true]; exact leaf 0 (d - 1) false 2 (by simp [U.scan, h6, h7]) ⟨by omega, by omega, by omega, by omega, by omega⟩
      ·rw [decide_eq_false h7, cond_false]; exact leaf 2 (d - 1) false 2 (by simp [U.scan, h6, h7]) ⟨by omega, by omega, by omega, by omega, by omega⟩
     ·rw [decide_eq_false h6, cond_false]; exact leaf 2 d false 2 (by simp [U.scan, h4, h5, h6]) ⟨by omega, by omega, d0, by omega, by omega⟩
  ·rw [show decide (U.kb 3 = 112) = false from rfl, cond_false, show decide (U.kb 3 = 113) = false from rfl, cond_false, show decide (U.kb 3 = 99) = false from rfl, cond_false]
   refine ⟨hb.1, hb.2.1, hb.2.2, ?_⟩
   by_cases h1 : c = 62
   ·rw [decide_eq_true h1, cond_true]; exact leaf 0 d q 3 (by simp [U.scan, h1]) ⟨by omega, by omega, d0, by omega, by omega⟩
   rw [decide_eq_false h1, cond_false]; exact leaf 3 d q 3 (by simp [U.scan, h1]) ⟨by omega, by omega, d0, by omega, by omega⟩
 ·have hi : ¬ i < s.length := of_decide_eq_false hi
  rw [drop_end (by omega), sH (by omega)] at hI
  have hI : l ++ [] = _ := hI
  rw [List.append_nil] at hI
  exact ⟨hI, trivial⟩
theorem JI : ∀ (l : List Int) (s : St), 0 <= s.1 -> s.1 <= 3 -> ∀ x ∈ U.runs s l, 0 <= x /\ x <= 3
 | [], _, _, _, x, hx => by cases hx
 | c :: l, (k, d, q), h0, h3, x, hx => by
   have hop : 0 <= U.opens c /\ U.opens c <= 3 := by
    unfold U.opens
    cases decide (c = 34) <;> cases decide (c = 40) <;> cases decide (c = 60) <;> simp [cond]
   have key : (0 <= (U.scan (k, d, q) c).2 /\ (U.scan (k, d, q) c).2 <= 3) /\ 0 <= (U.scan (k, d, q) c).1.1 /\ (U.scan (k, d, q) c).1.1 <= 3 := by
    dsimp only at h0 h3
    unfold U.scan
    dsimp only
    generalize U.opens c = o at hop
    cases decide (k = 0) <;> cases decide (k = 3) <;> cases q <;> cases decide (c = 92) <;> cases decide (k = 1) <;> cases decide (c = 34) <;> cases decide (c = 40) <;> cases decide (c = 41) <;> cases decide (c = 62) <;> cases decide (d - 1 = 0) <;> simp only [cond] <;> omega
   rcases List.mem_cons.1 hx with rfl | hx
   ·exact key.1
   ·exact JI l _ key.2.1 key.2.2 x hx
theorem Sj {k : Int} (h0 : 0 <= k) (h3 : k <= 3) : (U.kb k = 112 ↔ k = 0) /\ (U.kb k = 113 ↔ k = 1) /\ (U.kb k = 99 ↔ k = 2) := by
 have h4 : k = 0 ∨ k = 1 ∨ k = 2 ∨ k = 3 := by omega
 rcases h4 with rfl | rfl | rfl | rfl <;> decide
theorem QE (s : List Int) {i : Nat} (hi : i < (U.sorts s).length) : 0 <= (U.sorts s)[i] /\ (U.sorts s)[i] <= 3 := JI s (0, 0, false) (Int.le_refl 0) (by decide) _ (List.getElem_mem hi)
theorem PE (s : List Int) {i : Nat} (hi : i < s.length) : (U.kinds s).getD i 0 = U.kb ((U.sorts s)[i]'(by rw [aS]; exact hi)) := by
 rw [getD_at (by rw [Gm]; exact hi)]; unfold U.kinds; rw [List.getElem_map]
theorem Qc {s : List Int} {i : Int} (i0 : 0 <= i) (hi : i < s.length) : (U.sorts s).drop i.toNat = (U.sorts s)[i.toNat]'(by rw [aS]; omega) :: (U.sorts s).drop (i + 1).toNat := drop_at i0 (by rw [aS]; exact hi)
theorem Gn {s : List Int} {i : Int} (cur : List Int) (i0 : 0 <= i) (hi : i < s.length) : U.bP (s.drop i.toNat) ((U.sorts s).drop i.toNat) cur =
 cond (decide ((U.sorts s)[i.toNat]'(by rw [aS]; omega) = 0) && decide (s[i.toNat] = 44)) (cur :: U.bP (s.drop (i + 1).toNat) ((U.sorts s).drop (i + 1).toNat) []) (U.bP (s.drop (i + 1).toNat) ((U.sorts s).drop (i + 1).toNat) (cur ++ [s[i.toNat]])) := by
 rw [drop_at i0 hi, Qc i0 hi]; rfl
theorem Eu {s : List Int} {i : Int} (cur : List Int) (hi : (s.length : Int) <= i) : U.bP (s.drop i.toNat) ((U.sorts s).drop i.toNat) cur = [cur] := by
 rw [drop_end hi]; rfl
theorem JJ {s : List Int} {fr i : Int} (f0 : 0 <= fr) (hf : fr <= i) (hi : i < s.length) : (s.drop fr.toNat).take ((i + 1).toNat - fr.toNat) = (s.drop fr.toNat).take (i.toNat - fr.toNat) ++ [s[i.toNat]] := by
 have h1 : i.toNat - fr.toNat < (s.drop fr.toNat).length := by rw [List.length_drop]; omega
 rw [show (i + 1).toNat - fr.toNat = (i.toNat - fr.toNat) + 1 by omega, List.take_succ_eq_append_getElem h1, List.getElem_drop]
 congr 3; omega
theorem JK {s : List Int} {i : Int} : (s.drop i.toNat).take (i.toNat - i.toNat) = [] := by rw [Nat.sub_self, List.take_zero]
theorem OL {s : List Int} {i : Int} (i0 : 0 <= i) (hi : i < s.length) : U.noC (s.drop i.toNat) ((U.sorts s).drop i.toNat) =
 cond (decide ((U.sorts s)[i.toNat]'(by rw [aS]; omega) = 2)) (U.noC (s.drop (i + 1).toNat) ((U.sorts s).drop (i + 1).toNat)) (s[i.toNat] :: U.noC (s.drop (i + 1).toNat) ((U.sorts s).drop (i + 1).toNat)) := by
 rw [drop_at i0 hi, Qc i0 hi]; rfl
theorem LU {s : List Int} {i : Int} (hi : (s.length : Int) <= i) : U.noC (s.drop i.toNat) ((U.sorts s).drop i.toNat) = [] := by
 rw [drop_end hi]; rfl
theorem JL (s : List Int) (hv : Valid .str s) (hl : s.length <= 1000000000) : sU s := by
 unfold sU
 refine ⟨hl, ([], 0, 0), ⟨rfl, ⟨Int.le_refl 0, by show (0 : Int) <= _; omega⟩, Int.le_refl 0, Int.le_refl 0, Int.le_refl 0, rfl⟩, ?_⟩
 rintro ⟨l, fr, i⟩ ⟨⟨i0, i1⟩, f0, f1, hll, hI⟩
 dsimp only at i0 i1 f0 f1 hll hI ⊢
 rw [aS, cond_prop]
 refine ⟨fun hi => ?_, fun hi => ?_⟩
 ·have hi : i < s.length := of_decide_eq_true hi
  rw [Gn _ i0 hi] at hI
  rw [getD_at (by omega : i.toNat < s.length), getD_at (by rw [aS]; omega : i.toNat < (U.sorts s).length), fJ (by omega) (by omega)]
  refine ⟨i0, hi, fun _ => i0, fun _ => hi, ?_⟩
  rw [jU]
  cases hc : (decide ((U.sorts s)[i.toNat]'(by rw [aS]; omega) = 0) && decide (s[i.toNat] = 44)) with
  | true =>
    rw [hc, cond_true] at hI
    refine ⟨f0, f1, by omega, by simp only [dO, nX]; omega, by simp only [dO, maxLen_eq]; omega, (l ++ [(s.drop fr.toNat).take (i.toNat - fr.toNat)], i + 1, i + 1), rfl, ⟨⟨by show 0 <= i + 1; omega, by show i + 1 <= _; omega⟩, by show 0 <= i + 1; omega, Int.le_refl _, by show ((l ++ [_]).length : Int) <= i + 1; rw [List.length_append]; show ((l.length + 1 : Nat) : Int) <= _; omega, ?_⟩, by simp only [bU]; omega⟩
    show l ++ [_] ++ U.bP _ _ ((s.drop (i + 1).toNat).take ((i + 1).toNat - (i + 1).toNat)) = _
    rw [JK, List.append_assoc]; exact hI
  | false =>
    rw [hc, cond_false] at hI
    refine ⟨(l, fr, i + 1), rfl, ⟨⟨by show 0 <= i + 1; omega, by show i + 1 <= _; omega⟩, f0, by show fr <= i + 1; omega, by show (l.length : Int) <= i + 1; omega, ?_⟩, by simp only [bU]; omega⟩
    show l ++ U.bP _ _ ((s.drop fr.toNat).take ((i + 1).toNat - fr.toNat)) = _
    rw [JJ f0 f1 hi]; exact hI
 ·have hi : ¬ i < s.length := of_decide_eq_false hi
  rw [Eu _ (by omega)] at hI
  refine ⟨f0, by omega, by omega, by simp only [dO, nX]; omega, by simp only [dO, maxLen_eq]; omega, ?_, trivial⟩
  rw [nY]
  rw [List.take_of_length_le (by rw [List.length_drop]; omega)] at hI
  exact hI
theorem G5 (s : List Int) (hv : Valid .str s) (hl : s.length <= 1000000000) : qo s := by
 unfold qo
 refine ⟨hl, ([], 0, 0), ⟨rfl, ⟨Int.le_refl 0, by show (0 : Int) <= _; omega⟩, Int.le_refl 0, Int.le_refl 0, Int.le_refl 0, rfl⟩, ?_⟩
 rintro ⟨l, fr, i⟩ ⟨⟨i0, i1⟩, f0, f1, hll, hI⟩
 dsimp only at i0 i1 f0 f1 hll hI ⊢
 rw [Gm, cond_prop]
 refine ⟨fun hi => ?_, fun hi => ?_⟩
 ·have hi : i < s.length := of_decide_eq_true hi
  rw [Gn _ i0 hi] at hI
  have hb := QE s (by rw [aS]; omega : i.toNat < (U.sorts s).length)
  rw [getD_at (by omega : i.toNat < s.length), PE s (by omega), fJ (by omega) (by omega)]
  refine ⟨i0, hi, fun _ => i0, fun _ => hi, ?_⟩
  rw [jU, show decide (U.kb ((U.sorts s)[i.toNat]'(by rw [aS]; omega)) = 112) = decide ((U.sorts s)[i.toNat]'(by rw [aS]; omega) = 0) from decide_eq_decide.2 (Sj hb.1 hb.2).1, Bool.and_comm]
  cases hc : (decide ((U.sorts s)[i.toNat]'(by rw [aS]; omega) = 0) && decide (s[i.toNat] = 44)) with
  | true =>
    rw [hc, cond_true] at hI
    refine ⟨f0, f1, by omega, by simp only [dO, nX]; omega, by simp only [dO, maxLen_eq]; omega, (l ++ [(s.drop fr.toNat).take (i.toNat - fr.toNat)], i + 1, i + 1), rfl, ⟨⟨by show 0 <= i + 1; omega, by show i + 1 <= _; omega⟩, by show 0 <= i + 1; omega, Int.le_refl _, by show ((l ++ [_]).length : Int) <= i + 1; rw [List.length_append]; show ((l.length + 1 : Nat) : Int) <= _; omega, ?_⟩, by simp only [bU]; omega⟩
    show l ++ [_] ++ U.bP _ _ ((s.drop (i + 1).toNat).take ((i + 1).toNat - (i + 1).toNat)) = _
    rw [JK, List.append_assoc]; exact hI
  | false =>
    rw [hc, cond_false] at hI
    refine ⟨(l, fr, i + 1), rfl, ⟨⟨by show 0 <= i + 1; omega, by show i + 1 <= _; omega⟩, f0, by show fr <= i + 1; omega, by show (l.length : Int) <= i + 1; omega, ?_⟩, by simp only [bU]; omega⟩
    show l ++ U.bP _ _ ((s.drop fr.toNat).take ((i + 1).toNat - fr.toNat)) = _
    rw [JJ f0 f1 hi]; exact hI
 ·have hi : ¬ i < s.length := of_decide_eq_false hi
  rw [Eu _ (by omega)] at hI
  refine ⟨f0, by omega, by omega, by simp only [dO, nX]; omega, by simp only [dO, maxLen_eq]; omega, ?_, trivial⟩
  rw [nY]
  rw [List.take_of_length_le (by rw [List.length_drop]; omega)] at hI
  exact hI
theorem KR (s : List Int) (hv : Valid .str s) (hl : s.length <= 1000000000) : uU s := by
 unfold uU
 refine ⟨hl, ([], 0), ⟨rfl, ⟨Int.le_refl 0, by show (0 : Int) <= _; omega⟩, Int.le_refl 0, rfl⟩, ?_, ?_⟩
 ·rintro i ⟨⟨i0, i1⟩, hol, hI⟩
  rw [aS, cond_prop]
  refine ⟨fun hi => ?_, fun hi => ?_⟩
  ·have hi : i < s.length := of_decide_eq_true hi
   rw [OL i0 hi] at hI
   rw [getD_at (by omega : i.toNat < s.length), getD_at (by rw [aS]; omega : i.toNat < (U.sorts s).length), fJ (by omega) (by omega)]
   refine ⟨i0, hi, ?_⟩
   by_cases hc : (U.sorts s)[i.toNat]'(by rw [aS]; omega) = 2
   ·rw [decide_eq_true hc, cond_true] at hI
    rw [show ((U.sorts s)[i.toNat]'(by rw [aS]; omega) != 2) = false by rw [hc]; rfl, cond_false]
    exact ⟨([], i + 1), (by have e : ((s.length : Nat) : Int) = (U.sorts s).length := (congrArg Int.ofNat (aS s)).symm; generalize s[i.toNat] = z; rw [e]; rfl), ⟨⟨by show 0 <= i + 1; omega, by show i + 1 <= _; omega⟩, by show (0 : Int) <= i + 1; omega, hI⟩, by simp only [bU]; omega⟩
   ·rw [decide_eq_false hc, cond_false] at hI
    rw [show ((U.sorts s)[i.toNat]'(by rw [aS]; omega) != 2) = true from bne_iff_ne.2 hc, cond_true]
    exact ⟨i0, hi, by omega, by simp only [maxLen_eq]; omega, ([s[i.toNat]], i + 1), (by have e : ((s.length : Nat) : Int) = (U.sorts s).length := (congrArg Int.ofNat (aS s)).symm; generalize s[i.toNat] = z; rw [e]; rfl), ⟨⟨by show 0 <= i + 1; omega, by show i + 1 <= _; omega⟩, by show (1 : Int) <= i + 1; omega, hI⟩, by simp only [bU]; omega⟩
  ·have hi : ¬ i < s.length := of_decide_eq_false hi
   rw [LU (by omega)] at hI
   refine ⟨rfl, ?_, trivial⟩
   unfold U.bare; rw [<- hI]; rfl
 ·rintro c o i ⟨⟨i0, i1⟩, hol, hI⟩
  have hol : ((o.length + 1 : Nat) : Int) <= i := hol
  rw [aS, cond_prop]
  refine ⟨fun hi => ?_, fun hi => ?_⟩
  ·have hi : i < s.length := of_decide_eq_true hi
   rw [OL i0 hi] at hI
   rw [getD_at (by omega : i.toNat < s.length), getD_at (by rw [aS]; omega : i.toNat < (U.sorts s).length), fJ (by omega) (by omega)]
   refine ⟨i0, hi, ?_⟩
   by_cases hc : (U.sorts s)[i.toNat]'(by rw [aS]; omega) = 2
   ·rw [decide_eq_true hc, cond_true] at hI
    rw [show ((U.sorts s)[i.toNat]'(by rw [aS]; omega) != 2) = false by rw [hc]; rfl, cond_false]
    exact ⟨(c :: o, i + 1), (by have e : ((s.length : Nat) : Int) = (U.sorts s).length := (congrArg Int.ofNat (aS s)).symm; generalize s[i.toNat] = z; rw [e]; rfl), ⟨⟨by show 0 <= i + 1; omega, by show i + 1 <= _; omega⟩, by show ((o.length + 1 : Nat) : Int) <= i + 1; omega, hI⟩, by simp only [bU]; omega⟩
   ·rw [decide_eq_false hc, cond_false] at hI
    rw [show ((U.sorts s)[i.toNat]'(by rw [aS]; omega) != 2) = true from bne_iff_ne.2 hc, cond_true]
    refine ⟨i0, hi, by simp only [dO, nX]; omega, by simp only [dO, maxLen_eq]; omega, (c :: (o ++ [s[i.toNat]]), i + 1), (by have e : ((s.length : Nat) : Int) = (U.sorts s).length := (congrArg Int.ofNat (aS s)).symm; generalize s[i.toNat] = z; rw [e]; rfl), ⟨⟨by show 0 <= i + 1; omega, by show i + 1 <= _; omega⟩, by show ((c :: (o ++ [s[i.toNat]])).length : Int) <= i + 1; rw [List.length_cons, List.length_append]; show ((o.length + 1 + 1 : Nat) : Int) <= _; omega, ?_⟩, by simp only [bU]; omega⟩
    show c :: (o ++ [s[i.toNat]]) ++ _ = _
    rw [<- hI]; simp
  ·have hi : ¬ i < s.length := of_decide_eq_false hi
   rw [LU (by omega), List.append_nil] at hI
   refine ⟨by simp only [dO]; omega, rfl, ?_, trivial⟩
   unfold U.bare; rw [<- hI]
theorem CB (s : List Int) : (U.trimB s).length <= s.length := by
 unfold U.trimB; rw [List.length_drop, List.length_take]; omega
theorem OM {m : List Int} {i : Int} (q : Bool) (i0 : 0 <= i) (hi : i < m.length) : U.unq q (m.drop i.toNat) = cond (decide (m[i.toNat] = 92) && !q) (U.unq true (m.drop (i + 1).toNat)) (m[i.toNat] :: U.unq false (m.drop (i + 1).toNat)) := by
 rw [drop_at i0 hi]; rfl
theorem last_at {T : List Int} (h : T.length <= 1000000000) : (IntKind.i64.wrap ((T.length : Int).sub 1)).toNat = T.length - 1 := by
 rw [xK (by omega) (by omega)]; omega
theorem OO {T : List Int} (h : T.length <= 1000000000) : (bif bif decide ((T.length : Int) < 2) then true else T.getD 0 0 != 34 then true else T.getD (IntKind.i64.wrap ((T.length : Int).sub 1)).toNat 0 != 34) = !(U.vZ T) := by
 rw [last_at h]
 unfold U.vZ
 by_cases h2 : 2 <= T.length
 ·rw [decide_eq_false (by omega : ¬ (T.length : Int) < 2), decide_eq_true h2, cond_false]
  by_cases h3 : T.getD 0 0 = 34
  ·rw [h3, decide_eq_true rfl]
   show (T.getD (T.length - 1) 0 != 34) = !(true && (true && decide (T.getD (T.length - 1) 0 = 34)))
   by_cases h4 : T.getD (T.length - 1) 0 = 34
   ·rw [h4]; rfl
   ·rw [decide_eq_false h4, bne_iff_ne.2 h4]; rfl
  ·rw [bne_iff_ne.2 h3, decide_eq_false h3]; rfl
 ·rw [decide_eq_true (by omega : (T.length : Int) < 2), decide_eq_false h2]; rfl
theorem Fz (s : List Int) (hv : Valid .str s) (hl : s.length <= 1000000000) : ou s := by
 unfold ou
 have hT : (U.trimB s).length <= 1000000000 := Nat.le_trans (CB s) hl
 have hun : U.jV s = U.sO (U.trimB s) := rfl
 rw [OO hT, hun]
 generalize U.trimB s = T at hT ⊢
 have hw : IntKind.i64.wrap ((T.length : Int).sub 1) = (T.length : Int) - 1 := xK (by omega) (by omega)
 rw [hw]
 refine ⟨rfl, fun _ => by omega, fun h => by have := of_decide_eq_false h; omega, fun h => ?_, fun h => by omega, ?_⟩
 ·have : ¬ (T.length : Int) < 2 := fun h2 => by rw [decide_eq_true h2] at h; cases h
  omega
 cases hq : U.vZ T with
 | false =>
   refine ⟨?_, trivial⟩
   unfold U.sO; rw [hq]; rfl
 | true =>
   have h2 : 2 <= T.length := by
    unfold U.vZ at hq
    simp only [Bool.and_eq_true, decide_eq_true_eq] at hq
    exact hq.1
   have hr : U.sO T = U.unq false ((T.drop 1).take (T.length - 2)) := by unfold U.sO; rw [hq]; rfl
   show (0 : Int) <= 1 /\ _
   rw [hr, show ((T.length : Int) - 1).toNat.sub 1 = T.length - 2 by rw [bU]; omega]
   have hml : ((T.drop 1).take (T.length - 2)).length <= 1000000000 := by rw [List.length_take]; omega
   generalize (T.drop 1).take (T.length - 2) = m0 at hml ⊢
   refine ⟨by omega, by omega, by omega, (m0, [], false, 0), ⟨rfl, rfl, hml, ⟨Int.le_refl 0, by show (0 : Int) <= _; omega⟩, Int.le_refl 0, rfl⟩, ?_, ?_⟩
   ·rintro m q i ⟨he, hmm, ⟨i0, i1⟩, hol, hI⟩
    subst he
    rw [cond_prop]
    refine ⟨fun hi => ?_, fun hi => ?_⟩
    ·have hi : i < m.length := of_decide_eq_true hi
     rw [OM q i0 hi] at hI
     rw [getD_at (by omega : i.toNat < m.length), jU, fJ (by omega) (by omega)]
     refine ⟨i0, hi, by omega, ?_⟩
     cases hc : (decide (m[i.toNat] = 92) && !q) with
     | true =>
       rw [hc, cond_true] at hI
       exact ⟨(m, [], true, i + 1), rfl, ⟨rfl, hmm, ⟨by show 0 <= i + 1; omega, by show i + 1 <= (m.length : Int); omega⟩, by show (0 : Int) <= i + 1; omega, hI⟩, by simp only [bU]; omega⟩
     | false =>
       rw [hc, cond_false] at hI
       exact ⟨by omega, by simp only [maxLen_eq]; omega, (m, [m[i.toNat]], false, i + 1), rfl, ⟨rfl, hmm, ⟨by show 0 <= i + 1; omega, by show i + 1 <= (m.length : Int); omega⟩, by show (1 : Int) <= i + 1; omega, hI⟩, by simp only [bU]; omega⟩
    ·have hi : ¬ i < m.length := of_decide_eq_false hi
     rw [drop_end (by omega)] at hI
     exact ⟨hI, trivial⟩
   ·rintro m c o q i ⟨he, hmm, ⟨i0, i1⟩, hol, hI⟩
    subst he
    have hol : ((o.length + 1 : Nat) : Int) <= i := hol
    rw [cond_prop]
    refine ⟨fun hi => ?_, fun hi => ?_⟩
    ·have hi : i < m.length := of_decide_eq_true hi
     rw [OM q i0 hi] at hI
     rw [getD_at (by omega : i.toNat < m.length), jU, fJ (by omega) (by omega)]
     refine ⟨i0, hi, by omega, ?_⟩
     cases hc : (decide (m[i.toNat] = 92) && !q) with
     | true =>
       rw [hc, cond_true] at hI
       exact ⟨(m, c :: o, true, i + 1), rfl, ⟨rfl, hmm, ⟨by show 0 <= i + 1; omega, by show i + 1 <= (m.length : Int); omega⟩, by show ((o.length + 1 : Nat) : Int) <= i + 1; omega, hI⟩, by simp only [bU]; omega⟩
     | false =>
       rw [hc, cond_false] at hI
       refine ⟨by simp only [dO, nX]; omega, by simp only [dO, maxLen_eq]; omega, (m, c :: (o ++ [m[i.toNat]]), false, i + 1), rfl, ⟨rfl, hmm, ⟨by show 0 <= i + 1; omega, by show i + 1 <= (m.length : Int); omega⟩, by show ((c :: (o ++ [m[i.toNat]])).length : Int) <= i + 1; rw [List.length_cons, List.length_append]; show ((o.length + 1 + 1 : Nat) : Int) <= _; omega, ?_⟩, by simp only [bU]; omega⟩
       show c :: (o ++ [m[i.toNat]]) ++ _ = _
       rw [<- hI]; simp
    ·have hi : ¬ i < m.length := of_decide_eq_false hi
     rw [drop_end (by omega)] at hI
     have hI : c :: o ++ [] = _ := hI
     rw [List.append_nil] at hI
     exact ⟨by simp only [dO]; omega, hI, trivial⟩
theorem zM : ∀ (c k cur : List Int), ∀ x ∈ U.bP c k cur, x.length <= cur.length + c.length
 | [], k, cur, x, h => by
   have h : x ∈ [cur] := by cases k <;> exact h
   rw [List.mem_singleton.1 h]; simp
 | c :: r, [], cur, x, h => by
   have h : x ∈ [cur] := h
   rw [List.mem_singleton.1 h]; simp
 | c :: r, k :: ks, cur, x, h => by
   have h : x ∈ cond (decide (k = 0) && decide (c = 44)) (cur :: U.bP r ks []) (U.bP r ks (cur ++ [c])) := h
   rw [List.length_cons]
   cases hc : (decide (k = 0) && decide (c = 44)) with
   | true =>
     rw [hc, cond_true] at h
     rcases List.mem_cons.1 h with rfl | h
     ·omega
     ·have := zM r ks [] x h; simp at this; omega
   | false =>
     rw [hc, cond_false] at h
     have := zM r ks (cur ++ [c]) x h
     rw [List.length_append] at this; simp at this; omega
theorem PG {s x : List Int} (h : x ∈ U.items s) : x.length <= s.length := by
 have := zM s (U.sorts s) [] x h; simpa using this
theorem CG : ∀ (c k cur : List Int), (U.bP c k cur).length <= c.length + 1
 | [], k, cur => by cases k <;> simp [U.bP]
 | c :: r, [], cur => by simp [U.bP]
 | c :: r, k :: ks, cur => by
   show (cond (decide (k = 0) && decide (c = 44)) (cur :: U.bP r ks []) (U.bP r ks (cur ++ [c]))).length <= _
   rw [List.length_cons]
   have h1 := CG r ks []
   have h2 := CG r ks (cur ++ [c])
   cases (decide (k = 0) && decide (c = 44))
   ·rw [cond_false]; omega
   ·rw [cond_true, List.length_cons]; omega
theorem QF (s : List Int) : (U.items s).length <= s.length + 1 := CG s _ _
theorem OQ {L : List (List Int)} {i : Int} (n : Nat) (i0 : 0 <= i) (hi : i < L.length) : U.ny n (L.drop i.toNat) = cond (decide (0 < n) && !(decide (U.bare L[i.toNat] = []))) (U.one L[i.toNat] :: U.ny (n - 1) (L.drop (i + 1).toNat)) (U.ny n (L.drop (i + 1).toNat)) := by
 rw [drop_at i0 hi]; rfl
theorem JM (s : List Int) (hv : Valid .str s) (hl : s.length <= 1000000000) : sV s := by
 unfold sV
 have hn := QF s
 have hbd : ∀ x ∈ U.items s, x.length <= 1000000000 := fun x hx => Nat.le_trans (PG hx) hl
 have hp : U.parse s = U.ny 20 (U.items s) := rfl
 rw [hp]
 refine ⟨hl, ([], 0), ⟨rfl, ⟨Int.le_refl 0, by show (0 : Int) <= _; omega⟩, by show 0 <= 20; omega, rfl⟩, ?_⟩
 rintro ⟨l, i⟩ ⟨⟨i0, i1⟩, hll, hI⟩
 dsimp only at i0 i1 hll hI ⊢
 rw [hp] at hI
 rw [cond_prop]
 refine ⟨fun hi => ?_, fun hi => ?_⟩
 ·have hi : i < (U.items s).length := of_decide_eq_true hi
  rw [OQ _ i0 hi] at hI
  rw [getD_at (by omega : i.toNat < (U.items s).length), fJ (by omega) (by omega), Fb, jU]
  have hx := hbd _ (List.getElem_mem (by omega : i.toNat < (U.items s).length))
  rw [show decide (0 < 20 - l.length) = decide ((l.length : Int) < 20) from decide_eq_decide.2 (by omega)] at hI
  refine ⟨i0, hi, fun _ => hx, ?_⟩
  cases hc : (decide ((l.length : Int) < 20) && !(decide (U.bare (U.items s)[i.toNat] = []))) with
  | true =>
    rw [hc, cond_true] at hI
    simp only [Bool.and_eq_true, decide_eq_true_eq] at hc
    refine ⟨hx, by simp only [dO, nX]; omega, by simp only [dO, maxLen_eq]; omega, (l ++ [U.one (U.items s)[i.toNat]], i + 1), rfl, ⟨⟨by show 0 <= i + 1; omega, by show i + 1 <= _; omega⟩, by show (l ++ [_]).length <= 20; rw [List.length_append]; show l.length + 1 <= 20; omega, ?_⟩, by simp only [bU]; omega⟩
    show l ++ [_] ++ U.ny (20 - (l ++ [_]).length) _ = _
    rw [List.append_assoc, List.length_append, hp, <- hI]
    rfl
  | false =>
    rw [hc, cond_false] at hI
    exact ⟨(l, i + 1), rfl, ⟨⟨by show 0 <= i + 1; omega, by show i + 1 <= _; omega⟩, hll, by rw [hp]; exact hI⟩, by simp only [bU]; omega⟩
 ·have hi : ¬ i < (U.items s).length := of_decide_eq_false hi
  rw [drop_end (by omega)] at hI
  have hI : l ++ [] = _ := hI
  rw [List.append_nil] at hI
  exact ⟨hI, trivial⟩
def stW (s : St) : Prop := (s.1 = 0 ∨ s.1 = 1 ∨ s.1 = 2 ∨ s.1 = 3) /\ (s.1 ≠ 2 -> s.2.1 = 0) /\ (s.1 = 0 ∨ s.1 = 3 -> s.2.2 = false)
theorem PI {s : St} (h : stW s) (h0 : s.1 = 0) : s = (0, 0, false) := by
 obtain ⟨k, d, q⟩ := s
 obtain ⟨_, h1, h2⟩ := h
 dsimp only at h0 h1 h2
 subst h0
 rw [h1 (by omega), h2 (.inl rfl)]
theorem Rq {s : St} (c : Int) (h : stW s) : stW (U.scan s c).1 /\ (s.1 = 2 -> (U.scan s c).2 = 2) /\ (s.1 ≠ 2 -> ((U.scan s c).2 = 2 -> s.1 = 0 /\ (U.scan s c).1.1 = 2) /\ ((U.scan s c).2 ≠ 2 -> (U.scan s c).1.1 ≠ 2)) := by
 obtain ⟨k, d, q⟩ := s
 obtain ⟨hk, h1, h2⟩ := h
 dsimp only at hk h1 h2
 unfold U.scan stW
 dsimp only
 rcases hk with rfl | rfl | rfl | rfl
 ·have hd := h1 (by omega); have hq := h2 (.inl rfl)
  subst hd hq
  unfold U.opens
  by_cases h34 : c = 34
  ·subst h34; simp [cond]
  ·rw [decide_eq_false h34]; cases decide (c = 40) <;> cases decide (c = 60) <;> simp [cond]
 ·have hd := h1 (by omega)
  subst hd
  cases q <;> cases decide (c = 92) <;> cases decide (c = 34) <;> simp [cond]
 ·cases q <;> cases decide (c = 92) <;> cases decide (c = 40) <;> cases decide (c = 41) <;> cases hz : decide (d - 1 = 0) <;> simp [cond] <;> simp at hz <;> omega
 ·have hd := h1 (by omega); have hq := h2 (.inr rfl)
  subst hd hq
  cases decide (c = 62) <;> simp [cond]
theorem OT : ∀ (l k : List Int), (U.noC l k).length <= l.length
 | [], k => by cases k <;> simp [U.noC]
 | c :: r, [] => by simp [U.noC]
 | c :: r, k :: ks => by
   have ih := OT r ks
   show (cond (decide (k = 2)) (U.noC r ks) (c :: U.noC r ks)).length <= _
   rw [List.length_cons]
   cases decide (k = 2)
   ·rw [cond_false, List.length_cons]; omega
   ·rw [cond_true]; omega
theorem QG (s : List Int) : (U.bare s).length <= s.length := Nat.le_trans (CB _) (OT _ _)
theorem PK (s : List Int) (c : Int) : -1 <= U.lastB s c /\ U.lastB s c < s.length := by
 have h := iP s.reverse c
 rw [List.length_reverse] at h
 unfold U.lastB
 by_cases hi : aO s.reverse c >= 0
 ·rw [decide_eq_true hi, cond_true]; omega
 ·rw [decide_eq_false hi, cond_false]; omega
theorem Rt (b : List Int) : -1 <= U.ni b /\ U.ni b < b.length := by
 have h := iP (U.sorts b) 3
 rw [aS] at h; exact h
theorem NQ (s : List Int) (hv : Valid .str s) (hl : s.length <= 1000000000) : xO s := by
 unfold xO U.Ej
 have hB := Nat.le_trans (QG s) hl
 have h1 : U.one s = U.addrOf (U.Ei (U.bare s)) (U.trimB (U.Eh (U.bare s))) := rfl
 have hang : aO (U.sorts (U.bare s)) 3 = U.ni (U.bare s) := rfl
 have hb := Rt (U.bare s)
 rw [h1, hang]
 generalize U.bare s = b at hB hb ⊢
 refine ⟨hl, ⟨hB, ?_⟩, ?_⟩
 ·unfold U.Eh U.Ei
  by_cases hi : U.ni b >= 0
  ·rw [decide_eq_true hi]
   simp only [cond_true]
   rw [fJ (by omega) (by omega)]
   refine ⟨by omega, by omega, by omega, by omega, by omega, by omega, trivial, (_, _), rfl, ?_, rfl⟩
   rw [nY]; rfl
  ·rw [decide_eq_false hi]
   exact ⟨(_, _), rfl, rfl, rfl⟩
 ·rintro ⟨r, nm⟩ ⟨hr, hnm⟩
  dsimp only at hr hnm ⊢
  rw [<- hr, <- hnm]
  have hnl : nm.length <= 1000000000 := by
   rw [hnm]; unfold U.Ei
   cases decide (U.ni b >= 0)
   ·rw [cond_false]; simp
   ·rw [cond_true, List.length_take]; omega
  have hrl : r.length <= 1000000000 := by
   rw [hr]; unfold U.Eh U.sJ
   by_cases h2 : U.ni b >= 0
   ·rw [decide_eq_true h2, cond_true]
    cases decide (aO (b.drop (U.ni b + 1).toNat) 62 >= 0)
    ·rw [cond_false, List.length_drop]; omega
    ·rw [cond_true, List.length_take, List.length_drop]; omega
   ·rw [decide_eq_false h2, cond_false]; exact hB
  have htl := CB r
  generalize U.trimB r = t at htl ⊢
  have hlb := PK t 64
  unfold U.addrOf
  refine ⟨rfl, hnl, ?_⟩
  by_cases hi : U.lastB t 64 >= 0
  ·rw [decide_eq_true hi]
   simp only [cond_true]
   rw [fJ (by omega) (by omega)]
   refine ⟨by omega, by omega, by omega, by omega, by omega, by omega, trivial, rfl, ?_, trivial⟩
   rw [nY]
  ·rw [decide_eq_false hi]
   exact ⟨rfl, rfl, rfl, trivial⟩
end Go.Proofs.YtlmkekoenfelcaaDoor
set_option linter.unusedSimpArgs false
set_option maxRecDepth 100000
set_option linter.unusedVariables false
namespace Go.Proofs.YtlmkekoenfelcaaDoor
open Go.Vc
theorem KT (x : aU [.str]) : iL Tryd.prog (dS kY) (Bl x) 18 (fC [.str] x) [] (oK x) = sQ x := by kernel_rfl
theorem KU : Pok 18 [.str] (fun x => oK x) := by
 refine pk (L := fun x => Bl x) (l := kY) vY (fun _ => rfl) ?_
 intro x hv hp
 rw [KT]
 exact JH x hv (hp (List.length x <= 1000000000) (by simp [oK]))
theorem KW : dZ Tryd.prog gl 18 Bj := KU
theorem zN : dh oL := .cons KW vY
theorem JO (x : aU [.str]) : iL Tryd.prog (dS oL) (zJ x) 19 (fC [.str] x) [] (nC x) = qm x := by kernel_rfl
theorem JQ : Pok 19 [.str] (fun x => nC x) := by
 refine pk (L := fun x => zJ x) (l := oL) zN (fun _ => rfl) ?_
 intro x hv hp
 rw [JO]
 exact GZ x hv (hp (List.length x <= 1000000000) (by simp [nC]))
theorem JR : dZ Tryd.prog gl 19 zI := JQ
theorem yh : dh nD := .cons JR zN
theorem KX (x : aU [.str]) : iL Tryd.prog (dS nD) (Bq x) 11 (fC [.str] x) [] (oM x) = sU x := by kernel_rfl
theorem KY : Pok 11 [.str] (fun x => oM x) := by
 refine pk (L := fun x => Bq x) (l := nD) yh (fun _ => rfl) ?_
 intro x hv hp
 rw [KX]
 exact JL x hv (hp (List.length x <= 1000000000) (by simp [oM]))
theorem KZ : dZ Tryd.prog gl 11 Bo := KY
theorem zO : dh oN := .cons KZ yh
theorem JU (x : aU [.str]) : iL Tryd.prog (dS oN) (zL x) 12 (fC [.str] x) [] (nG x) = qo x := by kernel_rfl
theorem JV : Pok 12 [.str] (fun x => nG x) := by
 refine pk (L := fun x => zL x) (l := oN) zO (fun _ => rfl) ?_
 intro x hv hp
 rw [JU]
 exact G5 x hv (hp (List.length x <= 1000000000) (by simp [nG]))
theorem JW : dZ Tryd.prog gl 12 zK := JV
theorem yj : dh nH := .cons JW zO
theorem NR (x : aU [.str]) : iL Tryd.prog (dS nH) (Ep x) 13 (fC [.str] x) [] (qJ x) = uU x := by kernel_rfl
theorem NS : Pok 13 [.str] (fun x => qJ x) := by
 refine pk (L := fun x => Ep x) (l := nH) yj (fun _ => rfl) ?_
 intro x hv hp
 rw [NR]
 exact KR x hv (hp (List.length x <= 1000000000) (by simp [qJ]))
theorem NT : dZ Tryd.prog gl 13 Eo := NS
theorem BA : dh qK := .cons NT yj
theorem G6 (x : aU [.str]) : iL Tryd.prog (dS qK) (yg x) 26 (fC [.str] x) [] (kZ x) = ou x := by kernel_rfl
theorem G7 : Pok 26 [.str] (fun x => kZ x) := by
 refine pk (L := fun x => yg x) (l := qK) BA (fun _ => rfl) ?_
 intro x hv hp
 rw [G6]
 exact Fz x hv (hp (List.length x <= 1000000000) (by simp [kZ]))
theorem G8 : dZ Tryd.prog gl 26 x9 := G7
theorem wo : dh lg := .cons G8 BA
theorem NU (x : aU [Ec, .int .u8]) : iL Tryd.prog (dS lg) (Et x.1 x.2) 24 (fC [Ec, .int .u8] x) [] (xM x.1 x.2) = uV x.1 x.2 := by kernel_rfl
theorem NV : Pok 24 [Ec, .int .u8] (fun x => xM x.1 x.2) := by
 refine pk (L := fun x => Et x.1 x.2) (l := lg) wo (fun _ => rfl) ?_
 intro x hv hp
 rw [NU]
 exact KQ x.1 x.2 hv.1.2
theorem NW : dZ Tryd.prog gl 24 Es := NV
theorem BD : dh qL := .cons NW wo
theorem OU (x : aU [.str]) : iL Tryd.prog (dS qL) (Gl x) 15 (fC [.str] x) [] (uz x) = xO x := by kernel_rfl
theorem OV : Pok 15 [.str] (fun x => uz x) := by
 refine pk (L := fun x => Gl x) (l := qL) BD (fun _ => rfl) ?_
 intro x hv hp
 rw [OU]
 exact NQ x hv (hp (List.length x <= 1000000000) (by simp [uz]))
theorem OW : dZ Tryd.prog gl 15 Gj := OV
theorem Ew : dh uD := .cons OW BD
theorem La (x : aU [.str]) : iL Tryd.prog (dS uD) (Bz x) 8 (fC [.str] x) [] (oO x) = sV x := by kernel_rfl
theorem Lc : Pok 8 [.str] (fun x => oO x) := by
 refine pk (L := fun x => Bz x) (l := uD) Ew (fun _ => rfl) ?_
 intro x hv hp
 rw [La]
 exact JM x hv (hp (List.length x <= 1000000000) (by simp [oO]))
theorem Ld : dZ Tryd.prog gl 8 Bv := Lc
theorem zQ : dh oP := .cons Ld Ew
end Go.Proofs.YtlmkekoenfelcaaDoor
