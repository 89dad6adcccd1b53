/- What is owed of the functions, proved in plain Lean. -/
import Derived.Test.YtlmkekoenfelcaaDoorRC
import Derived.Test.YtlmkekoenfelcaaDoorRB
set_option linter.unusedSimpArgs false
set_option linter.unusedVariables false
set_option maxRecDepth 100000
namespace Go.Proofs.YtlmkekoenfelcaaDoor
open Go.Vc
open Go.Vc.T
theorem Eb : ∀ (l : List Int) (s : St), (U.runs s l).length = l.length
 | [], _ => rfl
 | _ :: l, _ => congrArg (· + 1) (Eb l _)
theorem aN (s : List Int) : (U.sorts s).length = s.length := Eb s _
theorem wB (s : List Int) : (U.kinds s).length = s.length := by unfold U.kinds; rw [List.length_map, aN]
theorem LV {l : List Int} {i : Int} {v : Int} (i0 : 0 <= i) (hi : i < l.length) : (l.set i.toNat v).take (i + 1).toNat = l.take i.toNat ++ [v] := by
 rw [take_at i0 (by rw [List.length_set]; exact hi), List.take_set_of_le (Nat.le_refl _), List.getElem_set_self]
theorem LW (s : List Int) (hv : Valid .str s) (hl : s.length <= 1000000000) : uP s := by
 unfold uP
 refine ⟨by omega, by omega, by show (s.length : Int) * 1 <= _; omega, by omega, (0, 0, false, List.replicate s.length 0, 0), ⟨rfl, ⟨Int.le_refl 0, by show (0 : Int) <= _; omega⟩, by show U.Hg 0 0 0; exact ⟨by omega, by omega, by omega, by omega, by omega⟩, List.length_replicate .., rfl⟩, ?_⟩
 rintro ⟨k, d, q, l, i⟩ ⟨⟨i0, i1⟩, ⟨k0, k3, d0, d1, kd⟩, hll, hI⟩
 dsimp only at i0 i1 k0 k3 d0 d1 kd hll hI ⊢
 rw [cond_prop]
 refine ⟨fun hi => ?_, fun hi => ?_⟩
 ·have hi : i < s.length := of_decide_eq_true hi
  refine ⟨i0, hi, ?_⟩
  rw [getD_at (by omega : i.toNat < s.length), cZ (a := i) (by omega) (by omega), cZ (a := d) (by omega) (by omega), oD (a := d) (by omega) (by omega)]
  rw [drop_at i0 hi] at hI
  generalize s[i.toNat] = c at hI ⊢
  have leaf : ∀ (k' d' : Int) (q' : Bool) (v : Int), U.scan (k, d, q) c = ((k', d', q'), v) -> U.Hg k' d' (i + 1) -> 0 <= i /\ i < (l.length : Int) /\ i.toNat < l.length /\ ∃ (y : Int × Int × Bool × List Int × Int), U.aF s k' d' q' (l.set i.toNat v) (i + 1) = U.aF s y.1 y.2.1 y.2.2.1 y.2.2.2.1 y.2.2.2.2 /\ U.bf s y.1 y.2.1 y.2.2.1 y.2.2.2.1 y.2.2.2.2 /\ s.length.sub y.2.2.2.2.toNat < s.length.sub i.toNat := by
   intro k' d' q' v hs ho
   refine ⟨i0, by omega, by omega, (k', d', q', l.set i.toNat v, i + 1), rfl, ⟨⟨by show 0 <= i + 1; omega, by show i + 1 <= _; omega⟩, ho, by show (l.set _ _).length = _; rw [List.length_set]; exact hll, ?_⟩, by simp only [aY]; omega⟩
   show (l.set i.toNat v).take (i + 1).toNat ++ U.runs (k', d', q') _ = _
   rw [LV i0 (by omega), List.append_assoc, <- hI]
   show _ = _ ++ ((U.scan (k, d, q) c).2 :: U.runs (U.scan (k, d, q) c).1 _)
   rw [hs]; rfl
  simp only [ji]
  by_cases h0 : k = 0
  ·subst h0
   rw [decide_eq_true (rfl : (0 : Int) = 0), cond_true]
   by_cases h1 : c = 34
   ·rw [decide_eq_true h1, cond_true]; exact leaf 1 d q 1 (by subst h1; rfl) ⟨by omega, by omega, d0, by omega, by omega⟩
   rw [decide_eq_false h1, cond_false]
   by_cases h2 : c = 40
   ·rw [decide_eq_true h2, cond_true]; exact leaf 2 1 q 2 (by subst h2; rfl) ⟨by omega, by omega, by omega, by omega, by omega⟩
   rw [decide_eq_false h2, cond_false]
   by_cases h3 : c = 60
   ·rw [decide_eq_true h3, cond_true]; exact leaf 3 d q 3 (by subst h3; rfl) ⟨by omega, by omega, d0, by omega, by omega⟩
   rw [decide_eq_false h3, cond_false]
   exact leaf 0 d q 0 (by simp [U.scan, U.opens, h1, h2, h3]) ⟨by omega, by omega, d0, by omega, by omega⟩
  rw [decide_eq_false h0, cond_false]
  by_cases h3 : k = 3
  ·subst h3
   rw [decide_eq_true (rfl : (3 : Int) = 3), cond_true]
   by_cases h1 : c = 62
   ·rw [decide_eq_true h1, cond_true]; exact leaf 0 d q 3 (by simp [U.scan, h1]) ⟨by omega, by omega, d0, by omega, by omega⟩
   rw [decide_eq_false h1, cond_false]; exact leaf 3 d q 3 (by simp [U.scan, h1]) ⟨by omega, by omega, d0, by omega, by omega⟩
  rw [decide_eq_false h3, cond_false]
  cases q with
  | true => exact leaf k d false k (by simp [U.scan, h0, h3]) ⟨k0, k3, d0, by omega, kd⟩
  | false =>
    rw [cond_false]
    by_cases h4 : c = 92
    ·rw [decide_eq_true h4, cond_true]; exact leaf k d true k (by simp [U.scan, h0, h3, h4]) ⟨k0, k3, d0, by omega, kd⟩
    rw [decide_eq_false h4, cond_false]
    by_cases h1 : k = 1
    ·subst h1
     rw [show decide ((1 : Int) = 1) = true from rfl, show decide ((1 : Int) = 2) = false from rfl]
     simp only [Bool.true_and, Bool.false_and, cond_false]
     by_cases h5 : c = 34
     ·rw [decide_eq_true h5, cond_true]; exact leaf 0 d false 1 (by simp [U.scan, h5]) ⟨by omega, by omega, d0, by omega, by omega⟩
     ·rw [decide_eq_false h5, cond_false]; exact leaf 1 d false 1 (by simp [U.scan, h4, h5]) ⟨by omega, by omega, d0, by omega, by omega⟩
    ·have h2 : k = 2 := by omega
     have hd := kd h2
     subst h2
     rw [show decide ((2 : Int) = 2) = true from rfl, show decide ((2 : Int) = 1) = false from rfl]
     simp only [Bool.true_and, Bool.false_and, cond_false]
     by_cases h5 : c = 40
     ·rw [decide_eq_true h5, cond_true]; exact leaf 2 (d + 1) false 2 (by simp [U.scan, h5]) ⟨by omega, by omega, by omega, by omega, by omega⟩
     rw [decide_eq_false h5, cond_false]
     by_cases h6 : c = 41
     ·rw [decide_eq_true h6, cond_true]
      by_cases h7 : d - 1 = 0
      ·rw [decide_eq_true h7, cond_true]; exact leaf 0 (d - 1) false 2 (by simp [U.scan, h6, h7]) ⟨by omega, by omega, by omega, by omega, by omega⟩
      ·rw [decide_eq_false h7, cond_false]; exact leaf 2 (d - 1) false 2 (by simp [U.scan, h6, h7]) ⟨by omega, by omega, by omega, by omega, by omega⟩
     ·rw [decide_eq_false h6, cond_false]; exact leaf 2 d false 2 (by simp [U.scan, h4, h5, h6]) ⟨by omega, by omega, d0, by omega, by omega⟩
 ·have hi : ¬ i < s.length := of_decide_eq_false hi
  rw [drop_end (by omega), mJ (by omega)] at hI
  have hI : l ++ [] = _ := hI
  rw [List.append_nil] at hI
  exact ⟨hI, trivial⟩
theorem NQ (l : List Int) (c : Int) (hl : l.length <= maxLen) : wS l c := by
 unfold wS
 rw [maxLen_eq] at hl
 refine ⟨0, ⟨rfl, ⟨Int.le_refl 0, by omega⟩, ?_⟩, ?_⟩
 ·show aG l c = if aG (l.drop 0) c = -1 then -1 else 0 + aG (l.drop 0) c
  rw [List.drop_zero]; split
  ·assumption
  ·omega
 rintro i ⟨⟨i0, i1⟩, hI⟩
 rw [cond_prop]
 refine ⟨fun hi => ?_, fun hi => ?_⟩
 ·have hi : i < l.length := of_decide_eq_true hi
  rw [getD_at (by omega : i.toNat < l.length)]
  rw [drop_at i0 hi, pJ] at hI
  refine ⟨i0, hi, ?_⟩
  by_cases hx : c = l[i.toNat]
  ·rw [decide_eq_true hx, cond_true]
   have he : (if l[i.toNat] = c then (0 : Int) else if aG (List.drop (i + 1).toNat l) c = -1 then -1 else aG (List.drop (i + 1).toNat l) c + 1) = 0 := if_pos hx.symm
   rw [he, if_neg (by omega)] at hI
   exact ⟨by omega, trivial⟩
  ·rw [decide_eq_false hx, cond_false, cZ (by omega) (by omega)]
   have he : (if l[i.toNat] = c then (0 : Int) else if aG (List.drop (i + 1).toNat l) c = -1 then -1 else aG (List.drop (i + 1).toNat l) c + 1) = if aG (List.drop (i + 1).toNat l) c = -1 then -1 else aG (List.drop (i + 1).toNat l) c + 1 := if_neg (fun h => hx h.symm)
   rw [he] at hI
   refine ⟨i + 1, rfl, ⟨⟨by omega, by omega⟩, ?_⟩, by simp only [aY]; omega⟩
   have hb := eG (l.drop (i + 1).toNat) c
   rw [hI]
   generalize aG (List.drop (i + 1).toNat l) c = N at hb ⊢
   by_cases hn : N = -1
   ·rw [if_pos hn, if_pos rfl, if_pos hn]
   ·rw [if_neg hn, if_neg (by omega), if_neg hn]; omega
 ·have hi : ¬ i < l.length := of_decide_eq_false hi
  rw [drop_end (by omega)] at hI
  exact ⟨hI.symm, trivial⟩
theorem Jm (s : List Int) (hv : Valid .str s) (hl : s.length <= 1000000000) : rE s := by
 unfold rE
 refine ⟨by omega, by omega, by show (s.length : Int) * 1 <= _; omega, by omega, (0, 0, false, List.replicate s.length 0, 0), ⟨rfl, ⟨Int.le_refl 0, by show (0 : Int) <= _; omega⟩, by show U.Hg 0 0 0; exact ⟨by omega, by omega, by omega, by omega, by omega⟩, List.length_replicate .., rfl⟩, ?_⟩
 rintro ⟨k, d, q, l, i⟩ ⟨⟨i0, i1⟩, ⟨k0, k3, d0, d1, kd⟩, hll, hI⟩
 dsimp only at i0 i1 k0 k3 d0 d1 kd hll hI ⊢
 rw [cond_prop]
 refine ⟨fun hi => ?_, fun hi => ?_⟩
 ·have hi : i < s.length := of_decide_eq_true hi
  refine ⟨i0, hi, ?_⟩
  rw [getD_at (by omega : i.toNat < s.length), cZ (a := i) (by omega) (by omega), cZ (a := d) (by omega) (by omega), oD (a := d) (by omega) (by omega)]
  rw [drop_at i0 hi] at hI
  generalize s[i.toNat] = c at hI ⊢
  have leaf : ∀ (k' d' : Int) (q' : Bool) (v : Int), U.scan (k, d, q) c = ((k', d', q'), v) -> U.Hg k' d' (i + 1) -> ∃ (y : Int × Int × Bool × List Int × Int), U.aC s k' d' q' (l.set i.toNat (U.kb v)) (i + 1) = U.aC s y.1 y.2.1 y.2.2.1 y.2.2.2.1 y.2.2.2.2 /\ U.aS s y.1 y.2.1 y.2.2.1 y.2.2.2.1 y.2.2.2.2 /\ s.length.sub y.2.2.2.2.toNat < s.length.sub i.toNat := by
   intro k' d' q' v hs ho
   refine ⟨(k', d', q', l.set i.toNat (U.kb v), i + 1), rfl, ⟨⟨by show 0 <= i + 1; omega, by show i + 1 <= _; omega⟩, ho, by show (l.set _ _).length = _; rw [List.length_set]; exact hll, ?_⟩, by simp only [aY]; omega⟩
   show (l.set i.toNat (U.kb v)).take (i + 1).toNat ++ (U.runs (k', d', q') _).map U.kb = _
   rw [LV i0 (by omega), List.append_assoc, <- hI]
   show _ = _ ++ ((U.scan (k, d, q) c).2 :: U.runs (U.scan (k, d, q) c).1 _).map U.kb
   rw [hs]; rfl
  have hb : 0 <= i /\ i < (l.length : Int) /\ i.toNat < l.length := ⟨i0, by omega, by omega⟩
  have h4 : k = 0 ∨ k = 1 ∨ k = 2 ∨ k = 3 := by omega
  rcases h4 with rfl | rfl | rfl | rfl
  ·rw [show decide (U.kb 0 = 112) = true from rfl, cond_true]
   by_cases h1 : c = 34
   ·rw [decide_eq_true h1, cond_true]; exact ⟨hb.1, hb.2.1, hb.2.2, leaf 1 d q 1 (by subst h1; rfl) ⟨by omega, by omega, d0, by omega, by omega⟩⟩
   rw [decide_eq_false h1, cond_false]
   by_cases h2 : c = 40
   ·rw [decide_eq_true h2, cond_true]; exact ⟨hb.1, hb.2.1, hb.2.2, leaf 2 1 q 2 (by subst h2; rfl) ⟨by omega, by omega, by omega, by omega, by omega⟩⟩
   rw [decide_eq_false h2, cond_false]
   by_cases h3 : c = 60
   ·rw [decide_eq_true h3, cond_true]; exact ⟨hb.1, hb.2.1, hb.2.2, leaf 3 d q 3 (by subst h3; rfl) ⟨by omega, by omega, d0, by omega, by omega⟩⟩
   rw [decide_eq_false h3, cond_false]
   exact ⟨hb.1, hb.2.1, hb.2.2, leaf 0 d q 0 (by simp [U.scan, U.opens, h1, h2, h3]) ⟨by omega, by omega, d0, by omega, by omega⟩⟩
  ·rw [show decide (U.kb 1 = 112) = false from rfl, cond_false, show decide (U.kb 1 = 113) = true from rfl, cond_true]
   refine ⟨hb.1, hb.2.1, hb.2.2, ?_⟩
   cases q with
   | true => exact leaf 1 d false 1 (by simp [U.scan]) ⟨by omega, by omega, d0, by omega, by omega⟩
   | false =>
     rw [cond_false]
     by_cases h4 : c = 92
     ·rw [decide_eq_true h4, cond_true]; exact leaf 1 d true 1 (by simp [U.scan, h4]) ⟨by omega, by omega, d0, by omega, by omega⟩
     rw [decide_eq_false h4, cond_false]
     by_cases h5 : c = 34
     ·rw [decide_eq_true h5, cond_true]; exact leaf 0 d false 1 (by simp [U.scan, h5]) ⟨by omega, by omega, d0, by omega, by omega⟩
     ·rw [decide_eq_false h5, cond_false]; exact leaf 1 d false 1 (by simp [U.scan, h4, h5]) ⟨by omega, by omega, d0, by omega, by omega⟩
  ·have hd := kd rfl
   rw [show decide (U.kb 2 = 112) = false from rfl, cond_false, show decide (U.kb 2 = 113) = false from rfl, cond_false, show decide (U.kb 2 = 99) = true from rfl, cond_true]
   refine ⟨hb.1, hb.2.1, hb.2.2, ?_⟩
   cases q with
   | true => exact leaf 2 d false 2 (by simp [U.scan]) ⟨by omega, by omega, d0, by omega, by omega⟩
   | false =>
     rw [cond_false]
     by_cases h4 : c = 92
     ·rw [decide_eq_true h4, cond_true]; exact leaf 2 d true 2 (by simp [U.scan, h4]) ⟨by omega, by omega, d0, by omega, by omega⟩
     rw [decide_eq_false h4, cond_false]
     by_cases h5 : c = 40
     ·rw [decide_eq_true h5, cond_true]; exact leaf 2 (d + 1) false 2 (by simp [U.scan, h5]) ⟨by omega, by omega, by omega, by omega, by omega⟩
     rw [decide_eq_false h5, cond_false]
     by_cases h6 : c = 41
     ·rw [decide_eq_true h6, cond_true]
      by_cases h7 : d - 1 = 0
      ·rw [decide_eq_true h7, cond_true]; exact leaf 0 (d - 1) false 2 (by simp [U.scan, h6, h7]) ⟨by omega, by omega, by omega, by omega, by omega⟩
      ·rw [decide_eq_false h7, cond_false]; exact leaf 2 (d - 1) false 2 (by simp [U.scan, h6, h7]) ⟨by omega, by omega, by omega, by omega, by omega⟩
     ·rw [decide_eq_false h6, cond_false]; exact leaf 2 d false 2 (by simp [U.scan, h4, h5, h6]) ⟨by omega, by omega, d0, by omega, by omega⟩
  ·rw [show decide (U.kb 3 = 112) = false from rfl, cond_false, show decide (U.kb 3 = 113) = false from rfl, cond_false, show decide (U.kb 3 = 99) = false from rfl, cond_false]
   refine ⟨hb.1, hb.2.1, hb.2.2, ?_⟩
   by_cases h1 : c = 62
   ·rw [decide_eq_true h1, cond_true]; exact leaf 0 d q 3 (by simp [U.scan, h1]) ⟨by omega, by omega, d0, by omega, by omega⟩
   rw [decide_eq_false h1, cond_false]; exact leaf 3 d q 3 (by simp [U.scan, h1]) ⟨by omega, by omega, d0, by omega, by omega⟩
 ·have hi : ¬ i < s.length := of_decide_eq_false hi
  rw [drop_end (by omega), mJ (by omega)] at hI
  have hI : l ++ [] = _ := hI
  rw [List.append_nil] at hI
  exact ⟨hI, trivial⟩
theorem LX : ∀ (l : List Int) (s : St), 0 <= s.1 -> s.1 <= 3 -> ∀ x ∈ U.runs s l, 0 <= x /\ x <= 3
 | [], _, _, _, x, hx => by cases hx
 | c :: l, (k, d, q), h0, h3, x, hx => by
   have hop : 0 <= U.opens c /\ U.opens c <= 3 := by
    unfold U.opens
    cases decide (c = 34) <;> cases decide (c = 40) <;> cases decide (c = 60) <;> simp [cond]
   have key : (0 <= (U.scan (k, d, q) c).2 /\ (U.scan (k, d, q) c).2 <= 3) /\ 0 <= (U.scan (k, d, q) c).1.1 /\ (U.scan (k, d, q) c).1.1 <= 3 := by
    dsimp only at h0 h3
    unfold U.scan
    dsimp only
    generalize U.opens c = o at hop
    cases decide (k = 0) <;> cases decide (k = 3) <;> cases q <;> cases decide (c = 92) <;> cases decide (k = 1) <;> cases decide (c = 34) <;> cases decide (c = 40) <;> cases decide (c = 41) <;> cases decide (c = 62) <;> cases decide (d - 1 = 0) <;> simp only [cond] <;> omega
   rcases List.mem_cons.1 hx with rfl | hx
   ·exact key.1
   ·exact LX l _ key.2.1 key.2.2 x hx
theorem Qc {k : Int} (h0 : 0 <= k) (h3 : k <= 3) : (U.kb k = 112 ↔ k = 0) /\ (U.kb k = 113 ↔ k = 1) /\ (U.kb k = 99 ↔ k = 2) := by
 have h4 : k = 0 ∨ k = 1 ∨ k = 2 ∨ k = 3 := by omega
 rcases h4 with rfl | rfl | rfl | rfl <;> decide
theorem H6 (s : List Int) {i : Nat} (hi : i < (U.sorts s).length) : 0 <= (U.sorts s)[i] /\ (U.sorts s)[i] <= 3 := LX s (0, 0, false) (Int.le_refl 0) (by decide) _ (List.getElem_mem hi)
theorem Ec (s : List Int) {i : Nat} (hi : i < s.length) : (U.kinds s).getD i 0 = U.kb ((U.sorts s)[i]'(by rw [aN]; exact hi)) := by
 rw [getD_at (by rw [wB]; exact hi)]; unfold U.kinds; rw [List.getElem_map]
theorem Qd {s : List Int} {i : Int} (i0 : 0 <= i) (hi : i < s.length) : (U.sorts s).drop i.toNat = (U.sorts s)[i.toNat]'(by rw [aN]; omega) :: (U.sorts s).drop (i + 1).toNat := drop_at i0 (by rw [aN]; exact hi)
theorem IK {s : List Int} {i : Int} (cur : List Int) (i0 : 0 <= i) (hi : i < s.length) : U.dU (s.drop i.toNat) ((U.sorts s).drop i.toNat) cur =
 cond (decide ((U.sorts s)[i.toNat]'(by rw [aN]; omega) = 0) && decide (s[i.toNat] = 44)) (cur :: U.dU (s.drop (i + 1).toNat) ((U.sorts s).drop (i + 1).toNat) []) (U.dU (s.drop (i + 1).toNat) ((U.sorts s).drop (i + 1).toNat) (cur ++ [s[i.toNat]])) := by
 rw [drop_at i0 hi, Qd i0 hi]; rfl
theorem Gf {s : List Int} {i : Int} (cur : List Int) (hi : (s.length : Int) <= i) : U.dU (s.drop i.toNat) ((U.sorts s).drop i.toNat) cur = [cur] := by
 rw [drop_end hi]; rfl
theorem LY {s : List Int} {fr i : Int} (f0 : 0 <= fr) (hf : fr <= i) (hi : i < s.length) : (s.drop fr.toNat).take ((i + 1).toNat - fr.toNat) = (s.drop fr.toNat).take (i.toNat - fr.toNat) ++ [s[i.toNat]] := by
 have h1 : i.toNat - fr.toNat < (s.drop fr.toNat).length := by rw [List.length_drop]; omega
 rw [show (i + 1).toNat - fr.toNat = (i.toNat - fr.toNat) + 1 by omega, List.take_succ_eq_append_getElem h1, List.getElem_drop]
 congr 3; omega
theorem LZ {s : List Int} {i : Int} : (s.drop i.toNat).take (i.toNat - i.toNat) = [] := by rw [Nat.sub_self, List.take_zero]
theorem L6 {s : List Int} {i : Int} (i0 : 0 <= i) (hi : i < s.length) : U.noC (s.drop i.toNat) ((U.sorts s).drop i.toNat) =
 cond (decide ((U.sorts s)[i.toNat]'(by rw [aN]; omega) = 2)) (U.noC (s.drop (i + 1).toNat) ((U.sorts s).drop (i + 1).toNat)) (s[i.toNat] :: U.noC (s.drop (i + 1).toNat) ((U.sorts s).drop (i + 1).toNat)) := by
 rw [drop_at i0 hi, Qd i0 hi]; rfl
theorem H7 {s : List Int} {i : Int} (hi : (s.length : Int) <= i) : U.noC (s.drop i.toNat) ((U.sorts s).drop i.toNat) = [] := by
 rw [drop_end hi]; rfl
theorem L8 (s : List Int) (hv : Valid .str s) (hl : s.length <= 1000000000) : uQ s := by
 unfold uQ
 refine ⟨hl, ([], 0, 0), ⟨rfl, ⟨Int.le_refl 0, by show (0 : Int) <= _; omega⟩, Int.le_refl 0, Int.le_refl 0, Int.le_refl 0, rfl⟩, ?_⟩
 rintro ⟨l, fr, i⟩ ⟨⟨i0, i1⟩, f0, f1, hll, hI⟩
 dsimp only at i0 i1 f0 f1 hll hI ⊢
 rw [aN, cond_prop]
 refine ⟨fun hi => ?_, fun hi => ?_⟩
 ·have hi : i < s.length := of_decide_eq_true hi
  rw [IK _ i0 hi] at hI
  rw [getD_at (by omega : i.toNat < s.length), getD_at (by rw [aN]; omega : i.toNat < (U.sorts s).length), cZ (by omega) (by omega)]
  refine ⟨i0, hi, fun _ => i0, fun _ => hi, ?_⟩
  rw [ji]
  cases hc : (decide ((U.sorts s)[i.toNat]'(by rw [aN]; omega) = 0) && decide (s[i.toNat] = 44)) with
  | true =>
    rw [hc, cond_true] at hI
    refine ⟨f0, f1, by omega, by simp only [dn, nK]; omega, by simp only [dn, maxLen_eq]; omega, (l ++ [(s.drop fr.toNat).take (i.toNat - fr.toNat)], i + 1, i + 1), rfl, ⟨⟨by show 0 <= i + 1; omega, by show i + 1 <= _; omega⟩, by show 0 <= i + 1; omega, Int.le_refl _, by show ((l ++ [_]).length : Int) <= i + 1; rw [List.length_append]; show ((l.length + 1 : Nat) : Int) <= _; omega, ?_⟩, by simp only [aY]; omega⟩
    show l ++ [_] ++ U.dU _ _ ((s.drop (i + 1).toNat).take ((i + 1).toNat - (i + 1).toNat)) = _
    rw [LZ, List.append_assoc]; exact hI
  | false =>
    rw [hc, cond_false] at hI
    refine ⟨(l, fr, i + 1), rfl, ⟨⟨by show 0 <= i + 1; omega, by show i + 1 <= _; omega⟩, f0, by show fr <= i + 1; omega, by show (l.length : Int) <= i + 1; omega, ?_⟩, by simp only [aY]; omega⟩
    show l ++ U.dU _ _ ((s.drop fr.toNat).take ((i + 1).toNat - fr.toNat)) = _
    rw [LY f0 f1 hi]; exact hI
 ·have hi : ¬ i < s.length := of_decide_eq_false hi
  rw [Gf _ (by omega)] at hI
  refine ⟨f0, by omega, by omega, by simp only [dn, nK]; omega, by simp only [dn, maxLen_eq]; omega, ?_, trivial⟩
  rw [jP]
  rw [List.take_of_length_le (by rw [List.length_drop]; omega)] at hI
  exact hI
theorem Jo (s : List Int) (hv : Valid .str s) (hl : s.length <= 1000000000) : rF s := by
 unfold rF
 refine ⟨hl, ([], 0, 0), ⟨rfl, ⟨Int.le_refl 0, by show (0 : Int) <= _; omega⟩, Int.le_refl 0, Int.le_refl 0, Int.le_refl 0, rfl⟩, ?_⟩
 rintro ⟨l, fr, i⟩ ⟨⟨i0, i1⟩, f0, f1, hll, hI⟩
 dsimp only at i0 i1 f0 f1 hll hI ⊢
 rw [wB, cond_prop]
 refine ⟨fun hi => ?_, fun hi => ?_⟩
 ·have hi : i < s.length := of_decide_eq_true hi
  rw [IK _ i0 hi] at hI
  have hb := H6 s (by rw [aN]; omega : i.toNat < (U.sorts s).length)
  rw [getD_at (by omega : i.toNat < s.length), Ec s (by omega), cZ (by omega) (by omega)]
  refine ⟨i0, hi, fun _ => i0, fun _ => hi, ?_⟩
  rw [ji, show decide (U.kb ((U.sorts s)[i.toNat]'(by rw [aN]; omega)) = 112) = decide ((U.sorts s)[i.toNat]'(by rw [aN]; omega) = 0) from decide_eq_decide.2 (Qc hb.1 hb.2).1, Bool.and_comm]
  cases hc : (decide ((U.sorts s)[i.toNat]'(by rw [aN]; omega) = 0) && decide (s[i.toNat] = 44)) with
  | true =>
    rw [hc, cond_true] at hI
    refine ⟨f0, f1, by omega, by simp only [dn, nK]; omega, by simp only [dn, maxLen_eq]; omega, (l ++ [(s.drop fr.toNat).take (i.toNat - fr.toNat)], i + 1, i + 1), rfl, ⟨⟨by show 0 <= i + 1; omega, by show i + 1 <= _; omega⟩, by show 0 <= i + 1; omega, Int.le_refl _, by show ((l ++ [_]).length : Int) <= i + 1; rw [List.length_append]; show ((l.length + 1 : Nat) : Int) <= _; omega, ?_⟩, by simp only [aY]; omega⟩
    show l ++ [_] ++ U.dU _ _ ((s.drop (i + 1).toNat).take ((i + 1).toNat - (i + 1).toNat)) = _
    rw [LZ, List.append_assoc]; exact hI
  | false =>
    rw [hc, cond_false] at hI
    refine ⟨(l, fr, i + 1), rfl, ⟨⟨by show 0 <= i + 1; omega, by show i + 1 <= _; omega⟩, f0, by show fr <= i + 1; omega, by show (l.length : Int) <= i + 1; omega, ?_⟩, by simp only [aY]; omega⟩
    show l ++ U.dU _ _ ((s.drop fr.toNat).take ((i + 1).toNat - fr.toNat)) = _
    rw [LY f0 f1 hi]; exact hI
 ·have hi : ¬ i < s.length := of_decide_eq_false hi
  rw [Gf _ (by omega)] at hI
  refine ⟨f0, by omega, by omega, by simp only [dn, nK]; omega, by simp only [dn, maxLen_eq]; omega, ?_, trivial⟩
  rw [jP]
  rw [List.take_of_length_le (by rw [List.length_drop]; omega)] at hI
  exact hI
theorem NR (s : List Int) (hv : Valid .str s) (hl : s.length <= 1000000000) : wR s := by
 unfold wR
 refine ⟨hl, ([], 0), ⟨rfl, ⟨Int.le_refl 0, by show (0 : Int) <= _; omega⟩, Int.le_refl 0, rfl⟩, ?_, ?_⟩
 ·rintro i ⟨⟨i0, i1⟩, hol, hI⟩
  rw [aN, cond_prop]
  refine ⟨fun hi => ?_, fun hi => ?_⟩
  ·have hi : i < s.length := of_decide_eq_true hi
   rw [L6 i0 hi] at hI
   rw [getD_at (by omega : i.toNat < s.length), getD_at (by rw [aN]; omega : i.toNat < (U.sorts s).length), cZ (by omega) (by omega)]
   refine ⟨i0, hi, ?_⟩
   by_cases hc : (U.sorts s)[i.toNat]'(by rw [aN]; omega) = 2
   ·rw [decide_eq_true hc, cond_true] at hI
    rw [show ((U.sorts s)[i.toNat]'(by rw [aN]; omega) != 2) = false by rw [hc]; rfl, cond_false]
    exact ⟨([], i + 1), (by have e : ((s.length : Nat) : Int) = (U.sorts s).length := (congrArg Int.ofNat (aN s)).symm; generalize s[i.toNat] = z; rw [e]; rfl), ⟨⟨by show 0 <= i + 1; omega, by show i + 1 <= _; omega⟩, by show (0 : Int) <= i + 1; omega, hI⟩, by simp only [aY]; omega⟩
   ·rw [decide_eq_false hc, cond_false] at hI
    rw [show ((U.sorts s)[i.toNat]'(by rw [aN]; omega) != 2) = true from bne_iff_ne.2 hc, cond_true]
    exact ⟨i0, hi, by omega, by simp only [maxLen_eq]; omega, ([s[i.toNat]], i + 1), (by have e : ((s.length : Nat) : Int) = (U.sorts s).length := (congrArg Int.ofNat (aN s)).symm; generalize s[i.toNat] = z; rw [e]; rfl), ⟨⟨by show 0 <= i + 1; omega, by show i + 1 <= _; omega⟩, by show (1 : Int) <= i + 1; omega, hI⟩, by simp only [aY]; omega⟩
  ·have hi : ¬ i < s.length := of_decide_eq_false hi
   rw [H7 (by omega)] at hI
   refine ⟨rfl, ?_, trivial⟩
   unfold U.bare; rw [<- hI]; rfl
 ·rintro c o i ⟨⟨i0, i1⟩, hol, hI⟩
  have hol : ((o.length + 1 : Nat) : Int) <= i := hol
  rw [aN, cond_prop]
  refine ⟨fun hi => ?_, fun hi => ?_⟩
  ·have hi : i < s.length := of_decide_eq_true hi
   rw [L6 i0 hi] at hI
   rw [getD_at (by omega : i.toNat < s.length), getD_at (by rw [aN]; omega : i.toNat < (U.sorts s).length), cZ (by omega) (by omega)]
   refine ⟨i0, hi, ?_⟩
   by_cases hc : (U.sorts s)[i.toNat]'(by rw [aN]; omega) = 2
   ·rw [decide_eq_true hc, cond_true] at hI
    rw [show ((U.sorts s)[i.toNat]'(by rw [aN]; omega) != 2) = false by rw [hc]; rfl, cond_false]
    exact ⟨(c :: o, i + 1), (by have e : ((s.length : Nat) : Int) = (U.sorts s).length := (congrArg Int.ofNat (aN s)).symm; generalize s[i.toNat] = z; rw [e]; rfl), ⟨⟨by show 0 <= i + 1; omega, by show i + 1 <= _; omega⟩, by show ((o.length + 1 : Nat) : Int) <= i + 1; omega, hI⟩, by simp only [aY]; omega⟩
   ·rw [decide_eq_false hc, cond_false] at hI
    rw [show ((U.sorts s)[i.toNat]'(by rw [aN]; omega) != 2) = true from bne_iff_ne.2 hc, cond_true]
    refine ⟨i0, hi, by simp only [dn, nK]; omega, by simp only [dn, maxLen_eq]; omega, (c :: (o ++ [s[i.toNat]]), i + 1), (by have e : ((s.length : Nat) : Int) = (U.sorts s).length := (congrArg Int.ofNat (aN s)).symm; generalize s[i.toNat] = z; rw [e]; rfl), ⟨⟨by show 0 <= i + 1; omega, by show i + 1 <= _; omega⟩, by show ((c :: (o ++ [s[i.toNat]])).length : Int) <= i + 1; rw [List.length_cons, List.length_append]; show ((o.length + 1 + 1 : Nat) : Int) <= _; omega, ?_⟩, by simp only [aY]; omega⟩
    show c :: (o ++ [s[i.toNat]]) ++ _ = _
    rw [<- hI]; simp
  ·have hi : ¬ i < s.length := of_decide_eq_false hi
   rw [H7 (by omega), List.append_nil] at hI
   refine ⟨by simp only [dn]; omega, rfl, ?_, trivial⟩
   unfold U.bare; rw [<- hI]
theorem L9 (s : List Int) (hv : Valid .str s) (hl : s.length <= 1000000000) : uT s := by
 unfold uT
 refine ⟨hl, ([], 0), ⟨rfl, ⟨Int.le_refl 0, by show (0 : Int) <= _; omega⟩, Int.le_refl 0, rfl⟩, ?_⟩
 rintro ⟨o, i⟩ ⟨⟨i0, i1⟩, hol, hI⟩
 dsimp only at i0 i1 hol hI ⊢
 rw [wB, cond_prop]
 refine ⟨fun hi => ?_, fun hi => ?_⟩
 ·have hi : i < s.length := of_decide_eq_true hi
  rw [L6 i0 hi] at hI
  have hb := H6 s (by rw [aN]; omega : i.toNat < (U.sorts s).length)
  rw [Ec s (by omega), cZ (by omega) (by omega)]
  refine ⟨i0, hi, ?_⟩
  have hcut : List.take ((i + 1).toNat.sub i.toNat) (List.drop i.toNat s) = [s[i.toNat]] := by
   rw [drop_at i0 hi, show (i + 1).toNat.sub i.toNat = 1 by rw [aY]; omega]; rfl
  rw [hcut]
  by_cases hc : (U.sorts s)[i.toNat]'(by rw [aN]; omega) = 2
  ·rw [decide_eq_true hc, cond_true] at hI
   rw [show (U.kb ((U.sorts s)[i.toNat]'(by rw [aN]; omega)) != 99) = false by rw [hc]; rfl, cond_false]
   exact ⟨(o, i + 1), rfl, ⟨⟨by show 0 <= i + 1; omega, by show i + 1 <= _; omega⟩, by show (o.length : Int) <= i + 1; omega, hI⟩, by simp only [aY]; omega⟩
  ·rw [decide_eq_false hc, cond_false] at hI
   rw [show (U.kb ((U.sorts s)[i.toNat]'(by rw [aN]; omega)) != 99) = true from bne_iff_ne.2 (fun h => hc ((Qc hb.1 hb.2).2.2.1 h)), cond_true]
   refine ⟨i0, by omega, by omega, by simp only [dn]; show o.length + 1 <= _; omega, (o ++ [s[i.toNat]], i + 1), rfl, ⟨⟨by show 0 <= i + 1; omega, by show i + 1 <= _; omega⟩, by show ((o ++ [_]).length : Int) <= i + 1; rw [List.length_append]; show ((o.length + 1 : Nat) : Int) <= _; omega, ?_⟩, by simp only [aY]; omega⟩
   show o ++ [_] ++ _ = _
   rw [List.append_assoc]; exact hI
 ·have hi : ¬ i < s.length := of_decide_eq_false hi
  rw [H7 (by omega), List.append_nil] at hI
  exact ⟨by unfold U.bare; rw [hI], trivial⟩
theorem Mc (l : List Int) (hl : l.length <= maxLen) : uS l := by
 unfold uS
 rw [maxLen_eq] at hl
 refine ⟨0, ⟨rfl, Nat.zero_le _, rfl⟩, ?_⟩
 rintro k ⟨hk, hI⟩
 have hL := mM l
 have hbl : ∀ c : Int, (bif decide (c = 32) then true else decide (c = 9)) = U.blank c := fun c => G9
 refine ⟨fun _ => by omega, fun h => of_decide_eq_true h, fun _ _ => by omega, fun h _ => of_decide_eq_true h, ?_⟩
 simp only [hbl]
 rw [ji, cond_prop]
 have hdl : (l.drop k).length = l.length - k := List.length_drop
 refine ⟨fun h => ?_, fun h => ?_⟩
 ·simp only [Bool.and_eq_true, decide_eq_true_eq] at h
  obtain ⟨h1, h2⟩ := h
  have hkl : k < l.length := by omega
  have hc : l.drop k = l[k] :: l.drop (k + 1) := List.drop_eq_getElem_cons hkl
  have hx : (l.drop k).getD 0 0 = l[k] := by rw [hc]; rfl
  rw [hx] at h2
  rw [hc, U.au, h2] at hI
  have hI : U.au (l.drop (k + 1)) + 1 + k = U.au l := hI
  refine ⟨by omega, by omega, by omega, k + 1, ?_, ⟨by omega, by omega⟩, by simp only [aY]; omega⟩
  rw [jP, List.drop_drop]; rfl
 ·have hz : U.au (l.drop k) = 0 := by
   cases hd : l.drop k with
   | nil => rfl
   | cons x r =>
     rw [hd] at h
     rw [decide_eq_true (by rw [List.length_cons]; omega : (((x :: r).length : Nat) : Int) > 0)] at h
     have h : U.blank x = false := h
     rw [U.au, h]; rfl
  have hk2 : k = U.au l := by omega
  subst hk2
  clear hI h hz hk hdl
  have hml : (l.drop (U.au l)).length = l.length - U.au l := List.length_drop
  have htl := yY (l.drop (U.au l))
  refine ⟨(l.drop (U.au l)).length, ⟨by unfold U.lq; rw [List.take_length], Nat.le_refl _, htl, by rw [List.take_length]⟩, ?_⟩
  rintro n ⟨h1, h2, h3⟩
  have hln : ((l.drop (U.au l)).take n).length = n := by rw [List.length_take]; omega
  rw [hln]
  by_cases hn : n = 0
  ·subst hn
   refine ⟨by simp, by simp, by simp, by simp, ?_⟩
   show ((l.drop (U.au l)).take 0) = U.trimB l /\ True
   rw [<- LM]
   unfold U.trimF
   rw [show U.aB (l.drop (U.au l)) = 0 by omega]; exact ⟨rfl, trivial⟩
  ·rw [oD (by omega) (by omega), show ((n : Int) - 1).toNat = n - 1 by omega]
   refine ⟨fun _ => by omega, fun _ => by omega, fun _ _ => by omega, fun _ _ => by omega, ?_⟩
   have ht : (l.drop (U.au l)).take n = (l.drop (U.au l)).take (n - 1) ++ [(l.drop (U.au l)).getD (n - 1) 0] := by
    have := List.take_succ_eq_append_getElem (l := l.drop (U.au l)) (i := n - 1) (by omega)
    rw [show n - 1 + 1 = n by omega] at this
    rw [this, getD_at (by omega)]
   have hx : ((l.drop (U.au l)).take n).getD (n - 1) 0 = (l.drop (U.au l)).getD (n - 1) 0 := by
    rw [getD_at (by omega), getD_at (by omega), List.getElem_take]
   have hs := FP ((l.drop (U.au l)).take (n - 1)) ((l.drop (U.au l)).getD (n - 1) 0)
   rw [<- ht, h3] at hs
   rw [hx, decide_eq_true (by omega : (n : Int) > 0)]
   cases hb : U.blank ((l.drop (U.au l)).getD (n - 1) 0) with
   | true =>
     rw [hb] at hs
     have hs : U.aB (l.drop (U.au l)) = U.aB ((l.drop (U.au l)).take (n - 1)) := hs
     have hle := yY ((l.drop (U.au l)).take (n - 1))
     rw [List.length_take] at hle
     refine ⟨by omega, by omega, by omega, n - 1, ?_, ⟨by omega, by omega, hs.symm⟩, by omega⟩
     rw [vV, List.take_take, Nat.min_eq_left (by omega)]; rfl
   | false =>
     rw [hb, List.length_take] at hs
     have hs : U.aB (l.drop (U.au l)) = min (n - 1) (l.drop (U.au l)).length + 1 := hs
     refine ⟨?_, trivial⟩
     rw [<- LM]
     unfold U.trimF
     congr 1; omega
theorem uV (s : List Int) : (U.trimB s).length <= s.length := by
 unfold U.trimB; rw [List.length_drop, List.length_take]; omega
theorem QX {m : List Int} {i : Int} (q : Bool) (i0 : 0 <= i) (hi : i < m.length) : U.unq q (m.drop i.toNat) = cond (decide (m[i.toNat] = 92) && !q) (U.unq true (m.drop (i + 1).toNat)) (m[i.toNat] :: U.unq false (m.drop (i + 1).toNat)) := by
 rw [drop_at i0 hi]; rfl
theorem last_at {T : List Int} (h : T.length <= 1000000000) : (IntKind.i64.wrap ((T.length : Int).sub 1)).toNat = T.length - 1 := by
 rw [oD (by omega) (by omega)]; omega
theorem IL {T : List Int} (h : T.length <= 1000000000) : (bif bif decide ((T.length : Int) < 2) then true else T.getD 0 0 != 34 then true else T.getD (IntKind.i64.wrap ((T.length : Int).sub 1)).toNat 0 != 34) = !(U.pR T) := by
 rw [last_at h]
 unfold U.pR
 by_cases h2 : 2 <= T.length
 ·rw [decide_eq_false (by omega : ¬ (T.length : Int) < 2), decide_eq_true h2, cond_false]
  by_cases h3 : T.getD 0 0 = 34
  ·rw [h3, decide_eq_true rfl]
   show (T.getD (T.length - 1) 0 != 34) = !(true && (true && decide (T.getD (T.length - 1) 0 = 34)))
   by_cases h4 : T.getD (T.length - 1) 0 = 34
   ·rw [h4]; rfl
   ·rw [decide_eq_false h4, bne_iff_ne.2 h4]; rfl
  ·rw [bne_iff_ne.2 h3, decide_eq_false h3]; rfl
 ·rw [decide_eq_true (by omega : (T.length : Int) < 2), decide_eq_false h2]; rfl
theorem H8 (s : List Int) (hv : Valid .str s) (hl : s.length <= 1000000000) : pV s := by
 unfold pV
 have hT : (U.trimB s).length <= 1000000000 := Nat.le_trans (uV s) hl
 have hun : U.dD s = U.jR (U.trimB s) := rfl
 rw [IL hT, hun]
 generalize U.trimB s = T at hT ⊢
 have hw : IntKind.i64.wrap ((T.length : Int).sub 1) = (T.length : Int) - 1 := oD (by omega) (by omega)
 rw [hw]
 refine ⟨rfl, fun _ => by omega, fun h => by have := of_decide_eq_false h; omega, fun h => ?_, fun h => by omega, ?_⟩
 ·have : ¬ (T.length : Int) < 2 := fun h2 => by rw [decide_eq_true h2] at h; cases h
  omega
 cases hq : U.pR T with
 | false =>
   refine ⟨?_, trivial⟩
   unfold U.jR; rw [hq]; rfl
 | true =>
   have h2 : 2 <= T.length := by
    unfold U.pR at hq
    simp only [Bool.and_eq_true, decide_eq_true_eq] at hq
    exact hq.1
   have hr : U.jR T = U.unq false ((T.drop 1).take (T.length - 2)) := by unfold U.jR; rw [hq]; rfl
   show (0 : Int) <= 1 /\ _
   rw [hr, show ((T.length : Int) - 1).toNat.sub 1 = T.length - 2 by rw [aY]; omega]
   have hml : ((T.drop 1).take (T.length - 2)).length <= 1000000000 := by rw [List.length_take]; omega
   generalize (T.drop 1).take (T.length - 2) = m0 at hml ⊢
   refine ⟨by omega, by omega, by omega, (m0, [], false, 0), ⟨rfl, rfl, hml, ⟨Int.le_refl 0, by show (0 : Int) <= _; omega⟩, Int.le_refl 0, rfl⟩, ?_, ?_⟩
   ·rintro m q i ⟨he, hmm, ⟨i0, i1⟩, hol, hI⟩
    subst he
    rw [cond_prop]
    refine ⟨fun hi => ?_, fun hi => ?_⟩
    ·have hi : i < m.length := of_decide_eq_true hi
     rw [QX q i0 hi] at hI
     rw [getD_at (by omega : i.toNat < m.length), ji, cZ (by omega) (by omega)]
     refine ⟨i0, hi, by omega, ?_⟩
     cases hc : (decide (m[i.toNat] = 92) && !q) with
     | true =>
       rw [hc, cond_true] at hI
       exact ⟨(m, [], true, i + 1), rfl, ⟨rfl, hmm, ⟨by show 0 <= i + 1; omega, by show i + 1 <= (m.length : Int); omega⟩, by show (0 : Int) <= i + 1; omega, hI⟩, by simp only [aY]; omega⟩
     | false =>
       rw [hc, cond_false] at hI
       exact ⟨by omega, by simp only [maxLen_eq]; omega, (m, [m[i.toNat]], false, i + 1), rfl, ⟨rfl, hmm, ⟨by show 0 <= i + 1; omega, by show i + 1 <= (m.length : Int); omega⟩, by show (1 : Int) <= i + 1; omega, hI⟩, by simp only [aY]; omega⟩
    ·have hi : ¬ i < m.length := of_decide_eq_false hi
     rw [drop_end (by omega)] at hI
     exact ⟨hI, trivial⟩
   ·rintro m c o q i ⟨he, hmm, ⟨i0, i1⟩, hol, hI⟩
    subst he
    have hol : ((o.length + 1 : Nat) : Int) <= i := hol
    rw [cond_prop]
    refine ⟨fun hi => ?_, fun hi => ?_⟩
    ·have hi : i < m.length := of_decide_eq_true hi
     rw [QX q i0 hi] at hI
     rw [getD_at (by omega : i.toNat < m.length), ji, cZ (by omega) (by omega)]
     refine ⟨i0, hi, by omega, ?_⟩
     cases hc : (decide (m[i.toNat] = 92) && !q) with
     | true =>
       rw [hc, cond_true] at hI
       exact ⟨(m, c :: o, true, i + 1), rfl, ⟨rfl, hmm, ⟨by show 0 <= i + 1; omega, by show i + 1 <= (m.length : Int); omega⟩, by show ((o.length + 1 : Nat) : Int) <= i + 1; omega, hI⟩, by simp only [aY]; omega⟩
     | false =>
       rw [hc, cond_false] at hI
       refine ⟨by simp only [dn, nK]; omega, by simp only [dn, maxLen_eq]; omega, (m, c :: (o ++ [m[i.toNat]]), false, i + 1), rfl, ⟨rfl, hmm, ⟨by show 0 <= i + 1; omega, by show i + 1 <= (m.length : Int); omega⟩, by show ((c :: (o ++ [m[i.toNat]])).length : Int) <= i + 1; rw [List.length_cons, List.length_append]; show ((o.length + 1 + 1 : Nat) : Int) <= _; omega, ?_⟩, by simp only [aY]; omega⟩
       show c :: (o ++ [m[i.toNat]]) ++ _ = _
       rw [<- hI]; simp
    ·have hi : ¬ i < m.length := of_decide_eq_false hi
     rw [drop_end (by omega)] at hI
     have hI : c :: o ++ [] = _ := hI
     rw [List.append_nil] at hI
     exact ⟨by simp only [dn]; omega, hI, trivial⟩
theorem Ed (s : List Int) (hv : Valid .str s) (hl : s.length <= 1000000000) : mO s := by
 unfold mO
 have hT : (U.trimB s).length <= 1000000000 := Nat.le_trans (uV s) hl
 have hun : U.dD s = U.jR (U.trimB s) := rfl
 rw [IL hT, hun]
 have hw : IntKind.i64.wrap (((U.trimB s).length : Int).sub 1) = ((U.trimB s).length : Int) - 1 := oD (by omega) (by omega)
 rw [hw]
 refine ⟨fun _ => by omega, fun h => by have := of_decide_eq_false h; omega, fun h => ?_, fun h => by omega, ?_⟩
 ·have : ¬ ((U.trimB s).length : Int) < 2 := fun h2 => by rw [decide_eq_true h2] at h; cases h
  omega
 cases hq : U.pR (U.trimB s) with
 | false =>
   refine ⟨?_, trivial⟩
   unfold U.jR; rw [hq]; rfl
 | true =>
   have h2 : 2 <= (U.trimB s).length := by
    unfold U.pR at hq
    simp only [Bool.and_eq_true, decide_eq_true_eq] at hq
    exact hq.1
   have hr : U.jR (U.trimB s) = U.unq false (((U.trimB s).drop 1).take ((U.trimB s).length - 2)) := by unfold U.jR; rw [hq]; rfl
   rw [hr]
   show ∃ x0, _
   refine ⟨([], false, 1), ⟨rfl, Int.le_refl 1, by show (1 : Int) <= _; omega, by show (0 : Int) <= 1; omega, ?_⟩, ?_⟩
   ·show [] ++ U.unq false (((U.trimB s).drop 1).take ((U.trimB s).length - 1 - 1)) = _
    rw [List.nil_append, Nat.sub_sub]
   rintro ⟨o, q, i⟩ ⟨i0, i1, hol, hI⟩
   dsimp only at i0 i1 hol hI ⊢
   rw [cond_prop]
   refine ⟨fun hi => ?_, fun hi => ?_⟩
   ·have hi : i < ((U.trimB s).length : Int) - 1 := of_decide_eq_true hi
    have hcut : List.take ((i + 1).toNat.sub i.toNat) (List.drop i.toNat (U.trimB s)) = [(U.trimB s)[i.toNat]'(by omega)] := by
     rw [drop_at (by omega) (by omega), show (i + 1).toNat.sub i.toNat = 1 by rw [aY]; omega]; rfl
    have hd : ((U.trimB s).drop i.toNat).take ((U.trimB s).length - 1 - i.toNat) = (U.trimB s)[i.toNat]'(by omega) :: ((U.trimB s).drop (i + 1).toNat).take ((U.trimB s).length - 1 - (i + 1).toNat) := by
     rw [drop_at (by omega) (by omega), show (U.trimB s).length - 1 - i.toNat = ((U.trimB s).length - 1 - (i + 1).toNat) + 1 by omega, List.take_succ_cons]
    rw [hd] at hI
    have hI : o ++ cond (decide ((U.trimB s)[i.toNat]'(by omega) = 92) && !q) (U.unq true (((U.trimB s).drop (i + 1).toNat).take ((U.trimB s).length - 1 - (i + 1).toNat))) ((U.trimB s)[i.toNat]'(by omega) :: U.unq false (((U.trimB s).drop (i + 1).toNat).take ((U.trimB s).length - 1 - (i + 1).toNat))) = _ := hI
    rw [cZ (by omega) (by omega), hcut, getD_at (by omega : i.toNat < (U.trimB s).length), ji]
    refine ⟨by omega, by omega, ?_⟩
    cases hc : (decide ((U.trimB s)[i.toNat]'(by omega) = 92) && !q) with
    | true =>
      rw [hc, cond_true] at hI
      exact ⟨(o, true, i + 1), rfl, ⟨by show 1 <= i + 1; omega, by show i + 1 <= _; omega, by show (o.length : Int) <= i + 1; omega, hI⟩, by simp only [aY]; omega⟩
    | false =>
      rw [hc, cond_false] at hI
      refine ⟨by omega, by omega, by omega, by simp only [dn]; show o.length + 1 <= _; omega, (o ++ [(U.trimB s)[i.toNat]'(by omega)], false, i + 1), rfl, ⟨by show 1 <= i + 1; omega, by show i + 1 <= _; omega, by show ((o ++ [_]).length : Int) <= i + 1; rw [List.length_append]; show ((o.length + 1 : Nat) : Int) <= _; omega, ?_⟩, by simp only [aY]; omega⟩
      show o ++ [_] ++ _ = _
      rw [List.append_assoc]; exact hI
   ·have hi : ¬ i < ((U.trimB s).length : Int) - 1 := of_decide_eq_false hi
    rw [show (U.trimB s).length - 1 - i.toNat = 0 by omega, List.take_zero] at hI
    have hI : o ++ [] = _ := hI
    rw [List.append_nil] at hI
    exact ⟨hI, trivial⟩
theorem Bg : ∀ (c k cur : List Int), ∀ x ∈ U.dU c k cur, x.length <= cur.length + c.length
 | [], k, cur, x, h => by
   have h : x ∈ [cur] := by cases k <;> exact h
   rw [List.mem_singleton.1 h]; simp
 | c :: r, [], cur, x, h => by
   have h : x ∈ [cur] := h
   rw [List.mem_singleton.1 h]; simp
 | c :: r, k :: ks, cur, x, h => by
   have h : x ∈ cond (decide (k = 0) && decide (c = 44)) (cur :: U.dU r ks []) (U.dU r ks (cur ++ [c])) := h
   rw [List.length_cons]
   cases hc : (decide (k = 0) && decide (c = 44)) with
   | true =>
     rw [hc, cond_true] at h
     rcases List.mem_cons.1 h with rfl | h
     ·omega
     ·have := Bg r ks [] x h; simp at this; omega
   | false =>
     rw [hc, cond_false] at h
     have := Bg r ks (cur ++ [c]) x h
     rw [List.length_append] at this; simp at this; omega
theorem Md {s x : List Int} (h : x ∈ U.items s) : x.length <= s.length := by
 have := Bg s (U.sorts s) [] x h; simpa using this
theorem Ee : ∀ (c k cur : List Int), (U.dU c k cur).length <= c.length + 1
 | [], k, cur => by cases k <;> simp [U.dU]
 | c :: r, [], cur => by simp [U.dU]
 | c :: r, k :: ks, cur => by
   show (cond (decide (k = 0) && decide (c = 44)) (cur :: U.dU r ks []) (U.dU r ks (cur ++ [c]))).length <= _
   rw [List.length_cons]
   have h1 := Ee r ks []
   have h2 := Ee r ks (cur ++ [c])
   cases (decide (k = 0) && decide (c = 44))
   ·rw [cond_false]; omega
   ·rw [cond_true, List.length_cons]; omega
theorem OG (s : List Int) : (U.items s).length <= s.length + 1 := Ee s _ _
theorem IQ {L : List (List Int)} {i : Int} (n : Nat) (i0 : 0 <= i) (hi : i < L.length) : U.fD n (L.drop i.toNat) = cond (decide (0 < n) && !(decide (U.bare L[i.toNat] = []))) (U.one L[i.toNat] :: U.fD (n - 1) (L.drop (i + 1).toNat)) (U.fD n (L.drop (i + 1).toNat)) := by
 rw [drop_at i0 hi]; rfl
theorem Dz : ∀ (l : List (List Int)), U.fD 0 l = []
 | [] => rfl
 | x :: r => by show cond (false && _) _ (U.fD 0 r) = []; exact Dz r
theorem Me (s : List Int) (hv : Valid .str s) (hl : s.length <= 1000000000) : uU s := by
 unfold uU
 have hn := OG s
 have hbd : ∀ x ∈ U.items s, x.length <= 1000000000 := fun x hx => Nat.le_trans (Md hx) hl
 have hp : U.parse s = U.fD 20 (U.items s) := rfl
 rw [hp]
 refine ⟨hl, ([], 0), ⟨rfl, ⟨Int.le_refl 0, by show (0 : Int) <= _; omega⟩, by show 0 <= 20; omega, rfl⟩, ?_⟩
 rintro ⟨l, i⟩ ⟨⟨i0, i1⟩, hll, hI⟩
 dsimp only at i0 i1 hll hI ⊢
 rw [hp] at hI
 rw [cond_prop]
 refine ⟨fun hi => ?_, fun hi => ?_⟩
 ·have hi : i < (U.items s).length := of_decide_eq_true hi
  rw [IQ _ i0 hi] at hI
  rw [getD_at (by omega : i.toNat < (U.items s).length), cZ (by omega) (by omega), xK, ji]
  have hx := hbd _ (List.getElem_mem (by omega : i.toNat < (U.items s).length))
  rw [show decide (0 < 20 - l.length) = decide ((l.length : Int) < 20) from decide_eq_decide.2 (by omega)] at hI
  refine ⟨i0, hi, fun _ => hx, ?_⟩
  cases hc : (decide ((l.length : Int) < 20) && !(decide (U.bare (U.items s)[i.toNat] = []))) with
  | true =>
    rw [hc, cond_true] at hI
    simp only [Bool.and_eq_true, decide_eq_true_eq] at hc
    refine ⟨hx, by simp only [dn, nK]; omega, by simp only [dn, maxLen_eq]; omega, (l ++ [U.one (U.items s)[i.toNat]], i + 1), rfl, ⟨⟨by show 0 <= i + 1; omega, by show i + 1 <= _; omega⟩, by show (l ++ [_]).length <= 20; rw [List.length_append]; show l.length + 1 <= 20; omega, ?_⟩, by simp only [aY]; omega⟩
    show l ++ [_] ++ U.fD (20 - (l ++ [_]).length) _ = _
    rw [List.append_assoc, List.length_append, hp, <- hI]
    rfl
  | false =>
    rw [hc, cond_false] at hI
    exact ⟨(l, i + 1), rfl, ⟨⟨by show 0 <= i + 1; omega, by show i + 1 <= _; omega⟩, hll, by rw [hp]; exact hI⟩, by simp only [aY]; omega⟩
 ·have hi : ¬ i < (U.items s).length := of_decide_eq_false hi
  rw [drop_end (by omega)] at hI
  have hI : l ++ [] = _ := hI
  rw [List.append_nil] at hI
  exact ⟨hI, trivial⟩
theorem Jp (s : List Int) (hv : Valid .str s) (hl : s.length <= 1000000000) : rG s := by
 unfold rG
 have hn := OG s
 have hbd : ∀ x ∈ U.items s, x.length <= 1000000000 := fun x hx => Nat.le_trans (Md hx) hl
 have hp : U.parse s = U.fD 20 (U.items s) := rfl
 rw [hp]
 refine ⟨hl, ([], 0), ⟨rfl, ⟨Int.le_refl 0, by show (0 : Int) <= _; omega⟩, by show 0 <= 20; omega, rfl⟩, ?_⟩
 rintro ⟨l, i⟩ ⟨⟨i0, i1⟩, hll, hI⟩
 dsimp only at i0 i1 hll hI ⊢
 rw [hp] at hI
 rw [ji, cond_prop]
 refine ⟨fun hc => ?_, fun hc => ?_⟩
 ·simp only [Bool.and_eq_true, decide_eq_true_eq] at hc
  obtain ⟨hi, h20⟩ := hc
  rw [IQ _ i0 hi] at hI
  rw [getD_at (by omega : i.toNat < (U.items s).length), cZ (by omega) (by omega), xK]
  have hx := hbd _ (List.getElem_mem (by omega : i.toNat < (U.items s).length))
  rw [decide_eq_true (by omega : 0 < 20 - l.length), Bool.true_and] at hI
  refine ⟨i0, hi, hx, ?_⟩
  cases hc : (!(decide (U.bare (U.items s)[i.toNat] = []))) with
  | true =>
    rw [hc, cond_true] at hI
    refine ⟨i0, hi, hx, by simp only [dn, nK]; omega, by simp only [dn, maxLen_eq]; omega, (l ++ [U.one (U.items s)[i.toNat]], i + 1), rfl, ⟨⟨by show 0 <= i + 1; omega, by show i + 1 <= _; omega⟩, by show (l ++ [_]).length <= 20; rw [List.length_append]; show l.length + 1 <= 20; omega, ?_⟩, by simp only [aY]; omega⟩
    show l ++ [_] ++ U.fD (20 - (l ++ [_]).length) _ = _
    rw [List.append_assoc, List.length_append, hp, <- hI]
    rfl
  | false =>
    rw [hc, cond_false] at hI
    exact ⟨(l, i + 1), rfl, ⟨⟨by show 0 <= i + 1; omega, by show i + 1 <= _; omega⟩, hll, by rw [hp]; exact hI⟩, by simp only [aY]; omega⟩
 ·have hr : U.fD (20 - l.length) ((U.items s).drop i.toNat) = [] := by
   by_cases h20 : (l.length : Int) < 20
   ·rw [decide_eq_true h20, Bool.and_true] at hc
    have hi := of_decide_eq_false hc
    rw [drop_end (by omega)]; rfl
   ·rw [show 20 - l.length = 0 by omega]; exact Dz _
  rw [hr, List.append_nil] at hI
  exact ⟨hI, trivial⟩
def stW (s : St) : Prop := (s.1 = 0 ∨ s.1 = 1 ∨ s.1 = 2 ∨ s.1 = 3) /\ (s.1 ≠ 2 -> s.2.1 = 0) /\ (s.1 = 0 ∨ s.1 = 3 -> s.2.2 = false)
theorem Ef {s : St} (h : stW s) (h0 : s.1 = 0) : s = (0, 0, false) := by
 obtain ⟨k, d, q⟩ := s
 obtain ⟨_, h1, h2⟩ := h
 dsimp only at h0 h1 h2
 subst h0
 rw [h1 (by omega), h2 (.inl rfl)]
theorem MB {s : St} (c : Int) (h : stW s) : stW (U.scan s c).1 /\ (s.1 = 2 -> (U.scan s c).2 = 2) /\ (s.1 ≠ 2 -> ((U.scan s c).2 = 2 -> s.1 = 0 /\ (U.scan s c).1.1 = 2) /\ ((U.scan s c).2 ≠ 2 -> (U.scan s c).1.1 ≠ 2)) := by
 obtain ⟨k, d, q⟩ := s
 obtain ⟨hk, h1, h2⟩ := h
 dsimp only at hk h1 h2
 unfold U.scan stW
 dsimp only
 rcases hk with rfl | rfl | rfl | rfl
 ·have hd := h1 (by omega); have hq := h2 (.inl rfl)
  subst hd hq
  unfold U.opens
  by_cases h34 : c = 34
  ·subst h34; simp [cond]
  ·rw [decide_eq_false h34]; cases decide (c = 40) <;> cases decide (c = 60) <;> simp [cond]
 ·have hd := h1 (by omega)
  subst hd
  cases q <;> cases decide (c = 92) <;> cases decide (c = 34) <;> simp [cond]
 ·cases q <;> cases decide (c = 92) <;> cases decide (c = 40) <;> cases decide (c = 41) <;> cases hz : decide (d - 1 = 0) <;> simp [cond] <;> simp at hz <;> omega
 ·have hd := h1 (by omega); have hq := h2 (.inr rfl)
  subst hd hq
  cases decide (c = 62) <;> simp [cond]
theorem MC : ∀ (l : List Int) (s : St), stW s -> (s.1 ≠ 2 -> ∀ x ∈ U.runs s (U.noC l (U.runs s l)), x ≠ 2) /\ (s.1 = 2 -> ∀ x ∈ U.runs (0, 0, false) (U.noC l (U.runs s l)), x ≠ 2)
 | [], s, _ => ⟨fun _ x hx => (List.not_mem_nil hx).elim, fun _ x hx => (List.not_mem_nil hx).elim⟩
 | c :: r, s, hW => by
   obtain ⟨hW', h2, h3⟩ := MB c hW
   have ih := MC r (U.scan s c).1 hW'
   have hn : U.noC (c :: r) (U.runs s (c :: r)) = cond (decide ((U.scan s c).2 = 2)) (U.noC r (U.runs (U.scan s c).1 r)) (c :: U.noC r (U.runs (U.scan s c).1 r)) := rfl
   rw [hn]
   refine ⟨fun hs => ?_, fun hs => ?_⟩
   ·by_cases hv : (U.scan s c).2 = 2
    ·obtain ⟨hz, h4⟩ := (h3 hs).1 hv
     rw [decide_eq_true hv, cond_true, Ef hW hz]
     rw [Ef hW hz] at ih h4
     exact ih.2 h4
    ·rw [decide_eq_false hv, cond_false]
     intro x hx
     rcases List.mem_cons.1 hx with rfl | hx
     ·exact hv
     ·exact ih.1 ((h3 hs).2 hv) x hx
   ·rw [decide_eq_true (h2 hs), cond_true]
    by_cases h4 : (U.scan s c).1.1 = 2
    ·exact ih.2 h4
    ·have hz : (U.scan s c).1.1 = 0 := by
      obtain ⟨k, d, q⟩ := s
      have hs : k = 2 := hs
      subst hs
      revert h4
      unfold U.scan
      dsimp only
      cases q <;> cases decide (c = 92) <;> cases decide (c = 40) <;> cases decide (c = 41) <;> cases decide (d - 1 = 0) <;> simp [cond]
     have := ih.1 h4
     rw [Ef hW' hz] at this ⊢
     exact this
theorem IU : ∀ (l : List Int) (s : St) (n : Nat), U.runs s (l.take n) = (U.runs s l).take n
 | [], s, n => by cases n <;> rfl
 | c :: r, s, 0 => rfl
 | c :: r, s, n + 1 => by
   show _ :: U.runs _ (r.take n) = _ :: List.take n _
   rw [IU r _ n]
theorem NS {c : Int} (r : List Int) (h : U.blank c = true) : U.sorts (c :: r) = 0 :: U.sorts r := by
 have hc : c = 32 ∨ c = 9 := by
  unfold U.blank at h
  simpa using h
 rcases hc with rfl | rfl <;> rfl
theorem Gg : ∀ (l : List Int) (m : Nat), m <= U.au l -> U.sorts (l.drop m) = (U.sorts l).drop m
 | l, 0, _ => rfl
 | [], m + 1, h => by simp [U.au] at h
 | c :: r, m + 1, h => by
   unfold U.au at h
   cases hb : U.blank c with
   | false => rw [hb, cond_false] at h; omega
   | true =>
     rw [hb, cond_true] at h
     rw [NS r hb]
     exact Gg r m (by omega)
theorem RQ (s : List Int) : ∀ x ∈ U.sorts (U.bare s), x ≠ 2 := by
 have h := (MC s (0, 0, false) ⟨.inl rfl, fun _ => rfl, fun _ => rfl⟩).1 (by decide)
 intro x hx
 have h1 : U.sorts (U.bare s) = ((U.runs (0, 0, false) (U.noC s (U.sorts s))).take (U.aB (U.noC s (U.sorts s)))).drop (U.au ((U.noC s (U.sorts s)).take (U.aB (U.noC s (U.sorts s))))) := by
  unfold U.bare U.trimB
  rw [Gg _ _ (Nat.le_refl _)]
  show (U.runs (0, 0, false) ((U.noC s (U.sorts s)).take _)).drop _ = _
  rw [IU]
 rw [h1] at hx
 exact h x (List.mem_of_mem_take (List.mem_of_mem_drop hx))
theorem IV : ∀ (l : List Int) (s : St), stW s -> s.1 ≠ 3 -> 0 <= aG (U.runs s l) 3 -> l.getD (aG (U.runs s l) 3).toNat 0 = 60
 | [], s, _, _, h => by simp [U.runs, aG] at h
 | c :: r, s, hW, h3, h => by
   have hr : U.runs s (c :: r) = (U.scan s c).2 :: U.runs (U.scan s c).1 r := rfl
   rw [hr, pJ] at h ⊢
   have key : ((U.scan s c).2 = 3 -> c = 60) /\ ((U.scan s c).2 ≠ 3 -> (U.scan s c).1.1 ≠ 3) := by
    obtain ⟨k, d, q⟩ := s
    obtain ⟨hk, _, _⟩ := hW
    dsimp only at hk h3
    have hk : k = 0 ∨ k = 1 ∨ k = 2 := by omega
    unfold U.scan
    dsimp only
    rcases hk with rfl | rfl | rfl
    ·unfold U.opens
     by_cases h60 : c = 60
     ·subst h60; simp [cond]
     ·rw [decide_eq_false h60]
      cases decide (c = 34) <;> cases decide (c = 40) <;> simp [cond]
    ·cases q <;> cases decide (c = 92) <;> cases decide (c = 34) <;> simp [cond]
    ·cases q <;> cases decide (c = 92) <;> cases decide (c = 40) <;> cases decide (c = 41) <;> cases decide (d - 1 = 0) <;> simp [cond]
   by_cases hv : (U.scan s c).2 = 3
   ·rw [if_pos hv]; exact key.1 hv
   ·rw [if_neg hv] at h ⊢
    have hb := eG (U.runs (U.scan s c).1 r) 3
    by_cases hn : aG (U.runs (U.scan s c).1 r) 3 = -1
    ·rw [if_pos hn] at h; omega
    ·rw [if_neg hn] at h ⊢
     rw [show (aG (U.runs (U.scan s c).1 r) 3 + 1).toNat = (aG (U.runs (U.scan s c).1 r) 3).toNat + 1 by omega]
     exact IV r _ (MB c hW).1 (key.2 hv) (by omega)
theorem OH : ∀ (l : List Int) (s : St) (i : Nat) (h : i < l.length), stW s -> l[i] = 60 -> (U.runs s l)[i]'(by rw [Eb]; exact h) ≠ 0
 | c :: r, s, 0, _, hW, h => by
   obtain ⟨k, d, q⟩ := s
   obtain ⟨hk, _, _⟩ := hW
   have h : c = 60 := h
   subst h
   show (U.scan (k, d, q) 60).2 ≠ 0
   unfold U.scan
   dsimp only at hk ⊢
   rcases hk with rfl | rfl | rfl | rfl
   ·simp [cond, U.opens]
   ·cases q <;> simp [cond]
   ·cases q <;> simp [cond]
   ·simp [cond]
 | c :: r, s, i + 1, hi, hW, h => OH r _ i (by simpa using hi) (MB c hW).1 h
theorem QY : ∀ (l k : List Int), (U.noC l k).length <= l.length
 | [], k => by cases k <;> simp [U.noC]
 | c :: r, [] => by simp [U.noC]
 | c :: r, k :: ks => by
   have ih := QY r ks
   show (cond (decide (k = 2)) (U.noC r ks) (c :: U.noC r ks)).length <= _
   rw [List.length_cons]
   cases decide (k = 2)
   ·rw [cond_false, List.length_cons]; omega
   ·rw [cond_true]; omega
theorem OI (s : List Int) : (U.bare s).length <= s.length := Nat.le_trans (uV _) (QY _ _)
theorem RS (s : List Int) (c : Int) : -1 <= U.lastB s c /\ U.lastB s c < s.length := by
 have h := eG s.reverse c
 rw [List.length_reverse] at h
 unfold U.lastB
 by_cases hi : aG s.reverse c >= 0
 ·rw [decide_eq_true hi, cond_true]; omega
 ·rw [decide_eq_false hi, cond_false]; omega
theorem QZ (b : List Int) : -1 <= U.bZ b /\ U.bZ b < b.length := by
 have h := eG (U.sorts b) 3
 rw [aN] at h; exact h
theorem Qe (s : List Int) (hv : Valid .str s) (hl : s.length <= 1000000000) : y7 s := by
 unfold y7 U.FU
 have hB := Nat.le_trans (OI s) hl
 have h1 : U.one s = U.addrOf (U.oK (U.bare s)) (U.trimB (U.oJ (U.bare s))) := rfl
 have hang : aG (U.sorts (U.bare s)) 3 = U.bZ (U.bare s) := rfl
 have hb := QZ (U.bare s)
 rw [h1, hang]
 generalize U.bare s = b at hB hb ⊢
 refine ⟨hl, ⟨hB, ?_⟩, ?_⟩
 ·unfold U.oJ U.oK
  by_cases hi : U.bZ b >= 0
  ·rw [decide_eq_true hi]
   simp only [cond_true]
   rw [cZ (by omega) (by omega)]
   refine ⟨by omega, by omega, by omega, by omega, by omega, by omega, trivial, (_, _), rfl, ?_, rfl⟩
   rw [jP]; rfl
  ·rw [decide_eq_false hi]
   exact ⟨(_, _), rfl, rfl, rfl⟩
 ·rintro ⟨r, nm⟩ ⟨hr, hnm⟩
  dsimp only at hr hnm ⊢
  rw [<- hr, <- hnm]
  have hnl : nm.length <= 1000000000 := by
   rw [hnm]; unfold U.oK
   cases decide (U.bZ b >= 0)
   ·rw [cond_false]; simp
   ·rw [cond_true, List.length_take]; omega
  have hrl : r.length <= 1000000000 := by
   rw [hr]; unfold U.oJ U.oC
   by_cases h2 : U.bZ b >= 0
   ·rw [decide_eq_true h2, cond_true]
    cases decide (aG (b.drop (U.bZ b + 1).toNat) 62 >= 0)
    ·rw [cond_false, List.length_drop]; omega
    ·rw [cond_true, List.length_take, List.length_drop]; omega
   ·rw [decide_eq_false h2, cond_false]; exact hB
  have htl := uV r
  generalize U.trimB r = t at htl ⊢
  have hlb := RS t 64
  unfold U.addrOf
  refine ⟨rfl, hnl, ?_⟩
  by_cases hi : U.lastB t 64 >= 0
  ·rw [decide_eq_true hi]
   simp only [cond_true]
   rw [cZ (by omega) (by omega)]
   refine ⟨by omega, by omega, by omega, by omega, by omega, by omega, trivial, rfl, ?_, trivial⟩
   rw [jP]
  ·rw [decide_eq_false hi]
   exact ⟨rfl, rfl, rfl, trivial⟩
theorem Eh : ∀ (l : List Int) (c : Int), 0 <= aG l c -> l.getD (aG l c).toNat 0 = c
 | [], c, h => by simp [aG] at h
 | x :: l, c, h => by
   rw [pJ] at h ⊢
   by_cases hx : x = c
   ·rw [if_pos hx]; exact hx
   ·rw [if_neg hx] at h ⊢
    have hb := eG l c
    by_cases hn : aG l c = -1
    ·rw [if_pos hn] at h; omega
    ·rw [if_neg hn] at h ⊢
     have ih := Eh l c (by omega)
     rw [show (aG l c + 1).toNat = (aG l c).toNat + 1 by omega]
     exact ih
theorem Uk {b : List Int} (h2 : ∀ x ∈ U.sorts b, x ≠ 2) {i : Int} (i0 : 0 <= i) (hi : i < b.length) (ha : U.bZ b < 0 ∨ i <= U.bZ b) : (decide (b[i.toNat] = 60) && (U.kb ((U.sorts b)[i.toNat]'(by rw [aN]; omega)) != 113)) = decide (i = U.bZ b) := by
 have hsl : i.toNat < (U.sorts b).length := by rw [aN]; omega
 have hsb := H6 b hsl
 have hk := (Qc hsb.1 hsb.2).2.1
 have hne := h2 _ (List.getElem_mem hsl)
 by_cases hc : i = U.bZ b
 ·rw [decide_eq_true hc]
  have h60 := IV b (0, 0, false) ⟨.inl rfl, fun _ => rfl, fun _ => rfl⟩ (by decide) (by show 0 <= U.bZ b; omega)
  have h3 := Eh (U.sorts b) 3 (by show 0 <= U.bZ b; omega)
  have h60 : b.getD (U.bZ b).toNat 0 = 60 := h60
  have h3 : (U.sorts b).getD (U.bZ b).toNat 0 = 3 := h3
  rw [<- hc, getD_at (by omega)] at h60
  rw [<- hc, getD_at hsl] at h3
  rw [decide_eq_true h60, h3]; rfl
 ·rw [decide_eq_false hc]
  by_cases h60 : b[i.toNat] = 60
  ·rw [decide_eq_true h60, Bool.true_and]
   have h0 := OH b (0, 0, false) i.toNat (by omega) ⟨.inl rfl, fun _ => rfl, fun _ => rfl⟩ h60
   have h0 : (U.sorts b)[i.toNat] ≠ 0 := h0
   by_cases h1 : (U.sorts b)[i.toNat] = 1
   ·rw [h1]; rfl
   ·exfalso
    have h3 : (U.sorts b)[i.toNat] = 3 := by omega
    have hd : (U.sorts b).drop i.toNat = 3 :: (U.sorts b).drop (i + 1).toNat := by rw [Qd i0 hi, h3]
    have hge : 0 <= U.bZ b /\ U.bZ b <= i := by
     have key : ∀ (l : List Int) (n : Nat) (h : n < l.length), l[n] = 3 -> 0 <= aG l 3 /\ aG l 3 <= n := by
      intro l
      induction l with
      | nil => intro n h; simp at h
      | cons x r ih =>
        intro n h hx
        rw [pJ]
        by_cases hx3 : x = 3
        ·rw [if_pos hx3]; omega
        ·rw [if_neg hx3]
         cases n with
         | zero => exact absurd hx hx3
         | succ n =>
           have := ih n (by simpa using h) hx
           rw [if_neg (by omega)]; push_cast; omega
     have := key (U.sorts b) i.toNat hsl h3
     unfold U.bZ
     omega
    omega
  ·rw [decide_eq_false h60]; rfl
theorem Q5 : ∀ (l : List Int) (c : Int) (n : Nat) (h : n < l.length), l[n] = c -> 0 <= aG l c /\ aG l c <= n
 | [], _, n, h, _ => by simp at h
 | x :: r, c, n, h, hx => by
   rw [pJ]
   by_cases hx3 : x = c
   ·rw [if_pos hx3]; omega
   ·rw [if_neg hx3]
    cases n with
    | zero => exact absurd hx hx3
    | succ n =>
      have := Q5 r c n (by simpa using h) hx
      rw [if_neg (by omega)]; push_cast; omega
theorem NT (s : List Int) (hv : Valid .str s) (hl : s.length <= 1000000000) : wU s := by
 unfold wU
 have hB := Nat.le_trans (OI s) hl
 have h1 : U.one s = U.addrOf (U.oK (U.bare s)) (U.trimB (U.oJ (U.bare s))) := rfl
 have h2 := RQ s
 have hb := QZ (U.bare s)
 have tail : ∀ (x : List Int × List Int), U.qj s x.1 x.2 -> x.2.length <= 1000000000 /\ ∃ (x0 : List Int × List Int × Int), (U.bI (U.trimB x.1) (U.dD x.2) (IntKind.i64.wrap (((U.trimB x.1).length : Int).sub 1)) = U.bI x0.1 x0.2.1 x0.2.2 /\ U.dG x0.1 x0.2.1 x0.2.2 x0.1 x0.2.1 x0.2.2) /\ ∀ (x : List Int × List Int × Int), U.dG x0.1 x0.2.1 x0.2.2 x.1 x.2.1 x.2.2 -> bif decide (x.2.2 >= 0) then 0 <= x.2.2 /\ x.2.2 < (x.1.length : Int) /\ bif decide (x.1.getD x.2.2.toNat 0 = 64) then (0 : Int) <= 0 /\ 0 <= x.2.2 /\ x.2.2 <= (x.1.length : Int) /\ 0 <= IntKind.i64.wrap (x.2.2.add 1) /\ IntKind.i64.wrap (x.2.2.add 1) <= (x.1.length : Int) /\ (x.1.length : Int) <= (x.1.length : Int) /\ x.2.1 = (U.one s).1 /\ List.take (x.2.2.toNat.sub 0) (List.drop 0 x.1) = (U.one s).2.1 /\ List.take ((x.1.length : Int).toNat.sub (IntKind.i64.wrap (x.2.2.add 1)).toNat) (List.drop (IntKind.i64.wrap (x.2.2.add 1)).toNat x.1) = (U.one s).2.2 /\ True else ∃ (y : List Int × List Int × Int), U.bI x.1 x.2.1 (IntKind.i64.wrap (x.2.2.sub 1)) = U.bI y.1 y.2.1 y.2.2 /\ U.dG x0.1 x0.2.1 x0.2.2 y.1 y.2.1 y.2.2 /\ (y.2.2.add 1).toNat < (x.2.2.add 1).toNat else x.2.1 = (U.one s).1 /\ x.1 = (U.one s).2.1 /\ [] = (U.one s).2.2 /\ True := by
  rintro ⟨r, nm⟩ ⟨hr, hnm⟩
  dsimp only at hr hnm ⊢
  rw [h1, <- hr, <- hnm]
  have hnl : nm.length <= 1000000000 := by
   rw [hnm]; unfold U.oK
   cases decide (U.bZ (U.bare s) >= 0)
   ·rw [cond_false]; simp
   ·rw [cond_true, List.length_take]; omega
  have hrl : r.length <= 1000000000 := by
   rw [hr]; unfold U.oJ U.oC
   by_cases h2 : U.bZ (U.bare s) >= 0
   ·rw [decide_eq_true h2, cond_true]
    cases decide (aG ((U.bare s).drop (U.bZ (U.bare s) + 1).toNat) 62 >= 0)
    ·rw [cond_false, List.length_drop]; omega
    ·rw [cond_true, List.length_take, List.length_drop]; omega
   ·rw [decide_eq_false h2, cond_false]; exact hB
  have htl := uV r
  generalize U.trimB r = t at htl ⊢
  refine ⟨hnl, (t, U.dD nm, (t.length : Int) - 1), ⟨by rw [oD (by omega) (by omega)], rfl, rfl, by show -1 <= (t.length : Int) - 1; omega, by show (t.length : Int) - 1 < t.length; omega, by show U.lastB (t.take ((t.length : Int) - 1 + 1).toNat) 64 = _; rw [mJ (by omega)]⟩, ?_⟩
  rintro ⟨t', n', i⟩ ⟨e1, e2, i0, i1, hI⟩
  dsimp only at e1 e2 i0 i1 hI ⊢
  subst e1 e2
  unfold U.addrOf
  rw [cond_prop]
  refine ⟨fun hi => ?_, fun hi => ?_⟩
  ·have hi : i >= 0 := of_decide_eq_true hi
   rw [getD_at (by omega : i.toNat < t'.length), oD (by omega) (by omega), cZ (by omega) (by omega)]
   rw [take_at hi i1, FQ, List.length_take] at hI
   refine ⟨hi, i1, ?_⟩
   by_cases hx : t'[i.toNat] = 64
   ·rw [decide_eq_true hx, cond_true]
    rw [if_pos hx] at hI
    have hI : U.lastB t' 64 = i := by omega
    rw [hI, decide_eq_true hi]
    refine ⟨by omega, by omega, by omega, by omega, by omega, by omega, rfl, rfl, ?_, trivial⟩
    rw [jP]; rfl
   ·rw [decide_eq_false hx, cond_false]
    rw [if_neg hx] at hI
    refine ⟨(t', U.dD nm, i - 1), rfl, ⟨rfl, rfl, by show -1 <= i - 1; omega, by show i - 1 < (t'.length : Int); omega, ?_⟩, by simp only [OB]; omega⟩
    show U.lastB (t'.take (i - 1 + 1).toNat) 64 = _
    rw [Int.sub_add_cancel]; exact hI
  ·have hi : ¬ i >= 0 := of_decide_eq_false hi
   rw [show (i + 1).toNat = 0 by omega, List.take_zero] at hI
   have hI : -1 = U.lastB t' 64 := hI
   rw [<- hI]
   exact ⟨rfl, rfl, rfl, trivial⟩
 refine ⟨hl, hB, 0, ⟨rfl, ⟨Int.le_refl 0, by omega⟩, by omega⟩, ?_⟩
 rintro i ⟨⟨i0, i1⟩, ha⟩
 rw [cond_prop]
 refine ⟨fun hi => ?_, fun hi => ?_⟩
 ·have hi : i < (U.bare s).length := of_decide_eq_true hi
  rw [getD_at (by omega : i.toNat < (U.bare s).length), Ec (U.bare s) (by omega), ji, Uk h2 i0 hi ha, cZ (by omega) (by omega)]
  refine ⟨i0, hi, fun _ => i0, fun _ => by rw [wB]; exact hi, ?_⟩
  by_cases hc : i = U.bZ (U.bare s)
  ·rw [decide_eq_true hc, cond_true]
   refine ⟨by omega, by omega, by omega, by omega, by omega, by omega, ?_, tail⟩
   rw [jP, vV, decide_eq_true (by rw [List.length_drop]; omega : (((U.bare s).drop (i + 1).toNat).length : Int) < (U.bare s).length), cond_true]
   have hrest : U.oJ (U.bare s) = U.oC ((U.bare s).drop (i + 1).toNat) 62 := by unfold U.oJ; rw [<- hc, decide_eq_true (by omega : i >= 0), cond_true]
   have hname : U.oK (U.bare s) = (U.bare s).take i.toNat := by unfold U.oK; rw [<- hc, decide_eq_true (by omega : i >= 0), cond_true]
   refine ⟨((U.bare s).drop (i + 1).toNat, (U.bare s).take i.toNat, 0), ⟨rfl, rfl, rfl, ⟨Int.le_refl 0, by show (0 : Int) <= _; omega⟩, by show _ ∨ (0 : Int) <= _; omega⟩, ?_⟩
   rintro ⟨r, nm, j⟩ ⟨e1, e2, ⟨j0, j1⟩, hJ⟩
   dsimp only at e1 e2 j0 j1 hJ ⊢
   rw [<- e1] at hrest
   rw [<- e2] at hname
   have hrl : r.length <= 1000000000 := by rw [e1, List.length_drop]; omega
   have hrb := eG r 62
   rw [e1, e2]
   rw [<- e1, <- e2]
   unfold U.oC at hrest
   rw [cond_prop]
   refine ⟨fun hj => ?_, fun hj => ?_⟩
   ·have hj : j < r.length := of_decide_eq_true hj
    rw [getD_at (by omega : j.toNat < r.length), cZ (by omega) (by omega)]
    refine ⟨j0, hj, ?_⟩
    by_cases hx : r[j.toNat] = 62
    ·rw [decide_eq_true hx, cond_true, vV]
     have hle := Q5 r 62 j.toNat (by omega) hx
     have hij : aG r 62 = j := by omega
     rw [hij, decide_eq_true (by omega : j >= 0), cond_true] at hrest
     exact ⟨by omega, by omega, by omega, (r.take j.toNat, nm), rfl, hrest.symm, hname.symm⟩
    ·rw [decide_eq_false hx, cond_false]
     have hne : aG r 62 ≠ j := fun h => by
      have := Eh r 62 (by omega)
      rw [h, getD_at (by omega)] at this
      exact hx this
     exact ⟨(r, nm, j + 1), rfl, ⟨by first | rfl | assumption, by first | rfl | assumption, ⟨by show 0 <= j + 1; omega, by show j + 1 <= (r.length : Int); omega⟩, by show aG r 62 < 0 ∨ j + 1 <= aG r 62; omega⟩, by simp only [aY]; omega⟩
   ·have hj : ¬ j < r.length := of_decide_eq_false hj
    rw [decide_eq_false (by omega : ¬ aG r 62 >= 0), cond_false] at hrest
    exact ⟨(r, nm), rfl, hrest.symm, hname.symm⟩
  ·rw [decide_eq_false hc, cond_false]
   exact ⟨i + 1, rfl, ⟨⟨by omega, by omega⟩, by omega⟩, by simp only [aY]; omega⟩
 ·have hi : ¬ i < (U.bare s).length := of_decide_eq_false hi
  refine ⟨?_, tail⟩
  rw [decide_eq_false (by omega : ¬ ((U.bare s).length : Int) < (U.bare s).length), cond_false]
  refine ⟨(U.bare s, []), rfl, ?_, ?_⟩
  ·unfold U.oJ; rw [decide_eq_false (by omega : ¬ U.bZ (U.bare s) >= 0)]; rfl
  ·unfold U.oK; rw [decide_eq_false (by omega : ¬ U.bZ (U.bare s) >= 0)]; rfl
end Go.Proofs.YtlmkekoenfelcaaDoor
set_option linter.unusedSimpArgs false
set_option maxRecDepth 100000
set_option linter.unusedVariables false
namespace Go.Proofs.YtlmkekoenfelcaaDoor
open Go.Vc
theorem NU (x : aT [.str]) : gu Tryd.prog (dw lX) (Dn x) 18 (dN [.str] x) [] (ql x) = uP x := by kernel_rfl
theorem NV : Pok 18 [.str] (fun x => ql x) := by
 refine pk (L := fun x => Dn x) (l := lX) xQ (fun _ => rfl) ?_
 intro x hv hp
 rw [NU]
 exact LW x hv (hp (List.length x <= 1000000000) (by simp [ql]))
theorem NW : dH Tryd.prog gl 18 Dk := NV
theorem Bh : bU qm := .cons NW xQ
theorem MF (x : aT [.str]) : gu Tryd.prog (dw qm) (A8 x) 19 (dN [.str] x) [] (oM x) = rE x := by kernel_rfl
theorem MG : Pok 19 [.str] (fun x => oM x) := by
 refine pk (L := fun x => A8 x) (l := qm) Bh (fun _ => rfl) ?_
 intro x hv hp
 rw [MF]
 exact Jm x hv (hp (List.length x <= 1000000000) (by simp [oM]))
theorem MH : dH Tryd.prog gl 19 AZ := MG
theorem zq : bU oN := .cons MH Bh
theorem NY (x : aT [.str]) : gu Tryd.prog (dw oN) (Dq x) 11 (dN [.str] x) [] (qo x) = uQ x := by kernel_rfl
theorem NZ : Pok 11 [.str] (fun x => qo x) := by
 refine pk (L := fun x => Dq x) (l := oN) zq (fun _ => rfl) ?_
 intro x hv hp
 rw [NY]
 exact L8 x hv (hp (List.length x <= 1000000000) (by simp [qo]))
theorem N7 : dH Tryd.prog gl 11 Dp := NZ
theorem Bj : bU qp := .cons N7 zq
theorem MI (x : aT [.str]) : gu Tryd.prog (dw qp) (Bc x) 12 (dN [.str] x) [] (oO x) = rF x := by kernel_rfl
theorem MJ : Pok 12 [.str] (fun x => oO x) := by
 refine pk (L := fun x => Bc x) (l := qp) Bj (fun _ => rfl) ?_
 intro x hv hp
 rw [MI]
 exact Jo x hv (hp (List.length x <= 1000000000) (by simp [oO]))
theorem MK : dH Tryd.prog gl 12 Ba := MJ
theorem zu : bU oP := .cons MK Bj
theorem N8 (x : aT [.str]) : gu Tryd.prog (dw oP) (Du x) 23 (dN [.str] x) [] (wQ x) = uS x := by kernel_rfl
theorem N9 : Pok 23 [.str] (fun x => wQ x) := by
 refine pk (L := fun x => Du x) (l := oP) zu (fun _ => rfl) ?_
 intro x hv hp
 rw [N8]
 exact Mc x hv.2
theorem Oa : dH Tryd.prog gl 23 Dt := N9
theorem Bl : bU qw := .cons Oa zu
theorem Qg (x : aT [.str]) : gu Tryd.prog (dw qw) (FZ x) 13 (dN [.str] x) [] (sD x) = wR x := by kernel_rfl
theorem Qh : Pok 13 [.str] (fun x => sD x) := by
 refine pk (L := fun x => FZ x) (l := qw) Bl (fun _ => rfl) ?_
 intro x hv hp
 rw [Qg]
 exact NR x hv (hp (List.length x <= 1000000000) (by simp [sD]))
theorem Qi : dH Tryd.prog gl 13 FY := Qh
theorem DC : bU sF := .cons Qi Bl
theorem Ob (x : aT [.str]) : gu Tryd.prog (dw sF) (Dw x) 14 (dN [.str] x) [] (qx x) = uT x := by kernel_rfl
theorem Oc : Pok 14 [.str] (fun x => qx x) := by
 refine pk (L := fun x => Dw x) (l := sF) DC (fun _ => rfl) ?_
 intro x hv hp
 rw [Ob]
 exact L9 x hv (hp (List.length x <= 1000000000) (by simp [qx]))
theorem Oe : dH Tryd.prog gl 14 Dv := Oc
theorem Bo : bU qy := .cons Oe DC
theorem Jq (x : aT [.str]) : gu Tryd.prog (dw qy) (zo x) 26 (dN [.str] x) [] (l7 x) = pV x := by kernel_rfl
theorem Jr : Pok 26 [.str] (fun x => l7 x) := by
 refine pk (L := fun x => zo x) (l := qy) Bo (fun _ => rfl) ?_
 intro x hv hp
 rw [Jq]
 exact H8 x hv (hp (List.length x <= 1000000000) (by simp [l7]))
theorem Js : dH Tryd.prog gl 26 zn := Jr
theorem xR : bU l9 := .cons Js Bo
theorem Gi (x : aT [.str]) : gu Tryd.prog (dw l9) (wo x) 28 (dN [.str] x) [] (kG x) = mO x := by kernel_rfl
theorem Gj : Pok 28 [.str] (fun x => kG x) := by
 refine pk (L := fun x => wo x) (l := l9) xR (fun _ => rfl) ?_
 intro x hv hp
 rw [Gi]
 exact Ed x hv (hp (List.length x <= 1000000000) (by simp [kG]))
theorem Gl : dH Tryd.prog gl 28 vZ := Gj
theorem uX : bU kH := .cons Gl xR
theorem Qj (x : aT [FM, .int .u8]) : gu Tryd.prog (dw kH) (F7 x.1 x.2) 24 (dN [FM, .int .u8] x) [] (yZ x.1 x.2) = wS x.1 x.2 := by kernel_rfl
theorem Qk : Pok 24 [FM, .int .u8] (fun x => yZ x.1 x.2) := by
 refine pk (L := fun x => F7 x.1 x.2) (l := kH) uX (fun _ => rfl) ?_
 intro x hv hp
 rw [Qj]
 exact NQ x.1 x.2 hv.1.2
theorem Ql : dH Tryd.prog gl 24 F5 := Qk
theorem DF : bU sG := .cons Ql uX
theorem Q7 (x : aT [.str]) : gu Tryd.prog (dw sG) (IJ x) 15 (dN [.str] x) [] (wu x) = y7 x := by kernel_rfl
theorem Q8 : Pok 15 [.str] (fun x => wu x) := by
 refine pk (L := fun x => IJ x) (l := sG) DF (fun _ => rfl) ?_
 intro x hv hp
 rw [Q7]
 exact Qe x hv (hp (List.length x <= 1000000000) (by simp [wu]))
theorem Q9 : dH Tryd.prog gl 15 II := Q8
theorem Gm : bU wz := .cons Q9 DF
theorem Qm (x : aT [.str]) : gu Tryd.prog (dw wz) (F9 x) 16 (dN [.str] x) [] (sH x) = wU x := by kernel_rfl
theorem Qn : Pok 16 [.str] (fun x => sH x) := by
 refine pk (L := fun x => F9 x) (l := wz) Gm (fun _ => rfl) ?_
 intro x hv hp
 rw [Qm]
 exact NT x hv (hp (List.length x <= 1000000000) (by simp [sH]))
theorem Qo : dH Tryd.prog gl 16 F8 := Qn
theorem DI : bU sJ := .cons Qo Gm
theorem Og (x : aT [.str]) : gu Tryd.prog (dw sJ) (Dy x) 8 (dN [.str] x) [] (qA x) = uU x := by kernel_rfl
theorem Oh : Pok 8 [.str] (fun x => qA x) := by
 refine pk (L := fun x => Dy x) (l := sJ) DI (fun _ => rfl) ?_
 intro x hv hp
 rw [Og]
 exact Me x hv (hp (List.length x <= 1000000000) (by simp [qA]))
theorem Oi : dH Tryd.prog gl 8 Dx := Oh
theorem Bq : bU qB := .cons Oi DI
theorem ML (x : aT [.str]) : gu Tryd.prog (dw qB) (Bf x) 9 (dN [.str] x) [] (oQ x) = rG x := by kernel_rfl
theorem MN : Pok 9 [.str] (fun x => oQ x) := by
 refine pk (L := fun x => Bf x) (l := qB) Bq (fun _ => rfl) ?_
 intro x hv hp
 rw [ML]
 exact Jp x hv (hp (List.length x <= 1000000000) (by simp [oQ]))
theorem MO : dH Tryd.prog gl 9 Bd := MN
theorem zx : bU oU := .cons MO Bq
end Go.Proofs.YtlmkekoenfelcaaDoor
