/- What is owed of the functions, proved in plain Lean. -/
import Derived.Test.YtkhdeldobekciaaGreatDoorMF
import Derived.Test.YtkhdeldobekciaaGreatDoorMD
set_option linter.unusedSimpArgs false
set_option linter.unusedVariables false
set_option maxRecDepth 100000
namespace Go.Proofs.YtkhdeldobekciaaGreatDoor
open Go.Vc
open Go.Vc.T
theorem ajy (x : Range) (l : List Range) : U.pairs (x :: l) = U.num1 x.1 ++ (U.num1 x.2 ++ U.pairs l) := by simp [U.pairs]
theorem acF : ∀ (l : List Int) (p : Int), 0 <= p -> U.rise p l = true -> ∀ x ∈ l, 0 <= x /\ x <= 4611686018427387904
 | [], _, _, _, x, hx => by cases hx
 | y :: r, p, hp, h, x, hx => by
   unfold U.rise at h
   simp only [Bool.and_eq_true, decide_eq_true_eq] at h
   rcases List.mem_cons.1 hx with rfl | hx
   ·omega
   ·exact acF r y (by omega) h.2 x hx
theorem Yd {l : List Range} (h : U.jm l = true) : l.length <= 60 /\ ∀ x ∈ l, (0 <= x.1 /\ x.1 <= 4611686018427387904) /\ 0 <= x.2 /\ x.2 <= 4611686018427387904 := by
 unfold U.jm at h
 simp only [Bool.and_eq_true, decide_eq_true_eq, Bool.not_eq_true', List.any_eq_false] at h
 refine ⟨h.1, fun x hx => ?_⟩
 have := h.2 x hx
 unfold U.badR U.within at this
 simp only [Bool.or_eq_true, Bool.not_eq_true', Bool.and_eq_false_iff, decide_eq_false_iff_not, not_or] at this
 omega
theorem YZ {c : Int} (h : c ∈ U.order) : c = 98 ∨ c = 116 ∨ c = 105 ∨ c = 115 ∨ c = 109 ∨ c = 102 ∨ c = 100 ∨ c = 110 ∨ c = 121 := by
 simpa [U.order] using h
theorem within_iff {n m : Int} : U.within n m = true ↔ 0 <= n /\ n <= m := by unfold U.within; simp only [Bool.and_eq_true, decide_eq_true_eq, ge_iff_le]
theorem Ye {l : List Int} (h : U.rH l = true) : (1 <= l.length /\ l.length <= 60) /\ ∀ x ∈ l, 0 <= x /\ x <= 4611686018427387904 := by
 unfold U.rH at h
 simp only [Bool.and_eq_true, decide_eq_true_eq] at h
 exact ⟨h.2, acF l 0 (by omega) h.1⟩
def agy (p : List Int) (x : U.RS × Event) : U.RS × Event := p.foldl (fun x c => U.eP c x) x
theorem IU (k : Int) : U.parts k ∈ U.Df := by
 unfold U.parts
 cases h : (decide (k < 0) || decide (k >= 15)) with
 | true => exact (by decide : ([] : List Int) ∈ U.Df)
 | false =>
   simp only [Bool.or_eq_false_iff, decide_eq_false_iff_not] at h
   simp only [cond_false]
   have hl : k.toNat < U.Df.length := by show k.toNat < 15; omega
   rw [getD_at hl]; exact List.getElem_mem hl
theorem L6 (k : Int) : (U.parts k).Nodup /\ ∀ c ∈ U.parts k, c ∈ U.order := by
 have : ∀ p ∈ U.Df, p.Nodup /\ ∀ c ∈ p, c ∈ U.order := by decide
 exact this _ (IU k)
theorem Jv (e : Event) : U.bg e = true ↔ U.parts (U.bQ e) ≠ [] /\ (0 <= U.eAt e /\ U.eAt e <= 1099511627776) /\ ∀ c ∈ U.order, (c ∈ U.parts (U.bQ e) -> U.good c e = true) /\ (c ∉ U.parts (U.bQ e) -> U.none_ c e = true) := by
 unfold U.bg
 simp only [Bool.and_eq_true, Bool.not_eq_true', decide_eq_false_iff_not, within_iff, List.all_eq_true]
 constructor
 ·rintro ⟨a, b, h⟩
  refine ⟨a, b, fun c hc => ?_⟩
  have := h c hc
  unfold U.okC at this
  constructor
  ·intro hm
   rw [decide_eq_false (by have := (nO (U.parts (U.bQ e)) c).2 hm; omega)] at this; exact this
  ·intro hm
   rw [decide_eq_true (by have := mt (nO (U.parts (U.bQ e)) c).1 hm; omega)] at this; exact this
 ·rintro ⟨a, b, h⟩
  refine ⟨a, b, fun c hc => ?_⟩
  unfold U.okC
  by_cases hm : c ∈ U.parts (U.bQ e)
  ·rw [decide_eq_false (by have := (nO (U.parts (U.bQ e)) c).2 hm; omega)]; exact (h c hc).1 hm
  ·rw [decide_eq_true (by have := mt (nO (U.parts (U.bQ e)) c).1 hm; omega)]; exact (h c hc).2 hm
theorem ajz (e : Event) : U.qc e = U.num1 (U.bQ e) ++ (U.num1 (U.eAt e) ++ (U.parts (U.bQ e)).flatMap fun c => U.jO c e) := rfl
theorem IV : ∀ l : List Range, (U.pairs l).length = 16 * l.length
 | [] => rfl
 | x :: l => by rw [ajy, List.length_append, List.length_append, dS, dS, IV l, List.length_cons]; omega
theorem WZ (l : List Range) (x : Range) : U.pairs (l ++ [x]) = U.pairs l ++ (U.num1 x.1 ++ U.num1 x.2) := by simp [U.pairs]
theorem afn {c : Int} (hc : c ∈ U.order) {e : Event} (hg : U.good c e = true) : (U.jO c e).length <= 5000 := by
 rcases YZ hc with rfl | rfl | rfl | rfl | rfl | rfl | rfl | rfl | rfl
 ·have := IQ (U.cO e); show (U.text1 (U.cO e)).length <= 5000; omega
 ·have := IQ (U.eTo e); show (U.text1 (U.eTo e)).length <= 5000; omega
 ·obtain ⟨⟨_, h60⟩, hl⟩ := Ye (show U.rH (U.aW e) = true from hg)
  show (U.num1 (U.aW e).length ++ U.nums (U.aW e)).length <= 5000
  rw [List.length_append, dS, LQ]; omega
 ·obtain ⟨h60, hl⟩ := Yd (show U.jm (U.aN e) = true from hg)
  show (U.num1 (U.aN e).length ++ U.pairs (U.aN e)).length <= 5000
  rw [List.length_append, dS, IV]; omega
 ·show (U.num1 _).length <= 5000; rw [dS]; omega
 ·show (U.num1 _).length <= 5000; rw [dS]; omega
 ·show (U.num1 _).length <= 5000; rw [dS]; omega
 ·show (U.num1 _).length <= 5000; rw [dS]; omega
 ·have := IQ (U.gX e); show (U.text1 (U.gX e)).length <= 5000; omega
theorem UQ {f : Int -> List Int} {k : Nat} : ∀ l : List Int, (∀ c ∈ l, (f c).length <= k) -> (l.flatMap f).length <= k * l.length
 | [], _ => by simp
 | x :: l, h => by
   have h1 := h x (by simp)
   have ih := UQ l fun c hc => h c (List.mem_cons_of_mem _ hc)
   rw [List.flatMap_cons, List.length_append, List.length_cons, Nat.mul_add]; omega
theorem FM {e : Event} (h : U.bg e = true) {c : Int} (hc : c ∈ U.parts (U.bQ e)) : U.good c e = true := (((Jv e).1 h).2.2 c ((L6 _).2 c hc)).1 hc
theorem aiH {e : Event} (h : U.bg e = true) (c : Int) : (U.Jm (U.parts (U.bQ e)) e c).length <= 5000 := by
 unfold U.Jm
 by_cases hi : aA (U.parts (U.bQ e)) c >= 0
 ·have hm := (nO _ _).1 hi
  rw [decide_eq_true hi]; exact afn ((L6 _).2 c hm) (FM h hm)
 ·rw [decide_eq_false hi]; exact Nat.zero_le _
theorem acG {e : Event} (h : U.bg e = true) (n : Nat) : (U.jP n e).length <= 50000 := by
 unfold U.jP
 rw [List.length_append, List.length_append, dS, dS]
 have := UQ (f := U.Jm (U.parts (U.bQ e)) e) (k := 5000) (U.order.take n) fun c _ => aiH h c
 have h9 : (U.order.take n).length <= 9 := by rw [List.length_take]; exact Nat.min_le_right _ _
 have := Nat.mul_le_mul_left 5000 h9
 omega
theorem Aw {α : Type} [BEq α] [DecidableEq α] (l : List α) : l.beq [] = decide (l = []) := by cases l <;> simp [List.beq]
theorem Az {α : Type} [DecidableEq α] (l : List α) : decide ((l.length : Int) = 0) = decide (l = []) := by
 rw [decide_eq_decide, <- List.length_eq_zero_iff]; omega
theorem ajA (a b : List Int) : a.beq b = decide (a = b) := by rw [fJ, Bool.eq_iff_iff]; simp
theorem Yf (n m : Int) : Am n m := by
 unfold Am U.within; rw [dh]; exact ⟨rfl, trivial⟩
theorem ZA (k : Int) : DK k := by
 unfold DK U.parts
 rw [dN]
 cases h : (decide (k < 0) || decide (k >= 15)) with
 | true => exact ⟨rfl, trivial⟩
 | false =>
   simp only [Bool.or_eq_false_iff, decide_eq_false_iff_not] at h
   exact ⟨by omega, by show k < 15; omega, rfl, trivial⟩
theorem RD {l : List Int} {i : Int} (h0 : 0 <= i) (hi : i < l.length) (hr : U.rise 0 l = U.rise (U.mP l i) (l.drop i.toNat)) :
 U.rise 0 l = ((decide (U.mP l i < l[i.toNat]) && decide (l[i.toNat] <= 4294967295)) && U.rise l[i.toNat] (l.drop (i + 1).toNat)) := by
 rw [hr, drop_at h0 hi]; rfl
theorem prev_next {l : List Int} {i : Int} (h0 : 0 <= i) (hi : i < l.length) : U.mP l (i + 1) = l[i.toNat] := by
 unfold U.mP
 rw [decide_eq_false (by omega), show i + 1 - 1 = i by omega, getD_at (by omega)]; rfl
theorem aez (l : List Int) (h : l.length <= maxLen) : Jq l := by
 unfold Jq U.rH
 rw [maxLen_eq] at h
 simp only [cond_prop, dh, dN, aX, dK, eF, jG, dG, bP, fB, bT, fJ, U.at_, maxLen_eq, decide_eq_true_eq, decide_eq_false_iff_not, bne_iff_ne, bne_eq_false_iff_eq, Bool.not_eq_true', Bool.not_eq_false', Bool.not_eq_eq_eq_not, Bool.not_true, Bool.not_false, beq_eq_false_iff_ne, beq_iff_eq, and_true, true_and, Bool.and_eq_true, Bool.or_eq_true, Bool.and_eq_false_iff, Bool.or_eq_false_iff, U.tq]
 refine ⟨0, ⟨rfl, ⟨by omega, by omega⟩, by show (0 : Int) <= 0; omega, rfl⟩, ?_⟩
 rintro i ⟨⟨h0, h1⟩, h2, h3⟩
 refine ⟨fun hi => ⟨h0, hi, fun _ _ => by rw [dn] <;> omega, fun _ _ => by rw [dn] <;> omega, fun hb => ?_, fun hb => ⟨i + 1, by rw [dn (x := i + 1) (by omega) (by omega)], ⟨⟨by omega, by omega⟩, ?_, ?_⟩, by omega⟩⟩, fun hi => ?_⟩
 ·rw [RD h0 hi h3]
  rw [getD_at (by omega)] at hb
  have : (decide (U.mP l i < l[i.toNat]) && decide (l[i.toNat] <= 4294967295)) = false := by
   rw [Bool.and_eq_false_iff, decide_eq_false_iff_not, decide_eq_false_iff_not]
   rcases hb with (hb | hb) | ⟨hb1, hb2⟩
   ·left; omega
   ·right; omega
   ·left
    rw [dn (x := i - 1) (by omega) (by omega)] at hb2
    unfold U.mP; rw [decide_eq_false (by omega)]; simp only [cond_false]; omega
  rw [this]; rfl
 ·rw [getD_at (by omega)] at hb
  rw [prev_next h0 hi]; omega
 ·rw [getD_at (by omega)] at hb
  rw [prev_next h0 hi, RD h0 hi h3]
  have : (decide (U.mP l i < l[i.toNat]) && decide (l[i.toNat] <= 4294967295)) = true := by
   rw [Bool.and_eq_true, decide_eq_true_eq, decide_eq_true_eq]
   obtain ⟨⟨hb1, hb2⟩, hb3⟩ := hb
   refine ⟨?_, by omega⟩
   unfold U.mP
   by_cases hz : i = 0
   ·rw [decide_eq_true hz]; simp only [cond_true]; omega
   ·rw [decide_eq_false hz]; simp only [cond_false]
    rw [dn (x := i - 1) (by omega) (by omega)] at hb3
    omega
  rw [this, Bool.true_and]
 ·rw [h3, drop_end (by omega)]
  rw [show U.rise (U.mP l i) [] = true from rfl, Bool.true_and]
  congr 1 <;> (rw [decide_eq_decide]; omega)
theorem ZB (r : Range) : DL r := by
 unfold DL U.badR; rw [dN]; exact ⟨rfl, trivial⟩
theorem aeA (l : List Range) (h : l.length <= maxLen) : Jr l := by
 unfold Jr U.jm
 rw [maxLen_eq] at h
 simp only [cond_prop, aX, bP, U.at_, decide_eq_true_eq, decide_eq_false_iff_not, and_true, U.vT]
 have hd : decide (l.length <= 60) = decide ((l.length : Int) <= 60) := by rw [decide_eq_decide]; omega
 refine ⟨fun h6 => ⟨0, ⟨rfl, ⟨by omega, by omega⟩, rfl⟩, ?_⟩, fun h6 => ?_⟩
 ·rintro i ⟨⟨h0, h1⟩, h2⟩
  rw [hd, decide_eq_true h6, Bool.true_and]
  refine ⟨fun hi => ⟨h0, hi, fun hb => ?_, fun hb => ⟨i + 1, by rw [dn (x := i + 1) (by omega) (by omega)], ⟨⟨by omega, by omega⟩, ?_⟩, by omega⟩⟩, fun hi => ?_⟩
  ·rw [getD_at (by omega)] at hb
   rw [<- h2, drop_at h0 hi, List.any_cons, hb, decide_eq_true h0]; rfl
  ·rw [getD_at (by omega)] at hb
   rw [<- h2, drop_at h0 hi, List.any_cons, hb, Bool.false_or]
  ·rw [<- h2, drop_end (by omega)]; rfl
 ·rw [hd, decide_eq_false h6]; rfl
theorem akm (x : BitVec 64) : (x &&& ~~~(BitVec.ofInt 64 31)) = 0#64 ↔ x.toNat < 32 := by
 have h31 : ∀ i < 64, (~~~(BitVec.ofInt 64 31)).getLsbD i = decide (5 <= i) := by decide
 constructor
 ·intro h
  refine Nat.lt_pow_two_of_testBit (n := 5) _ fun i hi => ?_
  by_cases h64 : i < 64
  ·have := congrArg (fun y : BitVec 64 => y.getLsbD i) h
   simp only [BitVec.getLsbD_and, h31 i h64, decide_eq_true hi, Bool.and_true, BitVec.getLsbD_zero] at this
   exact this
  ·exact BitVec.getLsbD_of_ge x i (by omega)
 ·intro h
  apply BitVec.eq_of_getLsbD_eq
  intro i hi
  rw [BitVec.getLsbD_and, h31 i hi, BitVec.getLsbD_zero]
  by_cases h5 : 5 <= i
  ·have : x.toNat.testBit i = false := Nat.testBit_lt_two_pow (Nat.lt_of_lt_of_le h (Nat.pow_le_pow_right (n := 2) (by decide) h5))
   rw [show x.getLsbD i = x.toNat.testBit i from rfl, this]; rfl
  ·rw [decide_eq_false h5, Bool.and_false]
theorem ajB {f : Int} (h : -9223372036854775808 <= f /\ f <= 9223372036854775807) : decide (afk .i64 f 31 = 0) = U.sZ f := by
 unfold U.sZ afk
 rw [Bool.eq_iff_iff, decide_eq_true_eq, Bool.and_eq_true, decide_eq_true_eq, decide_eq_true_eq]
 have hb := akm (BitVec.ofInt 64 f)
 have hn : (BitVec.ofInt 64 f).toNat = (f % 18446744073709551616).toNat := by rw [BitVec.toNat_ofInt]; rfl
 have hz : IntKind.i64.wrap (((BitVec.ofInt 64 f) &&& ~~~(BitVec.ofInt 64 31)).toNat : Int) = 0 ↔ ((BitVec.ofInt 64 f) &&& ~~~(BitVec.ofInt 64 31)) = 0#64 := by
  have hlt := ((BitVec.ofInt 64 f) &&& ~~~(BitVec.ofInt 64 31)).isLt
  rw [wrap_i64, <- BitVec.toNat_inj, show (0#64).toNat = 0 from rfl]; omega
 show IntKind.i64.wrap (((BitVec.ofInt 64 f) &&& ~~~(BitVec.ofInt 64 31)).toNat : Int) = 0 ↔ _
 rw [hz, hb, hn]; omega
theorem acH (f : Int) (h : -9223372036854775808 <= f /\ f <= 9223372036854775807) : G8 f := by
 unfold G8
 exact ⟨ajB h, trivial⟩
theorem acI (e : Event) (c : Int) (h1 : (U.cO e).length <= 1000000000000) (h2 : (U.eTo e).length <= 1000000000000) : G9 e c := by
 unfold G9 U.good U.none_
 by_cases h : c = 98
 ·simp only [decide_eq_true h, cond_true]; exact ⟨h1, rfl, Aw _, trivial⟩
 simp only [decide_eq_false h, cond_false]; clear h
 by_cases h : c = 116
 ·simp only [decide_eq_true h, cond_true]; exact ⟨h2, rfl, Aw _, trivial⟩
 simp only [decide_eq_false h, cond_false]; clear h
 by_cases h : c = 105
 ·simp only [decide_eq_true h, cond_true]; exact ⟨rfl, Az _, trivial⟩
 simp only [decide_eq_false h, cond_false]; clear h
 by_cases h : c = 115
 ·simp only [decide_eq_true h, cond_true]; exact ⟨rfl, Az _, trivial⟩
 simp only [decide_eq_false h, cond_false]; clear h
 by_cases h : c = 109
 ·simp only [decide_eq_true h, cond_true]; exact ⟨rfl, rfl, trivial⟩
 simp only [decide_eq_false h, cond_false]; clear h
 by_cases h : c = 102
 ·simp only [decide_eq_true h, cond_true]; exact ⟨rfl, rfl, trivial⟩
 simp only [decide_eq_false h, cond_false]; clear h
 by_cases h : c = 100
 ·simp only [decide_eq_true h, cond_true]; exact ⟨rfl, rfl, trivial⟩
 simp only [decide_eq_false h, cond_false]; clear h
 by_cases h : c = 110
 ·simp only [decide_eq_true h, cond_true]; exact ⟨rfl, rfl, trivial⟩
 simp only [decide_eq_false h, cond_false]; clear h
 exact ⟨by rw [decide_eq_decide]; show ((U.gX e).length : Int) <= 2000 ↔ _; omega, Az _, trivial⟩
theorem ahS {α : Type} {l : List α} {f : α -> Bool} {i : Int} (h0 : 0 <= i) (hi : i < l.length) : (l.drop i.toNat).all f = (f l[i.toNat] && (l.drop (i + 1).toNat).all f) := by
 rw [drop_at h0 hi]; rfl
theorem ZC (e : Event) (h1 : (U.cO e).length <= 1000000000000) (h2 : (U.eTo e).length <= 1000000000000) : DN e := by
 unfold DN
 have hfold : U.bg e = (!(decide (U.parts e.1 = [])) && (U.within (U.eAt e) 1099511627776 && U.order.all (U.okC (U.parts e.1) e))) := rfl
 simp only [Aw]
 simp only [cond_prop, dN, aX, bP, decide_eq_true_eq, decide_eq_false_iff_not, and_true, Bool.or_eq_true, Bool.or_eq_false_iff, Bool.not_eq_true', Bool.not_eq_false', U.kN]
 refine ⟨fun hb => ?_, fun hb => ⟨by omega, 0, ⟨rfl, by omega, by omega, hb.1, hb.2, rfl⟩, ?_⟩⟩
 ·rw [hfold]
  rcases hb with hb | hb
  ·rw [decide_eq_true hb]; rfl
  ·rw [show U.within (U.eAt e) 1099511627776 = false from hb, Bool.false_and, Bool.and_false]
 ·rintro i ⟨h0, h9, hp, hw, ha⟩
  have hR : U.bg e = U.order.all (U.okC (U.parts e.1) e) := by rw [hfold, decide_eq_false hp, hw]; rfl
  have hol : U.order.length = 9 := rfl
  refine ⟨fun hi => ?_, fun hi => ?_⟩
  ·have hg : U.order.getD i.toNat 0 = U.order[i.toNat]'(by omega) := getD_at (by omega)
   have hstep := ahS (l := U.order) (f := U.okC (U.parts e.1) e) h0 (by omega)
   rw [ha] at hstep
   rw [hg, dn (x := i + 1) (by omega) (by omega)]
   have hnext : U.okC (U.parts e.1) e (U.order[i.toNat]'(by omega)) = true -> (U.order.drop (i + 1).toNat).all (U.okC (U.parts e.1) e) = U.order.all (U.okC (U.parts e.1) e) := fun h => by rw [hstep, h, Bool.true_and]
   refine ⟨h0, by show i < 9; omega, by omega, h1, h2, fun hc => ⟨fun hn => ?_, fun hn => ⟨i + 1, rfl, ⟨by omega, by omega, hp, hw, hnext ?_⟩, by omega⟩⟩, fun hc => ⟨fun hn => ?_, fun hn => ⟨i + 1, rfl, ⟨by omega, by omega, hp, hw, hnext ?_⟩, by omega⟩⟩⟩
   ·have : U.okC (U.parts e.1) e (U.order[i.toNat]'(by omega)) = false := by unfold U.okC; rw [decide_eq_true hc]; exact hn
    rw [hR, hstep, this]; rfl
   ·unfold U.okC; rw [decide_eq_true hc]; exact hn
   ·have : U.okC (U.parts e.1) e (U.order[i.toNat]'(by omega)) = false := by unfold U.okC; rw [decide_eq_false hc]; exact hn
    rw [hR, hstep, this]; rfl
   ·unfold U.okC; rw [decide_eq_false hc]; exact hn
  ·have : i = 9 := by omega
   subst this
   rw [hR, <- ha]; rfl
theorem ZE (e : Event) : DW e := by
 unfold DW U.great U.cO U.eTo U.aW U.aN U.gX
 simp only [dN, <- Bool.or_assoc]
 refine ⟨?_, trivial⟩
 have h5 : ∀ a : Nat, decide ((a : Int) > 500) = decide (a > 500) := fun a => by rw [decide_eq_decide]; omega
 have h2 : ∀ a : Nat, decide ((a : Int) > 200) = decide (a > 200) := fun a => by rw [decide_eq_decide]; omega
 have h50 : ∀ a : Nat, decide ((a : Int) > 5000) = decide (a > 5000) := fun a => by rw [decide_eq_decide]; omega
 rw [h5, h5, h2, h2, h50]
theorem aeB (b : List Int) (e : Event) (c : Int) (hb : b.length <= 100000000000) (h1 : (U.aW e).length <= 1000000000) (h2 : (U.aN e).length <= 1000000000) : Js b e c := by
 have hb' : b.length <= 1000000000000 := by omega
 have t1 : ∀ s : List Int, U.texts [s] = U.text1 s := fun s => by simp [U.texts]
 have n1 : ∀ n : Int, U.nums [n] = U.num1 n := fun n => by simp [U.nums]
 unfold Js U.jO
 by_cases h : c = 98
 ·simp only [decide_eq_true h, cond_true]; exact ⟨hb', by omega, congrArg (b ++ ·) (t1 _), trivial⟩
 simp only [decide_eq_false h, cond_false]; clear h
 by_cases h : c = 116
 ·simp only [decide_eq_true h, cond_true]; exact ⟨hb', by omega, congrArg (b ++ ·) (t1 _), trivial⟩
 simp only [decide_eq_false h, cond_false]; clear h
 by_cases h : c = 105
 ·simp only [decide_eq_true h, cond_true]
  refine ⟨hb', by omega, ?_, by show (U.aW e).length <= _; omega, ?_, trivial⟩
  ·show (b ++ U.nums [_]).length <= _; rw [n1, List.length_append, dS]; omega
  ·show (b ++ U.nums [_]) ++ U.nums (U.aW e) = b ++ _
   rw [n1, List.append_assoc]; rfl
 simp only [decide_eq_false h, cond_false]; clear h
 by_cases h : c = 115
 ·simp only [decide_eq_true h, cond_true, cond_prop, aX, bP, bT, decide_eq_true_eq, decide_eq_false_iff_not, and_true, U.qB, U.at_]
  refine ⟨hb', by omega, (_, 0), ⟨rfl, ⟨by show (0 : Int) <= 0; omega, by show (0 : Int) <= _; omega⟩, ?_⟩, ?_⟩
  ·show b ++ U.nums [((U.aN e).length : Int)] = b ++ (U.num1 (U.aN e).length ++ [])
   rw [n1, List.append_nil]
  ·rintro ⟨o, i⟩ ⟨⟨h0, hi1⟩, ho⟩
   simp only [] at *
   have hol : o.length <= b.length + 8 + 16 * (U.aN e).length := by
    rw [ho, List.length_append, List.length_append, dS, IV, List.length_take]
    have := Nat.mul_le_mul_left 16 (Nat.min_le_right i.toNat (U.aN e).length); omega
   refine ⟨fun hi => ⟨h0, hi, by omega, by omega, (_, i + 1), by rw [dn (x := i + 1) (by omega) (by omega)], ⟨⟨by show 0 <= i + 1; omega, by show i + 1 <= _; omega⟩, ?_⟩, by show (U.aN e).length - (i + 1).toNat < _; omega⟩, fun hi => ?_⟩
   ·show o ++ U.nums [((U.aN e).getD i.toNat (0, 0)).1, ((U.aN e).getD i.toNat (0, 0)).2] = _
    rw [ho, take_at h0 hi, WZ, getD_at (by omega), List.append_assoc, List.append_assoc]
    simp [U.nums]
   ·rw [ho, pO (by omega)]
 simp only [decide_eq_false h, cond_false]; clear h
 by_cases h : c = 109
 ·simp only [decide_eq_true h, cond_true]; exact ⟨hb', by omega, congrArg (b ++ ·) (n1 _), trivial⟩
 simp only [decide_eq_false h, cond_false]; clear h
 by_cases h : c = 102
 ·simp only [decide_eq_true h, cond_true]; exact ⟨hb', by omega, congrArg (b ++ ·) (n1 _), trivial⟩
 simp only [decide_eq_false h, cond_false]; clear h
 by_cases h : c = 100
 ·simp only [decide_eq_true h, cond_true]; exact ⟨hb', by omega, congrArg (b ++ ·) (n1 _), trivial⟩
 simp only [decide_eq_false h, cond_false]; clear h
 by_cases h : c = 110
 ·simp only [decide_eq_true h, cond_true]; exact ⟨hb', by omega, congrArg (b ++ ·) (n1 _), trivial⟩
 simp only [decide_eq_false h, cond_false]; clear h
 exact ⟨hb', by omega, congrArg (b ++ ·) (t1 _), trivial⟩
theorem W9 {e : Event} (h : U.bg e = true) : U.jE e = (U.qc e, 0) := by unfold U.jE; rw [h]; rfl
theorem Xa {e : Event} (h : U.bg e = false) : U.jE e = ([], 1) := by unfold U.jE; rw [h]; rfl
theorem Y0 {f : Int -> List Int} (l : List Int) (c : Int) : (l ++ [c]).flatMap f = l.flatMap f ++ f c := by simp
theorem Yg (e : Event) (h1 : (U.cO e).length <= 1000000000000) (h2 : (U.eTo e).length <= 1000000000000) : Ap e := by
 unfold Ap
 refine ⟨h1, h2, ?_⟩
 cases hr : U.bg e with
 | false => rw [Xa hr]; exact ⟨rfl, rfl, trivial⟩
 | true =>
   have hk : U.bQ e = e.1 := rfl
   rw [W9 hr]
   simp only [Bool.not_true, cond_false, cond_prop, aX, bP, bT, decide_eq_true_eq, decide_eq_false_iff_not, and_true, U.mQ, U.at_]
   refine ⟨by omega, by omega, (_, 0), ⟨rfl, ⟨by show (0 : Int) <= 0; omega, by show (0 : Int) <= _; omega⟩, hr, ?_⟩, ?_⟩
   ·show U.nums [e.1, e.2.1] = U.num1 (U.bQ e) ++ (U.num1 (U.eAt e) ++ [])
    simp [U.nums]; rfl
   ·rintro ⟨o, i⟩ ⟨⟨h0, hi1⟩, _, ho⟩
    simp only [] at *
    refine ⟨fun hi => ?_, fun hi => ?_⟩
    ·have hm : (U.parts e.1)[i.toNat]'(by omega) ∈ U.parts (U.bQ e) := List.getElem_mem _
     have XM : (U.aW e).length <= 60 := by
      by_cases h5 : 105 ∈ U.parts (U.bQ e)
      ·exact (Ye (show U.rH (U.aW e) = true from FM hr h5)).1.2
      ·have := ((((Jv e).1 hr).2.2 105 (by decide)).2 h5)
       rw [of_decide_eq_true (show decide (U.aW e = []) = true from this)]; exact Nat.zero_le _
     have hset : (U.aN e).length <= 60 := by
      by_cases h5 : 115 ∈ U.parts (U.bQ e)
      ·exact (Yd (show U.jm (U.aN e) = true from FM hr h5)).1
      ·have := ((((Jv e).1 hr).2.2 115 (by decide)).2 h5)
       rw [of_decide_eq_true (show decide (U.aN e = []) = true from this)]; exact Nat.zero_le _
     have hpl : (U.parts e.1).length <= 4 := by
      have : ∀ p ∈ U.Df, p.length <= 4 := by decide
      exact this _ (IU _)
     have hol : o.length <= 30000 := by
      rw [ho, List.length_append, List.length_append, dS, dS]
      have := UQ (f := fun c => U.jO c e) (k := 5000) ((U.parts e.1).take i.toNat) fun c hc => afn ((L6 _).2 c (List.mem_of_mem_take hc)) (FM hr (List.mem_of_mem_take hc))
      have h4 : ((U.parts e.1).take i.toNat).length <= 4 := by rw [List.length_take]; omega
      have := Nat.mul_le_mul_left 5000 h4
      omega
     refine ⟨h0, hi, by omega, by omega, by omega, by omega, (_, i + 1), by rw [dn (x := i + 1) (by omega) (by omega)], ⟨⟨by show 0 <= i + 1; omega, by show i + 1 <= _; omega⟩, hr, ?_⟩, by show (U.parts e.1).length - (i + 1).toNat < _; omega⟩
     show o ++ U.jO ((U.parts e.1).getD i.toNat 0) e = _
     rw [ho, take_at h0 hi, Y0, getD_at (by omega), List.append_assoc, List.append_assoc]
    ·rw [ho, pO (by omega)]; rfl
theorem ZF (f : Int) : DR f := by
 unfold DR U.sZ; rw [dh]; exact ⟨rfl, trivial⟩
theorem Yh (l : List Int) (h : l.length <= maxLen) : Ar l := by
 unfold Ar
 rw [maxLen_eq] at h
 simp only [cond_prop, dh, dN, aX, dK, eF, jG, dG, bP, fB, bT, fJ, U.at_, maxLen_eq, decide_eq_true_eq, decide_eq_false_iff_not, bne_iff_ne, bne_eq_false_iff_eq, Bool.not_eq_true', Bool.not_eq_false', Bool.not_eq_eq_eq_not, Bool.not_true, Bool.not_false, beq_eq_false_iff_ne, beq_iff_eq, and_true, true_and, Bool.and_eq_true, Bool.or_eq_true, Bool.and_eq_false_iff, Bool.or_eq_false_iff, U.mV]
 refine ⟨0, ⟨rfl, ⟨by omega, by omega⟩, by show (0 : Int) <= 0; omega, rfl⟩, ?_⟩
 rintro i ⟨⟨h0, h1⟩, h2, h3⟩
 refine ⟨fun hi => ⟨h0, hi, fun _ => h0, fun _ => hi, fun _ _ => by rw [dn] <;> omega, fun _ _ => by rw [dn] <;> omega, fun _ _ => h0, fun _ _ => hi, fun hb => ?_, fun hb => ⟨i + 1, by rw [dn (x := i + 1) (by omega) (by omega)], ⟨⟨by omega, by omega⟩, ?_, ?_⟩, by omega⟩⟩, fun hi => ?_⟩
 ·rw [RD h0 hi h3]
  rw [getD_at (by omega)] at hb
  have : (decide (U.mP l i < l[i.toNat]) && decide (l[i.toNat] <= 4294967295)) = false := by
   rw [Bool.and_eq_false_iff, decide_eq_false_iff_not, decide_eq_false_iff_not]
   rcases hb with (hb | hb) | ⟨hb1, hb2⟩
   ·left; omega
   ·right; omega
   ·left
    rw [dn (x := i - 1) (by omega) (by omega)] at hb2
    unfold U.mP; rw [decide_eq_false (by omega)]; simp only [cond_false]; omega
  rw [this]; rfl
 ·rw [getD_at (by omega)] at hb
  rw [prev_next h0 hi]; omega
 ·rw [getD_at (by omega)] at hb
  rw [prev_next h0 hi, RD h0 hi h3]
  have : (decide (U.mP l i < l[i.toNat]) && decide (l[i.toNat] <= 4294967295)) = true := by
   rw [Bool.and_eq_true, decide_eq_true_eq, decide_eq_true_eq]
   obtain ⟨⟨hb1, hb2⟩, hb3⟩ := hb
   refine ⟨?_, by omega⟩
   unfold U.mP
   by_cases hz : i = 0
   ·rw [decide_eq_true hz]; simp only [cond_true]; omega
   ·rw [decide_eq_false hz]; simp only [cond_false]
    rw [dn (x := i - 1) (by omega) (by omega)] at hb3
    omega
  rw [this, Bool.true_and]
 ·rw [h3, drop_end (by omega)]; rfl
theorem acJ (r : Range) : U.badR r = (decide (r.1 < 0) || decide (r.1 > 4294967295) || decide (r.2 < 0) || decide (r.2 > 4294967295)) := by
 unfold U.badR U.within
 rw [Bool.eq_iff_iff]
 simp only [Bool.or_eq_true, Bool.not_eq_true', Bool.and_eq_false_iff, decide_eq_false_iff_not, decide_eq_true_eq]
 omega
theorem ZG (l : List Range) (h : l.length <= maxLen) : DT l := by
 unfold DT U.jm
 rw [maxLen_eq] at h
 simp only [cond_prop, dh, dN, aX, dK, eF, jG, dG, bP, fB, bT, fJ, U.at_, maxLen_eq, decide_eq_true_eq, decide_eq_false_iff_not, bne_iff_ne, bne_eq_false_iff_eq, Bool.not_eq_true', Bool.not_eq_false', Bool.not_eq_eq_eq_not, Bool.not_true, Bool.not_false, beq_eq_false_iff_ne, beq_iff_eq, and_true, true_and, Bool.and_eq_true, Bool.or_eq_true, Bool.and_eq_false_iff, Bool.or_eq_false_iff, U.oJ]
 refine ⟨0, ⟨rfl, ⟨by omega, by omega⟩, by omega, rfl⟩, ?_⟩
 rintro i ⟨⟨h0, h1⟩, h2, h3⟩
 refine ⟨fun hi => ⟨h0, hi.1, fun _ => h0, fun _ => hi.1, fun _ => h0, fun _ => hi.1, fun _ => h0, fun _ => hi.1, fun hb => ?_, fun hb => ⟨i + 1, by rw [dn (x := i + 1) (by omega) (by omega)], ⟨⟨by omega, by omega⟩, by omega, ?_⟩, by omega⟩⟩, fun hi => ?_⟩
 ·rw [getD_at (by omega)] at hb
  have : U.badR l[i.toNat] = true := by rw [acJ]; simpa using hb
  rw [<- h3, drop_at h0 hi.1, List.any_cons, this]; simp
 ·rw [getD_at (by omega)] at hb
  have : U.badR l[i.toNat] = false := by rw [acJ]; simpa using hb
  rw [<- h3, drop_at h0 hi.1, List.any_cons, this, Bool.false_or]
 ·by_cases h6 : l.length <= 60
  ·have hd : l.drop i.toNat = [] := drop_end (by omega)
   rw [<- h3, hd, decide_eq_true h6, show decide ((l.length : Int) >= 1) = decide (l.length >= 1) by rw [decide_eq_decide]; omega, decide_eq_true (by omega : (l.length : Int) <= 60)]
   simp
  ·rw [decide_eq_false h6, decide_eq_false (by omega : ¬ (l.length : Int) <= 60)]; simp
theorem ZH (k : Int) : DU k := by
 unfold DU
 by_cases hk : 0 <= k /\ k < 15
 ·have : k = 0 ∨ k = 1 ∨ k = 2 ∨ k = 3 ∨ k = 4 ∨ k = 5 ∨ k = 6 ∨ k = 7 ∨ k = 8 ∨ k = 9 ∨ k = 10 ∨ k = 11 ∨ k = 12 ∨ k = 13 ∨ k = 14 := by omega
  rcases this with rfl | rfl | rfl | rfl | rfl | rfl | rfl | rfl | rfl | rfl | rfl | rfl | rfl | rfl | rfl <;> exact ⟨rfl, trivial⟩
 ·have hp : U.parts k = [] := by
   unfold U.parts
   rw [show (decide (k < 0) || decide (k >= 15)) = true by rw [Bool.or_eq_true, decide_eq_true_eq, decide_eq_true_eq]; omega]; rfl
  rw [hp]
  have hn : ∀ n : Int, 0 <= n -> n < 15 -> decide (k = n) = false := fun n h1 h2 => by rw [decide_eq_false_iff_not]; omega
  simp only [hn 1 (by omega) (by omega), hn 2 (by omega) (by omega), hn 3 (by omega) (by omega), hn 4 (by omega) (by omega), hn 5 (by omega) (by omega), hn 6 (by omega) (by omega), hn 7 (by omega) (by omega), hn 8 (by omega) (by omega), hn 9 (by omega) (by omega), hn 10 (by omega) (by omega), hn 11 (by omega) (by omega), hn 12 (by omega) (by omega), hn 13 (by omega) (by omega), hn 14 (by omega) (by omega), cond_false, and_true]
theorem acK (n : Int) : He n := by
 unfold He U.within; rw [dh]; exact ⟨rfl, trivial⟩
theorem aeC (l : List Range) : Jt l := by
 unfold Jt
 refine ⟨?_, trivial⟩
 cases l with
 | nil => rfl
 | cons x r =>
   rw [decide_eq_false (by rw [List.length_cons]; omega), decide_eq_true (by rw [List.length_cons]; omega : (x :: r).length >= 1)]; rfl
theorem aeD (s : List Int) (c : Int) (h : s.length <= maxLen) : Ju s c := by
 unfold Ju
 rw [maxLen_eq] at h
 have hm : ∀ l : List Int, decide (aA l c >= 0) = decide (c ∈ l) := fun l => by rw [decide_eq_decide]; exact nO l c
 simp only [cond_prop, dh, dN, aX, dK, eF, jG, dG, bP, fB, bT, fJ, U.at_, maxLen_eq, decide_eq_true_eq, decide_eq_false_iff_not, bne_iff_ne, bne_eq_false_iff_eq, Bool.not_eq_true', Bool.not_eq_false', Bool.not_eq_eq_eq_not, Bool.not_true, Bool.not_false, beq_eq_false_iff_ne, beq_iff_eq, and_true, true_and, Bool.and_eq_true, Bool.or_eq_true, Bool.and_eq_false_iff, Bool.or_eq_false_iff, U.tC, hm]
 refine ⟨0, ⟨rfl, ⟨by omega, by omega⟩, rfl⟩, ?_⟩
 rintro i ⟨⟨h0, h1⟩, h2⟩
 refine ⟨fun hi => ⟨h0, hi, fun he => ?_, fun he => ⟨i + 1, by rw [dn (x := i + 1) (by omega) (by omega)], ⟨⟨by omega, by omega⟩, ?_⟩, by omega⟩⟩, fun hi => ?_⟩
 ·rw [getD_at (by omega)] at he
  rw [h2, drop_at h0 hi]; symm; rw [decide_eq_true_eq, he]; simp
 ·rw [getD_at (by omega)] at he
  rw [h2, drop_at h0 hi, decide_eq_decide, List.mem_cons]
  constructor
  ·rintro (h | h)
   ·exact absurd h.symm he
   ·exact h
  ·exact .inr
 ·rw [h2, drop_end (by omega)]; rfl
theorem xB (r : U.RS) : ∃ k, (U.ak r).2.1 = r.1.drop k := by
 unfold U.ak
 cases decide (r.2 = 0) with
 | false => exact ⟨0, rfl⟩
 | true =>
   cases decide (r.1.length < 8) with
   | true => exact ⟨0, rfl⟩
   | false => cases decide (U.aT (r.1.take 8) > 4611686018427387904) <;> exact ⟨8, rfl⟩
theorem ahT (r : U.RS) : (∃ k, (U.aS r).2.1 = r.1.drop k) /\ (U.aS r).1.length <= r.1.length := by
 unfold U.aS
 cases decide (r.2 = 0) with
 | false => exact ⟨⟨0, rfl⟩, Nat.zero_le _⟩
 | true =>
   cases decide (r.1.length < 4) with
   | true => exact ⟨⟨0, rfl⟩, Nat.zero_le _⟩
   | false =>
     cases decide (U.aT (r.1.take 4) > 4096) with
     | true => exact ⟨⟨4, rfl⟩, Nat.zero_le _⟩
     | false =>
       cases decide ((r.1.drop 4).length < (U.aT (r.1.take 4)).toNat) with
       | true => exact ⟨⟨4, rfl⟩, Nat.zero_le _⟩
       | false => exact ⟨⟨4 + (U.aT (r.1.take 4)).toNat, by rw [<- List.drop_drop]; rfl⟩, by show ((r.1.drop 4).take _).length <= _; rw [List.length_take, List.length_drop]; omega⟩
theorem Xb (m : Int) (r : U.RS) : ∃ k, (U.aH m r).2.1 = r.1.drop k := by
 unfold U.aH
 obtain ⟨k, h⟩ := xB r
 cases (decide ((U.ak r).2.2 = 0) && decide ((U.ak r).1 > m)) <;> exact ⟨k, h⟩
theorem yt {a b c : List Int} (h1 : ∃ k, b = a.drop k) (h2 : ∃ k, c = b.drop k) : ∃ k, c = a.drop k := by
 obtain ⟨i, rfl⟩ := h1
 obtain ⟨j, rfl⟩ := h2
 exact ⟨i + j, by rw [List.drop_drop]⟩
theorem Qq : ∀ (n : Nat) (r : U.RS), ∃ k, (U.fV n r).2.1 = r.1.drop k
 | 0, r => ⟨0, rfl⟩
 | n + 1, r => yt (xB r) (Qq n (U.ak r).2)
theorem Ko : ∀ (n : Nat) (r : U.RS), ∃ k, (U.dW n r).2.1 = r.1.drop k
 | 0, r => ⟨0, rfl⟩
 | n + 1, r => yt (xB r) (yt (xB (U.ak r).2) (Ko n (U.ak (U.ak r).2).2))
def okX (M : Nat) (x : U.RS × Event) : Prop := (∀ z ∈ x.1.1, Byte z) /\ x.1.1.length <= M /\ (U.cO x.2).length <= M /\ (U.eTo x.2).length <= M
theorem qU {M : Nat} {x y : U.RS × Event} (h : okX M x) (hs : ∃ k, y.1.1 = x.1.1.drop k) (hb : (U.cO y.2).length <= M) (ht : (U.eTo y.2).length <= M) : okX M y := by
 obtain ⟨k, hk⟩ := hs
 refine ⟨fun z hz => h.1 z (List.mem_of_mem_drop (by rw [<- hk]; exact hz)), ?_, hb, ht⟩
 rw [hk, List.length_drop]; have := h.2.1; omega
theorem acL {M : Nat} {x : U.RS × Event} (h : okX M x) (c : Int) : okX M (U.eP c x) := by
 have key : ∀ (b : Bool) (p q : U.RS × Event), okX M p -> okX M q -> okX M (cond b p q) := by intro b p q h1 h2; cases b <;> assumption
 have hN := xB x.1
 have hT := ahT x.1
 have hl : (U.aS x.1).1.length <= M := Nat.le_trans hT.2 h.2.1
 unfold U.eP
 refine key _ _ _ (qU h hT.1 hl h.2.2.2) (key _ _ _ (qU h hT.1 h.2.2.1 hl) (key _ _ _ (qU h ?_ h.2.2.1 h.2.2.2) (key _ _ _ (qU h ?_ h.2.2.1 h.2.2.2) (key _ _ _ (qU h hN h.2.2.1 h.2.2.2) (key _ _ _ (qU h hN h.2.2.1 h.2.2.2) (key _ _ _ (qU h hN h.2.2.1 h.2.2.2) (key _ _ _ (qU h hN h.2.2.1 h.2.2.2) (key _ _ _ (qU h hT.1 h.2.2.1 h.2.2.2) h))))))))
 ·exact yt (Xb 60 x.1) (Qq _ _)
 ·exact yt (Xb 60 x.1) (Ko _ _)
theorem acM {M : Nat} : ∀ (p : List Int) {x : U.RS × Event}, okX M x -> okX M (agy p x)
 | [], _, h => h
 | c :: p, _, h => acM p (acL h c)
theorem aiI {b : List Int} (hb : ∀ z ∈ b, Byte z) : okX b.length (U.LV b) := by
 have h0 : okX b.length ((b, 0), (U.LV b).2) := ⟨hb, Nat.le_refl _, Nat.zero_le _, Nat.zero_le _⟩
 refine qU h0 ?_ (Nat.zero_le _) (Nat.zero_le _)
 have h2 : ∃ k, (U.ak (U.ak (b, 0)).2).2.1 = b.drop k := yt (xB (b, 0)) (xB (U.ak (b, 0)).2)
 have : ∀ (t : Bool) (r : U.RS), (U.gG t r).1 = r.1 := fun t r => by unfold U.gG; cases (decide (r.2 = 0) && t) <;> rfl
 show ∃ k, (U.gG _ _).1 = _
 rw [this]; exact h2
theorem Qr {r : U.RS} (hb : ∀ z ∈ r.1, Byte z) : 0 <= (U.aH 60 r).1 /\ (U.aH 60 r).1 <= 60 := by
 unfold U.aH U.ak
 by_cases h0 : r.2 = 0
 ·by_cases h8 : r.1.length < 8
  ·simp [h0, h8]
  ·have hv := GV 8 (r.1.take 8) (by rw [List.length_take]; omega) (fun x hx => hb x (List.mem_of_mem_take hx))
   by_cases hg : U.aT (r.1.take 8) > 4611686018427387904
   ·simp [h0, h8, hg]
   ·by_cases h60 : U.aT (r.1.take 8) > 60
    ·simp [h0, h8, hg, h60]
    ·simp [h0, h8, hg, h60]; omega
 ·simp [h0]
theorem ajC {b : List Int} (hf : U.mD (U.xA b).1 = 0) (hr : U.bg (U.xA b).2 = true) : U.bH b = ((U.xA b).2, 0) := by
 have h : U.P6 b = 0 := by unfold U.P6; simp only [hf, hr]; rfl
 unfold U.bH; rw [h]; rfl
theorem ahU {b : List Int} (hf : U.mD (U.xA b).1 = 0) (hr : U.bg (U.xA b).2 = false) : U.bH b = (U.zeroE, 3) := by
 have h : U.P6 b = 3 := by unfold U.P6; simp only [hf, hr]; rfl
 unfold U.bH; rw [h]; rfl
theorem aiJ {b : List Int} (hf : U.mD (U.xA b).1 ≠ 0) : U.bH b = (U.zeroE, U.mD (U.xA b).1) := by
 have h : U.P6 b = U.mD (U.xA b).1 := by unfold U.P6; simp only []; rw [decide_eq_false hf]; rfl
 unfold U.bH; rw [h, decide_eq_false hf]; rfl
theorem Xc (n : Nat) (r : U.RS) : U.fV (n + 1) r = ((U.ak r).1 :: (U.fV n (U.ak r).2).1, (U.fV n (U.ak r).2).2) := rfl
theorem Qs (n : Nat) (r : U.RS) : U.dW (n + 1) r = (((U.ak r).1, (U.ak (U.ak r).2).1) :: (U.dW n (U.ak (U.ak r).2).2).1, (U.dW n (U.ak (U.ak r).2).2).2) := rfl
theorem Qu : ∀ (n : Nat) (r : U.RS), (U.fV n r).1.length = n
 | 0, _ => rfl
 | n + 1, r => by rw [Xc, List.length_cons, Qu n]
theorem Kq : ∀ (n : Nat) (r : U.RS), (U.dW n r).1.length = n
 | 0, _ => rfl
 | n + 1, r => by rw [Qs, List.length_cons, Kq n]
def L8 (n : Nat) (x : U.RS × Event) : Prop := (U.aW x.2).length <= n /\ (U.aN x.2).length <= n
theorem ahV {M n : Nat} {x : U.RS × Event} (h : okX M x) (hc : L8 n x) (c : Int) : L8 (n + 60) (U.eP c x) := by
 have key : ∀ (b : Bool) (p q : U.RS × Event), L8 (n + 60) p -> L8 (n + 60) q -> L8 (n + 60) (cond b p q) := by intro b p q h1 h2; cases b <;> assumption
 have h1 := hc.1
 have h2 := hc.2
 have hb := Qr (r := x.1) h.1
 have same : ∀ y : U.RS × Event, U.aW y.2 = U.aW x.2 -> U.aN y.2 = U.aN x.2 -> L8 (n + 60) y := fun y e1 e2 => ⟨by rw [e1]; omega, by rw [e2]; omega⟩
 unfold U.eP
 refine key _ _ _ (same _ rfl rfl) (key _ _ _ (same _ rfl rfl) (key _ _ _ ?_ (key _ _ _ ?_ (key _ _ _ (same _ rfl rfl) (key _ _ _ (same _ rfl rfl) (key _ _ _ (same _ rfl rfl) (key _ _ _ (same _ rfl rfl) (key _ _ _ (same _ rfl rfl) (same _ rfl rfl)))))))))
 ·refine ⟨?_, by show (U.aN x.2).length <= _; omega⟩
  show (U.aW x.2 ++ (U.fV (U.aH 60 x.1).1.toNat (U.aH 60 x.1).2).1).length <= _
  rw [List.length_append, Qu]; omega
 ·refine ⟨by show (U.aW x.2).length <= _; omega, ?_⟩
  show (U.aN x.2 ++ (U.dW (U.aH 60 x.1).1.toNat (U.aH 60 x.1).2).1).length <= _
  rw [List.length_append, Kq]; omega
theorem Y1 {M : Nat} : ∀ (p : List Int) {n : Nat} {x : U.RS × Event}, okX M x -> L8 n x -> L8 (n + 60 * p.length) (agy p x)
 | [], _, _, _, hc => hc
 | c :: p, n, x, h, hc => by
   have := Y1 p (acL h c) (ahV h hc c)
   rw [show n + 60 + 60 * p.length = n + 60 * (c :: p).length by rw [List.length_cons]; omega] at this
   exact this
theorem Yi (b : List Int) (hb : ∀ z ∈ b, Valid (.int .u8) z) (hl : b.length <= 1000000000) : Aq b := by
 have hbb := lT hb
 unfold Aq
 have hPM := IU (U.ak (b, 0)).1
 have hP4 : (U.parts (U.ak (b, 0)).1).length <= 4 := by
  have : ∀ p ∈ U.Df, p.length <= 4 := by decide
  exact this _ hPM
 have hord := (L6 (U.ak (b, 0)).1).2
 have hd0 : U.LV b = (U.gG ((U.parts (U.ak (b, 0)).1).beq []) (U.ak (U.ak (b, 0)).2).2, (U.ak (b, 0)).1, (U.ak (U.ak (b, 0)).2).1, [], [], [], [], 0, 0, 0, 0, []) := by rw [Aw]; rfl
 have hd1 : U.xA b = agy (U.parts (U.ak (b, 0)).1) (U.LV b) := rfl
 have hok0 := aiI hbb
 obtain ⟨p, hP⟩ : ∃ p, U.parts (U.ak (b, 0)).1 = p := ⟨_, rfl⟩
 rw [hP] at hPM hP4 hord hd0 hd1 ⊢
 refine ⟨((U.LV b).1.1, (U.LV b).1.2, (U.LV b).2, 0), ⟨by rw [hd0]; simp only [U.aU, hP] <;> rfl, ⟨by show (0 : Int) <= 0; omega, by show (0 : Int) <= _; omega⟩, rfl⟩, ?_⟩
 rintro ⟨l, r, e, i⟩ ⟨⟨h0, h1⟩, hI⟩
 simp only [hP] at h0 h1 hI
 simp only []
 have hX : okX b.length ((l, r), e) := by rw [hI]; exact acM _ hok0
 have hcnt : L8 240 ((l, r), e) := by
  have := Y1 (p.take i.toNat) hok0 (n := 0) ⟨Nat.zero_le _, Nat.zero_le _⟩
  have hle : (p.take i.toNat).length <= 4 := by rw [List.length_take]; omega
  rw [hI]
  exact ⟨Nat.le_trans this.1 (by omega), Nat.le_trans this.2 (by omega)⟩
 have hnext : (hi : i < p.length) -> ∀ z, z = U.eP p[i.toNat] ((l, r), e) -> U.dA b z.1.1 z.1.2 z.2 (i + 1) := by
  intro hi z hz
  refine ⟨⟨by omega, by rw [hP]; omega⟩, ?_⟩
  show z = _
  rw [hz, hI, hP, take_at h0 hi, List.foldl_append]; rfl
 rw [cond_prop]
 refine ⟨fun hi => ?_, fun hi => ?_⟩
 ·have hi : i < p.length := of_decide_eq_true hi
  have hg : p.getD i.toNat 0 = p[i.toNat] := getD_at (by omega)
  have hmu : p.length.sub (i + 1).toNat < p.length.sub i.toNat := by simp only [bP]; omega
  rw [hg]
  have hw : IntKind.i64.wrap (i.add 1) = i + 1 := by rw [aX, dn] <;> omega
  rw [hw]
  have hn := hnext hi
  have hmo := YZ (hord p[i.toNat] (List.getElem_mem _))
  refine ⟨h0, hi, by omega, ?_⟩
  generalize p[i.toNat] = c at *
  rcases hmo with rfl | rfl | rfl | rfl | rfl | rfl | rfl | rfl | rfl
  ·exact ⟨((U.eP 98 ((l, r), e)).1.1, (U.eP 98 ((l, r), e)).1.2, (U.eP 98 ((l, r), e)).2, i + 1), by simp only [U.aU, hP] <;> rfl, hn _ rfl, hmu⟩
  ·exact ⟨((U.eP 116 ((l, r), e)).1.1, (U.eP 116 ((l, r), e)).1.2, (U.eP 116 ((l, r), e)).2, i + 1), by simp only [U.aU, hP] <;> rfl, hn _ rfl, hmu⟩
  ·show ∃ x0, _
   have hc := Qr (r := (l, r)) hX.1
   refine ⟨((U.aH 60 (l, r)).2.1, (U.aH 60 (l, r)).2.2, e, p, (U.aH 60 (l, r)).1, 0), ⟨rfl, ?_⟩, ?_⟩
   ·exact ⟨rfl, rfl, by show (0 : Int) <= 0; omega, hc.1, hc.2, rfl, by show _ = _ + Int.toNat 0; rfl, rfl, by simp, by simp⟩
   ·rintro ⟨l1, r1, e1, p1, n1, j⟩ ⟨hn1, hp1, j0, j1, aiK, _, hlen, he1, aaR, aaS⟩
    simp only [] at *
    subst hn1; subst hp1
    have j0 : 0 <= j := j0
    have j1 : j <= (U.aH 60 (l, r)).1 := j1
    rw [cond_prop]
    have akZ : (U.aW e1).length <= (U.aW e).length + 60 := by omega
    have hide : (U.aW e).length <= 240 := hcnt.1
    refine ⟨fun hj => ?_, fun hj => ?_⟩
    ·have hj : j < _ := of_decide_eq_true hj
     have hwj : IntKind.i64.wrap (j.add 1) = j + 1 := by rw [aX, dn] <;> omega
     rw [hwj]
     have hst := Xc ((U.aH 60 (l, r)).1 - (j + 1)).toNat (l1, r1)
     rw [show ((U.aH 60 (l, r)).1 - (j + 1)).toNat + 1 = ((U.aH 60 (l, r)).1 - j).toNat by omega] at hst
     rw [hst] at aaR aaS
     refine ⟨by simp only [dG, fB]; omega, by simp only [dG, maxLen_eq]; omega, ((U.ak (l1, r1)).2.1, (U.ak (l1, r1)).2.2, (U.bQ e1, U.eAt e1, U.cO e1, U.eTo e1, U.aW e1 ++ [(U.ak (l1, r1)).1], U.aN e1, U.jJ e1, U.jD e1, U.mO e1, U.eN e1, U.gX e1), p1, (U.aH 60 (l, r)).1, j + 1), rfl, ⟨rfl, rfl, by show 0 <= j + 1; omega, by show j + 1 <= (U.aH 60 (l, r)).1; omega, aiK, rfl, ?_, ?_, ?_, aaS⟩, ?_⟩
     ·show (U.aW e1 ++ [_]).length = _ + (j + 1).toNat
      rw [List.length_append, hlen]; show _ + j.toNat + 1 = _; omega
     ·rw [he1]; rfl
     ·show U.aW e ++ _ = (U.aW e1 ++ [_]) ++ _
      rw [aaR, List.append_assoc]; rfl
     ·show ((U.aH 60 (l, r)).1 - (j + 1)).toNat < ((U.aH 60 (l, r)).1 - j).toNat; omega
    ·have hj : ¬ j < _ := of_decide_eq_false hj
     have hjn : ((U.aH 60 (l, r)).1 - j).toNat = 0 := by omega
     rw [hjn] at aaR aaS
     have hz : ((l1, r1), e1) = U.eP 105 ((l, r), e) := by
      refine Prod.ext aaS.symm ?_
      rw [he1]
      show (U.bQ e, U.eAt e, U.cO e, U.eTo e, U.aW e1, _) = (U.bQ e, U.eAt e, U.cO e, U.eTo e, U.aW e ++ (U.fV (U.aH 60 (l, r)).1.toNat (U.aH 60 (l, r)).2).1, _)
      have : U.aW e ++ (U.fV (U.aH 60 (l, r)).1.toNat (U.aH 60 (l, r)).2).1 = U.aW e1 := by
       have h2 : U.aW e ++ (U.fV (U.aH 60 (l, r)).1.toNat ((U.aH 60 (l, r)).2.1, (U.aH 60 (l, r)).2.2)).1 = U.aW e1 ++ [] := aaR
       rw [List.append_nil] at h2; exact h2
      rw [this]
     exact ⟨(l1, r1, e1, i + 1), by simp only [U.aU, hP] <;> rfl, hn ((l1, r1), e1) hz, hmu⟩
  ·show ∃ x0, _
   have hc := Qr (r := (l, r)) hX.1
   refine ⟨((U.aH 60 (l, r)).2.1, (U.aH 60 (l, r)).2.2, e, p, (U.aH 60 (l, r)).1, 0), ⟨rfl, ?_⟩, ?_⟩
   ·exact ⟨rfl, rfl, by show (0 : Int) <= 0; omega, hc.1, hc.2, rfl, by show _ = _ + Int.toNat 0; rfl, rfl, by simp, by simp⟩
   ·rintro ⟨l1, r1, e1, p1, n1, j⟩ ⟨hn1, hp1, j0, j1, aiK, _, hlen, he1, aaT, aaU⟩
    simp only [] at *
    subst hn1; subst hp1
    have j0 : 0 <= j := j0
    have j1 : j <= (U.aH 60 (l, r)).1 := j1
    rw [cond_prop]
    have akZ : (U.aN e1).length <= (U.aN e).length + 60 := by omega
    have hide : (U.aN e).length <= 240 := hcnt.2
    refine ⟨fun hj => ?_, fun hj => ?_⟩
    ·have hj : j < _ := of_decide_eq_true hj
     have hwj : IntKind.i64.wrap (j.add 1) = j + 1 := by rw [aX, dn] <;> omega
     rw [hwj]
     have hst := Qs ((U.aH 60 (l, r)).1 - (j + 1)).toNat (l1, r1)
     rw [show ((U.aH 60 (l, r)).1 - (j + 1)).toNat + 1 = ((U.aH 60 (l, r)).1 - j).toNat by omega] at hst
     rw [hst] at aaT aaU
     refine ⟨by simp only [dG, fB]; omega, by simp only [dG, maxLen_eq]; omega, ((U.ak (U.ak (l1, r1)).2).2.1, (U.ak (U.ak (l1, r1)).2).2.2, (U.bQ e1, U.eAt e1, U.cO e1, U.eTo e1, U.aW e1, U.aN e1 ++ [((U.ak (l1, r1)).1, (U.ak (U.ak (l1, r1)).2).1)], U.jJ e1, U.jD e1, U.mO e1, U.eN e1, U.gX e1), p1, (U.aH 60 (l, r)).1, j + 1), rfl, ⟨rfl, rfl, by show 0 <= j + 1; omega, by show j + 1 <= (U.aH 60 (l, r)).1; omega, aiK, rfl, ?_, ?_, ?_, aaU⟩, ?_⟩
     ·show (U.aN e1 ++ [_]).length = _ + (j + 1).toNat
      rw [List.length_append, hlen]; show _ + j.toNat + 1 = _; omega
     ·rw [he1]; rfl
     ·show U.aN e ++ _ = (U.aN e1 ++ [_]) ++ _
      rw [aaT, List.append_assoc]; rfl
     ·show ((U.aH 60 (l, r)).1 - (j + 1)).toNat < ((U.aH 60 (l, r)).1 - j).toNat; omega
    ·have hj : ¬ j < _ := of_decide_eq_false hj
     have hjn : ((U.aH 60 (l, r)).1 - j).toNat = 0 := by omega
     rw [hjn] at aaT aaU
     have hz : ((l1, r1), e1) = U.eP 115 ((l, r), e) := by
      refine Prod.ext aaU.symm ?_
      rw [he1]
      show (U.bQ e, U.eAt e, U.cO e, U.eTo e, U.aW e, U.aN e1, _) = (U.bQ e, U.eAt e, U.cO e, U.eTo e, U.aW e, U.aN e ++ (U.dW (U.aH 60 (l, r)).1.toNat (U.aH 60 (l, r)).2).1, _)
      have : U.aN e ++ (U.dW (U.aH 60 (l, r)).1.toNat (U.aH 60 (l, r)).2).1 = U.aN e1 := by
       have h2 : U.aN e ++ (U.dW (U.aH 60 (l, r)).1.toNat ((U.aH 60 (l, r)).2.1, (U.aH 60 (l, r)).2.2)).1 = U.aN e1 ++ [] := aaT
       rw [List.append_nil] at h2; exact h2
      rw [this]
     exact ⟨(l1, r1, e1, i + 1), by simp only [U.aU, hP] <;> rfl, hn ((l1, r1), e1) hz, hmu⟩
  ·exact ⟨((U.eP 109 ((l, r), e)).1.1, (U.eP 109 ((l, r), e)).1.2, (U.eP 109 ((l, r), e)).2, i + 1), by simp only [U.aU, hP] <;> rfl, hn _ rfl, hmu⟩
  ·exact ⟨((U.eP 102 ((l, r), e)).1.1, (U.eP 102 ((l, r), e)).1.2, (U.eP 102 ((l, r), e)).2, i + 1), by simp only [U.aU, hP] <;> rfl, hn _ rfl, hmu⟩
  ·exact ⟨((U.eP 100 ((l, r), e)).1.1, (U.eP 100 ((l, r), e)).1.2, (U.eP 100 ((l, r), e)).2, i + 1), by simp only [U.aU, hP] <;> rfl, hn _ rfl, hmu⟩
  ·exact ⟨((U.eP 110 ((l, r), e)).1.1, (U.eP 110 ((l, r), e)).1.2, (U.eP 110 ((l, r), e)).2, i + 1), by simp only [U.aU, hP] <;> rfl, hn _ rfl, hmu⟩
  ·exact ⟨((U.eP 121 ((l, r), e)).1.1, (U.eP 121 ((l, r), e)).1.2, (U.eP 121 ((l, r), e)).2, i + 1), by simp only [U.aU, hP] <;> rfl, hn _ rfl, hmu⟩
 ·have hi : ¬ i < p.length := of_decide_eq_false hi
  rw [pO (by omega)] at hI
  have hD : U.xA b = ((l, r), e) := hd1.trans hI.symm
  have hev : ∀ x : Event, (x.1, x.2.1, x.2.2.1, x.2.2.2.1, U.aW x, U.aN x, x.2.2.2.2.2.2) = x := fun _ => rfl
  rw [hev e]
  have h3 : ((3 : Int) != 0) = true := rfl
  rw [h3]
  refine ⟨fun _ => by have : (U.cO e).length <= b.length := hX.2.2.1; show (U.cO e).length <= 1000000000000; omega, fun _ => by have : (U.eTo e).length <= b.length := hX.2.2.2; show (U.eTo e).length <= 1000000000000; omega, ?_⟩
  by_cases hf : U.mD (l, r) = 0
  ·have hf1 : U.mD (U.xA b).1 = 0 := by rw [hD]; exact hf
   rw [decide_eq_true hf]
   cases hr : U.bg e with
   | false =>
     have := ahU hf1 (by rw [hD]; exact hr)
     rw [this]
     exact ⟨rfl, rfl, rfl, rfl, rfl, rfl, rfl, rfl, rfl, rfl, rfl, rfl, trivial⟩
   | true =>
     have := ajC hf1 (by rw [hD]; exact hr)
     rw [this, hD, hf]
     exact ⟨rfl, rfl, rfl, rfl, rfl, rfl, rfl, rfl, rfl, rfl, rfl, rfl, trivial⟩
  ·have hf1 : U.mD (U.xA b).1 ≠ 0 := by rw [hD]; exact hf
   have := aiJ hf1
   rw [this, hD, decide_eq_false hf, bne_iff_ne.2 hf]
   exact ⟨rfl, rfl, rfl, rfl, rfl, rfl, rfl, rfl, rfl, rfl, rfl, rfl, trivial⟩
theorem ZI (e : Event) (h1 : (U.cO e).length <= 1000000000000) (h2 : (U.eTo e).length <= 1000000000000) : DV e := by
 unfold DV
 have hfold : U.bg e = (!(decide (U.parts e.1 = [])) && (U.within (U.eAt e) 1099511627776 && U.order.all (U.okC (U.parts e.1) e))) := rfl
 have akn : ∀ i : Int, [(98 : Int), 116, 105, 115, 109, 102, 100, 110, 121].getD i.toNat 0 = U.order.getD i.toNat 0 := fun _ => rfl
 simp only [akn]
 have e2 : (bif bif decide (((U.aW e).length : Int) >= 1) then decide (((U.aW e).length : Int) <= 60) else false then U.rise 0 (U.aW e) else false) = U.rH (U.aW e) := by
  unfold U.rH
  rw [dh, dh, Bool.and_comm]
  congr 1
  congr 1 <;> (rw [decide_eq_decide]; omega)
 have e4 : (bif decide (U.jJ e >= 0) then decide (U.jJ e <= 2) else false) = U.within (U.jJ e) 2 := by unfold U.within; rw [dh]
 have e8 : decide (((U.gX e).length : Int) <= 2000) = decide ((U.gX e).length <= 2000) := by rw [decide_eq_decide]; omega
 have hgl : [U.l9 (U.cO e), U.l9 (U.eTo e), U.rH (U.aW e), U.jm (U.aN e), U.within (U.jJ e) 2, U.sZ (U.jD e), U.within (U.mO e) 1099511627776, U.within (U.eN e) 1099511627776, decide ((U.gX e).length <= 2000)] = U.order.map (fun c => U.good c e) := rfl
 have hnl : [decide (U.cO e = []), decide (U.eTo e = []), decide (U.aW e = []), decide (U.aN e = []), decide (U.jJ e = 0), decide (U.jD e = 0), decide (U.mO e = 0), decide (U.eN e = 0), decide (U.gX e = [])] = U.order.map (fun c => U.none_ c e) := rfl
 rw [Aw]
 rw [cond_prop]
 refine ⟨fun hb => ⟨?_, trivial⟩, fun hb => ⟨h1, h2, (U.order.map (fun c => U.good c e), U.order.map (fun c => U.none_ c e), 0), ⟨?_, ?_⟩, ?_⟩⟩
 ·rw [hfold]
  rw [dN, Bool.or_eq_true, decide_eq_true_eq, Bool.not_eq_true'] at hb
  rcases hb with hb | hb
  ·rw [decide_eq_true hb]; rfl
  ·rw [show U.within (U.eAt e) 1099511627776 = false from hb, Bool.false_and, Bool.and_false]
 ·rw [<- hgl, <- hnl, <- e2, <- e4, <- e8, <- Aw, <- Aw, <- Az, <- Az, <- Az]; rfl
 ·rw [dN, Bool.or_eq_false_iff, decide_eq_false_iff_not, Bool.not_eq_false'] at hb
  exact ⟨by show (0 : Int) <= 0; omega, by show (0 : Int) <= 9; omega, rfl, rfl, hb.1, hb.2, rfl⟩
 ·rintro ⟨gl, nl, i⟩ ⟨h0, h9, rfl, rfl, hp, hw, ha⟩
  simp only []
  have h0 : 0 <= i := h0
  have h9 : i <= 9 := h9
  have hR : U.bg e = U.order.all (U.okC (U.parts e.1) e) := by rw [hfold, decide_eq_false hp, hw]; rfl
  have hol : U.order.length = 9 := rfl
  rw [cond_prop]
  refine ⟨fun hi => ?_, fun hi => ⟨?_, trivial⟩⟩
  ·have hi : i < 9 := of_decide_eq_true hi
   have hg : U.order.getD i.toNat 0 = U.order[i.toNat]'(by omega) := getD_at (by omega)
   have hgg : (U.order.map (fun c => U.good c e)).getD i.toNat false = U.good (U.order[i.toNat]'(by omega)) e := by rw [getD_at (by rw [List.length_map]; omega), List.getElem_map]
   have hng : (U.order.map (fun c => U.none_ c e)).getD i.toNat false = U.none_ (U.order[i.toNat]'(by omega)) e := by rw [getD_at (by rw [List.length_map]; omega), List.getElem_map]
   have hstep := ahS (l := U.order) (f := U.okC (U.parts e.1) e) h0 (by omega)
   rw [ha] at hstep
   simp only [hg, hgg, hng, aX]
   rw [dn (x := i + 1) (by omega) (by omega)]
   have hnext : U.okC (U.parts e.1) e (U.order[i.toNat]'(by omega)) = true -> (U.order.drop (i + 1).toNat).all (U.okC (U.parts e.1) e) = U.order.all (U.okC (U.parts e.1) e) := fun h => by rw [hstep, h, Bool.true_and]
   have ako : U.okC (U.parts e.1) e (U.order[i.toNat]'(by omega)) = cond (decide (aA (U.parts e.1) (U.order[i.toNat]'(by omega)) >= 0)) (U.good (U.order[i.toNat]'(by omega)) e) (U.none_ (U.order[i.toNat]'(by omega)) e) := by
    unfold U.okC
    by_cases hx : aA (U.parts e.1) (U.order[i.toNat]'(by omega)) >= 0
    ·rw [decide_eq_true hx, decide_eq_false (by omega)]; rfl
    ·rw [decide_eq_false hx, decide_eq_true (by omega)]; rfl
   generalize U.order[i.toNat]'(by omega) = c at *
   refine ⟨h0, by show i < 9; omega, fun _ => h0, fun _ => by show i < 9; omega, fun _ => by omega, fun _ => h0, fun _ => by show i < 9; omega, fun _ _ => h0, fun _ _ => by show i < 9; omega, fun _ _ => by omega, ?_⟩
   rw [cond_prop]
   refine ⟨fun hb => ⟨?_, trivial⟩, fun hb => ⟨(_, _, i + 1), rfl, ⟨by show 0 <= i + 1; omega, by show i + 1 <= 9; omega, rfl, rfl, hp, hw, hnext ?_⟩, by show 9 - (i + 1).toNat < 9 - i.toNat; omega⟩⟩
   ·have : U.okC (U.parts e.1) e c = false := by
     rw [ako]; revert hb
     cases decide (aA (U.parts e.1) c >= 0) <;> cases U.good c e <;> cases U.none_ c e <;> simp
    rw [hR, hstep, this]; rfl
   ·rw [ako]; revert hb
    cases decide (aA (U.parts e.1) c >= 0) <;> cases U.good c e <;> cases U.none_ c e <;> simp
  ·have hi : ¬ i < 9 := of_decide_eq_false hi
   have : i = 9 := by omega
   subst this
   rw [hR, <- ha]; rfl
theorem Y2 (e : Event) (n : Nat) (h : n < 9) : U.jP (n + 1) e = U.jP n e ++ U.Jm (U.parts (U.bQ e)) e (U.order.getD n 0) := by
 unfold U.jP
 rw [List.take_succ_eq_append_getElem (show n < U.order.length from h), Y0, getD_at (show n < U.order.length from h), List.append_assoc, List.append_assoc]
theorem TS {α : Type} (f : α -> Bool) (g : α -> List Int) : ∀ l : List α, l.flatMap (fun c => cond (f c) (g c) []) = (l.filter f).flatMap g
 | [] => rfl
 | x :: l => by
   rw [List.flatMap_cons, TS f g l, List.filter_cons]
   cases f x <;> simp
theorem aeE (k : Int) : U.order.filter (fun c => decide (aA (U.parts k) c >= 0)) = U.parts k := by
 have : ∀ p ∈ U.Df, U.order.filter (fun c => decide (aA p c >= 0)) = p := by decide
 exact this _ (IU k)
theorem acN (e : Event) : U.jP 9 e = U.qc e := by
 unfold U.jP
 rw [ajz]
 have : (U.order.take 9).flatMap (U.Jm (U.parts (U.bQ e)) e) = (U.parts (U.bQ e)).flatMap fun c => U.jO c e := by
  conv => rhs; rw [<- aeE]
  exact TS (fun c => decide (aA (U.parts (U.bQ e)) c >= 0)) (fun c => U.jO c e) U.order
 rw [this]
theorem aiL {e : Event} {c : Int} (h : decide (aA (U.parts e.1) c >= 0) = true) : U.Jm (U.parts (U.bQ e)) e c = U.jO c e := by
 unfold U.Jm; rw [show decide (aA (U.parts (U.bQ e)) c >= 0) = true from h]; rfl
theorem ajD {e : Event} {c : Int} (h : decide (aA (U.parts e.1) c >= 0) = false) : U.Jm (U.parts (U.bQ e)) e c = [] := by
 unfold U.Jm; rw [show decide (aA (U.parts (U.bQ e)) c >= 0) = false from h]; rfl
theorem Yj (e : Event) (h1 : (U.cO e).length <= 1000000000000) (h2 : (U.eTo e).length <= 1000000000000) : Au e := by
 unfold Au
 refine ⟨h1, h2, ?_⟩
 cases hr : U.bg e with
 | false => rw [Xa hr]; exact ⟨rfl, rfl, trivial⟩
 | true =>
   have hl := acG hr
   have step : ∀ (n : Nat) (h : n < 9) (c : Int) (hc : U.order.getD n 0 = c), (decide (aA (U.parts e.1) c >= 0) = true -> U.jP n e ++ U.jO c e = U.jP (n + 1) e) /\ (decide (aA (U.parts e.1) c >= 0) = false -> U.jP n e = U.jP (n + 1) e) := by
    intro n h c hc
    refine ⟨fun hy => ?_, fun hy => ?_⟩
    ·rw [Y2 e n h, hc, aiL hy]
    ·rw [Y2 e n h, hc, ajD hy, List.append_nil]
   have hP0 : U.num1 e.1 ++ U.num1 e.2.1 = U.jP 0 e := by
    show _ = U.num1 (U.bQ e) ++ (U.num1 (U.eAt e) ++ [])
    rw [List.append_nil]; rfl
   simp only [Bool.not_true, cond_false]
   refine ⟨by omega, by rw [dS]; omega, ?_, ?_⟩
   ·rw [bT, hP0, cond_prop]
    refine ⟨fun hy => ⟨by have := hl 0; omega, _, rfl, hr, ?_⟩, fun hy => ⟨_, rfl, hr, (step 0 (by omega) 98 rfl).2 hy⟩⟩
    exact (step 0 (by omega) 98 rfl).1 hy
   rintro x ⟨_, rfl⟩
   refine ⟨?_, ?_⟩
   ·rw [cond_prop]
    exact ⟨fun hy => ⟨by have := hl 1; omega, _, rfl, hr, (step 1 (by omega) 116 rfl).1 hy⟩, fun hy => ⟨_, rfl, hr, (step 1 (by omega) 116 rfl).2 hy⟩⟩
   rintro x ⟨_, rfl⟩
   refine ⟨?_, ?_⟩
   ·rw [cond_prop]
    refine ⟨fun hy => ⟨by have := hl 2; omega, (_, 0), ⟨rfl, hr, of_decide_eq_true hy, ⟨by show (0 : Int) <= 0; omega, by show (0 : Int) <= _; omega⟩, ?_⟩, ?_⟩, fun hy => ⟨_, rfl, hr, (step 2 (by omega) 105 rfl).2 hy⟩⟩
    ·show U.jP 2 e ++ U.num1 (U.aW e).length = U.jP 2 e ++ (U.num1 (U.aW e).length ++ [])
     rw [List.append_nil]
    ·rintro ⟨o, i⟩ ⟨_, _, ⟨i0, i1⟩, ho⟩
     simp only [] at *
     have hg := FM hr (show (105 : Int) ∈ U.parts (U.bQ e) from (nO _ _).1 (of_decide_eq_true hy))
     have h60 := (Ye (show U.rH (U.aW e) = true from hg)).1.2
     have hol : o.length <= 60000 := by
      have := hl 2
      rw [ho, List.length_append, List.length_append, dS, LQ, List.length_take]; omega
     rw [cond_prop]
     refine ⟨fun hi => ?_, fun hi => ⟨_, rfl, hr, ?_⟩⟩
     ·have hi : i < ((U.aW e).length : Int) := of_decide_eq_true hi
      rw [aX, dn (x := i + 1) (by omega) (by omega)]
      refine ⟨i0, hi, by omega, (_, i + 1), rfl, ⟨hr, of_decide_eq_true hy, ⟨by show 0 <= i + 1; omega, by show i + 1 <= _; omega⟩, ?_⟩, by simp only [bP]; omega⟩
      show o ++ U.num1 ((U.aW e).getD i.toNat 0) = _
      rw [ho, take_at i0 hi, YW, getD_at (by omega), List.append_assoc, List.append_assoc]
     ·have hi : ¬ i < ((U.aW e).length : Int) := of_decide_eq_false hi
      rw [ho, pO (by omega)]
      exact (step 2 (by omega) 105 rfl).1 hy
   rintro x ⟨_, rfl⟩
   refine ⟨?_, ?_⟩
   ·rw [cond_prop]
    refine ⟨fun hy => ⟨by have := hl 3; omega, (_, 0), ⟨rfl, hr, of_decide_eq_true hy, ⟨by show (0 : Int) <= 0; omega, by show (0 : Int) <= _; omega⟩, ?_⟩, ?_⟩, fun hy => ⟨_, rfl, hr, (step 3 (by omega) 115 rfl).2 hy⟩⟩
    ·show U.jP 3 e ++ U.num1 (U.aN e).length = U.jP 3 e ++ (U.num1 (U.aN e).length ++ [])
     rw [List.append_nil]
    ·rintro ⟨o, i⟩ ⟨_, _, ⟨i0, i1⟩, ho⟩
     simp only [] at *
     have hg := FM hr (show (115 : Int) ∈ U.parts (U.bQ e) from (nO _ _).1 (of_decide_eq_true hy))
     have h60 := (Yd (show U.jm (U.aN e) = true from hg)).1
     have hol : o.length <= 60000 := by
      have := hl 3
      rw [ho, List.length_append, List.length_append, dS, IV, List.length_take]; omega
     rw [cond_prop]
     refine ⟨fun hi => ?_, fun hi => ⟨_, rfl, hr, ?_⟩⟩
     ·have hi : i < ((U.aN e).length : Int) := of_decide_eq_true hi
      rw [aX, dn (x := i + 1) (by omega) (by omega)]
      refine ⟨i0, hi, by omega, i0, hi, by rw [bT, List.length_append, dS]; omega, (_, i + 1), rfl, ⟨hr, of_decide_eq_true hy, ⟨by show 0 <= i + 1; omega, by show i + 1 <= _; omega⟩, ?_⟩, by simp only [bP]; omega⟩
      show (o ++ U.num1 ((U.aN e).getD i.toNat (0, 0)).1) ++ U.num1 ((U.aN e).getD i.toNat (0, 0)).2 = _
      rw [ho, take_at i0 hi, WZ, getD_at (by omega)]; simp only [List.append_assoc]
     ·have hi : ¬ i < ((U.aN e).length : Int) := of_decide_eq_false hi
      rw [ho, pO (by omega)]
      exact (step 3 (by omega) 115 rfl).1 hy
   rintro x ⟨_, rfl⟩
   refine ⟨⟨(_, 0), ⟨rfl, hr, by show (0 : Int) <= 0; omega, by show (0 : Int) <= 4; omega, rfl⟩, ?_⟩, ?_⟩
   ·rintro ⟨o, i⟩ ⟨_, i0, i4, ho⟩
    simp only [] at *
    rw [cond_prop]
    refine ⟨fun hi => ?_, fun hi => ⟨_, rfl, hr, ?_⟩⟩
    ·have hi : i < 4 := of_decide_eq_true hi
     rw [aX, dn (x := i + 1) (by omega) (by omega)]
     have hcase : i = 0 ∨ i = 1 ∨ i = 2 ∨ i = 3 := by omega
     refine ⟨i0, by show i < 4; omega, ?_⟩
     rw [cond_prop]
     refine ⟨fun hy => ⟨i0, by show i < 4; omega, by omega, by have := hl (4 + i.toNat); rw [ho]; omega, (_, i + 1), rfl, ⟨hr, by show 0 <= i + 1; omega, by show i + 1 <= 4; omega, ?_⟩, by simp only [bP]; omega⟩, fun hy => ⟨(_, i + 1), rfl, ⟨hr, by show 0 <= i + 1; omega, by show i + 1 <= 4; omega, ?_⟩, by simp only [bP]; omega⟩⟩
     ·rcases hcase with rfl | rfl | rfl | rfl
      ·rw [ho]; exact (step 4 (by omega) 109 rfl).1 hy
      ·rw [ho]; exact (step 5 (by omega) 102 rfl).1 hy
      ·rw [ho]; exact (step 6 (by omega) 100 rfl).1 hy
      ·rw [ho]; exact (step 7 (by omega) 110 rfl).1 hy
     ·rcases hcase with rfl | rfl | rfl | rfl
      ·rw [ho]; exact (step 4 (by omega) 109 rfl).2 hy
      ·rw [ho]; exact (step 5 (by omega) 102 rfl).2 hy
      ·rw [ho]; exact (step 6 (by omega) 100 rfl).2 hy
      ·rw [ho]; exact (step 7 (by omega) 110 rfl).2 hy
    ·have hi : ¬ i < 4 := of_decide_eq_false hi
     rw [ho, show 4 + i.toNat = 8 by omega]
   rintro x ⟨_, rfl⟩
   refine ⟨?_, ?_⟩
   ·rw [cond_prop]
    exact ⟨fun hy => ⟨by have := hl 8; omega, _, rfl, hr, (step 8 (by omega) 121 rfl).1 hy⟩, fun hy => ⟨_, rfl, hr, (step 8 (by omega) 121 rfl).2 hy⟩⟩
   rintro x ⟨_, rfl⟩
   rw [W9 hr]
   exact ⟨acN e, rfl, trivial⟩
end Go.Proofs.YtkhdeldobekciaaGreatDoor
set_option linter.unusedSimpArgs false
set_option maxRecDepth 100000
set_option linter.unusedVariables false
namespace Go.Proofs.YtkhdeldobekciaaGreatDoor
open Go.Vc
theorem ZJ (x : aG [.int .i64, .int .i64]) : bf Tryz.prog (aK Bl) (Na x.1 x.2) 59 (aY [.int .i64, .int .i64] x) [] (DI x.1 x.2) = Am x.1 x.2 := by kernel_rfl
theorem ZK : Pok 59 [.int .i64, .int .i64] (fun x => DI x.1 x.2) := by
 refine pk (L := fun x => Na x.1 x.2) (l := Bl) P5 (fun _ => rfl) ?_
 intro x hv hp
 rw [ZJ]
 exact Yf x.1 x.2
theorem ZL : aP Tryz.prog gl 59 MZ := ZK
theorem Kr : aI wH := .cons ZL P5
theorem acO (x : aG [.int .i64]) : bf Tryz.prog (aK wH) (Qa x) 35 (aY [.int .i64] x) [] (GX x) = DK x := by kernel_rfl
theorem acP : Pok 35 [.int .i64] (fun x => GX x) := by
 refine pk (L := fun x => Qa x) (l := wH) Kr (fun _ => rfl) ?_
 intro x hv hp
 rw [acO]
 exact ZA x
theorem acQ : aP Tryz.prog gl 35 P9 := acP
theorem Nr : aI zi := .cons acQ Kr
theorem agz (x : aG [uO]) : bf Tryz.prog (aK zi) (WQ x) 80 (aY [uO] x) [] (LW x) = Jq x := by kernel_rfl
theorem agA : Pok 80 [uO] (fun x => LW x) := by
 refine pk (L := fun x => WQ x) (l := zi) Nr (fun _ => rfl) ?_
 intro x hv hp
 rw [agz]
 exact aez x hv.2
theorem agB : aP Tryz.prog gl 80 WO := agA
theorem TT : aI EU := .cons agB Nr
theorem acR (x : aG [gV]) : bf Tryz.prog (aK EU) (Qc x) 94 (aY [gV] x) [] (GY x) = DL x := by kernel_rfl
theorem acS : Pok 94 [gV] (fun x => GY x) := by
 refine pk (L := fun x => Qc x) (l := EU) TT (fun _ => rfl) ?_
 intro x hv hp
 rw [acR]
 exact ZB x
theorem acT : aP Tryz.prog gl 94 Qb := acS
theorem Ns : aI zk := .cons acT TT
theorem agC (x : aG [kM]) : bf Tryz.prog (aK zk) (WS x) 81 (aY [kM] x) [] (LX x) = Jr x := by kernel_rfl
theorem agD : Pok 81 [kM] (fun x => LX x) := by
 refine pk (L := fun x => WS x) (l := zk) Ns (fun _ => rfl) ?_
 intro x hv hp
 rw [agC]
 exact aeA x hv.2
theorem agE : aP Tryz.prog gl 81 WR := agD
theorem TU : aI EW := .cons agE Ns
theorem aeF (x : aG [.int .i64]) : bf Tryz.prog (aK EW) (TL x) 82 (aY [.int .i64] x) [] (Jo x) = G8 x := by kernel_rfl
theorem aeG : Pok 82 [.int .i64] (fun x => Jo x) := by
 refine pk (L := fun x => TL x) (l := EW) TU (fun _ => rfl) ?_
 intro x hv hp
 rw [aeF]
 exact acH x (T.akb hv)
theorem aeH : aP Tryz.prog gl 82 TK := aeG
theorem Qv : aI Bo := .cons aeH TU
theorem aeI (x : aG [bD, .int .u8]) : bf Tryz.prog (aK Bo) (TN x.1 x.2) 60 (aY [bD, .int .u8] x) [] (vU x.1 x.2) = G9 x.1 x.2 := by kernel_rfl
theorem aeJ : Pok 60 [bD, .int .u8] (fun x => vU x.1 x.2) := by
 refine pk (L := fun x => TN x.1 x.2) (l := Bo) Qv (fun _ => rfl) ?_
 intro x hv hp
 rw [aeI]
 exact acI x.1 x.2 (hp (List.length (U.cO x.1) <= 1000000000000) (by simp [vU])) (hp (List.length (U.eTo x.1) <= 1000000000000) (by simp [vU]))
theorem aeK : aP Tryz.prog gl 60 TM := aeJ
theorem Qw : aI Bq := .cons aeK Qv
theorem acU (x : aG [bD]) : bf Tryz.prog (aK Bq) (Qe x) 34 (aY [bD] x) [] (tH x) = DN x := by kernel_rfl
theorem acV : Pok 34 [bD] (fun x => tH x) := by
 refine pk (L := fun x => Qe x) (l := Bq) Qw (fun _ => rfl) ?_
 intro x hv hp
 rw [acU]
 exact ZC x (hp (List.length (U.cO x) <= 1000000000000) (by simp [tH])) (hp (List.length (U.eTo x) <= 1000000000000) (by simp [tH]))
theorem acW : aP Tryz.prog gl 34 Qd := acV
theorem Nu : aI zl := .cons acW Qw
theorem agF (x : aG [aF, bD, .int .u8]) : bf Tryz.prog (aK zl) (WU x.1 x.2.1 x.2.2) 36 (aY [aF, bD, .int .u8] x) [] (uT x.1 x.2.1 x.2.2) = Js x.1 x.2.1 x.2.2 := by kernel_rfl
theorem agG : Pok 36 [aF, bD, .int .u8] (fun x => uT x.1 x.2.1 x.2.2) := by
 refine pk (L := fun x => WU x.1 x.2.1 x.2.2) (l := zl) Nu (fun _ => rfl) ?_
 intro x hv hp
 rw [agF]
 exact aeB x.1 x.2.1 x.2.2 (hp (List.length x.1 <= 100000000000) (by simp [uT])) (hp (List.length (U.aW x.2.1) <= 1000000000) (by simp [uT])) (hp (List.length (U.aN x.2.1) <= 1000000000) (by simp [uT]))
theorem agH : aP Tryz.prog gl 36 WT := agG
theorem TV : aI EX := .cons agH Nu
theorem ZM (x : aG [bD]) : bf Tryz.prog (aK EX) (Nc x) 17 (aY [bD] x) [] (qE x) = Ap x := by kernel_rfl
theorem ZN : Pok 17 [bD] (fun x => qE x) := by
 refine pk (L := fun x => Nc x) (l := EX) TV (fun _ => rfl) ?_
 intro x hv hp
 rw [ZM]
 exact Yg x (hp (List.length (U.cO x) <= 1000000000000) (by simp [qE])) (hp (List.length (U.eTo x) <= 1000000000000) (by simp [qE]))
theorem ZO : aP Tryz.prog gl 17 Nb := ZN
theorem Kt : aI wI := .cons ZO TV
theorem ZP (x : aG [aF]) : bf Tryz.prog (aK wI) (Nj x) 28 (aY [aF] x) [] (wJ x) = Aq x := by kernel_rfl
theorem ZQ : Pok 28 [aF] (fun x => wJ x) := by
 refine pk (L := fun x => Nj x) (l := wI) Kt (fun _ => rfl) ?_
 intro x hv hp
 rw [ZP]
 exact Yi x hv.1 (hp (List.length x <= 1000000000) (by simp [wJ]))
theorem ZR : aP Tryz.prog gl 28 Nh := ZQ
theorem Ku : aI wK := .cons ZR Kt
theorem acX (x : aG [.int .i64]) : bf Tryz.prog (aK wK) (Qh x) 70 (aY [.int .i64] x) [] (GZ x) = DR x := by kernel_rfl
theorem acY : Pok 70 [.int .i64] (fun x => GZ x) := by
 refine pk (L := fun x => Qh x) (l := wK) Ku (fun _ => rfl) ?_
 intro x hv hp
 rw [acX]
 exact ZF x
theorem acZ : aP Tryz.prog gl 70 Qg := acY
theorem Nv : aI zn := .cons acZ Ku
theorem ZT (x : aG [uO]) : bf Tryz.prog (aK zn) (Nl x) 67 (aY [uO] x) [] (DJ x) = Ar x := by kernel_rfl
theorem ZU : Pok 67 [uO] (fun x => DJ x) := by
 refine pk (L := fun x => Nl x) (l := zn) Nv (fun _ => rfl) ?_
 intro x hv hp
 rw [ZT]
 exact Yh x hv.2
theorem ZV : aP Tryz.prog gl 67 Nk := ZU
theorem Kv : aI wL := .cons ZV Nv
theorem ac0 (x : aG [kM]) : bf Tryz.prog (aK wL) (Qj x) 88 (aY [kM] x) [] (G5 x) = DT x := by kernel_rfl
theorem ac1 : Pok 88 [kM] (fun x => G5 x) := by
 refine pk (L := fun x => Qj x) (l := wL) Kv (fun _ => rfl) ?_
 intro x hv hp
 rw [ac0]
 exact ZG x hv.2
theorem ac2 : aP Tryz.prog gl 88 Qi := ac1
theorem Nw : aI zo := .cons ac2 Kv
theorem ac3 (x : aG [.int .i64]) : bf Tryz.prog (aK zo) (Ql x) 42 (aY [.int .i64] x) [] (G6 x) = DU x := by kernel_rfl
theorem ac4 : Pok 42 [.int .i64] (fun x => G6 x) := by
 refine pk (L := fun x => Ql x) (l := zo) Nw (fun _ => rfl) ?_
 intro x hv hp
 rw [ac3]
 exact ZH x
theorem ac5 : aP Tryz.prog gl 42 Qk := ac4
theorem Ny : aI zq := .cons ac5 Nw
theorem aeL (x : aG [.int .i64]) : bf Tryz.prog (aK zq) (TQ x) 66 (aY [.int .i64] x) [] (Jp x) = He x := by kernel_rfl
theorem aeM : Pok 66 [.int .i64] (fun x => Jp x) := by
 refine pk (L := fun x => TQ x) (l := zq) Ny (fun _ => rfl) ?_
 intro x hv hp
 rw [aeL]
 exact acK x
theorem aeN : aP Tryz.prog gl 66 TP := aeM
theorem Qx : aI Bv := .cons aeN Ny
theorem agI (x : aG [kM]) : bf Tryz.prog (aK Bv) (WW x) 69 (aY [kM] x) [] (LY x) = Jt x := by kernel_rfl
theorem agJ : Pok 69 [kM] (fun x => LY x) := by
 refine pk (L := fun x => WW x) (l := Bv) Qx (fun _ => rfl) ?_
 intro x hv hp
 rw [agI]
 exact aeC x
theorem agK : aP Tryz.prog gl 69 WV := agJ
theorem TW : aI EY := .cons agK Qx
theorem agL (x : aG [.str, .int .u8]) : bf Tryz.prog (aK EY) (WY x.1 x.2) 43 (aY [.str, .int .u8] x) [] (LZ x.1 x.2) = Ju x.1 x.2 := by kernel_rfl
theorem agM : Pok 43 [.str, .int .u8] (fun x => LZ x.1 x.2) := by
 refine pk (L := fun x => WY x.1 x.2) (l := EY) TW (fun _ => rfl) ?_
 intro x hv hp
 rw [agL]
 exact aeD x.1 x.2 hv.1.2
theorem agN : aP Tryz.prog gl 43 WX := agM
theorem TY : aI EZ := .cons agN TW
theorem ac6 (x : aG [bD]) : bf Tryz.prog (aK EZ) (Qn x) 41 (aY [bD] x) [] (tJ x) = DV x := by kernel_rfl
theorem ac7 : Pok 41 [bD] (fun x => tJ x) := by
 refine pk (L := fun x => Qn x) (l := EZ) TY (fun _ => rfl) ?_
 intro x hv hp
 rw [ac6]
 exact ZI x (hp (List.length (U.cO x) <= 1000000000000) (by simp [tJ])) (hp (List.length (U.eTo x) <= 1000000000000) (by simp [tJ]))
theorem ac8 : aP Tryz.prog gl 41 Qm := ac7
theorem Nz : aI zu := .cons ac8 TY
theorem ZW (x : aG [bD]) : bf Tryz.prog (aK zu) (Nq x) 21 (aY [bD] x) [] (qF x) = Au x := by kernel_rfl
theorem ZX : Pok 21 [bD] (fun x => qF x) := by
 refine pk (L := fun x => Nq x) (l := zu) Nz (fun _ => rfl) ?_
 intro x hv hp
 rw [ZW]
 exact Yj x (hp (List.length (U.cO x) <= 1000000000000) (by simp [qF])) (hp (List.length (U.eTo x) <= 1000000000000) (by simp [qF]))
theorem ZY : aP Tryz.prog gl 21 Np := ZX
theorem Kw : aI wM := .cons ZY Nz
theorem ac9 (x : aG [bD]) : bf Tryz.prog (aK wM) (Qp x) 6 (aY [bD] x) [] (G7 x) = DW x := by kernel_rfl
theorem ada : Pok 6 [bD] (fun x => G7 x) := by
 refine pk (L := fun x => Qp x) (l := wM) Kw (fun _ => rfl) ?_
 intro x hv hp
 rw [ac9]
 exact ZE x
theorem adb : aP Tryz.prog gl 6 Qo := ada
theorem NC : aI zx := .cons adb Kw
end Go.Proofs.YtkhdeldobekciaaGreatDoor
