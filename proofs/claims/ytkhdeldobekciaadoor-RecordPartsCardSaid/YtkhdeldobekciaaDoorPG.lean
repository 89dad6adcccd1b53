/- What is owed of the functions, proved in plain Lean. -/
import Derived.Test.YtkhdeldobekciaaDoorPF
import Derived.Test.YtkhdeldobekciaaDoorPD
set_option linter.unusedSimpArgs false
set_option linter.unusedVariables false
set_option maxRecDepth 100000
namespace Go.Proofs.YtkhdeldobekciaaDoor
open Go.Vc
open Go.Vc.T
theorem aeV (k : Nat) (n : Int) : U.beN (k + 1) n = U.beN k (n / 256) ++ [n % 256] := by
 unfold U.beN
 rw [List.range_succ, List.map_append, List.map_singleton]
 congr 1
 ·apply List.map_congr_left
  intro j hj
  rw [List.mem_range] at hj
  rw [show 8 * (k + 1 - 1 - j) = 8 + 8 * (k - 1 - j) by omega, Int.pow_add, Int.ediv_ediv_of_nonneg (by decide)]; rfl
 ·rw [show k + 1 - 1 - k = 0 by omega]; simp
theorem QM : ∀ (k : Nat) (n : Int), 0 <= n -> n < 256 ^ k -> U.aN (U.beN k n) = n
 | 0, n, h0, h1 => by
   have : n = 0 := by rw [Int.pow_zero] at h1; omega
   subst this; rw [List.length_eq_zero_iff.1 (iE 0 0)]; rfl
 | k + 1, n, h0, h1 => by
   rw [aeV, Ew, QM k (n / 256) (by omega) ?_]
   ·omega
   ·rw [Int.pow_succ] at h1
    exact Int.ediv_lt_of_lt_mul (by omega) h1
theorem Zx {n : Int} (h0 : 0 <= n) (h1 : n <= 4611686018427387904) : U.clamp n = n := by unfold U.clamp bJ uU; rw [if_neg (by omega)]; rw [if_neg (by omega)]
theorem afL (x : Range) (l : List Range) : U.pairs (x :: l) = U.num1 x.1 ++ (U.num1 x.2 ++ U.pairs l) := by simp [U.pairs]
theorem Zy : ∀ (l : List Int) (p : Int), 0 <= p -> U.rise p l = true -> ∀ x ∈ l, 0 <= x /\ x <= 4611686018427387904
 | [], _, _, _, x, hx => by cases hx
 | y :: r, p, hp, h, x, hx => by
   unfold U.rise at h
   simp only [Bool.and_eq_true, decide_eq_true_eq] at h
   rcases List.mem_cons.1 hx with rfl | hx
   ·omega
   ·exact Zy r y (by omega) h.2 x hx
theorem UU {l : List Range} (h : U.jh l = true) : l.length <= 60 /\ ∀ x ∈ l, (0 <= x.1 /\ x.1 <= 4611686018427387904) /\ 0 <= x.2 /\ x.2 <= 4611686018427387904 := by
 unfold U.jh at h
 simp only [Bool.and_eq_true, decide_eq_true_eq, Bool.not_eq_true', List.any_eq_false] at h
 refine ⟨h.1, fun x hx => ?_⟩
 have := h.2 x hx
 unfold U.badR U.within at this
 simp only [Bool.or_eq_true, Bool.not_eq_true', Bool.and_eq_false_iff, decide_eq_false_iff_not, not_or] at this
 omega
theorem VF {c : Int} (h : c ∈ U.order) : c = 98 ∨ c = 116 ∨ c = 105 ∨ c = 115 ∨ c = 109 ∨ c = 102 ∨ c = 100 ∨ c = 110 ∨ c = 121 := by
 simpa [U.order] using h
theorem within_iff {n m : Int} : U.within n m = true ↔ 0 <= n /\ n <= m := by unfold U.within; simp only [Bool.and_eq_true, decide_eq_true_eq, ge_iff_le]
theorem UW {l : List Int} (h : U.qh l = true) : (1 <= l.length /\ l.length <= 60) /\ ∀ x ∈ l, 0 <= x /\ x <= 4611686018427387904 := by
 unfold U.qh at h
 simp only [Bool.and_eq_true, decide_eq_true_eq] at h
 exact ⟨h.2, Zy l 0 (by omega) h.1⟩
def ac4 (p : List Int) (x : U.RS × Event) : U.RS × Event := p.foldl (fun x c => U.eP c x) x
theorem FI (k : Int) : U.parts k ∈ U.AA := by
 unfold U.parts
 cases h : (decide (k < 0) || decide (k >= 15)) with
 | true => exact (by decide : ([] : List Int) ∈ U.AA)
 | false =>
   simp only [Bool.or_eq_false_iff, decide_eq_false_iff_not] at h
   simp only [cond_false]
   have hl : k.toNat < U.AA.length := by show k.toNat < 15; omega
   rw [getD_at hl]; exact List.getElem_mem hl
theorem Jm (k : Int) : (U.parts k).Nodup /\ ∀ c ∈ U.parts k, c ∈ U.order := by
 have : ∀ p ∈ U.AA, p.Nodup /\ ∀ c ∈ p, c ∈ U.order := by decide
 exact this _ (FI k)
theorem Gx (e : Event) : U.aX e = true ↔ U.parts (U.bP e) ≠ [] /\ (0 <= U.eAt e /\ U.eAt e <= 1099511627776) /\ ∀ c ∈ U.order, (c ∈ U.parts (U.bP e) -> U.good c e = true) /\ (c ∉ U.parts (U.bP e) -> U.none_ c e = true) := by
 unfold U.aX
 simp only [Bool.and_eq_true, Bool.not_eq_true', decide_eq_false_iff_not, within_iff, List.all_eq_true]
 constructor
 ·rintro ⟨a, b, h⟩
  refine ⟨a, b, fun c hc => ?_⟩
  have := h c hc
  unfold U.okC at this
  constructor
  ·intro hm
   rw [decide_eq_false (by have := (mV (U.parts (U.bP e)) c).2 hm; omega)] at this; exact this
  ·intro hm
   rw [decide_eq_true (by have := mt (mV (U.parts (U.bP e)) c).1 hm; omega)] at this; exact this
 ·rintro ⟨a, b, h⟩
  refine ⟨a, b, fun c hc => ?_⟩
  unfold U.okC
  by_cases hm : c ∈ U.parts (U.bP e)
  ·rw [decide_eq_false (by have := (mV (U.parts (U.bP e)) c).2 hm; omega)]; exact (h c hc).1 hm
  ·rw [decide_eq_true (by have := mt (mV (U.parts (U.bP e)) c).1 hm; omega)]; exact (h c hc).2 hm
theorem afM (e : Event) : U.mW e = U.num1 (U.bP e) ++ (U.num1 (U.eAt e) ++ (U.parts (U.bP e)).flatMap fun c => U.jF c e) := rfl
theorem FK : ∀ l : List Range, (U.pairs l).length = 16 * l.length
 | [] => rfl
 | x :: l => by rw [afL, List.length_append, List.length_append, dM, dM, FK l, List.length_cons]; omega
theorem TP (l : List Range) (x : Range) : U.pairs (l ++ [x]) = U.pairs l ++ (U.num1 x.1 ++ U.num1 x.2) := by simp [U.pairs]
theorem abT {c : Int} (hc : c ∈ U.order) {e : Event} (hg : U.good c e = true) : (U.jF c e).length <= 5000 := by
 rcases VF hc with rfl | rfl | rfl | rfl | rfl | rfl | rfl | rfl | rfl
 ·have := FH (U.cO e); show (U.text1 (U.cO e)).length <= 5000; omega
 ·have := FH (U.eTo e); show (U.text1 (U.eTo e)).length <= 5000; omega
 ·obtain ⟨⟨_, h60⟩, hl⟩ := UW (show U.qh (U.aT e) = true from hg)
  show (U.num1 (U.aT e).length ++ U.nums (U.aT e)).length <= 5000
  rw [List.length_append, dM, Jf]; omega
 ·obtain ⟨h60, hl⟩ := UU (show U.jh (U.aJ e) = true from hg)
  show (U.num1 (U.aJ e).length ++ U.pairs (U.aJ e)).length <= 5000
  rw [List.length_append, dM, FK]; omega
 ·show (U.num1 _).length <= 5000; rw [dM]; omega
 ·show (U.num1 _).length <= 5000; rw [dM]; omega
 ·show (U.num1 _).length <= 5000; rw [dM]; omega
 ·show (U.num1 _).length <= 5000; rw [dM]; omega
 ·have := FH (U.gW e); show (U.text1 (U.gW e)).length <= 5000; omega
theorem QN {f : Int -> List Int} {k : Nat} : ∀ l : List Int, (∀ c ∈ l, (f c).length <= k) -> (l.flatMap f).length <= k * l.length
 | [], _ => by simp
 | x :: l, h => by
   have h1 := h x (by simp)
   have ih := QN l fun c hc => h c (List.mem_cons_of_mem _ hc)
   rw [List.flatMap_cons, List.length_append, List.length_cons, Nat.mul_add]; omega
theorem Dw {e : Event} (h : U.aX e = true) {c : Int} (hc : c ∈ U.parts (U.bP e)) : U.good c e = true := (((Gx e).1 h).2.2 c ((Jm _).2 c hc)).1 hc
theorem aeW {e : Event} (h : U.aX e = true) (c : Int) : (U.Gn (U.parts (U.bP e)) e c).length <= 5000 := by
 unfold U.Gn
 by_cases hi : aA (U.parts (U.bP e)) c >= 0
 ·have hm := (mV _ _).1 hi
  rw [decide_eq_true hi]; exact abT ((Jm _).2 c hm) (Dw h hm)
 ·rw [decide_eq_false hi]; exact Nat.zero_le _
theorem Zz {e : Event} (h : U.aX e = true) (n : Nat) : (U.jG n e).length <= 50000 := by
 unfold U.jG
 rw [List.length_append, List.length_append, dM, dM]
 have := QN (f := U.Gn (U.parts (U.bP e)) e) (k := 5000) (U.order.take n) fun c _ => aeW h c
 have h9 : (U.order.take n).length <= 9 := by rw [List.length_take]; exact Nat.min_le_right _ _
 have := Nat.mul_le_mul_left 5000 h9
 omega
theorem yX {α : Type} [BEq α] [DecidableEq α] (l : List α) : l.beq [] = decide (l = []) := by cases l <;> simp [List.beq]
theorem yY {α : Type} [DecidableEq α] (l : List α) : decide ((l.length : Int) = 0) = decide (l = []) := by
 rw [decide_eq_decide, <- List.length_eq_zero_iff]; omega
theorem afN (a b : List Int) : a.beq b = decide (a = b) := by rw [fE, Bool.eq_iff_iff]; simp
theorem UY (n m : Int) : yR n m := by
 unfold yR U.within; rw [dA]; exact ⟨rfl, trivial⟩
theorem WH (k : Int) : Bh k := by
 unfold Bh U.parts
 rw [dW]
 cases h : (decide (k < 0) || decide (k >= 15)) with
 | true => exact ⟨rfl, trivial⟩
 | false =>
   simp only [Bool.or_eq_false_iff, decide_eq_false_iff_not] at h
   exact ⟨by omega, by show k < 15; omega, rfl, trivial⟩
theorem OM {l : List Int} {i : Int} (h0 : 0 <= i) (hi : i < l.length) (hr : U.rise 0 l = U.rise (U.l7 l i) (l.drop i.toNat)) :
 U.rise 0 l = ((decide (U.l7 l i < l[i.toNat]) && decide (l[i.toNat] <= 4294967295)) && U.rise l[i.toNat] (l.drop (i + 1).toNat)) := by
 rw [hr, drop_at h0 hi]; rfl
theorem prev_next {l : List Int} {i : Int} (h0 : 0 <= i) (hi : i < l.length) : U.l7 l (i + 1) = l[i.toNat] := by
 unfold U.l7
 rw [decide_eq_false (by omega), show i + 1 - 1 = i by omega, getD_at (by omega)]; rfl
theorem abg (l : List Int) (h : l.length <= maxLen) : Gs l := by
 unfold Gs U.qh
 rw [maxLen_eq] at h
 simp only [cond_prop, dA, dW, bG, eF, gB, jy, dR, bW, iD, dn, fE, U.at_, maxLen_eq, decide_eq_true_eq, decide_eq_false_iff_not, bne_iff_ne, bne_eq_false_iff_eq, Bool.not_eq_true', Bool.not_eq_false', Bool.not_eq_eq_eq_not, Bool.not_true, Bool.not_false, beq_eq_false_iff_ne, beq_iff_eq, and_true, true_and, Bool.and_eq_true, Bool.or_eq_true, Bool.and_eq_false_iff, Bool.or_eq_false_iff, U.qQ]
 refine ⟨0, ⟨rfl, ⟨by omega, by omega⟩, by show (0 : Int) <= 0; omega, rfl⟩, ?_⟩
 rintro i ⟨⟨h0, h1⟩, h2, h3⟩
 refine ⟨fun hi => ⟨h0, hi, fun _ _ => by rw [bQ] <;> omega, fun _ _ => by rw [bQ] <;> omega, fun hb => ?_, fun hb => ⟨i + 1, by rw [bQ (x := i + 1) (by omega) (by omega)], ⟨⟨by omega, by omega⟩, ?_, ?_⟩, by omega⟩⟩, fun hi => ?_⟩
 ·rw [OM h0 hi h3]
  rw [getD_at (by omega)] at hb
  have : (decide (U.l7 l i < l[i.toNat]) && decide (l[i.toNat] <= 4294967295)) = false := by
   rw [Bool.and_eq_false_iff, decide_eq_false_iff_not, decide_eq_false_iff_not]
   rcases hb with (hb | hb) | ⟨hb1, hb2⟩
   ·left; omega
   ·right; omega
   ·left
    rw [bQ (x := i - 1) (by omega) (by omega)] at hb2
    unfold U.l7; rw [decide_eq_false (by omega)]; simp only [cond_false]; omega
  rw [this]; rfl
 ·rw [getD_at (by omega)] at hb
  rw [prev_next h0 hi]; omega
 ·rw [getD_at (by omega)] at hb
  rw [prev_next h0 hi, OM h0 hi h3]
  have : (decide (U.l7 l i < l[i.toNat]) && decide (l[i.toNat] <= 4294967295)) = true := by
   rw [Bool.and_eq_true, decide_eq_true_eq, decide_eq_true_eq]
   obtain ⟨⟨hb1, hb2⟩, hb3⟩ := hb
   refine ⟨?_, by omega⟩
   unfold U.l7
   by_cases hz : i = 0
   ·rw [decide_eq_true hz]; simp only [cond_true]; omega
   ·rw [decide_eq_false hz]; simp only [cond_false]
    rw [bQ (x := i - 1) (by omega) (by omega)] at hb3
    omega
  rw [this, Bool.true_and]
 ·rw [h3, drop_end (by omega)]
  rw [show U.rise (U.l7 l i) [] = true from rfl, Bool.true_and]
  congr 1 <;> (rw [decide_eq_decide]; omega)
theorem WI (r : Range) : Bj r := by
 unfold Bj U.badR; rw [dW]; exact ⟨rfl, trivial⟩
theorem abh (l : List Range) (h : l.length <= maxLen) : Gt l := by
 unfold Gt U.jh
 rw [maxLen_eq] at h
 simp only [cond_prop, bG, bW, U.at_, decide_eq_true_eq, decide_eq_false_iff_not, and_true, U.tX]
 have hd : decide (l.length <= 60) = decide ((l.length : Int) <= 60) := by rw [decide_eq_decide]; omega
 refine ⟨fun h6 => ⟨0, ⟨rfl, ⟨by omega, by omega⟩, rfl⟩, ?_⟩, fun h6 => ?_⟩
 ·rintro i ⟨⟨h0, h1⟩, h2⟩
  rw [hd, decide_eq_true h6, Bool.true_and]
  refine ⟨fun hi => ⟨h0, hi, fun hb => ?_, fun hb => ⟨i + 1, by rw [bQ (x := i + 1) (by omega) (by omega)], ⟨⟨by omega, by omega⟩, ?_⟩, by omega⟩⟩, fun hi => ?_⟩
  ·rw [getD_at (by omega)] at hb
   rw [<- h2, drop_at h0 hi, List.any_cons, hb, decide_eq_true h0]; rfl
  ·rw [getD_at (by omega)] at hb
   rw [<- h2, drop_at h0 hi, List.any_cons, hb, Bool.false_or]
  ·rw [<- h2, drop_end (by omega)]; rfl
 ·rw [hd, decide_eq_false h6]; rfl
theorem agt (x : BitVec 64) : (x &&& ~~~(BitVec.ofInt 64 31)) = 0#64 ↔ x.toNat < 32 := by
 have h31 : ∀ i < 64, (~~~(BitVec.ofInt 64 31)).getLsbD i = decide (5 <= i) := by decide
 constructor
 ·intro h
  refine Nat.lt_pow_two_of_testBit (n := 5) _ fun i hi => ?_
  by_cases h64 : i < 64
  ·have := congrArg (fun y : BitVec 64 => y.getLsbD i) h
   simp only [BitVec.getLsbD_and, h31 i h64, decide_eq_true hi, Bool.and_true, BitVec.getLsbD_zero] at this
   exact this
  ·exact BitVec.getLsbD_of_ge x i (by omega)
 ·intro h
  apply BitVec.eq_of_getLsbD_eq
  intro i hi
  rw [BitVec.getLsbD_and, h31 i hi, BitVec.getLsbD_zero]
  by_cases h5 : 5 <= i
  ·have : x.toNat.testBit i = false := Nat.testBit_lt_two_pow (Nat.lt_of_lt_of_le h (Nat.pow_le_pow_right (n := 2) (by decide) h5))
   rw [show x.getLsbD i = x.toNat.testBit i from rfl, this]; rfl
  ·rw [decide_eq_false h5, Bool.and_false]
theorem afO {f : Int} (h : -9223372036854775808 <= f /\ f <= 9223372036854775807) : decide (abQ .i64 f 31 = 0) = U.qP f := by
 unfold U.qP abQ
 rw [Bool.eq_iff_iff, decide_eq_true_eq, Bool.and_eq_true, decide_eq_true_eq, decide_eq_true_eq]
 have hb := agt (BitVec.ofInt 64 f)
 have hn : (BitVec.ofInt 64 f).toNat = (f % 18446744073709551616).toNat := by rw [BitVec.toNat_ofInt]; rfl
 have hz : IntKind.i64.wrap (((BitVec.ofInt 64 f) &&& ~~~(BitVec.ofInt 64 31)).toNat : Int) = 0 ↔ ((BitVec.ofInt 64 f) &&& ~~~(BitVec.ofInt 64 31)) = 0#64 := by
  have hlt := ((BitVec.ofInt 64 f) &&& ~~~(BitVec.ofInt 64 31)).isLt
  rw [wrap_i64, <- BitVec.toNat_inj, show (0#64).toNat = 0 from rfl]; omega
 show IntKind.i64.wrap (((BitVec.ofInt 64 f) &&& ~~~(BitVec.ofInt 64 31)).toNat : Int) = 0 ↔ _
 rw [hz, hb, hn]; omega
theorem ZA (f : Int) (h : -9223372036854775808 <= f /\ f <= 9223372036854775807) : EH f := by
 unfold EH
 exact ⟨afO h, trivial⟩
theorem ZB (e : Event) (c : Int) (h1 : (U.cO e).length <= 1000000000000) (h2 : (U.eTo e).length <= 1000000000000) : EI e c := by
 unfold EI U.good U.none_
 by_cases h : c = 98
 ·simp only [decide_eq_true h, cond_true]; exact ⟨h1, rfl, yX _, trivial⟩
 simp only [decide_eq_false h, cond_false]; clear h
 by_cases h : c = 116
 ·simp only [decide_eq_true h, cond_true]; exact ⟨h2, rfl, yX _, trivial⟩
 simp only [decide_eq_false h, cond_false]; clear h
 by_cases h : c = 105
 ·simp only [decide_eq_true h, cond_true]; exact ⟨rfl, yY _, trivial⟩
 simp only [decide_eq_false h, cond_false]; clear h
 by_cases h : c = 115
 ·simp only [decide_eq_true h, cond_true]; exact ⟨rfl, yY _, trivial⟩
 simp only [decide_eq_false h, cond_false]; clear h
 by_cases h : c = 109
 ·simp only [decide_eq_true h, cond_true]; exact ⟨rfl, rfl, trivial⟩
 simp only [decide_eq_false h, cond_false]; clear h
 by_cases h : c = 102
 ·simp only [decide_eq_true h, cond_true]; exact ⟨rfl, rfl, trivial⟩
 simp only [decide_eq_false h, cond_false]; clear h
 by_cases h : c = 100
 ·simp only [decide_eq_true h, cond_true]; exact ⟨rfl, rfl, trivial⟩
 simp only [decide_eq_false h, cond_false]; clear h
 by_cases h : c = 110
 ·simp only [decide_eq_true h, cond_true]; exact ⟨rfl, rfl, trivial⟩
 simp only [decide_eq_false h, cond_false]; clear h
 exact ⟨by rw [decide_eq_decide]; show ((U.gW e).length : Int) <= 2000 ↔ _; omega, yY _, trivial⟩
theorem aef {α : Type} {l : List α} {f : α -> Bool} {i : Int} (h0 : 0 <= i) (hi : i < l.length) : (l.drop i.toNat).all f = (f l[i.toNat] && (l.drop (i + 1).toNat).all f) := by
 rw [drop_at h0 hi]; rfl
theorem WJ (e : Event) (h1 : (U.cO e).length <= 1000000000000) (h2 : (U.eTo e).length <= 1000000000000) : Bl e := by
 unfold Bl
 have hfold : U.aX e = (!(decide (U.parts e.1 = [])) && (U.within (U.eAt e) 1099511627776 && U.order.all (U.okC (U.parts e.1) e))) := rfl
 simp only [yX]
 simp only [cond_prop, dW, bG, bW, decide_eq_true_eq, decide_eq_false_iff_not, and_true, Bool.or_eq_true, Bool.or_eq_false_iff, Bool.not_eq_true', Bool.not_eq_false', U.kF]
 refine ⟨fun hb => ?_, fun hb => ⟨by omega, 0, ⟨rfl, by omega, by omega, hb.1, hb.2, rfl⟩, ?_⟩⟩
 ·rw [hfold]
  rcases hb with hb | hb
  ·rw [decide_eq_true hb]; rfl
  ·rw [show U.within (U.eAt e) 1099511627776 = false from hb, Bool.false_and, Bool.and_false]
 ·rintro i ⟨h0, h9, hp, hw, ha⟩
  have hR : U.aX e = U.order.all (U.okC (U.parts e.1) e) := by rw [hfold, decide_eq_false hp, hw]; rfl
  have hol : U.order.length = 9 := rfl
  refine ⟨fun hi => ?_, fun hi => ?_⟩
  ·have hg : U.order.getD i.toNat 0 = U.order[i.toNat]'(by omega) := getD_at (by omega)
   have hstep := aef (l := U.order) (f := U.okC (U.parts e.1) e) h0 (by omega)
   rw [ha] at hstep
   rw [hg, bQ (x := i + 1) (by omega) (by omega)]
   have hnext : U.okC (U.parts e.1) e (U.order[i.toNat]'(by omega)) = true -> (U.order.drop (i + 1).toNat).all (U.okC (U.parts e.1) e) = U.order.all (U.okC (U.parts e.1) e) := fun h => by rw [hstep, h, Bool.true_and]
   refine ⟨h0, by show i < 9; omega, by omega, h1, h2, fun hc => ⟨fun hn => ?_, fun hn => ⟨i + 1, rfl, ⟨by omega, by omega, hp, hw, hnext ?_⟩, by omega⟩⟩, fun hc => ⟨fun hn => ?_, fun hn => ⟨i + 1, rfl, ⟨by omega, by omega, hp, hw, hnext ?_⟩, by omega⟩⟩⟩
   ·have : U.okC (U.parts e.1) e (U.order[i.toNat]'(by omega)) = false := by unfold U.okC; rw [decide_eq_true hc]; exact hn
    rw [hR, hstep, this]; rfl
   ·unfold U.okC; rw [decide_eq_true hc]; exact hn
   ·have : U.okC (U.parts e.1) e (U.order[i.toNat]'(by omega)) = false := by unfold U.okC; rw [decide_eq_false hc]; exact hn
    rw [hR, hstep, this]; rfl
   ·unfold U.okC; rw [decide_eq_false hc]; exact hn
  ·have : i = 9 := by omega
   subst this
   rw [hR, <- ha]; rfl
theorem WL (e : Event) : BA e := by
 unfold BA U.great U.cO U.eTo U.aT U.aJ U.gW
 simp only [dW, <- Bool.or_assoc]
 refine ⟨?_, trivial⟩
 have h5 : ∀ a : Nat, decide ((a : Int) > 500) = decide (a > 500) := fun a => by rw [decide_eq_decide]; omega
 have h2 : ∀ a : Nat, decide ((a : Int) > 200) = decide (a > 200) := fun a => by rw [decide_eq_decide]; omega
 have h50 : ∀ a : Nat, decide ((a : Int) > 5000) = decide (a > 5000) := fun a => by rw [decide_eq_decide]; omega
 rw [h5, h5, h2, h2, h50]
theorem abj (b : List Int) (e : Event) (c : Int) (hb : b.length <= 100000000000) (h1 : (U.aT e).length <= 1000000000) (h2 : (U.aJ e).length <= 1000000000) : Gu b e c := by
 have hb' : b.length <= 1000000000000 := by omega
 have t1 : ∀ s : List Int, U.texts [s] = U.text1 s := fun s => by simp [U.texts]
 have n1 : ∀ n : Int, U.nums [n] = U.num1 n := fun n => by simp [U.nums]
 unfold Gu U.jF
 by_cases h : c = 98
 ·simp only [decide_eq_true h, cond_true]; exact ⟨hb', by omega, congrArg (b ++ ·) (t1 _), trivial⟩
 simp only [decide_eq_false h, cond_false]; clear h
 by_cases h : c = 116
 ·simp only [decide_eq_true h, cond_true]; exact ⟨hb', by omega, congrArg (b ++ ·) (t1 _), trivial⟩
 simp only [decide_eq_false h, cond_false]; clear h
 by_cases h : c = 105
 ·simp only [decide_eq_true h, cond_true]
  refine ⟨hb', by omega, ?_, by show (U.aT e).length <= _; omega, ?_, trivial⟩
  ·show (b ++ U.nums [_]).length <= _; rw [n1, List.length_append, dM]; omega
  ·show (b ++ U.nums [_]) ++ U.nums (U.aT e) = b ++ _
   rw [n1, List.append_assoc]; rfl
 simp only [decide_eq_false h, cond_false]; clear h
 by_cases h : c = 115
 ·simp only [decide_eq_true h, cond_true, cond_prop, bG, bW, dn, decide_eq_true_eq, decide_eq_false_iff_not, and_true, U.oV, U.at_]
  refine ⟨hb', by omega, (_, 0), ⟨rfl, ⟨by show (0 : Int) <= 0; omega, by show (0 : Int) <= _; omega⟩, ?_⟩, ?_⟩
  ·show b ++ U.nums [((U.aJ e).length : Int)] = b ++ (U.num1 (U.aJ e).length ++ [])
   rw [n1, List.append_nil]
  ·rintro ⟨o, i⟩ ⟨⟨h0, hi1⟩, ho⟩
   simp only [] at *
   have hol : o.length <= b.length + 8 + 16 * (U.aJ e).length := by
    rw [ho, List.length_append, List.length_append, dM, FK, List.length_take]
    have := Nat.mul_le_mul_left 16 (Nat.min_le_right i.toNat (U.aJ e).length); omega
   refine ⟨fun hi => ⟨h0, hi, by omega, by omega, (_, i + 1), by rw [bQ (x := i + 1) (by omega) (by omega)], ⟨⟨by show 0 <= i + 1; omega, by show i + 1 <= _; omega⟩, ?_⟩, by show (U.aJ e).length - (i + 1).toNat < _; omega⟩, fun hi => ?_⟩
   ·show o ++ U.nums [((U.aJ e).getD i.toNat (0, 0)).1, ((U.aJ e).getD i.toNat (0, 0)).2] = _
    rw [ho, take_at h0 hi, TP, getD_at (by omega), List.append_assoc, List.append_assoc]
    simp [U.nums]
   ·rw [ho, oG (by omega)]
 simp only [decide_eq_false h, cond_false]; clear h
 by_cases h : c = 109
 ·simp only [decide_eq_true h, cond_true]; exact ⟨hb', by omega, congrArg (b ++ ·) (n1 _), trivial⟩
 simp only [decide_eq_false h, cond_false]; clear h
 by_cases h : c = 102
 ·simp only [decide_eq_true h, cond_true]; exact ⟨hb', by omega, congrArg (b ++ ·) (n1 _), trivial⟩
 simp only [decide_eq_false h, cond_false]; clear h
 by_cases h : c = 100
 ·simp only [decide_eq_true h, cond_true]; exact ⟨hb', by omega, congrArg (b ++ ·) (n1 _), trivial⟩
 simp only [decide_eq_false h, cond_false]; clear h
 by_cases h : c = 110
 ·simp only [decide_eq_true h, cond_true]; exact ⟨hb', by omega, congrArg (b ++ ·) (n1 _), trivial⟩
 simp only [decide_eq_false h, cond_false]; clear h
 exact ⟨hb', by omega, congrArg (b ++ ·) (t1 _), trivial⟩
theorem TQ {e : Event} (h : U.aX e = true) : U.dP e = (U.mW e, 0) := by unfold U.dP; rw [h]; rfl
theorem ZC {e : Event} (h : U.aX e = false) : U.dP e = ([], 1) := by unfold U.dP; rw [h]; rfl
theorem VG {f : Int -> List Int} (l : List Int) (c : Int) : (l ++ [c]).flatMap f = l.flatMap f ++ f c := by simp
theorem UZ (e : Event) (h1 : (U.cO e).length <= 1000000000000) (h2 : (U.eTo e).length <= 1000000000000) : yS e := by
 unfold yS
 refine ⟨h1, h2, ?_⟩
 cases hr : U.aX e with
 | false => rw [ZC hr]; exact ⟨rfl, rfl, trivial⟩
 | true =>
   have hk : U.bP e = e.1 := rfl
   rw [TQ hr]
   simp only [Bool.not_true, cond_false, cond_prop, bG, bW, dn, decide_eq_true_eq, decide_eq_false_iff_not, and_true, U.l9, U.at_]
   refine ⟨by omega, by omega, (_, 0), ⟨rfl, ⟨by show (0 : Int) <= 0; omega, by show (0 : Int) <= _; omega⟩, hr, ?_⟩, ?_⟩
   ·show U.nums [e.1, e.2.1] = U.num1 (U.bP e) ++ (U.num1 (U.eAt e) ++ [])
    simp [U.nums]; rfl
   ·rintro ⟨o, i⟩ ⟨⟨h0, hi1⟩, _, ho⟩
    simp only [] at *
    refine ⟨fun hi => ?_, fun hi => ?_⟩
    ·have hm : (U.parts e.1)[i.toNat]'(by omega) ∈ U.parts (U.bP e) := List.getElem_mem _
     have Ut : (U.aT e).length <= 60 := by
      by_cases h5 : 105 ∈ U.parts (U.bP e)
      ·exact (UW (show U.qh (U.aT e) = true from Dw hr h5)).1.2
      ·have := ((((Gx e).1 hr).2.2 105 (by decide)).2 h5)
       rw [of_decide_eq_true (show decide (U.aT e = []) = true from this)]; exact Nat.zero_le _
     have hset : (U.aJ e).length <= 60 := by
      by_cases h5 : 115 ∈ U.parts (U.bP e)
      ·exact (UU (show U.jh (U.aJ e) = true from Dw hr h5)).1
      ·have := ((((Gx e).1 hr).2.2 115 (by decide)).2 h5)
       rw [of_decide_eq_true (show decide (U.aJ e = []) = true from this)]; exact Nat.zero_le _
     have hpl : (U.parts e.1).length <= 4 := by
      have : ∀ p ∈ U.AA, p.length <= 4 := by decide
      exact this _ (FI _)
     have hol : o.length <= 30000 := by
      rw [ho, List.length_append, List.length_append, dM, dM]
      have := QN (f := fun c => U.jF c e) (k := 5000) ((U.parts e.1).take i.toNat) fun c hc => abT ((Jm _).2 c (List.mem_of_mem_take hc)) (Dw hr (List.mem_of_mem_take hc))
      have h4 : ((U.parts e.1).take i.toNat).length <= 4 := by rw [List.length_take]; omega
      have := Nat.mul_le_mul_left 5000 h4
      omega
     refine ⟨h0, hi, by omega, by omega, by omega, by omega, (_, i + 1), by rw [bQ (x := i + 1) (by omega) (by omega)], ⟨⟨by show 0 <= i + 1; omega, by show i + 1 <= _; omega⟩, hr, ?_⟩, by show (U.parts e.1).length - (i + 1).toNat < _; omega⟩
     show o ++ U.jF ((U.parts e.1).getD i.toNat 0) e = _
     rw [ho, take_at h0 hi, VG, getD_at (by omega), List.append_assoc, List.append_assoc]
    ·rw [ho, oG (by omega)]; rfl
theorem WM (f : Int) : Bo f := by
 unfold Bo U.qP; rw [dA]; exact ⟨rfl, trivial⟩
theorem U0 (l : List Int) (h : l.length <= maxLen) : yU l := by
 unfold yU
 rw [maxLen_eq] at h
 simp only [cond_prop, dA, dW, bG, eF, gB, jy, dR, bW, iD, dn, fE, U.at_, maxLen_eq, decide_eq_true_eq, decide_eq_false_iff_not, bne_iff_ne, bne_eq_false_iff_eq, Bool.not_eq_true', Bool.not_eq_false', Bool.not_eq_eq_eq_not, Bool.not_true, Bool.not_false, beq_eq_false_iff_ne, beq_iff_eq, and_true, true_and, Bool.and_eq_true, Bool.or_eq_true, Bool.and_eq_false_iff, Bool.or_eq_false_iff, U.mg]
 refine ⟨0, ⟨rfl, ⟨by omega, by omega⟩, by show (0 : Int) <= 0; omega, rfl⟩, ?_⟩
 rintro i ⟨⟨h0, h1⟩, h2, h3⟩
 refine ⟨fun hi => ⟨h0, hi, fun _ => h0, fun _ => hi, fun _ _ => by rw [bQ] <;> omega, fun _ _ => by rw [bQ] <;> omega, fun _ _ => h0, fun _ _ => hi, fun hb => ?_, fun hb => ⟨i + 1, by rw [bQ (x := i + 1) (by omega) (by omega)], ⟨⟨by omega, by omega⟩, ?_, ?_⟩, by omega⟩⟩, fun hi => ?_⟩
 ·rw [OM h0 hi h3]
  rw [getD_at (by omega)] at hb
  have : (decide (U.l7 l i < l[i.toNat]) && decide (l[i.toNat] <= 4294967295)) = false := by
   rw [Bool.and_eq_false_iff, decide_eq_false_iff_not, decide_eq_false_iff_not]
   rcases hb with (hb | hb) | ⟨hb1, hb2⟩
   ·left; omega
   ·right; omega
   ·left
    rw [bQ (x := i - 1) (by omega) (by omega)] at hb2
    unfold U.l7; rw [decide_eq_false (by omega)]; simp only [cond_false]; omega
  rw [this]; rfl
 ·rw [getD_at (by omega)] at hb
  rw [prev_next h0 hi]; omega
 ·rw [getD_at (by omega)] at hb
  rw [prev_next h0 hi, OM h0 hi h3]
  have : (decide (U.l7 l i < l[i.toNat]) && decide (l[i.toNat] <= 4294967295)) = true := by
   rw [Bool.and_eq_true, decide_eq_true_eq, decide_eq_true_eq]
   obtain ⟨⟨hb1, hb2⟩, hb3⟩ := hb
   refine ⟨?_, by omega⟩
   unfold U.l7
   by_cases hz : i = 0
   ·rw [decide_eq_true hz]; simp only [cond_true]; omega
   ·rw [decide_eq_false hz]; simp only [cond_false]
    rw [bQ (x := i - 1) (by omega) (by omega)] at hb3
    omega
  rw [this, Bool.true_and]
 ·rw [h3, drop_end (by omega)]; rfl
theorem ZE (r : Range) : U.badR r = (decide (r.1 < 0) || decide (r.1 > 4294967295) || decide (r.2 < 0) || decide (r.2 > 4294967295)) := by
 unfold U.badR U.within
 rw [Bool.eq_iff_iff]
 simp only [Bool.or_eq_true, Bool.not_eq_true', Bool.and_eq_false_iff, decide_eq_false_iff_not, decide_eq_true_eq]
 omega
theorem WO (l : List Range) (h : l.length <= maxLen) : Bq l := by
 unfold Bq U.jh
 rw [maxLen_eq] at h
 simp only [cond_prop, dA, dW, bG, eF, gB, jy, dR, bW, iD, dn, fE, U.at_, maxLen_eq, decide_eq_true_eq, decide_eq_false_iff_not, bne_iff_ne, bne_eq_false_iff_eq, Bool.not_eq_true', Bool.not_eq_false', Bool.not_eq_eq_eq_not, Bool.not_true, Bool.not_false, beq_eq_false_iff_ne, beq_iff_eq, and_true, true_and, Bool.and_eq_true, Bool.or_eq_true, Bool.and_eq_false_iff, Bool.or_eq_false_iff, U.nP]
 refine ⟨0, ⟨rfl, ⟨by omega, by omega⟩, by omega, rfl⟩, ?_⟩
 rintro i ⟨⟨h0, h1⟩, h2, h3⟩
 refine ⟨fun hi => ⟨h0, hi.1, fun _ => h0, fun _ => hi.1, fun _ => h0, fun _ => hi.1, fun _ => h0, fun _ => hi.1, fun hb => ?_, fun hb => ⟨i + 1, by rw [bQ (x := i + 1) (by omega) (by omega)], ⟨⟨by omega, by omega⟩, by omega, ?_⟩, by omega⟩⟩, fun hi => ?_⟩
 ·rw [getD_at (by omega)] at hb
  have : U.badR l[i.toNat] = true := by rw [ZE]; simpa using hb
  rw [<- h3, drop_at h0 hi.1, List.any_cons, this]; simp
 ·rw [getD_at (by omega)] at hb
  have : U.badR l[i.toNat] = false := by rw [ZE]; simpa using hb
  rw [<- h3, drop_at h0 hi.1, List.any_cons, this, Bool.false_or]
 ·by_cases h6 : l.length <= 60
  ·have hd : l.drop i.toNat = [] := drop_end (by omega)
   rw [<- h3, hd, decide_eq_true h6, show decide ((l.length : Int) >= 1) = decide (l.length >= 1) by rw [decide_eq_decide]; omega, decide_eq_true (by omega : (l.length : Int) <= 60)]
   simp
  ·rw [decide_eq_false h6, decide_eq_false (by omega : ¬ (l.length : Int) <= 60)]; simp
theorem WQ (k : Int) : Bv k := by
 unfold Bv
 by_cases hk : 0 <= k /\ k < 15
 ·have : k = 0 ∨ k = 1 ∨ k = 2 ∨ k = 3 ∨ k = 4 ∨ k = 5 ∨ k = 6 ∨ k = 7 ∨ k = 8 ∨ k = 9 ∨ k = 10 ∨ k = 11 ∨ k = 12 ∨ k = 13 ∨ k = 14 := by omega
  rcases this with rfl | rfl | rfl | rfl | rfl | rfl | rfl | rfl | rfl | rfl | rfl | rfl | rfl | rfl | rfl <;> exact ⟨rfl, trivial⟩
 ·have hp : U.parts k = [] := by
   unfold U.parts
   rw [show (decide (k < 0) || decide (k >= 15)) = true by rw [Bool.or_eq_true, decide_eq_true_eq, decide_eq_true_eq]; omega]; rfl
  rw [hp]
  have hn : ∀ n : Int, 0 <= n -> n < 15 -> decide (k = n) = false := fun n h1 h2 => by rw [decide_eq_false_iff_not]; omega
  simp only [hn 1 (by omega) (by omega), hn 2 (by omega) (by omega), hn 3 (by omega) (by omega), hn 4 (by omega) (by omega), hn 5 (by omega) (by omega), hn 6 (by omega) (by omega), hn 7 (by omega) (by omega), hn 8 (by omega) (by omega), hn 9 (by omega) (by omega), hn 10 (by omega) (by omega), hn 11 (by omega) (by omega), hn 12 (by omega) (by omega), hn 13 (by omega) (by omega), hn 14 (by omega) (by omega), cond_false, and_true]
theorem ZF (n : Int) : EJ n := by
 unfold EJ U.within; rw [dA]; exact ⟨rfl, trivial⟩
theorem abk (l : List Range) : Gv l := by
 unfold Gv
 refine ⟨?_, trivial⟩
 cases l with
 | nil => rfl
 | cons x r =>
   rw [decide_eq_false (by rw [List.length_cons]; omega), decide_eq_true (by rw [List.length_cons]; omega : (x :: r).length >= 1)]; rfl
theorem abl (s : List Int) (c : Int) (h : s.length <= maxLen) : Gw s c := by
 unfold Gw
 rw [maxLen_eq] at h
 have hm : ∀ l : List Int, decide (aA l c >= 0) = decide (c ∈ l) := fun l => by rw [decide_eq_decide]; exact mV l c
 simp only [cond_prop, dA, dW, bG, eF, gB, jy, dR, bW, iD, dn, fE, U.at_, maxLen_eq, decide_eq_true_eq, decide_eq_false_iff_not, bne_iff_ne, bne_eq_false_iff_eq, Bool.not_eq_true', Bool.not_eq_false', Bool.not_eq_eq_eq_not, Bool.not_true, Bool.not_false, beq_eq_false_iff_ne, beq_iff_eq, and_true, true_and, Bool.and_eq_true, Bool.or_eq_true, Bool.and_eq_false_iff, Bool.or_eq_false_iff, U.qU, hm]
 refine ⟨0, ⟨rfl, ⟨by omega, by omega⟩, rfl⟩, ?_⟩
 rintro i ⟨⟨h0, h1⟩, h2⟩
 refine ⟨fun hi => ⟨h0, hi, fun he => ?_, fun he => ⟨i + 1, by rw [bQ (x := i + 1) (by omega) (by omega)], ⟨⟨by omega, by omega⟩, ?_⟩, by omega⟩⟩, fun hi => ?_⟩
 ·rw [getD_at (by omega)] at he
  rw [h2, drop_at h0 hi]; symm; rw [decide_eq_true_eq, he]; simp
 ·rw [getD_at (by omega)] at he
  rw [h2, drop_at h0 hi, decide_eq_decide, List.mem_cons]
  constructor
  ·rintro (h | h)
   ·exact absurd h.symm he
   ·exact h
  ·exact .inr
 ·rw [h2, drop_end (by omega)]; rfl
theorem vG (r : U.RS) : ∃ k, (U.ak r).2.1 = r.1.drop k := by
 unfold U.ak
 cases decide (r.2 = 0) with
 | false => exact ⟨0, rfl⟩
 | true =>
   cases decide (r.1.length < 8) with
   | true => exact ⟨0, rfl⟩
   | false => cases decide (U.aN (r.1.take 8) > 4611686018427387904) <;> exact ⟨8, rfl⟩
theorem aeg (r : U.RS) : (∃ k, (U.aO r).2.1 = r.1.drop k) /\ (U.aO r).1.length <= r.1.length := by
 unfold U.aO
 cases decide (r.2 = 0) with
 | false => exact ⟨⟨0, rfl⟩, Nat.zero_le _⟩
 | true =>
   cases decide (r.1.length < 4) with
   | true => exact ⟨⟨0, rfl⟩, Nat.zero_le _⟩
   | false =>
     cases decide (U.aN (r.1.take 4) > 4096) with
     | true => exact ⟨⟨4, rfl⟩, Nat.zero_le _⟩
     | false =>
       cases decide ((r.1.drop 4).length < (U.aN (r.1.take 4)).toNat) with
       | true => exact ⟨⟨4, rfl⟩, Nat.zero_le _⟩
       | false => exact ⟨⟨4 + (U.aN (r.1.take 4)).toNat, by rw [<- List.drop_drop]; rfl⟩, by show ((r.1.drop 4).take _).length <= _; rw [List.length_take, List.length_drop]; omega⟩
theorem TS (m : Int) (r : U.RS) : ∃ k, (U.aH m r).2.1 = r.1.drop k := by
 unfold U.aH
 obtain ⟨k, h⟩ := vG r
 cases (decide ((U.ak r).2.2 = 0) && decide ((U.ak r).1 > m)) <;> exact ⟨k, h⟩
theorem wz {a b c : List Int} (h1 : ∃ k, b = a.drop k) (h2 : ∃ k, c = b.drop k) : ∃ k, c = a.drop k := by
 obtain ⟨i, rfl⟩ := h1
 obtain ⟨j, rfl⟩ := h2
 exact ⟨i + j, by rw [List.drop_drop]⟩
theorem NP : ∀ (n : Nat) (r : U.RS), ∃ k, (U.fP n r).2.1 = r.1.drop k
 | 0, r => ⟨0, rfl⟩
 | n + 1, r => wz (vG r) (NP n (U.ak r).2)
theorem HY : ∀ (n : Nat) (r : U.RS), ∃ k, (U.dV n r).2.1 = r.1.drop k
 | 0, r => ⟨0, rfl⟩
 | n + 1, r => wz (vG r) (wz (vG (U.ak r).2) (HY n (U.ak (U.ak r).2).2))
def okX (M : Nat) (x : U.RS × Event) : Prop := (∀ z ∈ x.1.1, Byte z) /\ x.1.1.length <= M /\ (U.cO x.2).length <= M /\ (U.eTo x.2).length <= M
theorem pG {M : Nat} {x y : U.RS × Event} (h : okX M x) (hs : ∃ k, y.1.1 = x.1.1.drop k) (hb : (U.cO y.2).length <= M) (ht : (U.eTo y.2).length <= M) : okX M y := by
 obtain ⟨k, hk⟩ := hs
 refine ⟨fun z hz => h.1 z (List.mem_of_mem_drop (by rw [<- hk]; exact hz)), ?_, hb, ht⟩
 rw [hk, List.length_drop]; have := h.2.1; omega
theorem ZG {M : Nat} {x : U.RS × Event} (h : okX M x) (c : Int) : okX M (U.eP c x) := by
 have key : ∀ (b : Bool) (p q : U.RS × Event), okX M p -> okX M q -> okX M (cond b p q) := by intro b p q h1 h2; cases b <;> assumption
 have hN := vG x.1
 have hT := aeg x.1
 have hl : (U.aO x.1).1.length <= M := Nat.le_trans hT.2 h.2.1
 unfold U.eP
 refine key _ _ _ (pG h hT.1 hl h.2.2.2) (key _ _ _ (pG h hT.1 h.2.2.1 hl) (key _ _ _ (pG h ?_ h.2.2.1 h.2.2.2) (key _ _ _ (pG h ?_ h.2.2.1 h.2.2.2) (key _ _ _ (pG h hN h.2.2.1 h.2.2.2) (key _ _ _ (pG h hN h.2.2.1 h.2.2.2) (key _ _ _ (pG h hN h.2.2.1 h.2.2.2) (key _ _ _ (pG h hN h.2.2.1 h.2.2.2) (key _ _ _ (pG h hT.1 h.2.2.1 h.2.2.2) h))))))))
 ·exact wz (TS 60 x.1) (NP _ _)
 ·exact wz (TS 60 x.1) (HY _ _)
theorem ZH {M : Nat} : ∀ (p : List Int) {x : U.RS × Event}, okX M x -> okX M (ac4 p x)
 | [], _, h => h
 | c :: p, _, h => ZH p (ZG h c)
theorem aeX {b : List Int} (hb : ∀ z ∈ b, Byte z) : okX b.length (U.Jh b) := by
 have h0 : okX b.length ((b, 0), (U.Jh b).2) := ⟨hb, Nat.le_refl _, Nat.zero_le _, Nat.zero_le _⟩
 refine pG h0 ?_ (Nat.zero_le _) (Nat.zero_le _)
 have h2 : ∃ k, (U.ak (U.ak (b, 0)).2).2.1 = b.drop k := wz (vG (b, 0)) (vG (U.ak (b, 0)).2)
 have : ∀ (t : Bool) (r : U.RS), (U.gu t r).1 = r.1 := fun t r => by unfold U.gu; cases (decide (r.2 = 0) && t) <;> rfl
 show ∃ k, (U.gu _ _).1 = _
 rw [this]; exact h2
theorem NQ {r : U.RS} (hb : ∀ z ∈ r.1, Byte z) : 0 <= (U.aH 60 r).1 /\ (U.aH 60 r).1 <= 60 := by
 unfold U.aH U.ak
 by_cases h0 : r.2 = 0
 ·by_cases h8 : r.1.length < 8
  ·simp [h0, h8]
  ·have hv := vC 8 (r.1.take 8) (by rw [List.length_take]; omega) (fun x hx => hb x (List.mem_of_mem_take hx))
   by_cases hg : U.aN (r.1.take 8) > 4611686018427387904
   ·simp [h0, h8, hg]
   ·by_cases h60 : U.aN (r.1.take 8) > 60
    ·simp [h0, h8, hg, h60]
    ·simp [h0, h8, hg, h60]; omega
 ·simp [h0]
theorem afP {b : List Int} (hf : U.lU (U.vF b).1 = 0) (hr : U.aX (U.vF b).2 = true) : U.bC b = ((U.vF b).2, 0) := by
 have h : U.Nk b = 0 := by unfold U.Nk; simp only [hf, hr]; rfl
 unfold U.bC; rw [h]; rfl
theorem aeh {b : List Int} (hf : U.lU (U.vF b).1 = 0) (hr : U.aX (U.vF b).2 = false) : U.bC b = (U.zeroE, 3) := by
 have h : U.Nk b = 3 := by unfold U.Nk; simp only [hf, hr]; rfl
 unfold U.bC; rw [h]; rfl
theorem aeY {b : List Int} (hf : U.lU (U.vF b).1 ≠ 0) : U.bC b = (U.zeroE, U.lU (U.vF b).1) := by
 have h : U.Nk b = U.lU (U.vF b).1 := by unfold U.Nk; simp only []; rw [decide_eq_false hf]; rfl
 unfold U.bC; rw [h, decide_eq_false hf]; rfl
theorem TT (n : Nat) (r : U.RS) : U.fP (n + 1) r = ((U.ak r).1 :: (U.fP n (U.ak r).2).1, (U.fP n (U.ak r).2).2) := rfl
theorem NR (n : Nat) (r : U.RS) : U.dV (n + 1) r = (((U.ak r).1, (U.ak (U.ak r).2).1) :: (U.dV n (U.ak (U.ak r).2).2).1, (U.dV n (U.ak (U.ak r).2).2).2) := rfl
theorem NS : ∀ (n : Nat) (r : U.RS), (U.fP n r).1.length = n
 | 0, _ => rfl
 | n + 1, r => by rw [TT, List.length_cons, NS n]
theorem H6 : ∀ (n : Nat) (r : U.RS), (U.dV n r).1.length = n
 | 0, _ => rfl
 | n + 1, r => by rw [NR, List.length_cons, H6 n]
def Jo (n : Nat) (x : U.RS × Event) : Prop := (U.aT x.2).length <= n /\ (U.aJ x.2).length <= n
theorem aei {M n : Nat} {x : U.RS × Event} (h : okX M x) (hc : Jo n x) (c : Int) : Jo (n + 60) (U.eP c x) := by
 have key : ∀ (b : Bool) (p q : U.RS × Event), Jo (n + 60) p -> Jo (n + 60) q -> Jo (n + 60) (cond b p q) := by intro b p q h1 h2; cases b <;> assumption
 have h1 := hc.1
 have h2 := hc.2
 have hb := NQ (r := x.1) h.1
 have same : ∀ y : U.RS × Event, U.aT y.2 = U.aT x.2 -> U.aJ y.2 = U.aJ x.2 -> Jo (n + 60) y := fun y e1 e2 => ⟨by rw [e1]; omega, by rw [e2]; omega⟩
 unfold U.eP
 refine key _ _ _ (same _ rfl rfl) (key _ _ _ (same _ rfl rfl) (key _ _ _ ?_ (key _ _ _ ?_ (key _ _ _ (same _ rfl rfl) (key _ _ _ (same _ rfl rfl) (key _ _ _ (same _ rfl rfl) (key _ _ _ (same _ rfl rfl) (key _ _ _ (same _ rfl rfl) (same _ rfl rfl)))))))))
 ·refine ⟨?_, by show (U.aJ x.2).length <= _; omega⟩
  show (U.aT x.2 ++ (U.fP (U.aH 60 x.1).1.toNat (U.aH 60 x.1).2).1).length <= _
  rw [List.length_append, NS]; omega
 ·refine ⟨by show (U.aT x.2).length <= _; omega, ?_⟩
  show (U.aJ x.2 ++ (U.dV (U.aH 60 x.1).1.toNat (U.aH 60 x.1).2).1).length <= _
  rw [List.length_append, H6]; omega
theorem VH {M : Nat} : ∀ (p : List Int) {n : Nat} {x : U.RS × Event}, okX M x -> Jo n x -> Jo (n + 60 * p.length) (ac4 p x)
 | [], _, _, _, hc => hc
 | c :: p, n, x, h, hc => by
   have := VH p (ZG h c) (aei h hc c)
   rw [show n + 60 + 60 * p.length = n + 60 * (c :: p).length by rw [List.length_cons]; omega] at this
   exact this
theorem U1 (b : List Int) (hb : ∀ z ∈ b, Valid (.int .u8) z) (hl : b.length <= 1000000000) : yT b := by
 have hbb := lI hb
 unfold yT
 have hPM := FI (U.ak (b, 0)).1
 have hP4 : (U.parts (U.ak (b, 0)).1).length <= 4 := by
  have : ∀ p ∈ U.AA, p.length <= 4 := by decide
  exact this _ hPM
 have hord := (Jm (U.ak (b, 0)).1).2
 have hd0 : U.Jh b = (U.gu ((U.parts (U.ak (b, 0)).1).beq []) (U.ak (U.ak (b, 0)).2).2, (U.ak (b, 0)).1, (U.ak (U.ak (b, 0)).2).1, [], [], [], [], 0, 0, 0, 0, []) := by rw [yX]; rfl
 have hd1 : U.vF b = ac4 (U.parts (U.ak (b, 0)).1) (U.Jh b) := rfl
 have hok0 := aeX hbb
 obtain ⟨p, hP⟩ : ∃ p, U.parts (U.ak (b, 0)).1 = p := ⟨_, rfl⟩
 rw [hP] at hPM hP4 hord hd0 hd1 ⊢
 refine ⟨((U.Jh b).1.1, (U.Jh b).1.2, (U.Jh b).2, 0), ⟨by rw [hd0]; simp only [U.aP, hP] <;> rfl, ⟨by show (0 : Int) <= 0; omega, by show (0 : Int) <= _; omega⟩, rfl⟩, ?_⟩
 rintro ⟨l, r, e, i⟩ ⟨⟨h0, h1⟩, hI⟩
 simp only [hP] at h0 h1 hI
 simp only []
 have hX : okX b.length ((l, r), e) := by rw [hI]; exact ZH _ hok0
 have hcnt : Jo 240 ((l, r), e) := by
  have := VH (p.take i.toNat) hok0 (n := 0) ⟨Nat.zero_le _, Nat.zero_le _⟩
  have hle : (p.take i.toNat).length <= 4 := by rw [List.length_take]; omega
  rw [hI]
  exact ⟨Nat.le_trans this.1 (by omega), Nat.le_trans this.2 (by omega)⟩
 have hnext : (hi : i < p.length) -> ∀ z, z = U.eP p[i.toNat] ((l, r), e) -> U.cZ b z.1.1 z.1.2 z.2 (i + 1) := by
  intro hi z hz
  refine ⟨⟨by omega, by rw [hP]; omega⟩, ?_⟩
  show z = _
  rw [hz, hI, hP, take_at h0 hi, List.foldl_append]; rfl
 rw [cond_prop]
 refine ⟨fun hi => ?_, fun hi => ?_⟩
 ·have hi : i < p.length := of_decide_eq_true hi
  have hg : p.getD i.toNat 0 = p[i.toNat] := getD_at (by omega)
  have hmu : p.length.sub (i + 1).toNat < p.length.sub i.toNat := by simp only [bW]; omega
  rw [hg]
  have hw : IntKind.i64.wrap (i.add 1) = i + 1 := by rw [bG, bQ] <;> omega
  rw [hw]
  have hn := hnext hi
  have hmo := VF (hord p[i.toNat] (List.getElem_mem _))
  refine ⟨h0, hi, by omega, ?_⟩
  generalize p[i.toNat] = c at *
  rcases hmo with rfl | rfl | rfl | rfl | rfl | rfl | rfl | rfl | rfl
  ·exact ⟨((U.eP 98 ((l, r), e)).1.1, (U.eP 98 ((l, r), e)).1.2, (U.eP 98 ((l, r), e)).2, i + 1), by simp only [U.aP, hP] <;> rfl, hn _ rfl, hmu⟩
  ·exact ⟨((U.eP 116 ((l, r), e)).1.1, (U.eP 116 ((l, r), e)).1.2, (U.eP 116 ((l, r), e)).2, i + 1), by simp only [U.aP, hP] <;> rfl, hn _ rfl, hmu⟩
  ·show ∃ x0, _
   have hc := NQ (r := (l, r)) hX.1
   refine ⟨((U.aH 60 (l, r)).2.1, (U.aH 60 (l, r)).2.2, e, p, (U.aH 60 (l, r)).1, 0), ⟨rfl, ?_⟩, ?_⟩
   ·exact ⟨rfl, rfl, by show (0 : Int) <= 0; omega, hc.1, hc.2, rfl, by show _ = _ + Int.toNat 0; rfl, rfl, by simp, by simp⟩
   ·rintro ⟨l1, r1, e1, p1, n1, j⟩ ⟨hn1, hp1, j0, j1, aeZ, _, hlen, he1, XO, XP⟩
    simp only [] at *
    subst hn1; subst hp1
    have j0 : 0 <= j := j0
    have j1 : j <= (U.aH 60 (l, r)).1 := j1
    rw [cond_prop]
    have agY : (U.aT e1).length <= (U.aT e).length + 60 := by omega
    have hide : (U.aT e).length <= 240 := hcnt.1
    refine ⟨fun hj => ?_, fun hj => ?_⟩
    ·have hj : j < _ := of_decide_eq_true hj
     have hwj : IntKind.i64.wrap (j.add 1) = j + 1 := by rw [bG, bQ] <;> omega
     rw [hwj]
     have hst := TT ((U.aH 60 (l, r)).1 - (j + 1)).toNat (l1, r1)
     rw [show ((U.aH 60 (l, r)).1 - (j + 1)).toNat + 1 = ((U.aH 60 (l, r)).1 - j).toNat by omega] at hst
     rw [hst] at XO XP
     refine ⟨by simp only [dR, iD]; omega, by simp only [dR, maxLen_eq]; omega, ((U.ak (l1, r1)).2.1, (U.ak (l1, r1)).2.2, (U.bP e1, U.eAt e1, U.cO e1, U.eTo e1, U.aT e1 ++ [(U.ak (l1, r1)).1], U.aJ e1, U.jC e1, U.jw e1, U.lZ e1, U.eN e1, U.gW e1), p1, (U.aH 60 (l, r)).1, j + 1), rfl, ⟨rfl, rfl, by show 0 <= j + 1; omega, by show j + 1 <= (U.aH 60 (l, r)).1; omega, aeZ, rfl, ?_, ?_, ?_, XP⟩, ?_⟩
     ·show (U.aT e1 ++ [_]).length = _ + (j + 1).toNat
      rw [List.length_append, hlen]; show _ + j.toNat + 1 = _; omega
     ·rw [he1]; rfl
     ·show U.aT e ++ _ = (U.aT e1 ++ [_]) ++ _
      rw [XO, List.append_assoc]; rfl
     ·show ((U.aH 60 (l, r)).1 - (j + 1)).toNat < ((U.aH 60 (l, r)).1 - j).toNat; omega
    ·have hj : ¬ j < _ := of_decide_eq_false hj
     have hjn : ((U.aH 60 (l, r)).1 - j).toNat = 0 := by omega
     rw [hjn] at XO XP
     have hz : ((l1, r1), e1) = U.eP 105 ((l, r), e) := by
      refine Prod.ext XP.symm ?_
      rw [he1]
      show (U.bP e, U.eAt e, U.cO e, U.eTo e, U.aT e1, _) = (U.bP e, U.eAt e, U.cO e, U.eTo e, U.aT e ++ (U.fP (U.aH 60 (l, r)).1.toNat (U.aH 60 (l, r)).2).1, _)
      have : U.aT e ++ (U.fP (U.aH 60 (l, r)).1.toNat (U.aH 60 (l, r)).2).1 = U.aT e1 := by
       have h2 : U.aT e ++ (U.fP (U.aH 60 (l, r)).1.toNat ((U.aH 60 (l, r)).2.1, (U.aH 60 (l, r)).2.2)).1 = U.aT e1 ++ [] := XO
       rw [List.append_nil] at h2; exact h2
      rw [this]
     exact ⟨(l1, r1, e1, i + 1), by simp only [U.aP, hP] <;> rfl, hn ((l1, r1), e1) hz, hmu⟩
  ·show ∃ x0, _
   have hc := NQ (r := (l, r)) hX.1
   refine ⟨((U.aH 60 (l, r)).2.1, (U.aH 60 (l, r)).2.2, e, p, (U.aH 60 (l, r)).1, 0), ⟨rfl, ?_⟩, ?_⟩
   ·exact ⟨rfl, rfl, by show (0 : Int) <= 0; omega, hc.1, hc.2, rfl, by show _ = _ + Int.toNat 0; rfl, rfl, by simp, by simp⟩
   ·rintro ⟨l1, r1, e1, p1, n1, j⟩ ⟨hn1, hp1, j0, j1, aeZ, _, hlen, he1, XQ, XT⟩
    simp only [] at *
    subst hn1; subst hp1
    have j0 : 0 <= j := j0
    have j1 : j <= (U.aH 60 (l, r)).1 := j1
    rw [cond_prop]
    have agY : (U.aJ e1).length <= (U.aJ e).length + 60 := by omega
    have hide : (U.aJ e).length <= 240 := hcnt.2
    refine ⟨fun hj => ?_, fun hj => ?_⟩
    ·have hj : j < _ := of_decide_eq_true hj
     have hwj : IntKind.i64.wrap (j.add 1) = j + 1 := by rw [bG, bQ] <;> omega
     rw [hwj]
     have hst := NR ((U.aH 60 (l, r)).1 - (j + 1)).toNat (l1, r1)
     rw [show ((U.aH 60 (l, r)).1 - (j + 1)).toNat + 1 = ((U.aH 60 (l, r)).1 - j).toNat by omega] at hst
     rw [hst] at XQ XT
     refine ⟨by simp only [dR, iD]; omega, by simp only [dR, maxLen_eq]; omega, ((U.ak (U.ak (l1, r1)).2).2.1, (U.ak (U.ak (l1, r1)).2).2.2, (U.bP e1, U.eAt e1, U.cO e1, U.eTo e1, U.aT e1, U.aJ e1 ++ [((U.ak (l1, r1)).1, (U.ak (U.ak (l1, r1)).2).1)], U.jC e1, U.jw e1, U.lZ e1, U.eN e1, U.gW e1), p1, (U.aH 60 (l, r)).1, j + 1), rfl, ⟨rfl, rfl, by show 0 <= j + 1; omega, by show j + 1 <= (U.aH 60 (l, r)).1; omega, aeZ, rfl, ?_, ?_, ?_, XT⟩, ?_⟩
     ·show (U.aJ e1 ++ [_]).length = _ + (j + 1).toNat
      rw [List.length_append, hlen]; show _ + j.toNat + 1 = _; omega
     ·rw [he1]; rfl
     ·show U.aJ e ++ _ = (U.aJ e1 ++ [_]) ++ _
      rw [XQ, List.append_assoc]; rfl
     ·show ((U.aH 60 (l, r)).1 - (j + 1)).toNat < ((U.aH 60 (l, r)).1 - j).toNat; omega
    ·have hj : ¬ j < _ := of_decide_eq_false hj
     have hjn : ((U.aH 60 (l, r)).1 - j).toNat = 0 := by omega
     rw [hjn] at XQ XT
     have hz : ((l1, r1), e1) = U.eP 115 ((l, r), e) := by
      refine Prod.ext XT.symm ?_
      rw [he1]
      show (U.bP e, U.eAt e, U.cO e, U.eTo e, U.aT e, U.aJ e1, _) = (U.bP e, U.eAt e, U.cO e, U.eTo e, U.aT e, U.aJ e ++ (U.dV (U.aH 60 (l, r)).1.toNat (U.aH 60 (l, r)).2).1, _)
      have : U.aJ e ++ (U.dV (U.aH 60 (l, r)).1.toNat (U.aH 60 (l, r)).2).1 = U.aJ e1 := by
       have h2 : U.aJ e ++ (U.dV (U.aH 60 (l, r)).1.toNat ((U.aH 60 (l, r)).2.1, (U.aH 60 (l, r)).2.2)).1 = U.aJ e1 ++ [] := XQ
       rw [List.append_nil] at h2; exact h2
      rw [this]
     exact ⟨(l1, r1, e1, i + 1), by simp only [U.aP, hP] <;> rfl, hn ((l1, r1), e1) hz, hmu⟩
  ·exact ⟨((U.eP 109 ((l, r), e)).1.1, (U.eP 109 ((l, r), e)).1.2, (U.eP 109 ((l, r), e)).2, i + 1), by simp only [U.aP, hP] <;> rfl, hn _ rfl, hmu⟩
  ·exact ⟨((U.eP 102 ((l, r), e)).1.1, (U.eP 102 ((l, r), e)).1.2, (U.eP 102 ((l, r), e)).2, i + 1), by simp only [U.aP, hP] <;> rfl, hn _ rfl, hmu⟩
  ·exact ⟨((U.eP 100 ((l, r), e)).1.1, (U.eP 100 ((l, r), e)).1.2, (U.eP 100 ((l, r), e)).2, i + 1), by simp only [U.aP, hP] <;> rfl, hn _ rfl, hmu⟩
  ·exact ⟨((U.eP 110 ((l, r), e)).1.1, (U.eP 110 ((l, r), e)).1.2, (U.eP 110 ((l, r), e)).2, i + 1), by simp only [U.aP, hP] <;> rfl, hn _ rfl, hmu⟩
  ·exact ⟨((U.eP 121 ((l, r), e)).1.1, (U.eP 121 ((l, r), e)).1.2, (U.eP 121 ((l, r), e)).2, i + 1), by simp only [U.aP, hP] <;> rfl, hn _ rfl, hmu⟩
 ·have hi : ¬ i < p.length := of_decide_eq_false hi
  rw [oG (by omega)] at hI
  have hD : U.vF b = ((l, r), e) := hd1.trans hI.symm
  have hev : ∀ x : Event, (x.1, x.2.1, x.2.2.1, x.2.2.2.1, U.aT x, U.aJ x, x.2.2.2.2.2.2) = x := fun _ => rfl
  rw [hev e]
  have h3 : ((3 : Int) != 0) = true := rfl
  rw [h3]
  refine ⟨fun _ => by have : (U.cO e).length <= b.length := hX.2.2.1; show (U.cO e).length <= 1000000000000; omega, fun _ => by have : (U.eTo e).length <= b.length := hX.2.2.2; show (U.eTo e).length <= 1000000000000; omega, ?_⟩
  by_cases hf : U.lU (l, r) = 0
  ·have hf1 : U.lU (U.vF b).1 = 0 := by rw [hD]; exact hf
   rw [decide_eq_true hf]
   cases hr : U.aX e with
   | false =>
     have := aeh hf1 (by rw [hD]; exact hr)
     rw [this]
     exact ⟨rfl, rfl, rfl, rfl, rfl, rfl, rfl, rfl, rfl, rfl, rfl, rfl, trivial⟩
   | true =>
     have := afP hf1 (by rw [hD]; exact hr)
     rw [this, hD, hf]
     exact ⟨rfl, rfl, rfl, rfl, rfl, rfl, rfl, rfl, rfl, rfl, rfl, rfl, trivial⟩
  ·have hf1 : U.lU (U.vF b).1 ≠ 0 := by rw [hD]; exact hf
   have := aeY hf1
   rw [this, hD, decide_eq_false hf, bne_iff_ne.2 hf]
   exact ⟨rfl, rfl, rfl, rfl, rfl, rfl, rfl, rfl, rfl, rfl, rfl, rfl, trivial⟩
theorem WR (e : Event) (h1 : (U.cO e).length <= 1000000000000) (h2 : (U.eTo e).length <= 1000000000000) : Bz e := by
 unfold Bz
 have hfold : U.aX e = (!(decide (U.parts e.1 = [])) && (U.within (U.eAt e) 1099511627776 && U.order.all (U.okC (U.parts e.1) e))) := rfl
 have agu : ∀ i : Int, [(98 : Int), 116, 105, 115, 109, 102, 100, 110, 121].getD i.toNat 0 = U.order.getD i.toNat 0 := fun _ => rfl
 simp only [agu]
 have e2 : (bif bif decide (((U.aT e).length : Int) >= 1) then decide (((U.aT e).length : Int) <= 60) else false then U.rise 0 (U.aT e) else false) = U.qh (U.aT e) := by
  unfold U.qh
  rw [dA, dA, Bool.and_comm]
  congr 1
  congr 1 <;> (rw [decide_eq_decide]; omega)
 have e4 : (bif decide (U.jC e >= 0) then decide (U.jC e <= 2) else false) = U.within (U.jC e) 2 := by unfold U.within; rw [dA]
 have e8 : decide (((U.gW e).length : Int) <= 2000) = decide ((U.gW e).length <= 2000) := by rw [decide_eq_decide]; omega
 have hgl : [U.lS (U.cO e), U.lS (U.eTo e), U.qh (U.aT e), U.jh (U.aJ e), U.within (U.jC e) 2, U.qP (U.jw e), U.within (U.lZ e) 1099511627776, U.within (U.eN e) 1099511627776, decide ((U.gW e).length <= 2000)] = U.order.map (fun c => U.good c e) := rfl
 have hnl : [decide (U.cO e = []), decide (U.eTo e = []), decide (U.aT e = []), decide (U.aJ e = []), decide (U.jC e = 0), decide (U.jw e = 0), decide (U.lZ e = 0), decide (U.eN e = 0), decide (U.gW e = [])] = U.order.map (fun c => U.none_ c e) := rfl
 rw [yX]
 rw [cond_prop]
 refine ⟨fun hb => ⟨?_, trivial⟩, fun hb => ⟨h1, h2, (U.order.map (fun c => U.good c e), U.order.map (fun c => U.none_ c e), 0), ⟨?_, ?_⟩, ?_⟩⟩
 ·rw [hfold]
  rw [dW, Bool.or_eq_true, decide_eq_true_eq, Bool.not_eq_true'] at hb
  rcases hb with hb | hb
  ·rw [decide_eq_true hb]; rfl
  ·rw [show U.within (U.eAt e) 1099511627776 = false from hb, Bool.false_and, Bool.and_false]
 ·rw [<- hgl, <- hnl, <- e2, <- e4, <- e8, <- yX, <- yX, <- yY, <- yY, <- yY]; rfl
 ·rw [dW, Bool.or_eq_false_iff, decide_eq_false_iff_not, Bool.not_eq_false'] at hb
  exact ⟨by show (0 : Int) <= 0; omega, by show (0 : Int) <= 9; omega, rfl, rfl, hb.1, hb.2, rfl⟩
 ·rintro ⟨gl, nl, i⟩ ⟨h0, h9, rfl, rfl, hp, hw, ha⟩
  simp only []
  have h0 : 0 <= i := h0
  have h9 : i <= 9 := h9
  have hR : U.aX e = U.order.all (U.okC (U.parts e.1) e) := by rw [hfold, decide_eq_false hp, hw]; rfl
  have hol : U.order.length = 9 := rfl
  rw [cond_prop]
  refine ⟨fun hi => ?_, fun hi => ⟨?_, trivial⟩⟩
  ·have hi : i < 9 := of_decide_eq_true hi
   have hg : U.order.getD i.toNat 0 = U.order[i.toNat]'(by omega) := getD_at (by omega)
   have hgg : (U.order.map (fun c => U.good c e)).getD i.toNat false = U.good (U.order[i.toNat]'(by omega)) e := by rw [getD_at (by rw [List.length_map]; omega), List.getElem_map]
   have hng : (U.order.map (fun c => U.none_ c e)).getD i.toNat false = U.none_ (U.order[i.toNat]'(by omega)) e := by rw [getD_at (by rw [List.length_map]; omega), List.getElem_map]
   have hstep := aef (l := U.order) (f := U.okC (U.parts e.1) e) h0 (by omega)
   rw [ha] at hstep
   simp only [hg, hgg, hng, bG]
   rw [bQ (x := i + 1) (by omega) (by omega)]
   have hnext : U.okC (U.parts e.1) e (U.order[i.toNat]'(by omega)) = true -> (U.order.drop (i + 1).toNat).all (U.okC (U.parts e.1) e) = U.order.all (U.okC (U.parts e.1) e) := fun h => by rw [hstep, h, Bool.true_and]
   have agv : U.okC (U.parts e.1) e (U.order[i.toNat]'(by omega)) = cond (decide (aA (U.parts e.1) (U.order[i.toNat]'(by omega)) >= 0)) (U.good (U.order[i.toNat]'(by omega)) e) (U.none_ (U.order[i.toNat]'(by omega)) e) := by
    unfold U.okC
    by_cases hx : aA (U.parts e.1) (U.order[i.toNat]'(by omega)) >= 0
    ·rw [decide_eq_true hx, decide_eq_false (by omega)]; rfl
    ·rw [decide_eq_false hx, decide_eq_true (by omega)]; rfl
   generalize U.order[i.toNat]'(by omega) = c at *
   refine ⟨h0, by show i < 9; omega, fun _ => h0, fun _ => by show i < 9; omega, fun _ => by omega, fun _ => h0, fun _ => by show i < 9; omega, fun _ _ => h0, fun _ _ => by show i < 9; omega, fun _ _ => by omega, ?_⟩
   rw [cond_prop]
   refine ⟨fun hb => ⟨?_, trivial⟩, fun hb => ⟨(_, _, i + 1), rfl, ⟨by show 0 <= i + 1; omega, by show i + 1 <= 9; omega, rfl, rfl, hp, hw, hnext ?_⟩, by show 9 - (i + 1).toNat < 9 - i.toNat; omega⟩⟩
   ·have : U.okC (U.parts e.1) e c = false := by
     rw [agv]; revert hb
     cases decide (aA (U.parts e.1) c >= 0) <;> cases U.good c e <;> cases U.none_ c e <;> simp
    rw [hR, hstep, this]; rfl
   ·rw [agv]; revert hb
    cases decide (aA (U.parts e.1) c >= 0) <;> cases U.good c e <;> cases U.none_ c e <;> simp
  ·have hi : ¬ i < 9 := of_decide_eq_false hi
   have : i = 9 := by omega
   subst this
   rw [hR, <- ha]; rfl
theorem VI (e : Event) (n : Nat) (h : n < 9) : U.jG (n + 1) e = U.jG n e ++ U.Gn (U.parts (U.bP e)) e (U.order.getD n 0) := by
 unfold U.jG
 rw [List.take_succ_eq_append_getElem (show n < U.order.length from h), VG, getD_at (show n < U.order.length from h), List.append_assoc, List.append_assoc]
theorem Qg {α : Type} (f : α -> Bool) (g : α -> List Int) : ∀ l : List α, l.flatMap (fun c => cond (f c) (g c) []) = (l.filter f).flatMap g
 | [] => rfl
 | x :: l => by
   rw [List.flatMap_cons, Qg f g l, List.filter_cons]
   cases f x <;> simp
theorem abm (k : Int) : U.order.filter (fun c => decide (aA (U.parts k) c >= 0)) = U.parts k := by
 have : ∀ p ∈ U.AA, U.order.filter (fun c => decide (aA p c >= 0)) = p := by decide
 exact this _ (FI k)
theorem ZI (e : Event) : U.jG 9 e = U.mW e := by
 unfold U.jG
 rw [afM]
 have : (U.order.take 9).flatMap (U.Gn (U.parts (U.bP e)) e) = (U.parts (U.bP e)).flatMap fun c => U.jF c e := by
  conv => rhs; rw [<- abm]
  exact Qg (fun c => decide (aA (U.parts (U.bP e)) c >= 0)) (fun c => U.jF c e) U.order
 rw [this]
theorem ae0 {e : Event} {c : Int} (h : decide (aA (U.parts e.1) c >= 0) = true) : U.Gn (U.parts (U.bP e)) e c = U.jF c e := by
 unfold U.Gn; rw [show decide (aA (U.parts (U.bP e)) c >= 0) = true from h]; rfl
theorem afQ {e : Event} {c : Int} (h : decide (aA (U.parts e.1) c >= 0) = false) : U.Gn (U.parts (U.bP e)) e c = [] := by
 unfold U.Gn; rw [show decide (aA (U.parts (U.bP e)) c >= 0) = false from h]; rfl
theorem U2 (e : Event) (h1 : (U.cO e).length <= 1000000000000) (h2 : (U.eTo e).length <= 1000000000000) : yV e := by
 unfold yV
 refine ⟨h1, h2, ?_⟩
 cases hr : U.aX e with
 | false => rw [ZC hr]; exact ⟨rfl, rfl, trivial⟩
 | true =>
   have hl := Zz hr
   have step : ∀ (n : Nat) (h : n < 9) (c : Int) (hc : U.order.getD n 0 = c), (decide (aA (U.parts e.1) c >= 0) = true -> U.jG n e ++ U.jF c e = U.jG (n + 1) e) /\ (decide (aA (U.parts e.1) c >= 0) = false -> U.jG n e = U.jG (n + 1) e) := by
    intro n h c hc
    refine ⟨fun hy => ?_, fun hy => ?_⟩
    ·rw [VI e n h, hc, ae0 hy]
    ·rw [VI e n h, hc, afQ hy, List.append_nil]
   have hP0 : U.num1 e.1 ++ U.num1 e.2.1 = U.jG 0 e := by
    show _ = U.num1 (U.bP e) ++ (U.num1 (U.eAt e) ++ [])
    rw [List.append_nil]; rfl
   simp only [Bool.not_true, cond_false]
   refine ⟨by omega, by rw [dM]; omega, ?_, ?_⟩
   ·rw [dn, hP0, cond_prop]
    refine ⟨fun hy => ⟨by have := hl 0; omega, _, rfl, hr, ?_⟩, fun hy => ⟨_, rfl, hr, (step 0 (by omega) 98 rfl).2 hy⟩⟩
    exact (step 0 (by omega) 98 rfl).1 hy
   rintro x ⟨_, rfl⟩
   refine ⟨?_, ?_⟩
   ·rw [cond_prop]
    exact ⟨fun hy => ⟨by have := hl 1; omega, _, rfl, hr, (step 1 (by omega) 116 rfl).1 hy⟩, fun hy => ⟨_, rfl, hr, (step 1 (by omega) 116 rfl).2 hy⟩⟩
   rintro x ⟨_, rfl⟩
   refine ⟨?_, ?_⟩
   ·rw [cond_prop]
    refine ⟨fun hy => ⟨by have := hl 2; omega, (_, 0), ⟨rfl, hr, of_decide_eq_true hy, ⟨by show (0 : Int) <= 0; omega, by show (0 : Int) <= _; omega⟩, ?_⟩, ?_⟩, fun hy => ⟨_, rfl, hr, (step 2 (by omega) 105 rfl).2 hy⟩⟩
    ·show U.jG 2 e ++ U.num1 (U.aT e).length = U.jG 2 e ++ (U.num1 (U.aT e).length ++ [])
     rw [List.append_nil]
    ·rintro ⟨o, i⟩ ⟨_, _, ⟨i0, i1⟩, ho⟩
     simp only [] at *
     have hg := Dw hr (show (105 : Int) ∈ U.parts (U.bP e) from (mV _ _).1 (of_decide_eq_true hy))
     have h60 := (UW (show U.qh (U.aT e) = true from hg)).1.2
     have hol : o.length <= 60000 := by
      have := hl 2
      rw [ho, List.length_append, List.length_append, dM, Jf, List.length_take]; omega
     rw [cond_prop]
     refine ⟨fun hi => ?_, fun hi => ⟨_, rfl, hr, ?_⟩⟩
     ·have hi : i < ((U.aT e).length : Int) := of_decide_eq_true hi
      rw [bG, bQ (x := i + 1) (by omega) (by omega)]
      refine ⟨i0, hi, by omega, (_, i + 1), rfl, ⟨hr, of_decide_eq_true hy, ⟨by show 0 <= i + 1; omega, by show i + 1 <= _; omega⟩, ?_⟩, by simp only [bW]; omega⟩
      show o ++ U.num1 ((U.aT e).getD i.toNat 0) = _
      rw [ho, take_at i0 hi, VD, getD_at (by omega), List.append_assoc, List.append_assoc]
     ·have hi : ¬ i < ((U.aT e).length : Int) := of_decide_eq_false hi
      rw [ho, oG (by omega)]
      exact (step 2 (by omega) 105 rfl).1 hy
   rintro x ⟨_, rfl⟩
   refine ⟨?_, ?_⟩
   ·rw [cond_prop]
    refine ⟨fun hy => ⟨by have := hl 3; omega, (_, 0), ⟨rfl, hr, of_decide_eq_true hy, ⟨by show (0 : Int) <= 0; omega, by show (0 : Int) <= _; omega⟩, ?_⟩, ?_⟩, fun hy => ⟨_, rfl, hr, (step 3 (by omega) 115 rfl).2 hy⟩⟩
    ·show U.jG 3 e ++ U.num1 (U.aJ e).length = U.jG 3 e ++ (U.num1 (U.aJ e).length ++ [])
     rw [List.append_nil]
    ·rintro ⟨o, i⟩ ⟨_, _, ⟨i0, i1⟩, ho⟩
     simp only [] at *
     have hg := Dw hr (show (115 : Int) ∈ U.parts (U.bP e) from (mV _ _).1 (of_decide_eq_true hy))
     have h60 := (UU (show U.jh (U.aJ e) = true from hg)).1
     have hol : o.length <= 60000 := by
      have := hl 3
      rw [ho, List.length_append, List.length_append, dM, FK, List.length_take]; omega
     rw [cond_prop]
     refine ⟨fun hi => ?_, fun hi => ⟨_, rfl, hr, ?_⟩⟩
     ·have hi : i < ((U.aJ e).length : Int) := of_decide_eq_true hi
      rw [bG, bQ (x := i + 1) (by omega) (by omega)]
      refine ⟨i0, hi, by omega, i0, hi, by rw [dn, List.length_append, dM]; omega, (_, i + 1), rfl, ⟨hr, of_decide_eq_true hy, ⟨by show 0 <= i + 1; omega, by show i + 1 <= _; omega⟩, ?_⟩, by simp only [bW]; omega⟩
      show (o ++ U.num1 ((U.aJ e).getD i.toNat (0, 0)).1) ++ U.num1 ((U.aJ e).getD i.toNat (0, 0)).2 = _
      rw [ho, take_at i0 hi, TP, getD_at (by omega)]; simp only [List.append_assoc]
     ·have hi : ¬ i < ((U.aJ e).length : Int) := of_decide_eq_false hi
      rw [ho, oG (by omega)]
      exact (step 3 (by omega) 115 rfl).1 hy
   rintro x ⟨_, rfl⟩
   refine ⟨⟨(_, 0), ⟨rfl, hr, by show (0 : Int) <= 0; omega, by show (0 : Int) <= 4; omega, rfl⟩, ?_⟩, ?_⟩
   ·rintro ⟨o, i⟩ ⟨_, i0, i4, ho⟩
    simp only [] at *
    rw [cond_prop]
    refine ⟨fun hi => ?_, fun hi => ⟨_, rfl, hr, ?_⟩⟩
    ·have hi : i < 4 := of_decide_eq_true hi
     rw [bG, bQ (x := i + 1) (by omega) (by omega)]
     have hcase : i = 0 ∨ i = 1 ∨ i = 2 ∨ i = 3 := by omega
     refine ⟨i0, by show i < 4; omega, ?_⟩
     rw [cond_prop]
     refine ⟨fun hy => ⟨i0, by show i < 4; omega, by omega, by have := hl (4 + i.toNat); rw [ho]; omega, (_, i + 1), rfl, ⟨hr, by show 0 <= i + 1; omega, by show i + 1 <= 4; omega, ?_⟩, by simp only [bW]; omega⟩, fun hy => ⟨(_, i + 1), rfl, ⟨hr, by show 0 <= i + 1; omega, by show i + 1 <= 4; omega, ?_⟩, by simp only [bW]; omega⟩⟩
     ·rcases hcase with rfl | rfl | rfl | rfl
      ·rw [ho]; exact (step 4 (by omega) 109 rfl).1 hy
      ·rw [ho]; exact (step 5 (by omega) 102 rfl).1 hy
      ·rw [ho]; exact (step 6 (by omega) 100 rfl).1 hy
      ·rw [ho]; exact (step 7 (by omega) 110 rfl).1 hy
     ·rcases hcase with rfl | rfl | rfl | rfl
      ·rw [ho]; exact (step 4 (by omega) 109 rfl).2 hy
      ·rw [ho]; exact (step 5 (by omega) 102 rfl).2 hy
      ·rw [ho]; exact (step 6 (by omega) 100 rfl).2 hy
      ·rw [ho]; exact (step 7 (by omega) 110 rfl).2 hy
    ·have hi : ¬ i < 4 := of_decide_eq_false hi
     rw [ho, show 4 + i.toNat = 8 by omega]
   rintro x ⟨_, rfl⟩
   refine ⟨?_, ?_⟩
   ·rw [cond_prop]
    exact ⟨fun hy => ⟨by have := hl 8; omega, _, rfl, hr, (step 8 (by omega) 121 rfl).1 hy⟩, fun hy => ⟨_, rfl, hr, (step 8 (by omega) 121 rfl).2 hy⟩⟩
   rintro x ⟨_, rfl⟩
   rw [TQ hr]
   exact ⟨ZI e, rfl, trivial⟩
end Go.Proofs.YtkhdeldobekciaaDoor
set_option linter.unusedSimpArgs false
set_option maxRecDepth 100000
set_option linter.unusedVariables false
namespace Go.Proofs.YtkhdeldobekciaaDoor
open Go.Vc
theorem WS (x : aI [.int .i64, .int .i64]) : bM Tryd.prog (aU zA) (JR x.1 x.2) 43 (bK [.int .i64, .int .i64] x) [] (Bf x.1 x.2) = yR x.1 x.2 := by kernel_rfl
theorem WT : Pok 43 [.int .i64, .int .i64] (fun x => Bf x.1 x.2) := by
 refine pk (L := fun x => JR x.1 x.2) (l := zA) Nj (fun _ => rfl) ?_
 intro x hv hp
 rw [WS]
 exact UY x.1 x.2
theorem WU : aY Tryd.prog gl 43 JQ := WT
theorem H7 : aS uH := .cons WU Nj
theorem ZJ (x : aI [.int .i64]) : bM Tryd.prog (aU uH) (Nr x) 26 (bK [.int .i64] x) [] (Ey x) = Bh x := by kernel_rfl
theorem ZK : Pok 26 [.int .i64] (fun x => Ey x) := by
 refine pk (L := fun x => Nr x) (l := uH) H7 (fun _ => rfl) ?_
 intro x hv hp
 rw [ZJ]
 exact WH x
theorem ZL : aY Tryd.prog gl 26 Nq := ZK
theorem J5 : aS xJ := .cons ZL H7
theorem ac5 (x : aI [rY]) : bM Tryd.prog (aU xJ) (TA x) 58 (bK [rY] x) [] (Ji x) = Gs x := by kernel_rfl
theorem ac6 : Pok 58 [rY] (fun x => Ji x) := by
 refine pk (L := fun x => TA x) (l := xJ) J5 (fun _ => rfl) ?_
 intro x hv hp
 rw [ac5]
 exact abg x hv.2
theorem ac7 : aY Tryd.prog gl 58 Tz := ac6
theorem Qh : aS CW := .cons ac7 J5
theorem ZM (x : aI [gQ]) : bM Tryd.prog (aU CW) (Nu x) 70 (bK [gQ] x) [] (Ez x) = Bj x := by kernel_rfl
theorem ZN : Pok 70 [gQ] (fun x => Ez x) := by
 refine pk (L := fun x => Nu x) (l := CW) Qh (fun _ => rfl) ?_
 intro x hv hp
 rw [ZM]
 exact WI x
theorem ZO : aY Tryd.prog gl 70 Ns := ZN
theorem J6 : aS xK := .cons ZO Qh
theorem ac8 (x : aI [kE]) : bM Tryd.prog (aU xK) (TF x) 59 (bK [kE] x) [] (Jj x) = Gt x := by kernel_rfl
theorem ac9 : Pok 59 [kE] (fun x => Jj x) := by
 refine pk (L := fun x => TF x) (l := xK) J6 (fun _ => rfl) ?_
 intro x hv hp
 rw [ac8]
 exact abh x hv.2
theorem ada : aY Tryd.prog gl 59 TB := ac9
theorem Qi : aS CX := .cons ada J6
theorem abn (x : aI [.int .i64]) : bM Tryd.prog (aU CX) (Qa x) 60 (bK [.int .i64] x) [] (Gp x) = EH x := by kernel_rfl
theorem abo : Pok 60 [.int .i64] (fun x => Gp x) := by
 refine pk (L := fun x => Qa x) (l := CX) Qi (fun _ => rfl) ?_
 intro x hv hp
 rw [abn]
 exact ZA x (T.agh hv)
theorem abp : aY Tryd.prog gl 60 P9 := abo
theorem NT : aS zB := .cons abp Qi
theorem abq (x : aI [bI, .int .u8]) : bM Tryd.prog (aU zB) (Qc x.1 x.2) 44 (bK [bI, .int .u8] x) [] (tY x.1 x.2) = EI x.1 x.2 := by kernel_rfl
theorem abr : Pok 44 [bI, .int .u8] (fun x => tY x.1 x.2) := by
 refine pk (L := fun x => Qc x.1 x.2) (l := zB) NT (fun _ => rfl) ?_
 intro x hv hp
 rw [abq]
 exact ZB x.1 x.2 (hp (List.length (U.cO x.1) <= 1000000000000) (by simp [tY])) (hp (List.length (U.eTo x.1) <= 1000000000000) (by simp [tY]))
theorem abt : aY Tryd.prog gl 44 Qb := abr
theorem NU : aS zC := .cons abt NT
theorem ZP (x : aI [bI]) : bM Tryd.prog (aU zC) (Nw x) 25 (bK [bI] x) [] (qV x) = Bl x := by kernel_rfl
theorem ZQ : Pok 25 [bI] (fun x => qV x) := by
 refine pk (L := fun x => Nw x) (l := zC) NU (fun _ => rfl) ?_
 intro x hv hp
 rw [ZP]
 exact WJ x (hp (List.length (U.cO x) <= 1000000000000) (by simp [qV])) (hp (List.length (U.eTo x) <= 1000000000000) (by simp [qV]))
theorem ZR : aY Tryd.prog gl 25 Nv := ZQ
theorem J7 : aS xM := .cons ZR NU
theorem adb (x : aI [aG, bI, .int .u8]) : bM Tryd.prog (aU xM) (TJ x.1 x.2.1 x.2.2) 27 (bK [aG, bI, .int .u8] x) [] (sG x.1 x.2.1 x.2.2) = Gu x.1 x.2.1 x.2.2 := by kernel_rfl
theorem ade : Pok 27 [aG, bI, .int .u8] (fun x => sG x.1 x.2.1 x.2.2) := by
 refine pk (L := fun x => TJ x.1 x.2.1 x.2.2) (l := xM) J7 (fun _ => rfl) ?_
 intro x hv hp
 rw [adb]
 exact abj x.1 x.2.1 x.2.2 (hp (List.length x.1 <= 100000000000) (by simp [sG])) (hp (List.length (U.aT x.2.1) <= 1000000000) (by simp [sG])) (hp (List.length (U.aJ x.2.1) <= 1000000000) (by simp [sG]))
theorem adf : aY Tryd.prog gl 27 TG := ade
theorem Qj : aS CY := .cons adf J7
theorem WV (x : aI [bI]) : bM Tryd.prog (aU CY) (JV x) 12 (bK [bI] x) [] (oZ x) = yS x := by kernel_rfl
theorem WW : Pok 12 [bI] (fun x => oZ x) := by
 refine pk (L := fun x => JV x) (l := CY) Qj (fun _ => rfl) ?_
 intro x hv hp
 rw [WV]
 exact UZ x (hp (List.length (U.cO x) <= 1000000000000) (by simp [oZ])) (hp (List.length (U.eTo x) <= 1000000000000) (by simp [oZ]))
theorem WX : aY Tryd.prog gl 12 JU := WW
theorem H8 : aS uI := .cons WX Qj
theorem WY (x : aI [aG]) : bM Tryd.prog (aU uI) (JX x) 36 (bK [aG] x) [] (uJ x) = yT x := by kernel_rfl
theorem WZ : Pok 36 [aG] (fun x => uJ x) := by
 refine pk (L := fun x => JX x) (l := uI) H8 (fun _ => rfl) ?_
 intro x hv hp
 rw [WY]
 exact U1 x hv.1 (hp (List.length x <= 1000000000) (by simp [uJ]))
theorem W9 : aY Tryd.prog gl 36 JW := WZ
theorem H9 : aS uK := .cons W9 H8
theorem ZT (x : aI [.int .i64]) : bM Tryd.prog (aU uK) (Nz x) 41 (bK [.int .i64] x) [] (EC x) = Bo x := by kernel_rfl
theorem ZU : Pok 41 [.int .i64] (fun x => EC x) := by
 refine pk (L := fun x => Nz x) (l := uK) H9 (fun _ => rfl) ?_
 intro x hv hp
 rw [ZT]
 exact WM x
theorem ZV : aY Tryd.prog gl 41 Ny := ZU
theorem J8 : aS xO := .cons ZV H9
theorem Xa (x : aI [rY]) : bM Tryd.prog (aU xO) (JZ x) 38 (bK [rY] x) [] (Bg x) = yU x := by kernel_rfl
theorem Xb : Pok 38 [rY] (fun x => Bg x) := by
 refine pk (L := fun x => JZ x) (l := xO) J8 (fun _ => rfl) ?_
 intro x hv hp
 rw [Xa]
 exact U0 x hv.2
theorem Xc : aY Tryd.prog gl 38 JY := Xb
theorem Ia : aS uM := .cons Xc J8
theorem ZW (x : aI [kE]) : bM Tryd.prog (aU uM) (ND x) 56 (bK [kE] x) [] (ED x) = Bq x := by kernel_rfl
theorem ZX : Pok 56 [kE] (fun x => ED x) := by
 refine pk (L := fun x => ND x) (l := uM) Ia (fun _ => rfl) ?_
 intro x hv hp
 rw [ZW]
 exact WO x hv.2
theorem ZY : aY Tryd.prog gl 56 NC := ZX
theorem J9 : aS xP := .cons ZY Ia
theorem Z4 (x : aI [.int .i64]) : bM Tryd.prog (aU xP) (NH x) 21 (bK [.int .i64] x) [] (EF x) = Bv x := by kernel_rfl
theorem Z5 : Pok 21 [.int .i64] (fun x => EF x) := by
 refine pk (L := fun x => NH x) (l := xP) J9 (fun _ => rfl) ?_
 intro x hv hp
 rw [Z4]
 exact WQ x
theorem Z7 : aY Tryd.prog gl 21 NG := Z5
theorem Ko : aS xQ := .cons Z7 J9
theorem abu (x : aI [.int .i64]) : bM Tryd.prog (aU xQ) (Qe x) 37 (bK [.int .i64] x) [] (Gq x) = EJ x := by kernel_rfl
theorem abv : Pok 37 [.int .i64] (fun x => Gq x) := by
 refine pk (L := fun x => Qe x) (l := xQ) Ko (fun _ => rfl) ?_
 intro x hv hp
 rw [abu]
 exact ZF x
theorem abw : aY Tryd.prog gl 37 Qd := abv
theorem NV : aS zD := .cons abw Ko
theorem adg (x : aI [kE]) : bM Tryd.prog (aU zD) (TL x) 40 (bK [kE] x) [] (Jk x) = Gv x := by kernel_rfl
theorem adh : Pok 40 [kE] (fun x => Jk x) := by
 refine pk (L := fun x => TL x) (l := zD) NV (fun _ => rfl) ?_
 intro x hv hp
 rw [adg]
 exact abk x
theorem adi : aY Tryd.prog gl 40 TK := adh
theorem Qk : aS CZ := .cons adi NV
theorem adk (x : aI [.str, .int .u8]) : bM Tryd.prog (aU CZ) (TN x.1 x.2) 23 (bK [.str, .int .u8] x) [] (Jl x.1 x.2) = Gw x.1 x.2 := by kernel_rfl
theorem adl : Pok 23 [.str, .int .u8] (fun x => Jl x.1 x.2) := by
 refine pk (L := fun x => TN x.1 x.2) (l := CZ) Qk (fun _ => rfl) ?_
 intro x hv hp
 rw [adk]
 exact abl x.1 x.2 hv.1.2
theorem adn : aY Tryd.prog gl 23 TM := adl
theorem Ql : aS C9 := .cons adn Qk
theorem Z8 (x : aI [bI]) : bM Tryd.prog (aU C9) (NJ x) 20 (bK [bI] x) [] (qW x) = Bz x := by kernel_rfl
theorem Z9 : Pok 20 [bI] (fun x => qW x) := by
 refine pk (L := fun x => NJ x) (l := C9) Ql (fun _ => rfl) ?_
 intro x hv hp
 rw [Z8]
 exact WR x (hp (List.length (U.cO x) <= 1000000000000) (by simp [qW])) (hp (List.length (U.eTo x) <= 1000000000000) (by simp [qW]))
theorem aac : aY Tryd.prog gl 20 NI := Z9
theorem Kq : aS xR := .cons aac Ql
theorem Xd (x : aI [bI]) : bM Tryd.prog (aU xR) (J4 x) 10 (bK [bI] x) [] (o7 x) = yV x := by kernel_rfl
theorem Xe : Pok 10 [bI] (fun x => o7 x) := by
 refine pk (L := fun x => J4 x) (l := xR) Kq (fun _ => rfl) ?_
 intro x hv hp
 rw [Xd]
 exact U2 x (hp (List.length (U.cO x) <= 1000000000000) (by simp [o7])) (hp (List.length (U.eTo x) <= 1000000000000) (by simp [o7]))
theorem Xf : aY Tryd.prog gl 10 J3 := Xe
theorem Ib : aS uN := .cons Xf Kq
theorem aad (x : aI [bI]) : bM Tryd.prog (aU uN) (NM x) 6 (bK [bI] x) [] (EG x) = BA x := by kernel_rfl
theorem aae : Pok 6 [bI] (fun x => EG x) := by
 refine pk (L := fun x => NM x) (l := uN) Ib (fun _ => rfl) ?_
 intro x hv hp
 rw [aad]
 exact WL x
theorem aaf : aY Tryd.prog gl 6 NK := aae
theorem Kr : aS xU := .cons aaf Ib
end Go.Proofs.YtkhdeldobekciaaDoor
