/- What is owed of the functions, proved in plain Lean. -/
import Derived.Test.YtkhdeldobekciaaGreatDoorRF
import Derived.Test.YtkhdeldobekciaaGreatDoorRD
set_option linter.unusedSimpArgs false
set_option linter.unusedVariables false
set_option maxRecDepth 100000
namespace Go.Proofs.YtkhdeldobekciaaGreatDoor
open Go.Vc
open Go.Vc.T
theorem aej {r : U.RS} (h : r.2 ≠ 0) : U.ah r = (0, r) := by
 unfold U.ah; rw [decide_eq_false h]; rfl
theorem aju {r : U.RS} (h : r.2 ≠ 0) : U.ay r = ([], r) := by
 unfold U.ay; rw [decide_eq_false h]; rfl
theorem ah9 {r : U.RS} {m : Int} (h : r.2 ≠ 0) : U.aA m r = (0, r) := by
 unfold U.aA; rw [aej h]
 simp only []
 rw [decide_eq_false h]; rfl
theorem alh (x : Range) (l : List Range) : U.pairs (x :: l) = U.num1 x.1 ++ (U.num1 x.2 ++ U.pairs l) := by simp [U.pairs]
theorem aek : ∀ (l : List Int) (p : Int), 0 <= p -> U.rise p l = true -> ∀ x ∈ l, 0 <= x /\ x <= 4611686018427387904
 | [], _, _, _, x, hx => by cases hx
 | y :: r, p, hp, h, x, hx => by
   unfold U.rise at h
   simp only [Bool.and_eq_true, decide_eq_true_eq] at h
   rcases List.mem_cons.1 hx with rfl | hx
   ·omega
   ·exact aek r y (by omega) h.2 x hx
theorem ag2 {l : List Range} (h : U.jQ l = true) : l.length <= 60 /\ ∀ x ∈ l, (0 <= x.1 /\ x.1 <= 4611686018427387904) /\ 0 <= x.2 /\ x.2 <= 4611686018427387904 := by
 unfold U.jQ at h
 simp only [Bool.and_eq_true, decide_eq_true_eq, Bool.not_eq_true', List.any_eq_false] at h
 refine ⟨h.1, fun x hx => ?_⟩
 have := h.2 x hx
 unfold U.badR U.within at this
 simp only [Bool.or_eq_true, Bool.not_eq_true', Bool.and_eq_false_iff, decide_eq_false_iff_not, not_or] at this
 omega
theorem aaP {c : Int} (h : c ∈ U.order) : c = 98 ∨ c = 116 ∨ c = 105 ∨ c = 115 ∨ c = 109 ∨ c = 102 ∨ c = 100 ∨ c = 110 ∨ c = 121 := by
 simpa [U.order] using h
theorem aia {c : Int} {x : U.RS × Event} (h : x.1.2 ≠ 0) : (U.dS c x).1 = x.1 := by
 have key : ∀ (b : Bool) (p q : U.RS × Event), p.1 = x.1 -> q.1 = x.1 -> (cond b p q).1 = x.1 := by intro b p q h1 h2; cases b <;> assumption
 unfold U.dS
 rw [aju h, aej h, ah9 h]
 repeat' (first | rfl | apply key)
theorem within_iff {n m : Int} : U.within n m = true ↔ 0 <= n /\ n <= m := by unfold U.within; simp only [Bool.and_eq_true, decide_eq_true_eq, ge_iff_le]
theorem ag3 {l : List Int} (h : U.vW l = true) : (1 <= l.length /\ l.length <= 60) /\ ∀ x ∈ l, 0 <= x /\ x <= 4611686018427387904 := by
 unfold U.vW at h
 simp only [Bool.and_eq_true, decide_eq_true_eq] at h
 exact ⟨h.2, aek l 0 (by omega) h.1⟩
def YT (p : List Int) (x : U.RS × Event) : U.RS × Event := p.foldl (fun x c => U.dS c x) x
theorem J9 (k : Int) : U.parts k ∈ U.EN := by
 unfold U.parts
 cases h : (decide (k < 0) || decide (k >= 15)) with
 | true => exact (by decide : ([] : List Int) ∈ U.EN)
 | false =>
   simp only [Bool.or_eq_false_iff, decide_eq_false_iff_not] at h
   simp only [cond_false]
   have hl : k.toNat < U.EN.length := by show k.toNat < 15; omega
   rw [getD_at hl]; exact List.getElem_mem hl
theorem Oq (k : Int) : (U.parts k).Nodup /\ ∀ c ∈ U.parts k, c ∈ U.order := by
 have : ∀ p ∈ U.EN, p.Nodup /\ ∀ c ∈ p, c ∈ U.order := by decide
 exact this _ (J9 k)
theorem La (e : Event) : U.bV e = true ↔ U.parts (U.bK e) ≠ [] /\ (0 <= U.eAt e /\ U.eAt e <= 1099511627776) /\ ∀ c ∈ U.order, (c ∈ U.parts (U.bK e) -> U.good c e = true) /\ (c ∉ U.parts (U.bK e) -> U.none_ c e = true) := by
 unfold U.bV
 simp only [Bool.and_eq_true, Bool.not_eq_true', decide_eq_false_iff_not, within_iff, List.all_eq_true]
 constructor
 ·rintro ⟨a, b, h⟩
  refine ⟨a, b, fun c hc => ?_⟩
  have := h c hc
  unfold U.okC at this
  constructor
  ·intro hm
   rw [decide_eq_false (by have := (uo (U.parts (U.bK e)) c).2 hm; omega)] at this; exact this
  ·intro hm
   rw [decide_eq_true (by have := mt (uo (U.parts (U.bK e)) c).1 hm; omega)] at this; exact this
 ·rintro ⟨a, b, h⟩
  refine ⟨a, b, fun c hc => ?_⟩
  unfold U.okC
  by_cases hm : c ∈ U.parts (U.bK e)
  ·rw [decide_eq_false (by have := (uo (U.parts (U.bK e)) c).2 hm; omega)]; exact (h c hc).1 hm
  ·rw [decide_eq_true (by have := mt (uo (U.parts (U.bK e)) c).1 hm; omega)]; exact (h c hc).2 hm
theorem ali (e : Event) : U.Aw e = U.num1 (U.bK e) ++ (U.num1 (U.eAt e) ++ (U.parts (U.bK e)).flatMap fun c => U.nZ c e) := rfl
theorem SS : ∀ l : List Range, (U.pairs l).length = 16 * l.length
 | [] => rfl
 | x :: l => by rw [alh, List.length_append, List.length_append, gV, gV, SS l, List.length_cons]; omega
theorem aib (l : List Range) (x : Range) : U.pairs (l ++ [x]) = U.pairs l ++ (U.num1 x.1 ++ U.num1 x.2) := by simp [U.pairs]
theorem ag4 {c : Int} (hc : c ∈ U.order) {e : Event} (hg : U.good c e = true) : (U.nZ c e).length <= 5000 := by
 rcases aaP hc with rfl | rfl | rfl | rfl | rfl | rfl | rfl | rfl | rfl
 ·have := J8 (U.dG e); show (U.text1 (U.dG e)).length <= 5000; omega
 ·have := J8 (U.eTo e); show (U.text1 (U.eTo e)).length <= 5000; omega
 ·obtain ⟨⟨_, h60⟩, hl⟩ := ag3 (show U.vW (U.aU e) = true from hg)
  show (U.num1 (U.aU e).length ++ U.nums (U.aU e)).length <= 5000
  rw [List.length_append, gV, WV]; omega
 ·obtain ⟨h60, hl⟩ := ag2 (show U.jQ (U.aO e) = true from hg)
  show (U.num1 (U.aO e).length ++ U.pairs (U.aO e)).length <= 5000
  rw [List.length_append, gV, SS]; omega
 ·show (U.num1 _).length <= 5000; rw [gV]; omega
 ·show (U.num1 _).length <= 5000; rw [gV]; omega
 ·show (U.num1 _).length <= 5000; rw [gV]; omega
 ·show (U.num1 _).length <= 5000; rw [gV]; omega
 ·have := J8 (U.dh e); show (U.text1 (U.dh e)).length <= 5000; omega
theorem Xe {f : Int -> List Int} {k : Nat} : ∀ l : List Int, (∀ c ∈ l, (f c).length <= k) -> (l.flatMap f).length <= k * l.length
 | [], _ => by simp
 | x :: l, h => by
   have h1 := h x (by simp)
   have ih := Xe l fun c hc => h c (List.mem_cons_of_mem _ hc)
   rw [List.flatMap_cons, List.length_append, List.length_cons, Nat.mul_add]; omega
theorem UH {e : Event} (h : U.bV e = true) {c : Int} (hc : c ∈ U.parts (U.bK e)) : U.good c e = true := (((La e).1 h).2.2 c ((Oq _).2 c hc)).1 hc
theorem aks {e : Event} (h : U.bV e = true) (c : Int) : (U.aeh (U.parts (U.bK e)) e c).length <= 5000 := by
 unfold U.aeh
 by_cases hi : aH (U.parts (U.bK e)) c >= 0
 ·have hm := (uo _ _).1 hi
  rw [decide_eq_true hi]; exact ag4 ((Oq _).2 c hm) (UH h hm)
 ·rw [decide_eq_false hi]; exact Nat.zero_le _
theorem akt {e : Event} (h : U.bV e = true) (n : Nat) : (U.ah8 n e).length <= 50000 := by
 unfold U.ah8
 rw [List.length_append, List.length_append, gV, gV]
 have := Xe (f := U.aeh (U.parts (U.bK e)) e) (k := 5000) (U.order.take n) fun c _ => aks h c
 have h9 : (U.order.take n).length <= 9 := by rw [List.length_take]; exact Nat.min_le_right _ _
 have := Nat.mul_le_mul_left 5000 h9
 omega
theorem zq {α : Type} [BEq α] [DecidableEq α] (l : List α) : l.beq [] = decide (l = []) := by cases l <;> simp [List.beq]
theorem CS {α : Type} [DecidableEq α] (l : List α) : decide ((l.length : Int) = 0) = decide (l = []) := by
 rw [decide_eq_decide, <- List.length_eq_zero_iff]; omega
theorem aku (x y : Range) : (decide (x.1 = y.1) && (decide (x.2 = y.2) && true)) = decide (x = y) := by
 rw [Bool.eq_iff_iff]; simp [Prod.ext_iff]
theorem ag5 (a b : List Int) : a.beq b = decide (a = b) := by rw [fO, Bool.eq_iff_iff]; simp
theorem ael (a b : List Int) (h : a.length <= maxLen) : Je a b := by
 unfold Je
 rw [maxLen_eq] at h
 simp only [cond_prop, bY, dZ, bf, dF, eX, jw, dX, bT, gq, dJ, fO, U.at_, maxLen_eq, decide_eq_true_eq, decide_eq_false_iff_not, bne_iff_ne, bne_eq_false_iff_eq, Bool.not_eq_true', Bool.not_eq_false', Bool.not_eq_eq_eq_not, Bool.not_true, Bool.not_false, beq_eq_false_iff_ne, beq_iff_eq, and_true, true_and, Bool.and_eq_true, Bool.or_eq_true, Bool.and_eq_false_iff, Bool.or_eq_false_iff, wrap_i64, U.qV]
 refine ⟨fun hn => ?_, fun hl => ⟨0, ⟨rfl, ⟨by omega, by omega⟩, by omega, rfl⟩, ?_⟩⟩
 ·symm; rw [decide_eq_false_iff_not]; rintro rfl; exact hn rfl
 ·rintro i ⟨⟨h0, h1⟩, h2, h3⟩
  refine ⟨fun hi => ⟨h0, hi, h0, by omega, fun hne => ?_, fun he => ⟨i + 1, by rw [show (i + 1 + 9223372036854775808) % 18446744073709551616 - 9223372036854775808 = i + 1 by omega], ⟨⟨by omega, by omega⟩, h2, ?_⟩, by omega⟩⟩, fun hi => ?_⟩
  ·symm; rw [decide_eq_false_iff_not]; rintro rfl; exact hne rfl
  ·rw [take_at h0 hi, take_at h0 (by omega), h3]
   rw [getD_at (by omega), getD_at (by omega)] at he
   rw [he]
  ·symm; rw [decide_eq_true_eq]
   rw [jV (by omega), jV (by omega)] at h3; exact h3
theorem aem (a b : List Range) (h : a.length <= maxLen) : Jf a b := by
 unfold Jf
 rw [maxLen_eq] at h
 simp only [aku]
 simp only [cond_prop, bY, dZ, bf, dF, eX, jw, dX, bT, gq, dJ, fO, U.at_, maxLen_eq, decide_eq_true_eq, decide_eq_false_iff_not, bne_iff_ne, bne_eq_false_iff_eq, Bool.not_eq_true', Bool.not_eq_false', Bool.not_eq_eq_eq_not, Bool.not_true, Bool.not_false, beq_eq_false_iff_ne, beq_iff_eq, and_true, true_and, Bool.and_eq_true, Bool.or_eq_true, Bool.and_eq_false_iff, Bool.or_eq_false_iff, wrap_i64, U.qW]
 refine ⟨fun hn => ?_, fun hl => ⟨0, ⟨rfl, ⟨by omega, by omega⟩, by omega, rfl⟩, ?_⟩⟩
 ·symm; rw [decide_eq_false_iff_not]; rintro rfl; exact hn rfl
 ·rintro i ⟨⟨h0, h1⟩, h2, h3⟩
  refine ⟨fun hi => ⟨h0, hi, h0, by omega, fun hne => ?_, fun he => ⟨i + 1, by rw [show (i + 1 + 9223372036854775808) % 18446744073709551616 - 9223372036854775808 = i + 1 by omega], ⟨⟨by omega, by omega⟩, h2, ?_⟩, by omega⟩⟩, fun hi => ?_⟩
  ·symm; rw [decide_eq_false_iff_not]; rintro rfl; exact hne rfl
  ·rw [take_at h0 hi, take_at h0 (by omega), h3]
   rw [getD_at (by omega), getD_at (by omega)] at he
   rw [he]
  ·symm; rw [decide_eq_true_eq]
   rw [jV (by omega), jV (by omega)] at h3; exact h3
theorem Z4 (n m : Int) : CG n m := by
 unfold CG U.within; rw [bY]; exact ⟨rfl, trivial⟩
theorem abx (k : Int) : Fq k := by
 unfold Fq U.parts
 rw [dZ]
 cases h : (decide (k < 0) || decide (k >= 15)) with
 | true => exact ⟨rfl, trivial⟩
 | false =>
   simp only [Bool.or_eq_false_iff, decide_eq_false_iff_not] at h
   exact ⟨by omega, by show k < 15; omega, rfl, trivial⟩
theorem UJ {l : List Int} {i : Int} (h0 : 0 <= i) (hi : i < l.length) (hr : U.rise 0 l = U.rise (U.ni l i) (l.drop i.toNat)) :
 U.rise 0 l = ((decide (U.ni l i < l[i.toNat]) && decide (l[i.toNat] <= 4294967295)) && U.rise l[i.toNat] (l.drop (i + 1).toNat)) := by
 rw [hr, drop_at h0 hi]; rfl
theorem prev_next {l : List Int} {i : Int} (h0 : 0 <= i) (hi : i < l.length) : U.ni l (i + 1) = l[i.toNat] := by
 unfold U.ni
 rw [decide_eq_false (by omega), show i + 1 - 1 = i by omega, getD_at (by omega)]; rfl
theorem afZ (l : List Int) (h : l.length <= maxLen) : KU l := by
 unfold KU U.vW
 rw [maxLen_eq] at h
 simp only [cond_prop, bY, dZ, bf, dF, eX, jw, dX, bT, gq, dJ, fO, U.at_, maxLen_eq, decide_eq_true_eq, decide_eq_false_iff_not, bne_iff_ne, bne_eq_false_iff_eq, Bool.not_eq_true', Bool.not_eq_false', Bool.not_eq_eq_eq_not, Bool.not_true, Bool.not_false, beq_eq_false_iff_ne, beq_iff_eq, and_true, true_and, Bool.and_eq_true, Bool.or_eq_true, Bool.and_eq_false_iff, Bool.or_eq_false_iff, U.uN]
 refine ⟨0, ⟨rfl, ⟨by omega, by omega⟩, by show (0 : Int) <= 0; omega, rfl⟩, ?_⟩
 rintro i ⟨⟨h0, h1⟩, h2, h3⟩
 refine ⟨fun hi => ⟨h0, hi, fun _ _ => by rw [dw] <;> omega, fun _ _ => by rw [dw] <;> omega, fun hb => ?_, fun hb => ⟨i + 1, by rw [dw (x := i + 1) (by omega) (by omega)], ⟨⟨by omega, by omega⟩, ?_, ?_⟩, by omega⟩⟩, fun hi => ?_⟩
 ·rw [UJ h0 hi h3]
  rw [getD_at (by omega)] at hb
  have : (decide (U.ni l i < l[i.toNat]) && decide (l[i.toNat] <= 4294967295)) = false := by
   rw [Bool.and_eq_false_iff, decide_eq_false_iff_not, decide_eq_false_iff_not]
   rcases hb with (hb | hb) | ⟨hb1, hb2⟩
   ·left; omega
   ·right; omega
   ·left
    rw [dw (x := i - 1) (by omega) (by omega)] at hb2
    unfold U.ni; rw [decide_eq_false (by omega)]; simp only [cond_false]; omega
  rw [this]; rfl
 ·rw [getD_at (by omega)] at hb
  rw [prev_next h0 hi]; omega
 ·rw [getD_at (by omega)] at hb
  rw [prev_next h0 hi, UJ h0 hi h3]
  have : (decide (U.ni l i < l[i.toNat]) && decide (l[i.toNat] <= 4294967295)) = true := by
   rw [Bool.and_eq_true, decide_eq_true_eq, decide_eq_true_eq]
   obtain ⟨⟨hb1, hb2⟩, hb3⟩ := hb
   refine ⟨?_, by omega⟩
   unfold U.ni
   by_cases hz : i = 0
   ·rw [decide_eq_true hz]; simp only [cond_true]; omega
   ·rw [decide_eq_false hz]; simp only [cond_false]
    rw [dw (x := i - 1) (by omega) (by omega)] at hb3
    omega
  rw [this, Bool.true_and]
 ·rw [h3, drop_end (by omega)]
  rw [show U.rise (U.ni l i) [] = true from rfl, Bool.true_and]
  congr 1 <;> (rw [decide_eq_decide]; omega)
theorem aby (r : Range) : Fv r := by
 unfold Fv U.badR; rw [dZ]; exact ⟨rfl, trivial⟩
theorem af0 (l : List Range) (h : l.length <= maxLen) : KW l := by
 unfold KW U.jQ
 rw [maxLen_eq] at h
 simp only [cond_prop, bf, bT, U.at_, decide_eq_true_eq, decide_eq_false_iff_not, and_true, U.xw]
 have hd : decide (l.length <= 60) = decide ((l.length : Int) <= 60) := by rw [decide_eq_decide]; omega
 refine ⟨fun h6 => ⟨0, ⟨rfl, ⟨by omega, by omega⟩, rfl⟩, ?_⟩, fun h6 => ?_⟩
 ·rintro i ⟨⟨h0, h1⟩, h2⟩
  rw [hd, decide_eq_true h6, Bool.true_and]
  refine ⟨fun hi => ⟨h0, hi, fun hb => ?_, fun hb => ⟨i + 1, by rw [dw (x := i + 1) (by omega) (by omega)], ⟨⟨by omega, by omega⟩, ?_⟩, by omega⟩⟩, fun hi => ?_⟩
  ·rw [getD_at (by omega)] at hb
   rw [<- h2, drop_at h0 hi, List.any_cons, hb, decide_eq_true h0]; rfl
  ·rw [getD_at (by omega)] at hb
   rw [<- h2, drop_at h0 hi, List.any_cons, hb, Bool.false_or]
  ·rw [<- h2, drop_end (by omega)]; rfl
 ·rw [hd, decide_eq_false h6]; rfl
theorem alY (x : BitVec 64) : (x &&& ~~~(BitVec.ofInt 64 31)) = 0#64 ↔ x.toNat < 32 := by
 have h31 : ∀ i < 64, (~~~(BitVec.ofInt 64 31)).getLsbD i = decide (5 <= i) := by decide
 constructor
 ·intro h
  refine Nat.lt_pow_two_of_testBit (n := 5) _ fun i hi => ?_
  by_cases h64 : i < 64
  ·have := congrArg (fun y : BitVec 64 => y.getLsbD i) h
   simp only [BitVec.getLsbD_and, h31 i h64, decide_eq_true hi, Bool.and_true, BitVec.getLsbD_zero] at this
   exact this
  ·exact BitVec.getLsbD_of_ge x i (by omega)
 ·intro h
  apply BitVec.eq_of_getLsbD_eq
  intro i hi
  rw [BitVec.getLsbD_and, h31 i hi, BitVec.getLsbD_zero]
  by_cases h5 : 5 <= i
  ·have : x.toNat.testBit i = false := Nat.testBit_lt_two_pow (Nat.lt_of_lt_of_le h (Nat.pow_le_pow_right (n := 2) (by decide) h5))
   rw [show x.getLsbD i = x.toNat.testBit i from rfl, this]; rfl
  ·rw [decide_eq_false h5, Bool.and_false]
theorem alj {f : Int} (h : -9223372036854775808 <= f /\ f <= 9223372036854775807) : decide (agZ .i64 f 31 = 0) = U.uM f := by
 unfold U.uM agZ
 rw [Bool.eq_iff_iff, decide_eq_true_eq, Bool.and_eq_true, decide_eq_true_eq, decide_eq_true_eq]
 have hb := alY (BitVec.ofInt 64 f)
 have hn : (BitVec.ofInt 64 f).toNat = (f % 18446744073709551616).toNat := by rw [BitVec.toNat_ofInt]; rfl
 have hz : IntKind.i64.wrap (((BitVec.ofInt 64 f) &&& ~~~(BitVec.ofInt 64 31)).toNat : Int) = 0 ↔ ((BitVec.ofInt 64 f) &&& ~~~(BitVec.ofInt 64 31)) = 0#64 := by
  have hlt := ((BitVec.ofInt 64 f) &&& ~~~(BitVec.ofInt 64 31)).isLt
  rw [wrap_i64, <- BitVec.toNat_inj, show (0#64).toNat = 0 from rfl]; omega
 show IntKind.i64.wrap (((BitVec.ofInt 64 f) &&& ~~~(BitVec.ofInt 64 31)).toNat : Int) = 0 ↔ _
 rw [hz, hb, hn]; omega
theorem aen (f : Int) (h : -9223372036854775808 <= f /\ f <= 9223372036854775807) : Jg f := by
 unfold Jg
 exact ⟨alj h, trivial⟩
theorem aeo (e : Event) (c : Int) (h1 : (U.dG e).length <= 1000000000000) (h2 : (U.eTo e).length <= 1000000000000) : Jh e c := by
 unfold Jh U.good U.none_
 by_cases h : c = 98
 ·simp only [decide_eq_true h, cond_true]; exact ⟨h1, rfl, zq _, trivial⟩
 simp only [decide_eq_false h, cond_false]; clear h
 by_cases h : c = 116
 ·simp only [decide_eq_true h, cond_true]; exact ⟨h2, rfl, zq _, trivial⟩
 simp only [decide_eq_false h, cond_false]; clear h
 by_cases h : c = 105
 ·simp only [decide_eq_true h, cond_true]; exact ⟨rfl, CS _, trivial⟩
 simp only [decide_eq_false h, cond_false]; clear h
 by_cases h : c = 115
 ·simp only [decide_eq_true h, cond_true]; exact ⟨rfl, CS _, trivial⟩
 simp only [decide_eq_false h, cond_false]; clear h
 by_cases h : c = 109
 ·simp only [decide_eq_true h, cond_true]; exact ⟨rfl, rfl, trivial⟩
 simp only [decide_eq_false h, cond_false]; clear h
 by_cases h : c = 102
 ·simp only [decide_eq_true h, cond_true]; exact ⟨rfl, rfl, trivial⟩
 simp only [decide_eq_false h, cond_false]; clear h
 by_cases h : c = 100
 ·simp only [decide_eq_true h, cond_true]; exact ⟨rfl, rfl, trivial⟩
 simp only [decide_eq_false h, cond_false]; clear h
 by_cases h : c = 110
 ·simp only [decide_eq_true h, cond_true]; exact ⟨rfl, rfl, trivial⟩
 simp only [decide_eq_false h, cond_false]; clear h
 exact ⟨by rw [decide_eq_decide]; show ((U.dh e).length : Int) <= 2000 ↔ _; omega, CS _, trivial⟩
theorem ajv {α : Type} {l : List α} {f : α -> Bool} {i : Int} (h0 : 0 <= i) (hi : i < l.length) : (l.drop i.toNat).all f = (f l[i.toNat] && (l.drop (i + 1).toNat).all f) := by
 rw [drop_at h0 hi]; rfl
theorem abz (e : Event) (h1 : (U.dG e).length <= 1000000000000) (h2 : (U.eTo e).length <= 1000000000000) : Fz e := by
 unfold Fz
 have hfold : U.bV e = (!(decide (U.parts e.1 = [])) && (U.within (U.eAt e) 1099511627776 && U.order.all (U.okC (U.parts e.1) e))) := rfl
 simp only [zq]
 simp only [cond_prop, dZ, bf, bT, decide_eq_true_eq, decide_eq_false_iff_not, and_true, Bool.or_eq_true, Bool.or_eq_false_iff, Bool.not_eq_true', Bool.not_eq_false', U.kR]
 refine ⟨fun hb => ?_, fun hb => ⟨by omega, 0, ⟨rfl, by omega, by omega, hb.1, hb.2, rfl⟩, ?_⟩⟩
 ·rw [hfold]
  rcases hb with hb | hb
  ·rw [decide_eq_true hb]; rfl
  ·rw [show U.within (U.eAt e) 1099511627776 = false from hb, Bool.false_and, Bool.and_false]
 ·rintro i ⟨h0, h9, hp, hw, ha⟩
  have hR : U.bV e = U.order.all (U.okC (U.parts e.1) e) := by rw [hfold, decide_eq_false hp, hw]; rfl
  have hol : U.order.length = 9 := rfl
  refine ⟨fun hi => ?_, fun hi => ?_⟩
  ·have hg : U.order.getD i.toNat 0 = U.order[i.toNat]'(by omega) := getD_at (by omega)
   have hstep := ajv (l := U.order) (f := U.okC (U.parts e.1) e) h0 (by omega)
   rw [ha] at hstep
   rw [hg, dw (x := i + 1) (by omega) (by omega)]
   have hnext : U.okC (U.parts e.1) e (U.order[i.toNat]'(by omega)) = true -> (U.order.drop (i + 1).toNat).all (U.okC (U.parts e.1) e) = U.order.all (U.okC (U.parts e.1) e) := fun h => by rw [hstep, h, Bool.true_and]
   refine ⟨h0, by show i < 9; omega, by omega, h1, h2, fun hc => ⟨fun hn => ?_, fun hn => ⟨i + 1, rfl, ⟨by omega, by omega, hp, hw, hnext ?_⟩, by omega⟩⟩, fun hc => ⟨fun hn => ?_, fun hn => ⟨i + 1, rfl, ⟨by omega, by omega, hp, hw, hnext ?_⟩, by omega⟩⟩⟩
   ·have : U.okC (U.parts e.1) e (U.order[i.toNat]'(by omega)) = false := by unfold U.okC; rw [decide_eq_true hc]; exact hn
    rw [hR, hstep, this]; rfl
   ·unfold U.okC; rw [decide_eq_true hc]; exact hn
   ·have : U.okC (U.parts e.1) e (U.order[i.toNat]'(by omega)) = false := by unfold U.okC; rw [decide_eq_false hc]; exact hn
    rw [hR, hstep, this]; rfl
   ·unfold U.okC; rw [decide_eq_false hc]; exact hn
  ·have : i = 9 := by omega
   subst this
   rw [hR, <- ha]; rfl
theorem aep (a b : Event) : Jj a b := by
 unfold Jj U.IZ U.bK U.eAt U.dG U.eTo U.aU U.aO U.fV U.fB U.iq U.eN U.dh
 simp only [ag5, bY, <- Bool.and_assoc]
 exact ⟨trivial, trivial⟩
theorem af2 (b : List Int) (e : Event) (c : Int) (hb : b.length <= 100000000000) (h1 : (U.aU e).length <= 1000000000) (h2 : (U.aO e).length <= 1000000000) : KX b e c := by
 have hb' : b.length <= 1000000000000 := by omega
 have t1 : ∀ s : List Int, U.texts [s] = U.text1 s := fun s => by simp [U.texts]
 have n1 : ∀ n : Int, U.nums [n] = U.num1 n := fun n => by simp [U.nums]
 unfold KX U.nZ
 by_cases h : c = 98
 ·simp only [decide_eq_true h, cond_true]; exact ⟨hb', by omega, congrArg (b ++ ·) (t1 _), trivial⟩
 simp only [decide_eq_false h, cond_false]; clear h
 by_cases h : c = 116
 ·simp only [decide_eq_true h, cond_true]; exact ⟨hb', by omega, congrArg (b ++ ·) (t1 _), trivial⟩
 simp only [decide_eq_false h, cond_false]; clear h
 by_cases h : c = 105
 ·simp only [decide_eq_true h, cond_true]
  refine ⟨hb', by omega, ?_, by show (U.aU e).length <= _; omega, ?_, trivial⟩
  ·show (b ++ U.nums [_]).length <= _; rw [n1, List.length_append, gV]; omega
  ·show (b ++ U.nums [_]) ++ U.nums (U.aU e) = b ++ _
   rw [n1, List.append_assoc]; rfl
 simp only [decide_eq_false h, cond_false]; clear h
 by_cases h : c = 115
 ·simp only [decide_eq_true h, cond_true, cond_prop, bf, bT, dJ, decide_eq_true_eq, decide_eq_false_iff_not, and_true, U.qY, U.at_]
  refine ⟨hb', by omega, (_, 0), ⟨rfl, ⟨by show (0 : Int) <= 0; omega, by show (0 : Int) <= _; omega⟩, ?_⟩, ?_⟩
  ·show b ++ U.nums [((U.aO e).length : Int)] = b ++ (U.num1 (U.aO e).length ++ [])
   rw [n1, List.append_nil]
  ·rintro ⟨o, i⟩ ⟨⟨h0, hi1⟩, ho⟩
   simp only [] at *
   have hol : o.length <= b.length + 8 + 16 * (U.aO e).length := by
    rw [ho, List.length_append, List.length_append, gV, SS, List.length_take]
    have := Nat.mul_le_mul_left 16 (Nat.min_le_right i.toNat (U.aO e).length); omega
   refine ⟨fun hi => ⟨h0, hi, by omega, by omega, (_, i + 1), by rw [dw (x := i + 1) (by omega) (by omega)], ⟨⟨by show 0 <= i + 1; omega, by show i + 1 <= _; omega⟩, ?_⟩, by show (U.aO e).length - (i + 1).toNat < _; omega⟩, fun hi => ?_⟩
   ·show o ++ U.nums [((U.aO e).getD i.toNat (0, 0)).1, ((U.aO e).getD i.toNat (0, 0)).2] = _
    rw [ho, take_at h0 hi, aib, getD_at (by omega), List.append_assoc, List.append_assoc]
    simp [U.nums]
   ·rw [ho, jV (by omega)]
 simp only [decide_eq_false h, cond_false]; clear h
 by_cases h : c = 109
 ·simp only [decide_eq_true h, cond_true]; exact ⟨hb', by omega, congrArg (b ++ ·) (n1 _), trivial⟩
 simp only [decide_eq_false h, cond_false]; clear h
 by_cases h : c = 102
 ·simp only [decide_eq_true h, cond_true]; exact ⟨hb', by omega, congrArg (b ++ ·) (n1 _), trivial⟩
 simp only [decide_eq_false h, cond_false]; clear h
 by_cases h : c = 100
 ·simp only [decide_eq_true h, cond_true]; exact ⟨hb', by omega, congrArg (b ++ ·) (n1 _), trivial⟩
 simp only [decide_eq_false h, cond_false]; clear h
 by_cases h : c = 110
 ·simp only [decide_eq_true h, cond_true]; exact ⟨hb', by omega, congrArg (b ++ ·) (n1 _), trivial⟩
 simp only [decide_eq_false h, cond_false]; clear h
 exact ⟨hb', by omega, congrArg (b ++ ·) (t1 _), trivial⟩
theorem ajw {e : Event} (h : U.bV e = true) : U.yK e = (U.Aw e, 0) := by unfold U.yK; rw [h]; rfl
theorem ajx {e : Event} (h : U.bV e = false) : U.yK e = ([], 1) := by unfold U.yK; rw [h]; rfl
theorem ajy {f : Int -> List Int} (l : List Int) (c : Int) : (l ++ [c]).flatMap f = l.flatMap f ++ f c := by simp
theorem Z5 (e : Event) (h1 : (U.dG e).length <= 1000000000000) (h2 : (U.eTo e).length <= 1000000000000) : CJ e := by
 unfold CJ
 refine ⟨h1, h2, ?_⟩
 cases hr : U.bV e with
 | false => rw [ajx hr]; exact ⟨rfl, rfl, trivial⟩
 | true =>
   have hk : U.bK e = e.1 := rfl
   rw [ajw hr]
   simp only [Bool.not_true, cond_false, cond_prop, bf, bT, dJ, decide_eq_true_eq, decide_eq_false_iff_not, and_true, U.ny, U.at_]
   refine ⟨by omega, by omega, (_, 0), ⟨rfl, ⟨by show (0 : Int) <= 0; omega, by show (0 : Int) <= _; omega⟩, hr, ?_⟩, ?_⟩
   ·show U.nums [e.1, e.2.1] = U.num1 (U.bK e) ++ (U.num1 (U.eAt e) ++ [])
    simp [U.nums]; rfl
   ·rintro ⟨o, i⟩ ⟨⟨h0, hi1⟩, _, ho⟩
    simp only [] at *
    refine ⟨fun hi => ?_, fun hi => ?_⟩
    ·have hm : (U.parts e.1)[i.toNat]'(by omega) ∈ U.parts (U.bK e) := List.getElem_mem _
     have ZA : (U.aU e).length <= 60 := by
      by_cases h5 : 105 ∈ U.parts (U.bK e)
      ·exact (ag3 (show U.vW (U.aU e) = true from UH hr h5)).1.2
      ·have := ((((La e).1 hr).2.2 105 (by decide)).2 h5)
       rw [of_decide_eq_true (show decide (U.aU e = []) = true from this)]; exact Nat.zero_le _
     have hset : (U.aO e).length <= 60 := by
      by_cases h5 : 115 ∈ U.parts (U.bK e)
      ·exact (ag2 (show U.jQ (U.aO e) = true from UH hr h5)).1
      ·have := ((((La e).1 hr).2.2 115 (by decide)).2 h5)
       rw [of_decide_eq_true (show decide (U.aO e = []) = true from this)]; exact Nat.zero_le _
     have hpl : (U.parts e.1).length <= 4 := by
      have : ∀ p ∈ U.EN, p.length <= 4 := by decide
      exact this _ (J9 _)
     have hol : o.length <= 30000 := by
      rw [ho, List.length_append, List.length_append, gV, gV]
      have := Xe (f := fun c => U.nZ c e) (k := 5000) ((U.parts e.1).take i.toNat) fun c hc => ag4 ((Oq _).2 c (List.mem_of_mem_take hc)) (UH hr (List.mem_of_mem_take hc))
      have h4 : ((U.parts e.1).take i.toNat).length <= 4 := by rw [List.length_take]; omega
      have := Nat.mul_le_mul_left 5000 h4
      omega
     refine ⟨h0, hi, by omega, by omega, by omega, by omega, (_, i + 1), by rw [dw (x := i + 1) (by omega) (by omega)], ⟨⟨by show 0 <= i + 1; omega, by show i + 1 <= _; omega⟩, hr, ?_⟩, by show (U.parts e.1).length - (i + 1).toNat < _; omega⟩
     show o ++ U.nZ ((U.parts e.1).getD i.toNat 0) e = _
     rw [ho, take_at h0 hi, ajy, getD_at (by omega), List.append_assoc, List.append_assoc]
    ·rw [ho, jV (by omega)]; rfl
theorem abA (f : Int) : FB f := by
 unfold FB U.uM; rw [bY]; exact ⟨rfl, trivial⟩
theorem Z7 (l : List Int) (h : l.length <= maxLen) : CP l := by
 unfold CP
 rw [maxLen_eq] at h
 simp only [cond_prop, bY, dZ, bf, dF, eX, jw, dX, bT, gq, dJ, fO, U.at_, maxLen_eq, decide_eq_true_eq, decide_eq_false_iff_not, bne_iff_ne, bne_eq_false_iff_eq, Bool.not_eq_true', Bool.not_eq_false', Bool.not_eq_eq_eq_not, Bool.not_true, Bool.not_false, beq_eq_false_iff_ne, beq_iff_eq, and_true, true_and, Bool.and_eq_true, Bool.or_eq_true, Bool.and_eq_false_iff, Bool.or_eq_false_iff, U.nC]
 refine ⟨0, ⟨rfl, ⟨by omega, by omega⟩, by show (0 : Int) <= 0; omega, rfl⟩, ?_⟩
 rintro i ⟨⟨h0, h1⟩, h2, h3⟩
 refine ⟨fun hi => ⟨h0, hi, fun _ => h0, fun _ => hi, fun _ _ => by rw [dw] <;> omega, fun _ _ => by rw [dw] <;> omega, fun _ _ => h0, fun _ _ => hi, fun hb => ?_, fun hb => ⟨i + 1, by rw [dw (x := i + 1) (by omega) (by omega)], ⟨⟨by omega, by omega⟩, ?_, ?_⟩, by omega⟩⟩, fun hi => ?_⟩
 ·rw [UJ h0 hi h3]
  rw [getD_at (by omega)] at hb
  have : (decide (U.ni l i < l[i.toNat]) && decide (l[i.toNat] <= 4294967295)) = false := by
   rw [Bool.and_eq_false_iff, decide_eq_false_iff_not, decide_eq_false_iff_not]
   rcases hb with (hb | hb) | ⟨hb1, hb2⟩
   ·left; omega
   ·right; omega
   ·left
    rw [dw (x := i - 1) (by omega) (by omega)] at hb2
    unfold U.ni; rw [decide_eq_false (by omega)]; simp only [cond_false]; omega
  rw [this]; rfl
 ·rw [getD_at (by omega)] at hb
  rw [prev_next h0 hi]; omega
 ·rw [getD_at (by omega)] at hb
  rw [prev_next h0 hi, UJ h0 hi h3]
  have : (decide (U.ni l i < l[i.toNat]) && decide (l[i.toNat] <= 4294967295)) = true := by
   rw [Bool.and_eq_true, decide_eq_true_eq, decide_eq_true_eq]
   obtain ⟨⟨hb1, hb2⟩, hb3⟩ := hb
   refine ⟨?_, by omega⟩
   unfold U.ni
   by_cases hz : i = 0
   ·rw [decide_eq_true hz]; simp only [cond_true]; omega
   ·rw [decide_eq_false hz]; simp only [cond_false]
    rw [dw (x := i - 1) (by omega) (by omega)] at hb3
    omega
  rw [this, Bool.true_and]
 ·rw [h3, drop_end (by omega)]; rfl
theorem aer (r : Range) : U.badR r = (decide (r.1 < 0) || decide (r.1 > 4294967295) || decide (r.2 < 0) || decide (r.2 > 4294967295)) := by
 unfold U.badR U.within
 rw [Bool.eq_iff_iff]
 simp only [Bool.or_eq_true, Bool.not_eq_true', Bool.and_eq_false_iff, decide_eq_false_iff_not, decide_eq_true_eq]
 omega
theorem abB (l : List Range) (h : l.length <= maxLen) : FC l := by
 unfold FC U.jQ
 rw [maxLen_eq] at h
 simp only [cond_prop, bY, dZ, bf, dF, eX, jw, dX, bT, gq, dJ, fO, U.at_, maxLen_eq, decide_eq_true_eq, decide_eq_false_iff_not, bne_iff_ne, bne_eq_false_iff_eq, Bool.not_eq_true', Bool.not_eq_false', Bool.not_eq_eq_eq_not, Bool.not_true, Bool.not_false, beq_eq_false_iff_ne, beq_iff_eq, and_true, true_and, Bool.and_eq_true, Bool.or_eq_true, Bool.and_eq_false_iff, Bool.or_eq_false_iff, U.o9]
 refine ⟨0, ⟨rfl, ⟨by omega, by omega⟩, by omega, rfl⟩, ?_⟩
 rintro i ⟨⟨h0, h1⟩, h2, h3⟩
 refine ⟨fun hi => ⟨h0, hi.1, fun _ => h0, fun _ => hi.1, fun _ => h0, fun _ => hi.1, fun _ => h0, fun _ => hi.1, fun hb => ?_, fun hb => ⟨i + 1, by rw [dw (x := i + 1) (by omega) (by omega)], ⟨⟨by omega, by omega⟩, by omega, ?_⟩, by omega⟩⟩, fun hi => ?_⟩
 ·rw [getD_at (by omega)] at hb
  have : U.badR l[i.toNat] = true := by rw [aer]; simpa using hb
  rw [<- h3, drop_at h0 hi.1, List.any_cons, this]; simp
 ·rw [getD_at (by omega)] at hb
  have : U.badR l[i.toNat] = false := by rw [aer]; simpa using hb
  rw [<- h3, drop_at h0 hi.1, List.any_cons, this, Bool.false_or]
 ·by_cases h6 : l.length <= 60
  ·have hd : l.drop i.toNat = [] := drop_end (by omega)
   rw [<- h3, hd, decide_eq_true h6, show decide ((l.length : Int) >= 1) = decide (l.length >= 1) by rw [decide_eq_decide]; omega, decide_eq_true (by omega : (l.length : Int) <= 60)]
   simp
  ·rw [decide_eq_false h6, decide_eq_false (by omega : ¬ (l.length : Int) <= 60)]; simp
theorem abC (k : Int) : FD k := by
 unfold FD
 by_cases hk : 0 <= k /\ k < 15
 ·have : k = 0 ∨ k = 1 ∨ k = 2 ∨ k = 3 ∨ k = 4 ∨ k = 5 ∨ k = 6 ∨ k = 7 ∨ k = 8 ∨ k = 9 ∨ k = 10 ∨ k = 11 ∨ k = 12 ∨ k = 13 ∨ k = 14 := by omega
  rcases this with rfl | rfl | rfl | rfl | rfl | rfl | rfl | rfl | rfl | rfl | rfl | rfl | rfl | rfl | rfl <;> exact ⟨rfl, trivial⟩
 ·have hp : U.parts k = [] := by
   unfold U.parts
   rw [show (decide (k < 0) || decide (k >= 15)) = true by rw [Bool.or_eq_true, decide_eq_true_eq, decide_eq_true_eq]; omega]; rfl
  rw [hp]
  have hn : ∀ n : Int, 0 <= n -> n < 15 -> decide (k = n) = false := fun n h1 h2 => by rw [decide_eq_false_iff_not]; omega
  simp only [hn 1 (by omega) (by omega), hn 2 (by omega) (by omega), hn 3 (by omega) (by omega), hn 4 (by omega) (by omega), hn 5 (by omega) (by omega), hn 6 (by omega) (by omega), hn 7 (by omega) (by omega), hn 8 (by omega) (by omega), hn 9 (by omega) (by omega), hn 10 (by omega) (by omega), hn 11 (by omega) (by omega), hn 12 (by omega) (by omega), hn 13 (by omega) (by omega), hn 14 (by omega) (by omega), cond_false, and_true]
theorem aes (n : Int) : Ji n := by
 unfold Ji U.within; rw [bY]; exact ⟨rfl, trivial⟩
theorem af4 (l : List Range) : KY l := by
 unfold KY
 refine ⟨?_, trivial⟩
 cases l with
 | nil => rfl
 | cons x r =>
   rw [decide_eq_false (by rw [List.length_cons]; omega), decide_eq_true (by rw [List.length_cons]; omega : (x :: r).length >= 1)]; rfl
theorem af5 (s : List Int) (c : Int) (h : s.length <= maxLen) : KZ s c := by
 unfold KZ
 rw [maxLen_eq] at h
 have hm : ∀ l : List Int, decide (aH l c >= 0) = decide (c ∈ l) := fun l => by rw [decide_eq_decide]; exact uo l c
 simp only [cond_prop, bY, dZ, bf, dF, eX, jw, dX, bT, gq, dJ, fO, U.at_, maxLen_eq, decide_eq_true_eq, decide_eq_false_iff_not, bne_iff_ne, bne_eq_false_iff_eq, Bool.not_eq_true', Bool.not_eq_false', Bool.not_eq_eq_eq_not, Bool.not_true, Bool.not_false, beq_eq_false_iff_ne, beq_iff_eq, and_true, true_and, Bool.and_eq_true, Bool.or_eq_true, Bool.and_eq_false_iff, Bool.or_eq_false_iff, U.uP, hm]
 refine ⟨0, ⟨rfl, ⟨by omega, by omega⟩, rfl⟩, ?_⟩
 rintro i ⟨⟨h0, h1⟩, h2⟩
 refine ⟨fun hi => ⟨h0, hi, fun he => ?_, fun he => ⟨i + 1, by rw [dw (x := i + 1) (by omega) (by omega)], ⟨⟨by omega, by omega⟩, ?_⟩, by omega⟩⟩, fun hi => ?_⟩
 ·rw [getD_at (by omega)] at he
  rw [h2, drop_at h0 hi]; symm; rw [decide_eq_true_eq, he]; simp
 ·rw [getD_at (by omega)] at he
  rw [h2, drop_at h0 hi, decide_eq_decide, List.mem_cons]
  constructor
  ·rintro (h | h)
   ·exact absurd h.symm he
   ·exact h
  ·exact .inr
 ·rw [h2, drop_end (by omega)]; rfl
theorem yL (r : U.RS) : ∃ k, (U.ah r).2.1 = r.1.drop k := by
 unfold U.ah
 cases decide (r.2 = 0) with
 | false => exact ⟨0, rfl⟩
 | true =>
   cases decide (r.1.length < 8) with
   | true => exact ⟨0, rfl⟩
   | false => cases decide (U.aj (r.1.take 8) > 4611686018427387904) <;> exact ⟨8, rfl⟩
theorem ajz (r : U.RS) : (∃ k, (U.ay r).2.1 = r.1.drop k) /\ (U.ay r).1.length <= r.1.length := by
 unfold U.ay
 cases decide (r.2 = 0) with
 | false => exact ⟨⟨0, rfl⟩, Nat.zero_le _⟩
 | true =>
   cases decide (r.1.length < 4) with
   | true => exact ⟨⟨0, rfl⟩, Nat.zero_le _⟩
   | false =>
     cases decide (U.aj (r.1.take 4) > 4096) with
     | true => exact ⟨⟨4, rfl⟩, Nat.zero_le _⟩
     | false =>
       cases decide ((r.1.drop 4).length < (U.aj (r.1.take 4)).toNat) with
       | true => exact ⟨⟨4, rfl⟩, Nat.zero_le _⟩
       | false => exact ⟨⟨4 + (U.aj (r.1.take 4)).toNat, by rw [<- List.drop_drop]; rfl⟩, by show ((r.1.drop 4).take _).length <= _; rw [List.length_take, List.length_drop]; omega⟩
theorem YU (m : Int) (r : U.RS) : ∃ k, (U.aA m r).2.1 = r.1.drop k := by
 unfold U.aA
 obtain ⟨k, h⟩ := yL r
 cases (decide ((U.ah r).2.2 = 0) && decide ((U.ah r).1 > m)) <;> exact ⟨k, h⟩
theorem zu {a b c : List Int} (h1 : ∃ k, b = a.drop k) (h2 : ∃ k, c = b.drop k) : ∃ k, c = a.drop k := by
 obtain ⟨i, rfl⟩ := h1
 obtain ⟨j, rfl⟩ := h2
 exact ⟨i + j, by rw [List.drop_drop]⟩
theorem SX : ∀ (n : Nat) (r : U.RS), ∃ k, (U.dO n r).2.1 = r.1.drop k
 | 0, r => ⟨0, rfl⟩
 | n + 1, r => zu (yL r) (SX n (U.ah r).2)
theorem MB : ∀ (n : Nat) (r : U.RS), ∃ k, (U.bQ n r).2.1 = r.1.drop k
 | 0, r => ⟨0, rfl⟩
 | n + 1, r => zu (yL r) (zu (yL (U.ah r).2) (MB n (U.ah (U.ah r).2).2))
def okX (M : Nat) (x : U.RS × Event) : Prop := (∀ z ∈ x.1.1, Byte z) /\ x.1.1.length <= M /\ (U.dG x.2).length <= M /\ (U.eTo x.2).length <= M
theorem rV {M : Nat} {x y : U.RS × Event} (h : okX M x) (hs : ∃ k, y.1.1 = x.1.1.drop k) (hb : (U.dG y.2).length <= M) (ht : (U.eTo y.2).length <= M) : okX M y := by
 obtain ⟨k, hk⟩ := hs
 refine ⟨fun z hz => h.1 z (List.mem_of_mem_drop (by rw [<- hk]; exact hz)), ?_, hb, ht⟩
 rw [hk, List.length_drop]; have := h.2.1; omega
theorem Xf {M : Nat} {x : U.RS × Event} (h : okX M x) (c : Int) : okX M (U.dS c x) := by
 have key : ∀ (b : Bool) (p q : U.RS × Event), okX M p -> okX M q -> okX M (cond b p q) := by intro b p q h1 h2; cases b <;> assumption
 have hN := yL x.1
 have hT := ajz x.1
 have hl : (U.ay x.1).1.length <= M := Nat.le_trans hT.2 h.2.1
 unfold U.dS
 refine key _ _ _ (rV h hT.1 hl h.2.2.2) (key _ _ _ (rV h hT.1 h.2.2.1 hl) (key _ _ _ (rV h ?_ h.2.2.1 h.2.2.2) (key _ _ _ (rV h ?_ h.2.2.1 h.2.2.2) (key _ _ _ (rV h hN h.2.2.1 h.2.2.2) (key _ _ _ (rV h hN h.2.2.1 h.2.2.2) (key _ _ _ (rV h hN h.2.2.1 h.2.2.2) (key _ _ _ (rV h hN h.2.2.1 h.2.2.2) (key _ _ _ (rV h hT.1 h.2.2.1 h.2.2.2) h))))))))
 ·exact zu (YU 60 x.1) (SX _ _)
 ·exact zu (YU 60 x.1) (MB _ _)
theorem Xg {M : Nat} : ∀ (p : List Int) {x : U.RS × Event}, okX M x -> okX M (YT p x)
 | [], _, h => h
 | c :: p, _, h => Xg p (Xf h c)
theorem Xh {b : List Int} (hb : ∀ z ∈ b, Byte z) : okX b.length (U.lS b) := by
 have h0 : okX b.length ((b, 0), (U.lS b).2) := ⟨hb, Nat.le_refl _, Nat.zero_le _, Nat.zero_le _⟩
 refine rV h0 ?_ (Nat.zero_le _) (Nat.zero_le _)
 have h2 : ∃ k, (U.ah (U.ah (b, 0)).2).2.1 = b.drop k := zu (yL (b, 0)) (yL (U.ah (b, 0)).2)
 have : ∀ (t : Bool) (r : U.RS), (U.cZ t r).1 = r.1 := fun t r => by unfold U.cZ; cases (decide (r.2 = 0) && t) <;> rfl
 show ∃ k, (U.cZ _ _).1 = _
 rw [this]; exact h2
theorem EO {r : U.RS} (hb : ∀ z ∈ r.1, Byte z) : 0 <= (U.aA 60 r).1 /\ (U.aA 60 r).1 <= 60 := by
 unfold U.aA U.ah
 by_cases h0 : r.2 = 0
 ·by_cases h8 : r.1.length < 8
  ·simp [h0, h8]
  ·have hv := qK 8 (r.1.take 8) (by rw [List.length_take]; omega) (fun x hx => hb x (List.mem_of_mem_take hx))
   by_cases hg : U.aj (r.1.take 8) > 4611686018427387904
   ·simp [h0, h8, hg]
   ·by_cases h60 : U.aj (r.1.take 8) > 60
    ·simp [h0, h8, hg, h60]
    ·simp [h0, h8, hg, h60]; omega
 ·simp [h0]
theorem ag6 {b : List Int} (hf : U.fU (U.og b).1 = 0) (hr : U.bV (U.og b).2 = true) : U.aN b = ((U.og b).2, 0) := by
 have h : U.Sl b = 0 := by unfold U.Sl; simp only [hf, hr]; rfl
 unfold U.aN; rw [h]; rfl
theorem aaQ {b : List Int} (hf : U.fU (U.og b).1 = 0) (hr : U.bV (U.og b).2 = false) : U.aN b = (U.zeroE, 3) := by
 have h : U.Sl b = 3 := by unfold U.Sl; simp only [hf, hr]; rfl
 unfold U.aN; rw [h]; rfl
theorem Xi {b : List Int} (hf : U.fU (U.og b).1 ≠ 0) : U.aN b = (U.zeroE, U.fU (U.og b).1) := by
 have h : U.Sl b = U.fU (U.og b).1 := by unfold U.Sl; simp only []; rw [decide_eq_false hf]; rfl
 unfold U.aN; rw [h, decide_eq_false hf]; rfl
theorem Ot (n : Nat) (r : U.RS) : U.dO (n + 1) r = ((U.ah r).1 :: (U.dO n (U.ah r).2).1, (U.dO n (U.ah r).2).2) := rfl
theorem Jk (n : Nat) (r : U.RS) : U.bQ (n + 1) r = (((U.ah r).1, (U.ah (U.ah r).2).1) :: (U.bQ n (U.ah (U.ah r).2).2).1, (U.bQ n (U.ah (U.ah r).2).2).2) := rfl
theorem SY : ∀ (n : Nat) (r : U.RS), (U.dO n r).1.length = n
 | 0, _ => rfl
 | n + 1, r => by rw [Ot, List.length_cons, SY n]
theorem MC : ∀ (n : Nat) (r : U.RS), (U.bQ n r).1.length = n
 | 0, _ => rfl
 | n + 1, r => by rw [Jk, List.length_cons, MC n]
def Ou (n : Nat) (x : U.RS × Event) : Prop := (U.aU x.2).length <= n /\ (U.aO x.2).length <= n
theorem ajA {M n : Nat} {x : U.RS × Event} (h : okX M x) (hc : Ou n x) (c : Int) : Ou (n + 60) (U.dS c x) := by
 have key : ∀ (b : Bool) (p q : U.RS × Event), Ou (n + 60) p -> Ou (n + 60) q -> Ou (n + 60) (cond b p q) := by intro b p q h1 h2; cases b <;> assumption
 have h1 := hc.1
 have h2 := hc.2
 have hb := EO (r := x.1) h.1
 have same : ∀ y : U.RS × Event, U.aU y.2 = U.aU x.2 -> U.aO y.2 = U.aO x.2 -> Ou (n + 60) y := fun y e1 e2 => ⟨by rw [e1]; omega, by rw [e2]; omega⟩
 unfold U.dS
 refine key _ _ _ (same _ rfl rfl) (key _ _ _ (same _ rfl rfl) (key _ _ _ ?_ (key _ _ _ ?_ (key _ _ _ (same _ rfl rfl) (key _ _ _ (same _ rfl rfl) (key _ _ _ (same _ rfl rfl) (key _ _ _ (same _ rfl rfl) (key _ _ _ (same _ rfl rfl) (same _ rfl rfl)))))))))
 ·refine ⟨?_, by show (U.aO x.2).length <= _; omega⟩
  show (U.aU x.2 ++ (U.dO (U.aA 60 x.1).1.toNat (U.aA 60 x.1).2).1).length <= _
  rw [List.length_append, SY]; omega
 ·refine ⟨by show (U.aU x.2).length <= _; omega, ?_⟩
  show (U.aO x.2 ++ (U.bQ (U.aA 60 x.1).1.toNat (U.aA 60 x.1).2).1).length <= _
  rw [List.length_append, MC]; omega
theorem aaR {M : Nat} : ∀ (p : List Int) {n : Nat} {x : U.RS × Event}, okX M x -> Ou n x -> Ou (n + 60 * p.length) (YT p x)
 | [], _, _, _, hc => hc
 | c :: p, n, x, h, hc => by
   have := aaR p (Xf h c) (ajA h hc c)
   rw [show n + 60 + 60 * p.length = n + 60 * (c :: p).length by rw [List.length_cons]; omega] at this
   exact this
theorem Z8 (b : List Int) (hb : ∀ z ∈ b, Valid (.int .u8) z) (hl : b.length <= 1000000000) : CO b := by
 have hbb := iE hb
 unfold CO
 have hPM := J9 (U.ah (b, 0)).1
 have hP4 : (U.parts (U.ah (b, 0)).1).length <= 4 := by
  have : ∀ p ∈ U.EN, p.length <= 4 := by decide
  exact this _ hPM
 have hord := (Oq (U.ah (b, 0)).1).2
 have hd0 : U.lS b = (U.cZ ((U.parts (U.ah (b, 0)).1).beq []) (U.ah (U.ah (b, 0)).2).2, (U.ah (b, 0)).1, (U.ah (U.ah (b, 0)).2).1, [], [], [], [], 0, 0, 0, 0, []) := by rw [zq]; rfl
 have hd1 : U.og b = YT (U.parts (U.ah (b, 0)).1) (U.lS b) := rfl
 have hok0 := Xh hbb
 obtain ⟨p, hP⟩ : ∃ p, U.parts (U.ah (b, 0)).1 = p := ⟨_, rfl⟩
 rw [hP] at hPM hP4 hord hd0 hd1 ⊢
 refine ⟨((U.lS b).1.1, (U.lS b).1.2, (U.lS b).2, 0), ⟨by rw [hd0]; simp only [U.aX, hP] <;> rfl, ⟨by show (0 : Int) <= 0; omega, by show (0 : Int) <= _; omega⟩, rfl⟩, ?_⟩
 rintro ⟨l, r, e, i⟩ ⟨⟨h0, h1⟩, hI⟩
 simp only [hP] at h0 h1 hI
 simp only []
 have hX : okX b.length ((l, r), e) := by rw [hI]; exact Xg _ hok0
 have hcnt : Ou 240 ((l, r), e) := by
  have := aaR (p.take i.toNat) hok0 (n := 0) ⟨Nat.zero_le _, Nat.zero_le _⟩
  have hle : (p.take i.toNat).length <= 4 := by rw [List.length_take]; omega
  rw [hI]
  exact ⟨Nat.le_trans this.1 (by omega), Nat.le_trans this.2 (by omega)⟩
 have hnext : (hi : i < p.length) -> ∀ z, z = U.dS p[i.toNat] ((l, r), e) -> U.dL b z.1.1 z.1.2 z.2 (i + 1) := by
  intro hi z hz
  refine ⟨⟨by omega, by rw [hP]; omega⟩, ?_⟩
  show z = _
  rw [hz, hI, hP, take_at h0 hi, List.foldl_append]; rfl
 rw [cond_prop]
 refine ⟨fun hi => ?_, fun hi => ?_⟩
 ·have hi : i < p.length := of_decide_eq_true hi
  have hg : p.getD i.toNat 0 = p[i.toNat] := getD_at (by omega)
  have hmu : p.length.sub (i + 1).toNat < p.length.sub i.toNat := by simp only [bT]; omega
  rw [hg]
  have hw : IntKind.i64.wrap (i.add 1) = i + 1 := by rw [bf, dw] <;> omega
  rw [hw]
  have hn := hnext hi
  have hmo := aaP (hord p[i.toNat] (List.getElem_mem _))
  refine ⟨h0, hi, by omega, ?_⟩
  generalize p[i.toNat] = c at *
  rcases hmo with rfl | rfl | rfl | rfl | rfl | rfl | rfl | rfl | rfl
  ·exact ⟨((U.dS 98 ((l, r), e)).1.1, (U.dS 98 ((l, r), e)).1.2, (U.dS 98 ((l, r), e)).2, i + 1), by simp only [U.aX, hP] <;> rfl, hn _ rfl, hmu⟩
  ·exact ⟨((U.dS 116 ((l, r), e)).1.1, (U.dS 116 ((l, r), e)).1.2, (U.dS 116 ((l, r), e)).2, i + 1), by simp only [U.aX, hP] <;> rfl, hn _ rfl, hmu⟩
  ·show ∃ x0, _
   have hc := EO (r := (l, r)) hX.1
   refine ⟨((U.aA 60 (l, r)).2.1, (U.aA 60 (l, r)).2.2, e, p, (U.aA 60 (l, r)).1, 0), ⟨rfl, ?_⟩, ?_⟩
   ·exact ⟨rfl, rfl, by show (0 : Int) <= 0; omega, hc.1, hc.2, rfl, by show _ = _ + Int.toNat 0; rfl, rfl, by simp, by simp⟩
   ·rintro ⟨l1, r1, e1, p1, n1, j⟩ ⟨hn1, hp1, j0, j1, akv, _, hlen, he1, acJ, acK⟩
    simp only [] at *
    subst hn1; subst hp1
    have j0 : 0 <= j := j0
    have j1 : j <= (U.aA 60 (l, r)).1 := j1
    rw [cond_prop]
    have amE : (U.aU e1).length <= (U.aU e).length + 60 := by omega
    have hide : (U.aU e).length <= 240 := hcnt.1
    refine ⟨fun hj => ?_, fun hj => ?_⟩
    ·have hj : j < _ := of_decide_eq_true hj
     have hwj : IntKind.i64.wrap (j.add 1) = j + 1 := by rw [bf, dw] <;> omega
     rw [hwj]
     have hst := Ot ((U.aA 60 (l, r)).1 - (j + 1)).toNat (l1, r1)
     rw [show ((U.aA 60 (l, r)).1 - (j + 1)).toNat + 1 = ((U.aA 60 (l, r)).1 - j).toNat by omega] at hst
     rw [hst] at acJ acK
     refine ⟨by simp only [dX, gq]; omega, by simp only [dX, maxLen_eq]; omega, ((U.ah (l1, r1)).2.1, (U.ah (l1, r1)).2.2, (U.bK e1, U.eAt e1, U.dG e1, U.eTo e1, U.aU e1 ++ [(U.ah (l1, r1)).1], U.aO e1, U.fV e1, U.fB e1, U.iq e1, U.eN e1, U.dh e1), p1, (U.aA 60 (l, r)).1, j + 1), rfl, ⟨rfl, rfl, by show 0 <= j + 1; omega, by show j + 1 <= (U.aA 60 (l, r)).1; omega, akv, rfl, ?_, ?_, ?_, acK⟩, ?_⟩
     ·show (U.aU e1 ++ [_]).length = _ + (j + 1).toNat
      rw [List.length_append, hlen]; show _ + j.toNat + 1 = _; omega
     ·rw [he1]; rfl
     ·show U.aU e ++ _ = (U.aU e1 ++ [_]) ++ _
      rw [acJ, List.append_assoc]; rfl
     ·show ((U.aA 60 (l, r)).1 - (j + 1)).toNat < ((U.aA 60 (l, r)).1 - j).toNat; omega
    ·have hj : ¬ j < _ := of_decide_eq_false hj
     have hjn : ((U.aA 60 (l, r)).1 - j).toNat = 0 := by omega
     rw [hjn] at acJ acK
     have hz : ((l1, r1), e1) = U.dS 105 ((l, r), e) := by
      refine Prod.ext acK.symm ?_
      rw [he1]
      show (U.bK e, U.eAt e, U.dG e, U.eTo e, U.aU e1, _) = (U.bK e, U.eAt e, U.dG e, U.eTo e, U.aU e ++ (U.dO (U.aA 60 (l, r)).1.toNat (U.aA 60 (l, r)).2).1, _)
      have : U.aU e ++ (U.dO (U.aA 60 (l, r)).1.toNat (U.aA 60 (l, r)).2).1 = U.aU e1 := by
       have h2 : U.aU e ++ (U.dO (U.aA 60 (l, r)).1.toNat ((U.aA 60 (l, r)).2.1, (U.aA 60 (l, r)).2.2)).1 = U.aU e1 ++ [] := acJ
       rw [List.append_nil] at h2; exact h2
      rw [this]
     exact ⟨(l1, r1, e1, i + 1), by simp only [U.aX, hP] <;> rfl, hn ((l1, r1), e1) hz, hmu⟩
  ·show ∃ x0, _
   have hc := EO (r := (l, r)) hX.1
   refine ⟨((U.aA 60 (l, r)).2.1, (U.aA 60 (l, r)).2.2, e, p, (U.aA 60 (l, r)).1, 0), ⟨rfl, ?_⟩, ?_⟩
   ·exact ⟨rfl, rfl, by show (0 : Int) <= 0; omega, hc.1, hc.2, rfl, by show _ = _ + Int.toNat 0; rfl, rfl, by simp, by simp⟩
   ·rintro ⟨l1, r1, e1, p1, n1, j⟩ ⟨hn1, hp1, j0, j1, akv, _, hlen, he1, acL, acM⟩
    simp only [] at *
    subst hn1; subst hp1
    have j0 : 0 <= j := j0
    have j1 : j <= (U.aA 60 (l, r)).1 := j1
    rw [cond_prop]
    have amE : (U.aO e1).length <= (U.aO e).length + 60 := by omega
    have hide : (U.aO e).length <= 240 := hcnt.2
    refine ⟨fun hj => ?_, fun hj => ?_⟩
    ·have hj : j < _ := of_decide_eq_true hj
     have hwj : IntKind.i64.wrap (j.add 1) = j + 1 := by rw [bf, dw] <;> omega
     rw [hwj]
     have hst := Jk ((U.aA 60 (l, r)).1 - (j + 1)).toNat (l1, r1)
     rw [show ((U.aA 60 (l, r)).1 - (j + 1)).toNat + 1 = ((U.aA 60 (l, r)).1 - j).toNat by omega] at hst
     rw [hst] at acL acM
     refine ⟨by simp only [dX, gq]; omega, by simp only [dX, maxLen_eq]; omega, ((U.ah (U.ah (l1, r1)).2).2.1, (U.ah (U.ah (l1, r1)).2).2.2, (U.bK e1, U.eAt e1, U.dG e1, U.eTo e1, U.aU e1, U.aO e1 ++ [((U.ah (l1, r1)).1, (U.ah (U.ah (l1, r1)).2).1)], U.fV e1, U.fB e1, U.iq e1, U.eN e1, U.dh e1), p1, (U.aA 60 (l, r)).1, j + 1), rfl, ⟨rfl, rfl, by show 0 <= j + 1; omega, by show j + 1 <= (U.aA 60 (l, r)).1; omega, akv, rfl, ?_, ?_, ?_, acM⟩, ?_⟩
     ·show (U.aO e1 ++ [_]).length = _ + (j + 1).toNat
      rw [List.length_append, hlen]; show _ + j.toNat + 1 = _; omega
     ·rw [he1]; rfl
     ·show U.aO e ++ _ = (U.aO e1 ++ [_]) ++ _
      rw [acL, List.append_assoc]; rfl
     ·show ((U.aA 60 (l, r)).1 - (j + 1)).toNat < ((U.aA 60 (l, r)).1 - j).toNat; omega
    ·have hj : ¬ j < _ := of_decide_eq_false hj
     have hjn : ((U.aA 60 (l, r)).1 - j).toNat = 0 := by omega
     rw [hjn] at acL acM
     have hz : ((l1, r1), e1) = U.dS 115 ((l, r), e) := by
      refine Prod.ext acM.symm ?_
      rw [he1]
      show (U.bK e, U.eAt e, U.dG e, U.eTo e, U.aU e, U.aO e1, _) = (U.bK e, U.eAt e, U.dG e, U.eTo e, U.aU e, U.aO e ++ (U.bQ (U.aA 60 (l, r)).1.toNat (U.aA 60 (l, r)).2).1, _)
      have : U.aO e ++ (U.bQ (U.aA 60 (l, r)).1.toNat (U.aA 60 (l, r)).2).1 = U.aO e1 := by
       have h2 : U.aO e ++ (U.bQ (U.aA 60 (l, r)).1.toNat ((U.aA 60 (l, r)).2.1, (U.aA 60 (l, r)).2.2)).1 = U.aO e1 ++ [] := acL
       rw [List.append_nil] at h2; exact h2
      rw [this]
     exact ⟨(l1, r1, e1, i + 1), by simp only [U.aX, hP] <;> rfl, hn ((l1, r1), e1) hz, hmu⟩
  ·exact ⟨((U.dS 109 ((l, r), e)).1.1, (U.dS 109 ((l, r), e)).1.2, (U.dS 109 ((l, r), e)).2, i + 1), by simp only [U.aX, hP] <;> rfl, hn _ rfl, hmu⟩
  ·exact ⟨((U.dS 102 ((l, r), e)).1.1, (U.dS 102 ((l, r), e)).1.2, (U.dS 102 ((l, r), e)).2, i + 1), by simp only [U.aX, hP] <;> rfl, hn _ rfl, hmu⟩
  ·exact ⟨((U.dS 100 ((l, r), e)).1.1, (U.dS 100 ((l, r), e)).1.2, (U.dS 100 ((l, r), e)).2, i + 1), by simp only [U.aX, hP] <;> rfl, hn _ rfl, hmu⟩
  ·exact ⟨((U.dS 110 ((l, r), e)).1.1, (U.dS 110 ((l, r), e)).1.2, (U.dS 110 ((l, r), e)).2, i + 1), by simp only [U.aX, hP] <;> rfl, hn _ rfl, hmu⟩
  ·exact ⟨((U.dS 121 ((l, r), e)).1.1, (U.dS 121 ((l, r), e)).1.2, (U.dS 121 ((l, r), e)).2, i + 1), by simp only [U.aX, hP] <;> rfl, hn _ rfl, hmu⟩
 ·have hi : ¬ i < p.length := of_decide_eq_false hi
  rw [jV (by omega)] at hI
  have hD : U.og b = ((l, r), e) := hd1.trans hI.symm
  have hev : ∀ x : Event, (x.1, x.2.1, x.2.2.1, x.2.2.2.1, U.aU x, U.aO x, x.2.2.2.2.2.2) = x := fun _ => rfl
  rw [hev e]
  have h3 : ((3 : Int) != 0) = true := rfl
  rw [h3]
  refine ⟨fun _ => by have : (U.dG e).length <= b.length := hX.2.2.1; show (U.dG e).length <= 1000000000000; omega, fun _ => by have : (U.eTo e).length <= b.length := hX.2.2.2; show (U.eTo e).length <= 1000000000000; omega, ?_⟩
  by_cases hf : U.fU (l, r) = 0
  ·have hf1 : U.fU (U.og b).1 = 0 := by rw [hD]; exact hf
   rw [decide_eq_true hf]
   cases hr : U.bV e with
   | false =>
     have := aaQ hf1 (by rw [hD]; exact hr)
     rw [this]
     exact ⟨rfl, rfl, rfl, rfl, rfl, rfl, rfl, rfl, rfl, rfl, rfl, rfl, trivial⟩
   | true =>
     have := ag6 hf1 (by rw [hD]; exact hr)
     rw [this, hD, hf]
     exact ⟨rfl, rfl, rfl, rfl, rfl, rfl, rfl, rfl, rfl, rfl, rfl, rfl, trivial⟩
  ·have hf1 : U.fU (U.og b).1 ≠ 0 := by rw [hD]; exact hf
   have := Xi hf1
   rw [this, hD, decide_eq_false hf, bne_iff_ne.2 hf]
   exact ⟨rfl, rfl, rfl, rfl, rfl, rfl, rfl, rfl, rfl, rfl, rfl, rfl, trivial⟩
theorem abD (e : Event) (h1 : (U.dG e).length <= 1000000000000) (h2 : (U.eTo e).length <= 1000000000000) : FH e := by
 unfold FH
 have hfold : U.bV e = (!(decide (U.parts e.1 = [])) && (U.within (U.eAt e) 1099511627776 && U.order.all (U.okC (U.parts e.1) e))) := rfl
 have alZ : ∀ i : Int, [(98 : Int), 116, 105, 115, 109, 102, 100, 110, 121].getD i.toNat 0 = U.order.getD i.toNat 0 := fun _ => rfl
 simp only [alZ]
 have e2 : (bif bif decide (((U.aU e).length : Int) >= 1) then decide (((U.aU e).length : Int) <= 60) else false then U.rise 0 (U.aU e) else false) = U.vW (U.aU e) := by
  unfold U.vW
  rw [bY, bY, Bool.and_comm]
  congr 1
  congr 1 <;> (rw [decide_eq_decide]; omega)
 have e4 : (bif decide (U.fV e >= 0) then decide (U.fV e <= 2) else false) = U.within (U.fV e) 2 := by unfold U.within; rw [bY]
 have e8 : decide (((U.dh e).length : Int) <= 2000) = decide ((U.dh e).length <= 2000) := by rw [decide_eq_decide]; omega
 have hgl : [U.mG (U.dG e), U.mG (U.eTo e), U.vW (U.aU e), U.jQ (U.aO e), U.within (U.fV e) 2, U.uM (U.fB e), U.within (U.iq e) 1099511627776, U.within (U.eN e) 1099511627776, decide ((U.dh e).length <= 2000)] = U.order.map (fun c => U.good c e) := rfl
 have hnl : [decide (U.dG e = []), decide (U.eTo e = []), decide (U.aU e = []), decide (U.aO e = []), decide (U.fV e = 0), decide (U.fB e = 0), decide (U.iq e = 0), decide (U.eN e = 0), decide (U.dh e = [])] = U.order.map (fun c => U.none_ c e) := rfl
 rw [zq]
 rw [cond_prop]
 refine ⟨fun hb => ⟨?_, trivial⟩, fun hb => ⟨h1, h2, (U.order.map (fun c => U.good c e), U.order.map (fun c => U.none_ c e), 0), ⟨?_, ?_⟩, ?_⟩⟩
 ·rw [hfold]
  rw [dZ, Bool.or_eq_true, decide_eq_true_eq, Bool.not_eq_true'] at hb
  rcases hb with hb | hb
  ·rw [decide_eq_true hb]; rfl
  ·rw [show U.within (U.eAt e) 1099511627776 = false from hb, Bool.false_and, Bool.and_false]
 ·rw [<- hgl, <- hnl, <- e2, <- e4, <- e8, <- zq, <- zq, <- CS, <- CS, <- CS]; rfl
 ·rw [dZ, Bool.or_eq_false_iff, decide_eq_false_iff_not, Bool.not_eq_false'] at hb
  exact ⟨by show (0 : Int) <= 0; omega, by show (0 : Int) <= 9; omega, rfl, rfl, hb.1, hb.2, rfl⟩
 ·rintro ⟨gl, nl, i⟩ ⟨h0, h9, rfl, rfl, hp, hw, ha⟩
  simp only []
  have h0 : 0 <= i := h0
  have h9 : i <= 9 := h9
  have hR : U.bV e = U.order.all (U.okC (U.parts e.1) e) := by rw [hfold, decide_eq_false hp, hw]; rfl
  have hol : U.order.length = 9 := rfl
  rw [cond_prop]
  refine ⟨fun hi => ?_, fun hi => ⟨?_, trivial⟩⟩
  ·have hi : i < 9 := of_decide_eq_true hi
   have hg : U.order.getD i.toNat 0 = U.order[i.toNat]'(by omega) := getD_at (by omega)
   have hgg : (U.order.map (fun c => U.good c e)).getD i.toNat false = U.good (U.order[i.toNat]'(by omega)) e := by rw [getD_at (by rw [List.length_map]; omega), List.getElem_map]
   have hng : (U.order.map (fun c => U.none_ c e)).getD i.toNat false = U.none_ (U.order[i.toNat]'(by omega)) e := by rw [getD_at (by rw [List.length_map]; omega), List.getElem_map]
   have hstep := ajv (l := U.order) (f := U.okC (U.parts e.1) e) h0 (by omega)
   rw [ha] at hstep
   simp only [hg, hgg, hng, bf]
   rw [dw (x := i + 1) (by omega) (by omega)]
   have hnext : U.okC (U.parts e.1) e (U.order[i.toNat]'(by omega)) = true -> (U.order.drop (i + 1).toNat).all (U.okC (U.parts e.1) e) = U.order.all (U.okC (U.parts e.1) e) := fun h => by rw [hstep, h, Bool.true_and]
   have al0 : U.okC (U.parts e.1) e (U.order[i.toNat]'(by omega)) = cond (decide (aH (U.parts e.1) (U.order[i.toNat]'(by omega)) >= 0)) (U.good (U.order[i.toNat]'(by omega)) e) (U.none_ (U.order[i.toNat]'(by omega)) e) := by
    unfold U.okC
    by_cases hx : aH (U.parts e.1) (U.order[i.toNat]'(by omega)) >= 0
    ·rw [decide_eq_true hx, decide_eq_false (by omega)]; rfl
    ·rw [decide_eq_false hx, decide_eq_true (by omega)]; rfl
   generalize U.order[i.toNat]'(by omega) = c at *
   refine ⟨h0, by show i < 9; omega, fun _ => h0, fun _ => by show i < 9; omega, fun _ => by omega, fun _ => h0, fun _ => by show i < 9; omega, fun _ _ => h0, fun _ _ => by show i < 9; omega, fun _ _ => by omega, ?_⟩
   rw [cond_prop]
   refine ⟨fun hb => ⟨?_, trivial⟩, fun hb => ⟨(_, _, i + 1), rfl, ⟨by show 0 <= i + 1; omega, by show i + 1 <= 9; omega, rfl, rfl, hp, hw, hnext ?_⟩, by show 9 - (i + 1).toNat < 9 - i.toNat; omega⟩⟩
   ·have : U.okC (U.parts e.1) e c = false := by
     rw [al0]; revert hb
     cases decide (aH (U.parts e.1) c >= 0) <;> cases U.good c e <;> cases U.none_ c e <;> simp
    rw [hR, hstep, this]; rfl
   ·rw [al0]; revert hb
    cases decide (aH (U.parts e.1) c >= 0) <;> cases U.good c e <;> cases U.none_ c e <;> simp
  ·have hi : ¬ i < 9 := of_decide_eq_false hi
   have : i = 9 := by omega
   subst this
   rw [hR, <- ha]; rfl
theorem VT {α : Type} (f : α -> Bool) (g : α -> List Int) : ∀ l : List α, l.flatMap (fun c => cond (f c) (g c) []) = (l.filter f).flatMap g
 | [] => rfl
 | x :: l => by
   rw [List.flatMap_cons, VT f g l, List.filter_cons]
   cases f x <;> simp
theorem VU (k : Int) : U.order.filter (fun c => decide (aH (U.parts k) c >= 0)) = U.parts k := by
 have : ∀ p ∈ U.EN, U.order.filter (fun c => decide (aH p c >= 0)) = p := by decide
 exact this _ (J9 k)
theorem akw (e : Event) : U.ah8 9 e = U.Aw e := by
 unfold U.ah8
 rw [ali]
 have : (U.order.take 9).flatMap (U.aeh (U.parts (U.bK e)) e) = (U.parts (U.bK e)).flatMap fun c => U.nZ c e := by
  conv => rhs; rw [<- VU]
  exact VT (fun c => decide (aH (U.parts (U.bK e)) c >= 0)) (fun c => U.nZ c e) U.order
 rw [this]
theorem Ov (b : List Int) (n : Nat) (h : n < 9) : U.bP (n + 1) b = U.Dv (U.parts (U.ah (b, 0)).1) (U.bP n b) (U.order.getD n 0) := by
 unfold U.bP
 rw [List.take_succ_eq_append_getElem (show n < U.order.length from h), List.foldl_append, getD_at (show n < U.order.length from h)]; rfl
theorem aaS {p : List Int} {x : U.RS × Event} {c : Int} (h : decide (aH p c >= 0) = true) : U.Dv p x c = U.dS c x := by unfold U.Dv; rw [h]; rfl
theorem aeu {p : List Int} {x : U.RS × Event} {c : Int} (h : decide (aH p c >= 0) = false) : U.Dv p x c = x := by unfold U.Dv; rw [h]; rfl
theorem aaT {M : Nat} (p : List Int) : ∀ (q : List Int) {x : U.RS × Event}, okX M x -> okX M (q.foldl (U.Dv p) x)
 | [], _, h => h
 | c :: q, x, h => aaT p q (by unfold U.Dv; cases decide (aH p c >= 0); exact h; exact Xf h c)
theorem aic (b : List Int) : (U.aU (U.bP 2 b).2 = [] /\ U.aO (U.bP 2 b).2 = [] /\ U.dh (U.bP 2 b).2 = []) /\ (U.aO (U.bP 3 b).2 = [] /\ U.dh (U.bP 3 b).2 = []) /\ U.dh (U.bP 8 b).2 = [] := by
 have key : ∀ (n : Nat) (h : n < 9) (f : Event -> Prop), f (U.bP n b).2 -> (∀ x : U.RS × Event, f x.2 -> f (U.dS (U.order.getD n 0) x).2) -> f (U.bP (n + 1) b).2 := by
  intro n h f h1 h2
  rw [Ov b n h]; unfold U.Dv
  cases decide (aH (U.parts (U.ah (b, 0)).1) (U.order.getD n 0) >= 0)
  ·exact h1
  ·exact h2 _ h1
 have z : U.aU (U.bP 0 b).2 = [] /\ U.aO (U.bP 0 b).2 = [] /\ U.dh (U.bP 0 b).2 = [] := ⟨rfl, rfl, rfl⟩
 have a2 : U.aU (U.bP 2 b).2 = [] := key 1 (by omega) (fun e => U.aU e = []) (key 0 (by omega) (fun e => U.aU e = []) z.1 (fun x h => h)) (fun x h => h)
 have s3 : U.aO (U.bP 2 b).2 = [] := key 1 (by omega) (fun e => U.aO e = []) (key 0 (by omega) (fun e => U.aO e = []) z.2.1 (fun x h => h)) (fun x h => h)
 have b2 : U.dh (U.bP 2 b).2 = [] := key 1 (by omega) (fun e => U.dh e = []) (key 0 (by omega) (fun e => U.dh e = []) z.2.2 (fun x h => h)) (fun x h => h)
 have s4 : U.aO (U.bP 3 b).2 = [] := key 2 (by omega) (fun e => U.aO e = []) s3 (fun x h => h)
 have b3 : U.dh (U.bP 3 b).2 = [] := key 2 (by omega) (fun e => U.dh e = []) b2 (fun x h => h)
 have b4 : U.dh (U.bP 4 b).2 = [] := key 3 (by omega) (fun e => U.dh e = []) b3 (fun x h => h)
 have b5 : U.dh (U.bP 5 b).2 = [] := key 4 (by omega) (fun e => U.dh e = []) b4 (fun x h => h)
 have b6 : U.dh (U.bP 6 b).2 = [] := key 5 (by omega) (fun e => U.dh e = []) b5 (fun x h => h)
 have b7 : U.dh (U.bP 7 b).2 = [] := key 6 (by omega) (fun e => U.dh e = []) b6 (fun x h => h)
 exact ⟨⟨a2, s3, b2⟩, ⟨s4, b3⟩, key 7 (by omega) (fun e => U.dh e = []) b7 (fun x h => h)⟩
theorem abE (l : List Int) (e : Int) (he : wP (.obj [.psl false tU8 l, .int .i64 e])) (h0 : e = 0) (hl : l.length <= 1000000000) : FI l e := by
 obtain ⟨hb, _⟩ := Rz he
 have hbb := iE hb
 subst h0
 unfold FI
 have hd0 : U.lS l = (U.cZ ((U.parts (U.ah (l, 0)).1).beq []) (U.ah (U.ah (l, 0)).2).2, (U.ah (l, 0)).1, (U.ah (U.ah (l, 0)).2).1, [], [], [], [], 0, 0, 0, 0, []) := by rw [zq]; rfl
 have hok : ∀ n, okX l.length (U.bP n l) := fun n => aaT _ _ (Xh hbb)
 obtain ⟨⟨bI, bS, bB⟩, ⟨cS, cB⟩, dB⟩ := aic l
 have step : ∀ (n : Nat) (h : n < 9) (c : Int) (hc : U.order.getD n 0 = c) (x : U.RS × Event), x = U.bP n l -> (decide (aH (U.parts (U.ah (l, 0)).1) c >= 0) = true -> U.dS c x = U.bP (n + 1) l) /\ (decide (aH (U.parts (U.ah (l, 0)).1) c >= 0) = false -> x = U.bP (n + 1) l) := by
  intro n h c hc x hx
  refine ⟨fun hy => ?_, fun hy => ?_⟩
  ·rw [Ov l n h, hc, aaS hy, hx]
  ·rw [Ov l n h, hc, aeu hy, hx]
 rw [cond_prop]
 refine ⟨fun hz => ?_, fun hz => ⟨?_, ?_⟩⟩
 ·have : (U.lS l).1.2 ≠ 0 := by rw [hd0]; exact bne_iff_ne.1 hz
  have hrr : U.aS l = ((U.lS l).1, U.zeroE) := by unfold U.aS; rw [decide_eq_false this]; rfl
  rw [hrr, hd0]
  exact ⟨rfl, rfl, rfl, rfl, rfl, rfl, rfl, rfl, rfl, rfl, rfl, rfl, rfl, trivial⟩
 ·rw [cond_prop]
  refine ⟨fun hy => ?_, fun hy => ?_⟩
  ·have h := (step 0 (by omega) 98 rfl (U.lS l) rfl).1 hy
   rw [hd0] at h
   exact ⟨(_, _, _), rfl, h⟩
  ·have h := (step 0 (by omega) 98 rfl (U.lS l) rfl).2 hy
   rw [hd0] at h
   exact ⟨(_, _, _), rfl, h⟩
 have hrr : U.aS l = U.bP 9 l := by
  have : (U.lS l).1.2 = 0 := by rw [hd0]; revert hz; simp
  unfold U.aS; rw [decide_eq_true this]; rfl
 rw [hrr]
 rintro ⟨l1, r1, e1⟩ hI
 have hI : ((l1, r1), e1) = U.bP 1 l := hI
 refine ⟨?_, ?_⟩
 ·rw [cond_prop]
  exact ⟨fun hy => ⟨(_, _, _), rfl, (step 1 (by omega) 116 rfl _ hI).1 hy⟩, fun hy => ⟨(_, _, _), rfl, (step 1 (by omega) 116 rfl _ hI).2 hy⟩⟩
 rintro ⟨l1, r1, e1⟩ hI
 have hI : ((l1, r1), e1) = U.bP 2 l := hI
 have n1 : e1.2.2.2.2.1 = [] := by rw [<- hI] at bI; exact bI
 refine ⟨?_, ?_⟩
 ·rw [cond_prop]
  refine ⟨fun hy => ?_, fun hy => ⟨(l1, r1, e1), by simp only [U.I5, n1] <;> rfl, (step 2 (by omega) 105 rfl _ hI).2 hy⟩⟩
  have hc := EO (r := (l1, r1)) (by have := (hok 2).1; rw [<- hI] at this; exact this)
  refine ⟨((U.aA 60 (l1, r1)).2.1, (U.aA 60 (l1, r1)).2.2, e1, (U.aA 60 (l1, r1)).1), ⟨by simp only [U.tu, U.aU, n1] <;> rfl, ?_⟩, ?_⟩
  ·refine ⟨of_decide_eq_true hy, hc.1, ?_, hc.2, n1, ?_, ?_, ?_, rfl, ?_, rfl⟩
   ·show (U.aA 60 (l1, r1)).1 <= (U.aA 60 (l1, r1)).1; omega
   ·show e1.2.2.2.2.1.length + _ = _; rw [n1]; show 0 + _ = _; omega
   ·rw [<- hI]
   ·rw [<- hI]; show (U.aA 60 (l1, r1)).1 = cond (decide ((U.aA 60 (l1, r1)).1 >= 0)) (U.aA 60 (l1, r1)).1 0; rw [decide_eq_true hc.1]; rfl
   ·show _ = e1.2.2.2.2.1 ++ _; rw [n1]; rfl
  ·rintro ⟨l2, r2, e2, j⟩ ⟨_, j0, j1, _, _, hlen, _, _, he2, hn1, hn2⟩
   have j0 : 0 <= j := j0
   have j1 : j <= (U.aA 60 (l1, r1)).1 := j1
   have hlen : (U.aU e2).length + j.toNat = (U.aA 60 (l1, r1)).1.toNat := hlen
   have hn1 : (U.dO (U.aA 60 (l1, r1)).1.toNat (U.aA 60 (l1, r1)).2).1 = U.aU e2 ++ (U.dO j.toNat (l2, r2)).1 := hn1
   have hn2 : (U.dO (U.aA 60 (l1, r1)).1.toNat (U.aA 60 (l1, r1)).2).2 = (U.dO j.toNat (l2, r2)).2 := hn2
   have he2 : e2 = (U.bK e1, U.eAt e1, U.dG e1, U.eTo e1, U.aU e2, U.aO e1, U.fV e1, U.fB e1, U.iq e1, U.eN e1, U.dh e1) := he2
   simp only []
   rw [cond_prop]
   refine ⟨fun hj => ?_, fun hj => ?_⟩
   ·have hj : j > 0 := of_decide_eq_true hj
    have hwj : IntKind.i64.wrap (j.sub 1) = j - 1 := by rw [dF, dw] <;> omega
    rw [hwj]
    have hst := Ot (j - 1).toNat (l2, r2)
    rw [show (j - 1).toNat + 1 = j.toNat by omega] at hst
    rw [hst] at hn1 hn2
    refine ⟨by simp only [dX, gq]; omega, by simp only [dX, maxLen_eq]; omega, ((U.ah (l2, r2)).2.1, (U.ah (l2, r2)).2.2, (U.bK e2, U.eAt e2, U.dG e2, U.eTo e2, U.aU e2 ++ [(U.ah (l2, r2)).1], U.aO e2, U.fV e2, U.fB e2, U.iq e2, U.eN e2, U.dh e2), j - 1), rfl, ⟨of_decide_eq_true hy, by show 0 <= j - 1; omega, by show j - 1 <= (U.aA 60 (l1, r1)).1; omega, hc.2, n1, ?_, by rw [<- hI], by rw [<- hI]; show (U.aA 60 (l1, r1)).1 = cond (decide ((U.aA 60 (l1, r1)).1 >= 0)) (U.aA 60 (l1, r1)).1 0; rw [decide_eq_true hc.1]; rfl, ?_, ?_, hn2⟩, ?_⟩
    ·show (U.aU e2 ++ [_]).length + (j - 1).toNat = (U.aA 60 (l1, r1)).1.toNat
     rw [List.length_append]; show _ + 1 + _ = _; omega
    ·rw [he2]; rfl
    ·show (U.dO (U.aA 60 (l1, r1)).1.toNat (U.aA 60 (l1, r1)).2).1 = (U.aU e2 ++ [_]) ++ _
     rw [hn1, List.append_assoc]; rfl
    ·show (j - 1).toNat < j.toNat; omega
   ·have hj : ¬ j > 0 := of_decide_eq_false hj
    have hjn : j.toNat = 0 := by omega
    rw [hjn] at hn1 hn2
    have hn1 : (U.dO (U.aA 60 (l1, r1)).1.toNat (U.aA 60 (l1, r1)).2).1 = U.aU e2 ++ [] := hn1
    rw [List.append_nil] at hn1
    refine ⟨(l2, r2, e2), rfl, ?_⟩
    have h3 := (step 2 (by omega) 105 rfl _ hI).1 hy
    refine Eq.trans ?_ h3
    refine Prod.ext hn2.symm ?_
    rw [he2]
    show _ = (U.bK e1, U.eAt e1, U.dG e1, U.eTo e1, U.aU e1 ++ (U.dO (U.aA 60 (l1, r1)).1.toNat (U.aA 60 (l1, r1)).2).1, _)
    rw [hn1, show U.aU e1 = [] from n1]; rfl
 rintro ⟨l1, r1, e1⟩ hI
 have hI : ((l1, r1), e1) = U.bP 3 l := hI
 have n1 : e1.2.2.2.2.2.1 = [] := by rw [<- hI] at cS; exact cS
 refine ⟨?_, ?_⟩
 ·rw [cond_prop]
  refine ⟨fun hy => ?_, fun hy => ⟨(l1, r1, e1), by simp only [U.I7, n1] <;> rfl, (step 3 (by omega) 115 rfl _ hI).2 hy⟩⟩
  have hc := EO (r := (l1, r1)) (by have := (hok 3).1; rw [<- hI] at this; exact this)
  refine ⟨((U.aA 60 (l1, r1)).2.1, (U.aA 60 (l1, r1)).2.2, e1, (U.aA 60 (l1, r1)).1), ⟨by simp only [U.tC, U.aO, n1] <;> rfl, ?_⟩, ?_⟩
  ·refine ⟨of_decide_eq_true hy, hc.1, ?_, hc.2, n1, ?_, ?_, ?_, rfl, ?_, rfl⟩
   ·show (U.aA 60 (l1, r1)).1 <= (U.aA 60 (l1, r1)).1; omega
   ·show e1.2.2.2.2.2.1.length + _ = _; rw [n1]; show 0 + _ = _; omega
   ·rw [<- hI]
   ·rw [<- hI]; show (U.aA 60 (l1, r1)).1 = cond (decide ((U.aA 60 (l1, r1)).1 >= 0)) (U.aA 60 (l1, r1)).1 0; rw [decide_eq_true hc.1]; rfl
   ·show _ = e1.2.2.2.2.2.1 ++ _; rw [n1]; rfl
  ·rintro ⟨l2, r2, e2, j⟩ ⟨_, j0, j1, _, _, hlen, _, _, he2, hn1, hn2⟩
   have j0 : 0 <= j := j0
   have j1 : j <= (U.aA 60 (l1, r1)).1 := j1
   have hlen : (U.aO e2).length + j.toNat = (U.aA 60 (l1, r1)).1.toNat := hlen
   have hn1 : (U.bQ (U.aA 60 (l1, r1)).1.toNat (U.aA 60 (l1, r1)).2).1 = U.aO e2 ++ (U.bQ j.toNat (l2, r2)).1 := hn1
   have hn2 : (U.bQ (U.aA 60 (l1, r1)).1.toNat (U.aA 60 (l1, r1)).2).2 = (U.bQ j.toNat (l2, r2)).2 := hn2
   have he2 : e2 = (U.bK e1, U.eAt e1, U.dG e1, U.eTo e1, U.aU e1, U.aO e2, U.fV e1, U.fB e1, U.iq e1, U.eN e1, U.dh e1) := he2
   simp only []
   rw [cond_prop]
   refine ⟨fun hj => ?_, fun hj => ?_⟩
   ·have hj : j > 0 := of_decide_eq_true hj
    have hwj : IntKind.i64.wrap (j.sub 1) = j - 1 := by rw [dF, dw] <;> omega
    rw [hwj]
    have hst := Jk (j - 1).toNat (l2, r2)
    rw [show (j - 1).toNat + 1 = j.toNat by omega] at hst
    rw [hst] at hn1 hn2
    refine ⟨by simp only [dX, gq]; omega, by simp only [dX, maxLen_eq]; omega, ((U.ah (U.ah (l2, r2)).2).2.1, (U.ah (U.ah (l2, r2)).2).2.2, (U.bK e2, U.eAt e2, U.dG e2, U.eTo e2, U.aU e2, U.aO e2 ++ [((U.ah (l2, r2)).1, (U.ah (U.ah (l2, r2)).2).1)], U.fV e2, U.fB e2, U.iq e2, U.eN e2, U.dh e2), j - 1), rfl, ⟨of_decide_eq_true hy, by show 0 <= j - 1; omega, by show j - 1 <= (U.aA 60 (l1, r1)).1; omega, hc.2, n1, ?_, by rw [<- hI], by rw [<- hI]; show (U.aA 60 (l1, r1)).1 = cond (decide ((U.aA 60 (l1, r1)).1 >= 0)) (U.aA 60 (l1, r1)).1 0; rw [decide_eq_true hc.1]; rfl, ?_, ?_, hn2⟩, ?_⟩
    ·show (U.aO e2 ++ [_]).length + (j - 1).toNat = (U.aA 60 (l1, r1)).1.toNat
     rw [List.length_append]; show _ + 1 + _ = _; omega
    ·rw [he2]; rfl
    ·show (U.bQ (U.aA 60 (l1, r1)).1.toNat (U.aA 60 (l1, r1)).2).1 = (U.aO e2 ++ [_]) ++ _
     rw [hn1, List.append_assoc]; rfl
    ·show (j - 1).toNat < j.toNat; omega
   ·have hj : ¬ j > 0 := of_decide_eq_false hj
    have hjn : j.toNat = 0 := by omega
    rw [hjn] at hn1 hn2
    have hn1 : (U.bQ (U.aA 60 (l1, r1)).1.toNat (U.aA 60 (l1, r1)).2).1 = U.aO e2 ++ [] := hn1
    rw [List.append_nil] at hn1
    refine ⟨(l2, r2, e2), rfl, ?_⟩
    have h3 := (step 3 (by omega) 115 rfl _ hI).1 hy
    refine Eq.trans ?_ h3
    refine Prod.ext hn2.symm ?_
    rw [he2]
    show _ = (U.bK e1, U.eAt e1, U.dG e1, U.eTo e1, U.aU e1, U.aO e1 ++ (U.bQ (U.aA 60 (l1, r1)).1.toNat (U.aA 60 (l1, r1)).2).1, _)
    rw [hn1, show U.aO e1 = [] from n1]; rfl
 rintro ⟨l1, r1, e1⟩ hI
 have hI : ((l1, r1), e1) = U.bP 4 l := hI
 refine ⟨?_, ?_⟩
 ·rw [cond_prop]
  exact ⟨fun hy => ⟨(_, _, _), rfl, (step 4 (by omega) 109 rfl _ hI).1 hy⟩, fun hy => ⟨(_, _, _), rfl, (step 4 (by omega) 109 rfl _ hI).2 hy⟩⟩
 rintro ⟨l1, r1, e1⟩ hI
 have hI : ((l1, r1), e1) = U.bP 5 l := hI
 refine ⟨?_, ?_⟩
 ·rw [cond_prop]
  exact ⟨fun hy => ⟨(_, _, _), rfl, (step 5 (by omega) 102 rfl _ hI).1 hy⟩, fun hy => ⟨(_, _, _), rfl, (step 5 (by omega) 102 rfl _ hI).2 hy⟩⟩
 rintro ⟨l1, r1, e1⟩ hI
 have hI : ((l1, r1), e1) = U.bP 6 l := hI
 refine ⟨?_, ?_⟩
 ·rw [cond_prop]
  exact ⟨fun hy => ⟨(_, _, _), rfl, (step 6 (by omega) 100 rfl _ hI).1 hy⟩, fun hy => ⟨(_, _, _), rfl, (step 6 (by omega) 100 rfl _ hI).2 hy⟩⟩
 rintro ⟨l1, r1, e1⟩ hI
 have hI : ((l1, r1), e1) = U.bP 7 l := hI
 refine ⟨?_, ?_⟩
 ·rw [cond_prop]
  exact ⟨fun hy => ⟨(_, _, _), rfl, (step 7 (by omega) 110 rfl _ hI).1 hy⟩, fun hy => ⟨(_, _, _), rfl, (step 7 (by omega) 110 rfl _ hI).2 hy⟩⟩
 rintro ⟨l1, r1, e1⟩ hI
 have hI : ((l1, r1), e1) = U.bP 8 l := hI
 have n1 : e1.2.2.2.2.2.2.2.2.2.2 = [] := by rw [<- hI] at dB; exact dB
 refine ⟨?_, ?_⟩
 ·rw [cond_prop]
  exact ⟨fun hy => ⟨(_, _, _), rfl, (step 8 (by omega) 121 rfl _ hI).1 hy⟩, fun hy => ⟨(l1, r1, e1), by simp only [U.Oi, n1] <;> rfl, (step 8 (by omega) 121 rfl _ hI).2 hy⟩⟩
 rintro ⟨l1, r1, e1⟩ hI
 have hI : ((l1, r1), e1) = U.bP 9 l := hI
 rw [<- hI]
 exact ⟨rfl, rfl, rfl, rfl, rfl, rfl, rfl, rfl, rfl, rfl, rfl, rfl, rfl, trivial⟩
theorem fold_filter (p : List Int) : ∀ (q : List Int) (x : U.RS × Event), q.foldl (U.Dv p) x = (q.filter (fun c => decide (aH p c >= 0))).foldl (fun x c => U.dS c x) x
 | [], _ => rfl
 | c :: q, x => by
   rw [List.foldl_cons, List.filter_cons]
   by_cases h : decide (aH p c >= 0) = true
   ·rw [aaS h, fold_filter p q, h]; rfl
   ·have h : decide (aH p c >= 0) = false := by revert h; cases decide (aH p c >= 0) <;> simp
    rw [aeu h, fold_filter p q, h]; rfl
theorem ajB (b : List Int) : U.bP 9 b = U.og b := by
 show (U.order.take 9).foldl _ _ = _
 rw [show U.order.take 9 = U.order from rfl, fold_filter, VU]; rfl
theorem Z9 (b : List Int) (hb : ∀ z ∈ b, Valid (.int .u8) z) (hl : b.length <= 1000000000) : CQ b := by
 have hbb := iE hb
 unfold CQ
 have h3 : ((3 : Int) != 0) = true := rfl
 rw [h3]
 by_cases hz : (U.lS b).1.2 = 0
 ·have hrr : U.aS b = U.og b := by unfold U.aS; rw [decide_eq_true hz]; exact ajB b
  rw [hrr]
  have hX : okX b.length (U.og b) := Xg _ (Xh hbb)
  refine ⟨rfl, hl, fun _ => Nat.le_trans hX.2.2.1 (by omega), fun _ => Nat.le_trans hX.2.2.2 (by omega), ?_⟩
  by_cases hf : U.fU (U.og b).1 = 0
  ·rw [decide_eq_true hf]
   cases hr : U.bV (U.og b).2 with
   | false =>
     rw [aaQ hf hr]
     exact ⟨rfl, rfl, rfl, rfl, rfl, rfl, rfl, rfl, rfl, rfl, rfl, rfl, trivial⟩
   | true =>
     rw [ag6 hf hr, hf]
     exact ⟨rfl, rfl, rfl, rfl, rfl, rfl, rfl, rfl, rfl, rfl, rfl, rfl, trivial⟩
  ·rw [decide_eq_false hf, bne_iff_ne.2 hf, Xi hf]
   exact ⟨rfl, rfl, rfl, rfl, rfl, rfl, rfl, rfl, rfl, rfl, rfl, rfl, trivial⟩
 ·have hrr : U.aS b = ((U.lS b).1, U.zeroE) := by unfold U.aS; rw [decide_eq_false hz]; rfl
  rw [hrr]
  have herr : ∀ (p : List Int) (x : U.RS × Event), x.1.2 ≠ 0 -> (YT p x).1 = x.1 := by
   intro p
   induction p with
   | nil => intro x _; rfl
   | cons c p ih =>
     intro x hx
     have h1 : (U.dS c x).1 = x.1 := aia hx
     show (YT p (U.dS c x)).1 = _
     rw [ih _ (by rw [h1]; exact hx), h1]
  have hd1 : (U.og b).1 = (U.lS b).1 := herr _ _ hz
  have hf : U.fU (U.lS b).1 ≠ 0 := by unfold U.fU U.cZ; rw [decide_eq_false hz]; exact hz
  have hbad := Xi (b := b) (by rw [hd1]; exact hf)
  rw [hd1] at hbad
  rw [hbad]
  refine ⟨rfl, hl, fun _ => Nat.zero_le _, fun _ => Nat.zero_le _, ?_⟩
  rw [decide_eq_false hf, bne_iff_ne.2 hf]
  exact ⟨rfl, rfl, rfl, rfl, rfl, rfl, rfl, rfl, rfl, rfl, rfl, rfl, trivial⟩
end Go.Proofs.YtkhdeldobekciaaGreatDoor
set_option linter.unusedSimpArgs false
set_option maxRecDepth 100000
set_option linter.unusedVariables false
namespace Go.Proofs.YtkhdeldobekciaaGreatDoor
open Go.Vc
theorem af6 (x : aP [jD, jD]) : bg Tryz.prog (aT Du) (VF x.1 x.2) 32 (aZ [jD, jD] x) [] (KO x.1 x.2) = Je x.1 x.2 := by kernel_rfl
theorem af7 : Pok 32 [jD, jD] (fun x => KO x.1 x.2) := by
 refine pk (L := fun x => VF x.1 x.2) (l := Du) Sj (fun _ => rfl) ?_
 intro x hv hp
 rw [af6]
 exact ael x.1 x.2 hv.1.2
theorem af8 : aV Tryz.prog gl 32 VE := af7
theorem S9 : aQ Dw := .cons af8 Sj
theorem af9 (x : aP [fM, fM]) : bg Tryz.prog (aT Dw) (VH x.1 x.2) 33 (aZ [fM, fM] x) [] (KP x.1 x.2) = Jf x.1 x.2 := by kernel_rfl
theorem aga : Pok 33 [fM, fM] (fun x => KP x.1 x.2) := by
 refine pk (L := fun x => VH x.1 x.2) (l := Dw) S9 (fun _ => rfl) ?_
 intro x hv hp
 rw [af9]
 exact aem x.1 x.2 hv.1.2
theorem agb : aV Tryz.prog gl 33 VG := aga
theorem Tc : aQ Dx := .cons agb S9
theorem abG (x : aP [.int .i64, .int .i64]) : bg Tryz.prog (aT Dx) (O1 x.1 x.2) 59 (aZ [.int .i64, .int .i64] x) [] (Fh x.1 x.2) = CG x.1 x.2 := by kernel_rfl
theorem abH : Pok 59 [.int .i64, .int .i64] (fun x => Fh x.1 x.2) := by
 refine pk (L := fun x => O1 x.1 x.2) (l := Dx) Tc (fun _ => rfl) ?_
 intro x hv hp
 rw [abG]
 exact Z4 x.1 x.2
theorem abI : aV Tryz.prog gl 59 OZ := abH
theorem MF : aQ xU := .cons abI Tc
theorem aev (x : aP [.int .i64]) : bg Tryz.prog (aT xU) (Sr x) 35 (aZ [.int .i64] x) [] (I8 x) = Fq x := by kernel_rfl
theorem aew : Pok 35 [.int .i64] (fun x => I8 x) := by
 refine pk (L := fun x => Sr x) (l := xU) MF (fun _ => rfl) ?_
 intro x hv hp
 rw [aev]
 exact abx x
theorem aex : aV Tryz.prog gl 35 Sm := aew
theorem Pm : aQ Az := .cons aex MF
theorem aie (x : aP [jD]) : bg Tryz.prog (aT Az) (YK x) 80 (aZ [jD] x) [] (Oj x) = KU x := by kernel_rfl
theorem aif : Pok 80 [jD] (fun x => Oj x) := by
 refine pk (L := fun x => YK x) (l := Az) Pm (fun _ => rfl) ?_
 intro x hv hp
 rw [aie]
 exact afZ x hv.2
theorem aii : aV Tryz.prog gl 80 YJ := aif
theorem VW : aQ GU := .cons aii Pm
theorem aey (x : aP [gJ]) : bg Tryz.prog (aT GU) (Sz x) 94 (aZ [gJ] x) [] (I9 x) = Fv x := by kernel_rfl
theorem aez : Pok 94 [gJ] (fun x => I9 x) := by
 refine pk (L := fun x => Sz x) (l := GU) VW (fun _ => rfl) ?_
 intro x hv hp
 rw [aey]
 exact aby x
theorem aeA : aV Tryz.prog gl 94 Sv := aez
theorem Pn : aQ AA := .cons aeA VW
theorem aij (x : aP [fM]) : bg Tryz.prog (aT AA) (YM x) 81 (aZ [fM] x) [] (Ol x) = KW x := by kernel_rfl
theorem aik : Pok 81 [fM] (fun x => Ol x) := by
 refine pk (L := fun x => YM x) (l := AA) Pn (fun _ => rfl) ?_
 intro x hv hp
 rw [aij]
 exact af0 x hv.2
theorem ail : aV Tryz.prog gl 81 YL := aik
theorem VX : aQ GV := .cons ail Pn
theorem agc (x : aP [.int .i64]) : bg Tryz.prog (aT GV) (VJ x) 82 (aZ [.int .i64] x) [] (KQ x) = Jg x := by kernel_rfl
theorem agd : Pok 82 [.int .i64] (fun x => KQ x) := by
 refine pk (L := fun x => VJ x) (l := GV) VX (fun _ => rfl) ?_
 intro x hv hp
 rw [agc]
 exact aen x (T.amB hv)
theorem agf : aV Tryz.prog gl 82 VI := agd
theorem Td : aQ Dy := .cons agf VX
theorem agh (x : aP [dA, .int .u8]) : bg Tryz.prog (aT Dy) (VL x.1 x.2) 60 (aZ [dA, .int .u8] x) [] (xA x.1 x.2) = Jh x.1 x.2 := by kernel_rfl
theorem agi : Pok 60 [dA, .int .u8] (fun x => xA x.1 x.2) := by
 refine pk (L := fun x => VL x.1 x.2) (l := Dy) Td (fun _ => rfl) ?_
 intro x hv hp
 rw [agh]
 exact aeo x.1 x.2 (hp (List.length (U.dG x.1) <= 1000000000000) (by simp [xA])) (hp (List.length (U.eTo x.1) <= 1000000000000) (by simp [xA]))
theorem agj : aV Tryz.prog gl 60 VK := agi
theorem Tf : aQ Dz := .cons agj Td
theorem aeB (x : aP [dA]) : bg Tryz.prog (aT Dz) (SB x) 34 (aZ [dA] x) [] (uQ x) = Fz x := by kernel_rfl
theorem aeC : Pok 34 [dA] (fun x => uQ x) := by
 refine pk (L := fun x => SB x) (l := Dz) Tf (fun _ => rfl) ?_
 intro x hv hp
 rw [aeB]
 exact abz x (hp (List.length (U.dG x) <= 1000000000000) (by simp [uQ])) (hp (List.length (U.eTo x) <= 1000000000000) (by simp [uQ]))
theorem aeD : aV Tryz.prog gl 34 SA := aeC
theorem Po : aQ AB := .cons aeD Tf
theorem ain (x : aP [aI, dA, .int .u8]) : bg Tryz.prog (aT AB) (YO x.1 x.2.1 x.2.2) 36 (aZ [aI, dA, .int .u8] x) [] (wz x.1 x.2.1 x.2.2) = KX x.1 x.2.1 x.2.2 := by kernel_rfl
theorem aio : Pok 36 [aI, dA, .int .u8] (fun x => wz x.1 x.2.1 x.2.2) := by
 refine pk (L := fun x => YO x.1 x.2.1 x.2.2) (l := AB) Po (fun _ => rfl) ?_
 intro x hv hp
 rw [ain]
 exact af2 x.1 x.2.1 x.2.2 (hp (List.length x.1 <= 100000000000) (by simp [wz])) (hp (List.length (U.aU x.2.1) <= 1000000000) (by simp [wz])) (hp (List.length (U.aO x.2.1) <= 1000000000) (by simp [wz]))
theorem aip : aV Tryz.prog gl 36 YN := aio
theorem VY : aQ GX := .cons aip Po
theorem abJ (x : aP [dA]) : bg Tryz.prog (aT GX) (O5 x) 17 (aZ [dA] x) [] (ru x) = CJ x := by kernel_rfl
theorem abK : Pok 17 [dA] (fun x => ru x) := by
 refine pk (L := fun x => O5 x) (l := GX) VY (fun _ => rfl) ?_
 intro x hv hp
 rw [abJ]
 exact Z5 x (hp (List.length (U.dG x) <= 1000000000000) (by simp [ru])) (hp (List.length (U.eTo x) <= 1000000000000) (by simp [ru]))
theorem abL : aV Tryz.prog gl 17 O4 := abK
theorem MG : aQ xW := .cons abL VY
theorem abM (x : aP [aI]) : bg Tryz.prog (aT xW) (O7 x) 28 (aZ [aI] x) [] (xX x) = CO x := by kernel_rfl
theorem abN : Pok 28 [aI] (fun x => xX x) := by
 refine pk (L := fun x => O7 x) (l := xW) MG (fun _ => rfl) ?_
 intro x hv hp
 rw [abM]
 exact Z8 x hv.1 (hp (List.length x <= 1000000000) (by simp [xX]))
theorem abO : aV Tryz.prog gl 28 O6 := abN
theorem MH : aQ xY := .cons abO MG
theorem aeE (x : aP [.int .i64]) : bg Tryz.prog (aT xY) (SE x) 70 (aZ [.int .i64] x) [] (Ja x) = FB x := by kernel_rfl
theorem aeF : Pok 70 [.int .i64] (fun x => Ja x) := by
 refine pk (L := fun x => SE x) (l := xY) MH (fun _ => rfl) ?_
 intro x hv hp
 rw [aeE]
 exact abA x
theorem aeG : aV Tryz.prog gl 70 SC := aeF
theorem Pq : aQ AL := .cons aeG MH
theorem abP (x : aP [jD]) : bg Tryz.prog (aT AL) (O9 x) 67 (aZ [jD] x) [] (Fj x) = CP x := by kernel_rfl
theorem abQ : Pok 67 [jD] (fun x => Fj x) := by
 refine pk (L := fun x => O9 x) (l := AL) Pq (fun _ => rfl) ?_
 intro x hv hp
 rw [abP]
 exact Z7 x hv.2
theorem abR : aV Tryz.prog gl 67 O8 := abQ
theorem MI : aQ xZ := .cons abR Pq
theorem aeH (x : aP [fM]) : bg Tryz.prog (aT xZ) (SH x) 88 (aZ [fM] x) [] (Jb x) = FC x := by kernel_rfl
theorem aeI : Pok 88 [fM] (fun x => Jb x) := by
 refine pk (L := fun x => SH x) (l := xZ) MI (fun _ => rfl) ?_
 intro x hv hp
 rw [aeH]
 exact abB x hv.2
theorem aeJ : aV Tryz.prog gl 88 SG := aeI
theorem Pv : aQ AO := .cons aeJ MI
theorem aeK (x : aP [.int .i64]) : bg Tryz.prog (aT AO) (SK x) 42 (aZ [.int .i64] x) [] (Jc x) = FD x := by kernel_rfl
theorem aeL : Pok 42 [.int .i64] (fun x => Jc x) := by
 refine pk (L := fun x => SK x) (l := AO) Pv (fun _ => rfl) ?_
 intro x hv hp
 rw [aeK]
 exact abC x
theorem aeM : aV Tryz.prog gl 42 SI := aeL
theorem Px : aQ AP := .cons aeM Pv
theorem agk (x : aP [.int .i64]) : bg Tryz.prog (aT AP) (VO x) 66 (aZ [.int .i64] x) [] (KR x) = Ji x := by kernel_rfl
theorem agl : Pok 66 [.int .i64] (fun x => KR x) := by
 refine pk (L := fun x => VO x) (l := AP) Px (fun _ => rfl) ?_
 intro x hv hp
 rw [agk]
 exact aes x
theorem agm : aV Tryz.prog gl 66 VN := agl
theorem Ti : aQ DC := .cons agm Px
theorem aiq (x : aP [fM]) : bg Tryz.prog (aT DC) (YQ x) 69 (aZ [fM] x) [] (Om x) = KY x := by kernel_rfl
theorem air : Pok 69 [fM] (fun x => Om x) := by
 refine pk (L := fun x => YQ x) (l := DC) Ti (fun _ => rfl) ?_
 intro x hv hp
 rw [aiq]
 exact af4 x
theorem ais : aV Tryz.prog gl 69 YP := air
theorem VZ : aQ GY := .cons ais Ti
theorem ait (x : aP [.str, .int .u8]) : bg Tryz.prog (aT GY) (YS x.1 x.2) 43 (aZ [.str, .int .u8] x) [] (Oo x.1 x.2) = KZ x.1 x.2 := by kernel_rfl
theorem aiu : Pok 43 [.str, .int .u8] (fun x => Oo x.1 x.2) := by
 refine pk (L := fun x => YS x.1 x.2) (l := GY) VZ (fun _ => rfl) ?_
 intro x hv hp
 rw [ait]
 exact af5 x.1 x.2 hv.1.2
theorem aiv : aV Tryz.prog gl 43 YR := aiu
theorem V3 : aQ GZ := .cons aiv VZ
theorem aeN (x : aP [dA]) : bg Tryz.prog (aT GZ) (SN x) 41 (aZ [dA] x) [] (uS x) = FH x := by kernel_rfl
theorem aeO : Pok 41 [dA] (fun x => uS x) := by
 refine pk (L := fun x => SN x) (l := GZ) V3 (fun _ => rfl) ?_
 intro x hv hp
 rw [aeN]
 exact abD x (hp (List.length (U.dG x) <= 1000000000000) (by simp [uS])) (hp (List.length (U.eTo x) <= 1000000000000) (by simp [uS]))
theorem aeP : aV Tryz.prog gl 41 SL := aeO
theorem Py : aQ AQ := .cons aeP V3
theorem aeQ (l : List Int) (e : Int) : bg Tryz.prog (aT AQ) (SQ l e) 57 (Pe l e) (Pg l e) (uT l e) = FI l e := by kernel_rfl
theorem agn : l9 Tryz.prog gl 57 DF := by
 refine pkg (l := AQ) Py (fun args es d h => ?_) (fun args es d h hv he hp => ?_)
 ·unfold DF at h
  rcases dI h with h | h
  ·obtain ⟨l, e, rfl, rfl, rfl⟩ := Jd h
   rfl
  cases h
 ·unfold DF at h
  rcases dI h with h | h
  ·obtain ⟨l, e, rfl, rfl, rfl⟩ := Jd h
   refine ⟨SQ l e, ?_⟩
   rw [aeQ]
   exact abE l e (he _ (.head _)) (hp (e = 0) (by simp [uT])) (hp (List.length l <= 1000000000) (by simp [uT]))
  cases h
theorem agp : aV Tryz.prog gl 57 VP := agn
theorem Tj : aQ DI := .cons agp Py
theorem abS (x : aP [aI]) : bg Tryz.prog (aT DI) (Pj x) 31 (aZ [aI] x) [] (x9 x) = CQ x := by kernel_rfl
theorem abT : Pok 31 [aI] (fun x => x9 x) := by
 refine pk (L := fun x => Pj x) (l := DI) Tj (fun _ => rfl) ?_
 intro x hv hp
 rw [abS]
 exact Z9 x hv.1 (hp (List.length x <= 1000000000) (by simp [x9]))
theorem abU : aV Tryz.prog gl 31 Ph := abT
theorem MJ : aQ yg := .cons abU Tj
theorem agq (x : aP [dA, dA]) : bg Tryz.prog (aT yg) (VR x.1 x.2) 16 (aZ [dA, dA] x) [] (KT x.1 x.2) = Jj x.1 x.2 := by kernel_rfl
theorem agr : Pok 16 [dA, dA] (fun x => KT x.1 x.2) := by
 refine pk (L := fun x => VR x.1 x.2) (l := yg) MJ (fun _ => rfl) ?_
 intro x hv hp
 rw [agq]
 exact aep x.1 x.2
theorem ags : aV Tryz.prog gl 16 VQ := agr
theorem Tm : aQ DJ := .cons ags MJ
end Go.Proofs.YtkhdeldobekciaaGreatDoor
