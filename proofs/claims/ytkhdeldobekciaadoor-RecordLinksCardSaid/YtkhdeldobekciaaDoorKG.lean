/- What is owed of the functions, proved in plain Lean. -/
import Derived.Test.YtkhdeldobekciaaDoorKF
import Derived.Test.YtkhdeldobekciaaDoorKD
set_option linter.unusedSimpArgs false
set_option linter.unusedVariables false
set_option maxRecDepth 100000
namespace Go.Proofs.YtkhdeldobekciaaDoor
open Go.Vc
open Go.Vc.T
theorem ab1 (k : Nat) (n : Int) : U.beN (k + 1) n = U.beN k (n / 256) ++ [n % 256] := by
 unfold U.beN
 rw [List.range_succ, List.map_append, List.map_singleton]
 congr 1
 ·apply List.map_congr_left
  intro j hj
  rw [List.mem_range] at hj
  rw [show 8 * (k + 1 - 1 - j) = 8 + 8 * (k - 1 - j) by omega, Int.pow_add, Int.ediv_ediv_of_nonneg (by decide)]; rfl
 ·rw [show k + 1 - 1 - k = 0 by omega]; simp
theorem OA : ∀ (k : Nat) (n : Int), 0 <= n -> n < 256 ^ k -> U.aO (U.beN k n) = n
 | 0, n, h0, h1 => by
   have : n = 0 := by rw [Int.pow_zero] at h1; omega
   subst this; rw [List.length_eq_zero_iff.1 (qK 0 0)]; rfl
 | k + 1, n, h0, h1 => by
   rw [ab1, Oq, OA k (n / 256) (by omega) ?_]
   ·omega
   ·rw [Int.pow_succ] at h1
    exact Int.ediv_lt_of_lt_mul (by omega) h1
theorem ab2 {n : Int} (h0 : 0 <= n) (h1 : n <= 4611686018427387904) : U.clamp n = n := by unfold U.clamp bG Bq; rw [if_neg (by omega)]; rw [if_neg (by omega)]
theorem jh {n : Int} (rest : List Int) (h0 : 0 <= n) (h1 : n <= 4611686018427387904) : U.aj (U.num1 n ++ rest, 0) = (n, rest, 0) := by
 have ht : (U.num1 n ++ rest).take 8 = U.num1 n := by rw [<- dS n, List.take_left]
 have hd : (U.num1 n ++ rest).drop 8 = rest := by rw [<- dS n, List.drop_left]
 have hv : U.aO (U.num1 n) = n := by unfold U.num1; rw [ab2 h0 h1]; exact OA 8 n h0 (by omega)
 unfold U.aj
 simp only [ht, hd, hv]
 rw [show decide ((U.num1 n ++ rest).length < 8) = false by rw [decide_eq_false_iff_not, List.length_append, dS]; omega, decide_eq_false (by omega : ¬ n > 4611686018427387904)]
 rfl
theorem ab3 {s : List Int} (h : s.length <= 4096) : U.text1 s = U.beN 4 s.length ++ s := by
 unfold U.text1 bG; rw [if_neg (by omega), List.take_of_length_le h]
theorem EN {s : List Int} (rest : List Int) (h : s.length <= 4096) : U.aI (U.text1 s ++ rest, 0) = (s, rest, 0) := by
 rw [ab3 h, List.append_assoc]
 have ht : (U.beN 4 s.length ++ (s ++ rest)).take 4 = U.beN 4 s.length := List.take_left' (qK 4 _)
 have hd : (U.beN 4 s.length ++ (s ++ rest)).drop 4 = s ++ rest := List.drop_left' (qK 4 _)
 have hv : U.aO (U.beN 4 s.length) = s.length := OA 4 _ (by omega) (by omega)
 unfold U.aI
 simp only [ht, hd, hv, Int.toNat_natCast]
 rw [show decide ((U.beN 4 s.length ++ (s ++ rest)).length < 4) = false by rw [decide_eq_false_iff_not, List.length_append, qK]; omega, decide_eq_false (by omega : ¬ (s.length : Int) > 4096), show decide ((s ++ rest).length < s.length) = false by rw [decide_eq_false_iff_not, List.length_append]; omega]
 rw [List.take_left, List.drop_left]; rfl
theorem NQ {n m : Int} (rest : List Int) (h0 : 0 <= n) (h1 : n <= m) (hm : m <= 4611686018427387904) : U.aC m (U.num1 n ++ rest, 0) = (n, rest, 0) := by
 unfold U.aC
 rw [jh rest h0 (by omega)]
 simp only [decide_true, Bool.true_and]
 rw [decide_eq_false (by omega : ¬ n > m)]; rfl
theorem Il (rest : List Int) : ∀ l : List Int, (∀ x ∈ l, 0 <= x /\ x <= 4611686018427387904) -> U.dM l.length (U.nums l ++ rest, 0) = (l, rest, 0)
 | [], _ => rfl
 | x :: l, h => by
   have hx := h x (by simp)
   have ih := Il rest l fun y hy => h y (List.mem_cons_of_mem _ hy)
   rw [aa7, List.append_assoc, List.length_cons]
   show ((U.aj _).1 :: (U.dM l.length (U.aj _).2).1, (U.dM l.length (U.aj _).2).2) = _
   rw [jh _ hx.1 hx.2, ih]
theorem YZ (x : Range) (l : List Range) : U.pairs (x :: l) = U.num1 x.1 ++ (U.num1 x.2 ++ U.pairs l) := by simp [U.pairs]
theorem Dk (rest : List Int) : ∀ l : List Range, (∀ x ∈ l, (0 <= x.1 /\ x.1 <= 4611686018427387904) /\ 0 <= x.2 /\ x.2 <= 4611686018427387904) -> U.cO l.length (U.pairs l ++ rest, 0) = (l, rest, 0)
 | [], _ => rfl
 | x :: l, h => by
   have hx := h x (by simp)
   have ih := Dk rest l fun y hy => h y (List.mem_cons_of_mem _ hy)
   rw [YZ, List.append_assoc, List.append_assoc, List.length_cons]
   show (((U.aj _).1, (U.aj (U.aj _).2).1) :: (U.cO l.length (U.aj (U.aj _).2).2).1, (U.cO l.length (U.aj (U.aj _).2).2).2) = _
   rw [jh _ hx.1.1 hx.1.2]; simp only []
   rw [jh _ hx.2.1 hx.2.2]; simp only []
   rw [ih]
def Kv (c : Int) (ev e : Event) : Event :=
 (U.aV ev, U.eAt ev, cond (decide (c = 98)) (U.bJ e) (U.bJ ev), cond (decide (c = 116)) (U.eTo e) (U.eTo ev), cond (decide (c = 105)) (U.aK e) (U.aK ev), cond (decide (c = 115)) (U.aG e) (U.aG ev), cond (decide (c = 109)) (U.eu e) (U.eu ev), cond (decide (c = 102)) (U.dH e) (U.dH ev), cond (decide (c = 100)) (U.eY e) (U.eY ev), cond (decide (c = 110)) (U.eN e) (U.eN ev), cond (decide (c = 121)) (U.dQ e) (U.dQ ev))
theorem WM : ∀ (l : List Int) (p : Int), 0 <= p -> U.rise p l = true -> ∀ x ∈ l, 0 <= x /\ x <= 4611686018427387904
 | [], _, _, _, x, hx => by cases hx
 | y :: r, p, hp, h, x, hx => by
   unfold U.rise at h
   simp only [Bool.and_eq_true, decide_eq_true_eq] at h
   rcases List.mem_cons.1 hx with rfl | hx
   ·omega
   ·exact WM r y (by omega) h.2 x hx
theorem Rt {l : List Range} (h : U.sN l = true) : l.length <= 60 /\ ∀ x ∈ l, (0 <= x.1 /\ x.1 <= 4611686018427387904) /\ 0 <= x.2 /\ x.2 <= 4611686018427387904 := by
 unfold U.sN at h
 simp only [Bool.and_eq_true, decide_eq_true_eq, Bool.not_eq_true', List.any_eq_false] at h
 refine ⟨h.1, fun x hx => ?_⟩
 have := h.2 x hx
 unfold U.badR U.within at this
 simp only [Bool.or_eq_true, Bool.not_eq_true', Bool.and_eq_false_iff, decide_eq_false_iff_not, not_or] at this
 omega
theorem Kw {c : Int} (h : c ∈ U.order) : c = 98 ∨ c = 116 ∨ c = 105 ∨ c = 115 ∨ c = 109 ∨ c = 102 ∨ c = 100 ∨ c = 110 ∨ c = 121 := by
 simpa [U.order] using h
theorem SQ {s : List Int} (h : U.rG s = true) : s.length <= 4096 := by have := P9 (Wp h); omega
theorem within_iff {n m : Int} : U.within n m = true ↔ 0 <= n /\ n <= m := by unfold U.within; simp only [Bool.and_eq_true, decide_eq_true_eq, ge_iff_le]
theorem Ru {l : List Int} (h : U.vZ l = true) : (1 <= l.length /\ l.length <= 60) /\ ∀ x ∈ l, 0 <= x /\ x <= 4611686018427387904 := by
 unfold U.vZ at h
 simp only [Bool.and_eq_true, decide_eq_true_eq] at h
 exact ⟨h.2, WM l 0 (by omega) h.1⟩
theorem abg {c : Int} (hc : c ∈ U.order) {e ev : Event} (hg : U.good c e = true) (h1 : c = 105 -> U.aK ev = []) (h2 : c = 115 -> U.aG ev = []) (rest : List Int) : U.dR c ((U.jY c e ++ rest, 0), ev) = ((rest, 0), Kv c ev e) := by
 rcases Kw hc with rfl | rfl | rfl | rfl | rfl | rfl | rfl | rfl | rfl
 ·show ((U.aI (U.text1 (U.bJ e) ++ rest, 0)).2, _) = _
  have hr : U.aI (U.text1 (U.bJ e) ++ rest, 0) = _ := EN rest (SQ hg)
  show ((U.aI (U.text1 (U.bJ e) ++ rest, 0)).2, U.aV ev, U.eAt ev, (U.aI (U.text1 (U.bJ e) ++ rest, 0)).1, _) = _
  rw [hr]; rfl
 ·have hr : U.aI (U.text1 (U.eTo e) ++ rest, 0) = _ := EN rest (SQ hg)
  show ((U.aI (U.text1 (U.eTo e) ++ rest, 0)).2, U.aV ev, U.eAt ev, U.bJ ev, (U.aI (U.text1 (U.eTo e) ++ rest, 0)).1, _) = _
  rw [hr]; rfl
 ·obtain ⟨⟨_, h60⟩, hl⟩ := Ru (show U.vZ (U.aK e) = true from hg)
  have hr : U.aC 60 ((U.num1 (U.aK e).length ++ U.nums (U.aK e)) ++ rest, 0) = (((U.aK e).length : Int), U.nums (U.aK e) ++ rest, 0) := by rw [List.append_assoc]; exact NQ _ (by omega) (by omega) (by omega)
  show ((U.dM (U.aC 60 ((U.num1 (U.aK e).length ++ U.nums (U.aK e)) ++ rest, 0)).1.toNat (U.aC 60 ((U.num1 (U.aK e).length ++ U.nums (U.aK e)) ++ rest, 0)).2).2, U.aV ev, U.eAt ev, U.bJ ev, U.eTo ev, U.aK ev ++ (U.dM (U.aC 60 ((U.num1 (U.aK e).length ++ U.nums (U.aK e)) ++ rest, 0)).1.toNat (U.aC 60 ((U.num1 (U.aK e).length ++ U.nums (U.aK e)) ++ rest, 0)).2).1, _) = _
  rw [hr]; simp only [Int.toNat_natCast]
  rw [Il rest _ hl, h1 rfl]; rfl
 ·obtain ⟨h60, hl⟩ := Rt (show U.sN (U.aG e) = true from hg)
  have hr : U.aC 60 ((U.num1 (U.aG e).length ++ U.pairs (U.aG e)) ++ rest, 0) = (((U.aG e).length : Int), U.pairs (U.aG e) ++ rest, 0) := by rw [List.append_assoc]; exact NQ _ (by omega) (by omega) (by omega)
  show ((U.cO (U.aC 60 ((U.num1 (U.aG e).length ++ U.pairs (U.aG e)) ++ rest, 0)).1.toNat (U.aC 60 ((U.num1 (U.aG e).length ++ U.pairs (U.aG e)) ++ rest, 0)).2).2, U.aV ev, U.eAt ev, U.bJ ev, U.eTo ev, U.aK ev, U.aG ev ++ (U.cO (U.aC 60 ((U.num1 (U.aG e).length ++ U.pairs (U.aG e)) ++ rest, 0)).1.toNat (U.aC 60 ((U.num1 (U.aG e).length ++ U.pairs (U.aG e)) ++ rest, 0)).2).1, _) = _
  rw [hr]; simp only [Int.toNat_natCast]
  rw [Dk rest _ hl, h2 rfl]; rfl
 ·have hw := within_iff.1 (show U.within (U.eu e) 2 = true from hg)
  have hr : U.aj (U.num1 (U.eu e) ++ rest, 0) = _ := jh rest hw.1 (by omega)
  show ((U.aj (U.num1 (U.eu e) ++ rest, 0)).2, U.aV ev, U.eAt ev, U.bJ ev, U.eTo ev, U.aK ev, U.aG ev, (U.aj (U.num1 (U.eu e) ++ rest, 0)).1, _) = _
  rw [hr]; rfl
 ·have hw := (show U.zq (U.dH e) = true from hg)
  unfold U.zq at hw
  simp only [Bool.and_eq_true, decide_eq_true_eq] at hw
  have hr : U.aj (U.num1 (U.dH e) ++ rest, 0) = _ := jh rest hw.1 (by omega)
  show ((U.aj (U.num1 (U.dH e) ++ rest, 0)).2, U.aV ev, U.eAt ev, U.bJ ev, U.eTo ev, U.aK ev, U.aG ev, U.eu ev, (U.aj (U.num1 (U.dH e) ++ rest, 0)).1, _) = _
  rw [hr]; rfl
 ·have hw := within_iff.1 (show U.within (U.eY e) 1099511627776 = true from hg)
  have hr : U.aj (U.num1 (U.eY e) ++ rest, 0) = _ := jh rest hw.1 (by omega)
  show ((U.aj (U.num1 (U.eY e) ++ rest, 0)).2, U.aV ev, U.eAt ev, U.bJ ev, U.eTo ev, U.aK ev, U.aG ev, U.eu ev, U.dH ev, (U.aj (U.num1 (U.eY e) ++ rest, 0)).1, _) = _
  rw [hr]; rfl
 ·have hw := within_iff.1 (show U.within (U.eN e) 1099511627776 = true from hg)
  have hr : U.aj (U.num1 (U.eN e) ++ rest, 0) = _ := jh rest hw.1 (by omega)
  show ((U.aj (U.num1 (U.eN e) ++ rest, 0)).2, U.aV ev, U.eAt ev, U.bJ ev, U.eTo ev, U.aK ev, U.aG ev, U.eu ev, U.dH ev, U.eY ev, (U.aj (U.num1 (U.eN e) ++ rest, 0)).1, _) = _
  rw [hr]; rfl
 ·have hb : (U.dQ e).length <= 2000 := of_decide_eq_true (show decide ((U.dQ e).length <= 2000) = true from hg)
  have hr : U.aI (U.text1 (U.dQ e) ++ rest, 0) = _ := EN rest (by omega)
  show ((U.aI (U.text1 (U.dQ e) ++ rest, 0)).2, U.aV ev, U.eAt ev, U.bJ ev, U.eTo ev, U.aK ev, U.aG ev, U.eu ev, U.dH ev, U.eY ev, U.eN ev, (U.aI (U.text1 (U.dQ e) ++ rest, 0)).1) = _
  rw [hr]; rfl
def Hg (p : List Int) (x : U.RS × Event) : U.RS × Event := p.foldl (fun x c => U.dR c x) x
theorem ac4 (c : Int) (p : List Int) (x : U.RS × Event) : Hg (c :: p) x = Hg p (U.dR c x) := rfl
theorem ab4 {c : Int} {ev e : Event} (h : c ≠ 105) : U.aK (Kv c ev e) = U.aK ev := by
 show cond (decide (c = 105)) _ _ = _; rw [decide_eq_false h]; rfl
theorem ab5 {c : Int} {ev e : Event} (h : c ≠ 115) : U.aG (Kv c ev e) = U.aG ev := by
 show cond (decide (c = 115)) _ _ = _; rw [decide_eq_false h]; rfl
def Ky (p : List Int) (e ev : Event) : Event := p.foldl (fun ev c => Kv c ev e) ev
theorem WO (e : Event) (rest : List Int) : ∀ (p : List Int) {ev : Event}, p.Nodup -> (∀ c ∈ p, c ∈ U.order /\ U.good c e = true) -> (105 ∈ p -> U.aK ev = []) -> (115 ∈ p -> U.aG ev = []) -> Hg p ((p.flatMap (fun c => U.jY c e) ++ rest, 0), ev) = ((rest, 0), Ky p e ev)
 | [], _, _, _, _, _ => rfl
 | c :: p, ev, hn, hp, h1, h2 => by
   rw [List.nodup_cons] at hn
   rw [ac4, List.flatMap_cons, List.append_assoc, abg (hp c (by simp)).1 (hp c (by simp)).2 (fun h => h1 (by simp [h])) (fun h => h2 (by simp [h]))]
   rw [WO e rest p hn.2 (fun d hd => hp d (List.mem_cons_of_mem _ hd)) (fun h => ?_) (fun h => ?_)]; rfl
   ·rw [ab4 (c := c) (fun hc => hn.1 (by rw [hc]; exact h))]; exact h1 (List.mem_cons_of_mem _ h)
   ·rw [ab5 (c := c) (fun hc => hn.1 (by rw [hc]; exact h))]; exact h2 (List.mem_cons_of_mem _ h)
theorem D9 (k : Int) : U.parts k ∈ U.zo := by
 unfold U.parts
 cases h : (decide (k < 0) || decide (k >= 15)) with
 | true => exact (by decide : ([] : List Int) ∈ U.zo)
 | false =>
   simp only [Bool.or_eq_false_iff, decide_eq_false_iff_not] at h
   simp only [cond_false]
   have hl : k.toNat < U.zo.length := by show k.toNat < 15; omega
   rw [getD_at hl]; exact List.getElem_mem hl
theorem ug (k : Int) : (U.parts k).Nodup /\ ∀ c ∈ U.parts k, c ∈ U.order := by
 have : ∀ p ∈ U.zo, p.Nodup /\ ∀ c ∈ p, c ∈ U.order := by decide
 exact this _ (D9 k)
theorem ab6 {k : Int} (h : U.parts k ≠ []) : 0 <= k /\ k < 15 := by
 unfold U.parts at h
 cases hc : (decide (k < 0) || decide (k >= 15)) with
 | true => rw [hc] at h; exact absurd rfl h
 | false => simp only [Bool.or_eq_false_iff, decide_eq_false_iff_not] at hc; omega
theorem rU (e : Event) : U.bI e = true ↔ U.parts (U.aV e) ≠ [] /\ (0 <= U.eAt e /\ U.eAt e <= 1099511627776) /\ ∀ c ∈ U.order, (c ∈ U.parts (U.aV e) -> U.good c e = true) /\ (c ∉ U.parts (U.aV e) -> U.none_ c e = true) := by
 unfold U.bI
 simp only [Bool.and_eq_true, Bool.not_eq_true', decide_eq_false_iff_not, within_iff, List.all_eq_true]
 constructor
 ·rintro ⟨a, b, h⟩
  refine ⟨a, b, fun c hc => ?_⟩
  have := h c hc
  unfold U.okC at this
  constructor
  ·intro hm
   rw [decide_eq_false (by have := (xE (U.parts (U.aV e)) c).2 hm; omega)] at this; exact this
  ·intro hm
   rw [decide_eq_true (by have := mt (xE (U.parts (U.aV e)) c).1 hm; omega)] at this; exact this
 ·rintro ⟨a, b, h⟩
  refine ⟨a, b, fun c hc => ?_⟩
  unfold U.okC
  by_cases hm : c ∈ U.parts (U.aV e)
  ·rw [decide_eq_false (by have := (xE (U.parts (U.aV e)) c).2 hm; omega)]; exact (h c hc).1 hm
  ·rw [decide_eq_true (by have := mt (xE (U.parts (U.aV e)) c).1 hm; omega)]; exact (h c hc).2 hm
theorem Qp {α : Type} (f : Event -> α) (d : Int) (hf : ∀ c ev e, f (Kv c ev e) = cond (decide (c = d)) (f e) (f ev)) (e : Event) : ∀ (p : List Int) (ev : Event), f (Ky p e ev) = cond (decide (d ∈ p)) (f e) (f ev)
 | [], ev => by simp [Ky]
 | c :: p, ev => by
   show f (Ky p e (Kv c ev e)) = _
   rw [Qp f d hf e p, hf]
   by_cases h1 : d ∈ p
   ·rw [decide_eq_true h1, decide_eq_true (List.mem_cons_of_mem _ h1)]; rfl
   ·by_cases h2 : c = d
    ·subst h2; rw [decide_eq_true (by simp : c ∈ c :: p)]; simp
    ·rw [decide_eq_false h1, decide_eq_false h2, decide_eq_false (by rw [List.mem_cons, not_or]; exact ⟨fun h => h2 h.symm, h1⟩)]; rfl
theorem Kz (e : Event) : ∀ (p : List Int) (ev : Event), U.aV (Ky p e ev) = U.aV ev /\ U.eAt (Ky p e ev) = U.eAt ev
 | [], ev => ⟨rfl, rfl⟩
 | c :: p, ev => Kz e p (Kv c ev e)
theorem adE {a b : Event} (h1 : U.aV a = U.aV b) (h2 : U.eAt a = U.eAt b) (h3 : U.bJ a = U.bJ b) (h4 : U.eTo a = U.eTo b) (h5 : U.aK a = U.aK b) (h6 : U.aG a = U.aG b) (h7 : U.eu a = U.eu b) (h8 : U.dH a = U.dH b) (h9 : U.eY a = U.eY b) (h10 : U.eN a = U.eN b) (h11 : U.dQ a = U.dQ b) : a = b :=
 Prod.ext h1 (Prod.ext h2 (Prod.ext h3 (Prod.ext h4 (Prod.ext h5 (Prod.ext h6 (Prod.ext h7 (Prod.ext h8 (Prod.ext h9 (Prod.ext h10 h11)))))))))
theorem ab7 {e : Event} (h : U.bI e = true) : Ky (U.parts (U.aV e)) e (U.aV e, U.eAt e, [], [], [], [], 0, 0, 0, 0, []) = e := by
 obtain ⟨hp, _, hc⟩ := (rU e).1 h
 have key : ∀ {α : Type} (f : Event -> α) (d : Int), d ∈ U.order -> (∀ c ev e, f (Kv c ev e) = cond (decide (c = d)) (f e) (f ev)) -> (U.none_ d e = true -> f e = f (U.aV e, U.eAt e, [], [], [], [], 0, 0, 0, 0, [])) -> f (Ky (U.parts (U.aV e)) e (U.aV e, U.eAt e, [], [], [], [], 0, 0, 0, 0, [])) = f e := by
  intro α f d hd hf hn
  rw [Qp f d hf]
  by_cases hm : d ∈ U.parts (U.aV e)
  ·rw [decide_eq_true hm]; rfl
  ·rw [decide_eq_false hm]; exact (hn ((hc d hd).2 hm)).symm
 refine adE (Kz _ _ _).1 (Kz _ _ _).2 ?_ ?_ ?_ ?_ ?_ ?_ ?_ ?_ ?_
 ·exact key U.bJ 98 (by decide) (fun _ _ _ => rfl) (fun h => of_decide_eq_true h)
 ·exact key U.eTo 116 (by decide) (fun _ _ _ => rfl) (fun h => of_decide_eq_true h)
 ·exact key U.aK 105 (by decide) (fun _ _ _ => rfl) (fun h => of_decide_eq_true h)
 ·exact key U.aG 115 (by decide) (fun _ _ _ => rfl) (fun h => of_decide_eq_true h)
 ·exact key U.eu 109 (by decide) (fun _ _ _ => rfl) (fun h => of_decide_eq_true h)
 ·exact key U.dH 102 (by decide) (fun _ _ _ => rfl) (fun h => of_decide_eq_true h)
 ·exact key U.eY 100 (by decide) (fun _ _ _ => rfl) (fun h => of_decide_eq_true h)
 ·exact key U.eN 110 (by decide) (fun _ _ _ => rfl) (fun h => of_decide_eq_true h)
 ·exact key U.dQ 121 (by decide) (fun _ _ _ => rfl) (fun h => of_decide_eq_true h)
theorem ac5 {k a : Int} (rest : List Int) (hk : U.parts k ≠ []) (h0 : 0 <= a) (h1 : a <= 4611686018427387904) : U.oM (U.num1 k ++ (U.num1 a ++ rest)) = Hg (U.parts k) ((rest, 0), (k, a, [], [], [], [], 0, 0, 0, 0, [])) := by
 have hb := ab6 hk
 have e1 := jh (n := k) (U.num1 a ++ rest) (by omega) (by omega)
 have e2 := jh (n := a) rest h0 h1
 unfold U.oM U.ED
 simp only [e1, e2]
 rw [decide_eq_false hk]; rfl
theorem Y0 (e : Event) : U.nN e = U.num1 (U.aV e) ++ (U.num1 (U.eAt e) ++ (U.parts (U.aV e)).flatMap fun c => U.jY c e) := rfl
theorem ab8 {e : Event} (h : U.bI e = true) (rest : List Int) : U.oM (U.nN e ++ rest) = ((rest, 0), e) := by
 obtain ⟨hp, ha, hc⟩ := (rU e).1 h
 rw [Y0, List.append_assoc, List.append_assoc, ac5 _ hp ha.1 (by omega), WO e rest _ (ug _).1 (fun c hm => ⟨(ug _).2 c hm, (hc c ((ug _).2 c hm)).1 hm⟩) (fun _ => rfl) (fun _ => rfl), ab7 h]
theorem Y1 {e : Event} (h : U.bI e = true) : U.aZ (U.nN e) = (e, 0) := by
 have h1 := ab8 h []
 rw [List.append_nil] at h1
 have hf : U.EF (U.nN e) = 0 := by
  unfold U.EF; simp only [h1, h]; rfl
 unfold U.aZ; rw [hf, h1]; rfl
theorem KA : ∀ l : List Range, (U.pairs l).length = 16 * l.length
 | [] => rfl
 | x :: l => by rw [YZ, List.length_append, List.length_append, dS, dS, KA l, List.length_cons]; omega
theorem aad (l : List Range) (x : Range) : U.pairs (l ++ [x]) = U.pairs l ++ (U.num1 x.1 ++ U.num1 x.2) := by simp [U.pairs]
theorem Y2 {c : Int} (hc : c ∈ U.order) {e : Event} (hg : U.good c e = true) : (U.jY c e).length <= 5000 := by
 rcases Kw hc with rfl | rfl | rfl | rfl | rfl | rfl | rfl | rfl | rfl
 ·have := D8 (U.bJ e); show (U.text1 (U.bJ e)).length <= 5000; omega
 ·have := D8 (U.eTo e); show (U.text1 (U.eTo e)).length <= 5000; omega
 ·obtain ⟨⟨_, h60⟩, hl⟩ := Ru (show U.vZ (U.aK e) = true from hg)
  show (U.num1 (U.aK e).length ++ U.nums (U.aK e)).length <= 5000
  rw [List.length_append, dS, Oo]; omega
 ·obtain ⟨h60, hl⟩ := Rt (show U.sN (U.aG e) = true from hg)
  show (U.num1 (U.aG e).length ++ U.pairs (U.aG e)).length <= 5000
  rw [List.length_append, dS, KA]; omega
 ·show (U.num1 _).length <= 5000; rw [dS]; omega
 ·show (U.num1 _).length <= 5000; rw [dS]; omega
 ·show (U.num1 _).length <= 5000; rw [dS]; omega
 ·show (U.num1 _).length <= 5000; rw [dS]; omega
 ·have := D8 (U.dQ e); show (U.text1 (U.dQ e)).length <= 5000; omega
theorem OB {f : Int -> List Int} {k : Nat} : ∀ l : List Int, (∀ c ∈ l, (f c).length <= k) -> (l.flatMap f).length <= k * l.length
 | [], _ => by simp
 | x :: l, h => by
   have h1 := h x (by simp)
   have ih := OB l fun c hc => h c (List.mem_cons_of_mem _ hc)
   rw [List.flatMap_cons, List.length_append, List.length_cons, Nat.mul_add]; omega
theorem LW {e : Event} (h : U.bI e = true) {c : Int} (hc : c ∈ U.parts (U.aV e)) : U.good c e = true := (((rU e).1 h).2.2 c ((ug _).2 c hc)).1 hc
theorem ab9 {e : Event} (h : U.bI e = true) (c : Int) : (U.WJ (U.parts (U.aV e)) e c).length <= 5000 := by
 unfold U.WJ
 by_cases hi : aH (U.parts (U.aV e)) c >= 0
 ·have hm := (xE _ _).1 hi
  rw [decide_eq_true hi]; exact Y2 ((ug _).2 c hm) (LW h hm)
 ·rw [decide_eq_false hi]; exact Nat.zero_le _
theorem acd {e : Event} (h : U.bI e = true) (n : Nat) : (U.aac n e).length <= 50000 := by
 unfold U.aac
 rw [List.length_append, List.length_append, dS, dS]
 have := OB (f := U.WJ (U.parts (U.aV e)) e) (k := 5000) (U.order.take n) fun c _ => ab9 h c
 have h9 : (U.order.take n).length <= 9 := by rw [List.length_take]; exact Nat.min_le_right _ _
 have := Nat.mul_le_mul_left 5000 h9
 omega
theorem LX {α : Type} [BEq α] [DecidableEq α] (l : List α) : l.beq [] = decide (l = []) := by cases l <;> simp [List.beq]
theorem OC {α : Type} [DecidableEq α] (l : List α) : decide ((l.length : Int) = 0) = decide (l = []) := by
 rw [decide_eq_decide, <- List.length_eq_zero_iff]; omega
theorem ace (x y : Range) : (decide (x.1 = y.1) && (decide (x.2 = y.2) && true)) = decide (x = y) := by
 rw [Bool.eq_iff_iff]; simp [Prod.ext_iff]
theorem Y3 (a b : List Int) : a.beq b = decide (a = b) := by rw [iT, Bool.eq_iff_iff]; simp
theorem WQ (a b : List Int) (h : a.length <= maxLen) : Dc a b := by
 unfold Dc
 rw [maxLen_eq] at h
 simp only [cond_prop, gQ, iI, bU, iJ, ji, l9, fC, dB, jk, dW, iT, U.at_, maxLen_eq, decide_eq_true_eq, decide_eq_false_iff_not, bne_iff_ne, bne_eq_false_iff_eq, Bool.not_eq_true', Bool.not_eq_false', Bool.not_eq_eq_eq_not, Bool.not_true, Bool.not_false, beq_eq_false_iff_ne, beq_iff_eq, and_true, true_and, Bool.and_eq_true, Bool.or_eq_true, Bool.and_eq_false_iff, Bool.or_eq_false_iff, wrap_i64, U.nR]
 refine ⟨fun hn => ?_, fun hl => ⟨0, ⟨rfl, ⟨by omega, by omega⟩, by omega, rfl⟩, ?_⟩⟩
 ·symm; rw [decide_eq_false_iff_not]; rintro rfl; exact hn rfl
 ·rintro i ⟨⟨h0, h1⟩, h2, h3⟩
  refine ⟨fun hi => ⟨h0, hi, h0, by omega, fun hne => ?_, fun he => ⟨i + 1, by rw [show (i + 1 + 9223372036854775808) % 18446744073709551616 - 9223372036854775808 = i + 1 by omega], ⟨⟨by omega, by omega⟩, h2, ?_⟩, by omega⟩⟩, fun hi => ?_⟩
  ·symm; rw [decide_eq_false_iff_not]; rintro rfl; exact hne rfl
  ·rw [take_at h0 hi, take_at h0 (by omega), h3]
   rw [getD_at (by omega), getD_at (by omega)] at he
   rw [he]
  ·symm; rw [decide_eq_true_eq]
   rw [jV (by omega), jV (by omega)] at h3; exact h3
theorem WR (a b : List Range) (h : a.length <= maxLen) : Df a b := by
 unfold Df
 rw [maxLen_eq] at h
 simp only [ace]
 simp only [cond_prop, gQ, iI, bU, iJ, ji, l9, fC, dB, jk, dW, iT, U.at_, maxLen_eq, decide_eq_true_eq, decide_eq_false_iff_not, bne_iff_ne, bne_eq_false_iff_eq, Bool.not_eq_true', Bool.not_eq_false', Bool.not_eq_eq_eq_not, Bool.not_true, Bool.not_false, beq_eq_false_iff_ne, beq_iff_eq, and_true, true_and, Bool.and_eq_true, Bool.or_eq_true, Bool.and_eq_false_iff, Bool.or_eq_false_iff, wrap_i64, U.nT]
 refine ⟨fun hn => ?_, fun hl => ⟨0, ⟨rfl, ⟨by omega, by omega⟩, by omega, rfl⟩, ?_⟩⟩
 ·symm; rw [decide_eq_false_iff_not]; rintro rfl; exact hn rfl
 ·rintro i ⟨⟨h0, h1⟩, h2, h3⟩
  refine ⟨fun hi => ⟨h0, hi, h0, by omega, fun hne => ?_, fun he => ⟨i + 1, by rw [show (i + 1 + 9223372036854775808) % 18446744073709551616 - 9223372036854775808 = i + 1 by omega], ⟨⟨by omega, by omega⟩, h2, ?_⟩, by omega⟩⟩, fun hi => ?_⟩
  ·symm; rw [decide_eq_false_iff_not]; rintro rfl; exact hne rfl
  ·rw [take_at h0 hi, take_at h0 (by omega), h3]
   rw [getD_at (by omega), getD_at (by omega)] at he
   rw [he]
  ·symm; rw [decide_eq_true_eq]
   rw [jV (by omega), jV (by omega)] at h3; exact h3
theorem Rw (n m : Int) : xG n m := by
 unfold xG U.within; rw [gQ]; exact ⟨rfl, trivial⟩
theorem TU (k : Int) : zK k := by
 unfold zK U.parts
 rw [iI]
 cases h : (decide (k < 0) || decide (k >= 15)) with
 | true => exact ⟨rfl, trivial⟩
 | false =>
   simp only [Bool.or_eq_false_iff, decide_eq_false_iff_not] at h
   exact ⟨by omega, by show k < 15; omega, rfl, trivial⟩
theorem Y4 {l : List Int} {i : Int} (h0 : 0 <= i) (hi : i < l.length) (hr : U.rise 0 l = U.rise (U.wo l i) (l.drop i.toNat)) :
 U.rise 0 l = ((decide (U.wo l i < l[i.toNat]) && decide (l[i.toNat] <= 4294967295)) && U.rise l[i.toNat] (l.drop (i + 1).toNat)) := by
 rw [hr, drop_at h0 hi]; rfl
theorem prev_next {l : List Int} {i : Int} (h0 : 0 <= i) (hi : i < l.length) : U.wo l (i + 1) = l[i.toNat] := by
 unfold U.wo
 rw [decide_eq_false (by omega), show i + 1 - 1 = i by omega, getD_at (by omega)]; rfl
theorem Yi (l : List Int) (h : l.length <= maxLen) : EK l := by
 unfold EK U.vZ
 rw [maxLen_eq] at h
 simp only [cond_prop, gQ, iI, bU, iJ, ji, l9, fC, dB, jk, dW, iT, U.at_, maxLen_eq, decide_eq_true_eq, decide_eq_false_iff_not, bne_iff_ne, bne_eq_false_iff_eq, Bool.not_eq_true', Bool.not_eq_false', Bool.not_eq_eq_eq_not, Bool.not_true, Bool.not_false, beq_eq_false_iff_ne, beq_iff_eq, and_true, true_and, Bool.and_eq_true, Bool.or_eq_true, Bool.and_eq_false_iff, Bool.or_eq_false_iff, U.qc]
 refine ⟨0, ⟨rfl, ⟨by omega, by omega⟩, by show (0 : Int) <= 0; omega, rfl⟩, ?_⟩
 rintro i ⟨⟨h0, h1⟩, h2, h3⟩
 refine ⟨fun hi => ⟨h0, hi, fun _ _ => by rw [dI] <;> omega, fun _ _ => by rw [dI] <;> omega, fun hb => ?_, fun hb => ⟨i + 1, by rw [dI (x := i + 1) (by omega) (by omega)], ⟨⟨by omega, by omega⟩, ?_, ?_⟩, by omega⟩⟩, fun hi => ?_⟩
 ·rw [Y4 h0 hi h3]
  rw [getD_at (by omega)] at hb
  have : (decide (U.wo l i < l[i.toNat]) && decide (l[i.toNat] <= 4294967295)) = false := by
   rw [Bool.and_eq_false_iff, decide_eq_false_iff_not, decide_eq_false_iff_not]
   rcases hb with (hb | hb) | ⟨hb1, hb2⟩
   ·left; omega
   ·right; omega
   ·left
    rw [dI (x := i - 1) (by omega) (by omega)] at hb2
    unfold U.wo; rw [decide_eq_false (by omega)]; simp only [cond_false]; omega
  rw [this]; rfl
 ·rw [getD_at (by omega)] at hb
  rw [prev_next h0 hi]; omega
 ·rw [getD_at (by omega)] at hb
  rw [prev_next h0 hi, Y4 h0 hi h3]
  have : (decide (U.wo l i < l[i.toNat]) && decide (l[i.toNat] <= 4294967295)) = true := by
   rw [Bool.and_eq_true, decide_eq_true_eq, decide_eq_true_eq]
   obtain ⟨⟨hb1, hb2⟩, hb3⟩ := hb
   refine ⟨?_, by omega⟩
   unfold U.wo
   by_cases hz : i = 0
   ·rw [decide_eq_true hz]; simp only [cond_true]; omega
   ·rw [decide_eq_false hz]; simp only [cond_false]
    rw [dI (x := i - 1) (by omega) (by omega)] at hb3
    omega
  rw [this, Bool.true_and]
 ·rw [h3, drop_end (by omega)]
  rw [show U.rise (U.wo l i) [] = true from rfl, Bool.true_and]
  congr 1 <;> (rw [decide_eq_decide]; omega)
theorem TV (r : Range) : zL r := by
 unfold zL U.badR; rw [iI]; exact ⟨rfl, trivial⟩
theorem Yj (l : List Range) (h : l.length <= maxLen) : EL l := by
 unfold EL U.sN
 rw [maxLen_eq] at h
 simp only [cond_prop, bU, dB, U.at_, decide_eq_true_eq, decide_eq_false_iff_not, and_true, U.rP]
 have hd : decide (l.length <= 60) = decide ((l.length : Int) <= 60) := by rw [decide_eq_decide]; omega
 refine ⟨fun h6 => ⟨0, ⟨rfl, ⟨by omega, by omega⟩, rfl⟩, ?_⟩, fun h6 => ?_⟩
 ·rintro i ⟨⟨h0, h1⟩, h2⟩
  rw [hd, decide_eq_true h6, Bool.true_and]
  refine ⟨fun hi => ⟨h0, hi, fun hb => ?_, fun hb => ⟨i + 1, by rw [dI (x := i + 1) (by omega) (by omega)], ⟨⟨by omega, by omega⟩, ?_⟩, by omega⟩⟩, fun hi => ?_⟩
  ·rw [getD_at (by omega)] at hb
   rw [<- h2, drop_at h0 hi, List.any_cons, hb, decide_eq_true h0]; rfl
  ·rw [getD_at (by omega)] at hb
   rw [<- h2, drop_at h0 hi, List.any_cons, hb, Bool.false_or]
  ·rw [<- h2, drop_end (by omega)]; rfl
 ·rw [hd, decide_eq_false h6]; rfl
theorem adF (x : BitVec 64) : (x &&& ~~~(BitVec.ofInt 64 31)) = 0#64 ↔ x.toNat < 32 := by
 have h31 : ∀ i < 64, (~~~(BitVec.ofInt 64 31)).getLsbD i = decide (5 <= i) := by decide
 constructor
 ·intro h
  refine Nat.lt_pow_two_of_testBit (n := 5) _ fun i hi => ?_
  by_cases h64 : i < 64
  ·have := congrArg (fun y : BitVec 64 => y.getLsbD i) h
   simp only [BitVec.getLsbD_and, h31 i h64, decide_eq_true hi, Bool.and_true, BitVec.getLsbD_zero] at this
   exact this
  ·exact BitVec.getLsbD_of_ge x i (by omega)
 ·intro h
  apply BitVec.eq_of_getLsbD_eq
  intro i hi
  rw [BitVec.getLsbD_and, h31 i hi, BitVec.getLsbD_zero]
  by_cases h5 : 5 <= i
  ·have : x.toNat.testBit i = false := Nat.testBit_lt_two_pow (Nat.lt_of_lt_of_le h (Nat.pow_le_pow_right (n := 2) (by decide) h5))
   rw [show x.getLsbD i = x.toNat.testBit i from rfl, this]; rfl
  ·rw [decide_eq_false h5, Bool.and_false]
theorem ac6 {f : Int} (h : -9223372036854775808 <= f /\ f <= 9223372036854775807) : decide (YV .i64 f 31 = 0) = U.zq f := by
 unfold U.zq YV
 rw [Bool.eq_iff_iff, decide_eq_true_eq, Bool.and_eq_true, decide_eq_true_eq, decide_eq_true_eq]
 have hb := adF (BitVec.ofInt 64 f)
 have hn : (BitVec.ofInt 64 f).toNat = (f % 18446744073709551616).toNat := by rw [BitVec.toNat_ofInt]; rfl
 have hz : IntKind.i64.wrap (((BitVec.ofInt 64 f) &&& ~~~(BitVec.ofInt 64 31)).toNat : Int) = 0 ↔ ((BitVec.ofInt 64 f) &&& ~~~(BitVec.ofInt 64 31)) = 0#64 := by
  have hlt := ((BitVec.ofInt 64 f) &&& ~~~(BitVec.ofInt 64 31)).isLt
  rw [wrap_i64, <- BitVec.toNat_inj, show (0#64).toNat = 0 from rfl]; omega
 show IntKind.i64.wrap (((BitVec.ofInt 64 f) &&& ~~~(BitVec.ofInt 64 31)).toNat : Int) = 0 ↔ _
 rw [hz, hb, hn]; omega
theorem WS (f : Int) (h : -9223372036854775808 <= f /\ f <= 9223372036854775807) : Dh f := by
 unfold Dh
 exact ⟨ac6 h, trivial⟩
theorem WT (e : Event) (c : Int) (h1 : (U.bJ e).length <= 1000000000000) (h2 : (U.eTo e).length <= 1000000000000) : Di e c := by
 unfold Di U.good U.none_
 by_cases h : c = 98
 ·simp only [decide_eq_true h, cond_true]; exact ⟨h1, rfl, LX _, trivial⟩
 simp only [decide_eq_false h, cond_false]; clear h
 by_cases h : c = 116
 ·simp only [decide_eq_true h, cond_true]; exact ⟨h2, rfl, LX _, trivial⟩
 simp only [decide_eq_false h, cond_false]; clear h
 by_cases h : c = 105
 ·simp only [decide_eq_true h, cond_true]; exact ⟨rfl, OC _, trivial⟩
 simp only [decide_eq_false h, cond_false]; clear h
 by_cases h : c = 115
 ·simp only [decide_eq_true h, cond_true]; exact ⟨rfl, OC _, trivial⟩
 simp only [decide_eq_false h, cond_false]; clear h
 by_cases h : c = 109
 ·simp only [decide_eq_true h, cond_true]; exact ⟨rfl, rfl, trivial⟩
 simp only [decide_eq_false h, cond_false]; clear h
 by_cases h : c = 102
 ·simp only [decide_eq_true h, cond_true]; exact ⟨rfl, rfl, trivial⟩
 simp only [decide_eq_false h, cond_false]; clear h
 by_cases h : c = 100
 ·simp only [decide_eq_true h, cond_true]; exact ⟨rfl, rfl, trivial⟩
 simp only [decide_eq_false h, cond_false]; clear h
 by_cases h : c = 110
 ·simp only [decide_eq_true h, cond_true]; exact ⟨rfl, rfl, trivial⟩
 simp only [decide_eq_false h, cond_false]; clear h
 exact ⟨by rw [decide_eq_decide]; show ((U.dQ e).length : Int) <= 2000 ↔ _; omega, OC _, trivial⟩
theorem adG {α : Type} {l : List α} {f : α -> Bool} {i : Int} (h0 : 0 <= i) (hi : i < l.length) : (l.drop i.toNat).all f = (f l[i.toNat] && (l.drop (i + 1).toNat).all f) := by
 rw [drop_at h0 hi]; rfl
theorem TW (e : Event) (h1 : (U.bJ e).length <= 1000000000000) (h2 : (U.eTo e).length <= 1000000000000) : zM e := by
 unfold zM
 have hfold : U.bI e = (!(decide (U.parts e.1 = [])) && (U.within (U.eAt e) 1099511627776 && U.order.all (U.okC (U.parts e.1) e))) := rfl
 simp only [LX]
 simp only [cond_prop, iI, bU, dB, decide_eq_true_eq, decide_eq_false_iff_not, and_true, Bool.or_eq_true, Bool.or_eq_false_iff, Bool.not_eq_true', Bool.not_eq_false', U.jM]
 refine ⟨fun hb => ?_, fun hb => ⟨by omega, 0, ⟨rfl, by omega, by omega, hb.1, hb.2, rfl⟩, ?_⟩⟩
 ·rw [hfold]
  rcases hb with hb | hb
  ·rw [decide_eq_true hb]; rfl
  ·rw [show U.within (U.eAt e) 1099511627776 = false from hb, Bool.false_and, Bool.and_false]
 ·rintro i ⟨h0, h9, hp, hw, ha⟩
  have hR : U.bI e = U.order.all (U.okC (U.parts e.1) e) := by rw [hfold, decide_eq_false hp, hw]; rfl
  have hol : U.order.length = 9 := rfl
  refine ⟨fun hi => ?_, fun hi => ?_⟩
  ·have hg : U.order.getD i.toNat 0 = U.order[i.toNat]'(by omega) := getD_at (by omega)
   have hstep := adG (l := U.order) (f := U.okC (U.parts e.1) e) h0 (by omega)
   rw [ha] at hstep
   rw [hg, dI (x := i + 1) (by omega) (by omega)]
   have hnext : U.okC (U.parts e.1) e (U.order[i.toNat]'(by omega)) = true -> (U.order.drop (i + 1).toNat).all (U.okC (U.parts e.1) e) = U.order.all (U.okC (U.parts e.1) e) := fun h => by rw [hstep, h, Bool.true_and]
   refine ⟨h0, by show i < 9; omega, by omega, h1, h2, fun hc => ⟨fun hn => ?_, fun hn => ⟨i + 1, rfl, ⟨by omega, by omega, hp, hw, hnext ?_⟩, by omega⟩⟩, fun hc => ⟨fun hn => ?_, fun hn => ⟨i + 1, rfl, ⟨by omega, by omega, hp, hw, hnext ?_⟩, by omega⟩⟩⟩
   ·have : U.okC (U.parts e.1) e (U.order[i.toNat]'(by omega)) = false := by unfold U.okC; rw [decide_eq_true hc]; exact hn
    rw [hR, hstep, this]; rfl
   ·unfold U.okC; rw [decide_eq_true hc]; exact hn
   ·have : U.okC (U.parts e.1) e (U.order[i.toNat]'(by omega)) = false := by unfold U.okC; rw [decide_eq_false hc]; exact hn
    rw [hR, hstep, this]; rfl
   ·unfold U.okC; rw [decide_eq_false hc]; exact hn
  ·have : i = 9 := by omega
   subst this
   rw [hR, <- ha]; rfl
theorem WU (a b : Event) : Dj a b := by
 unfold Dj U.FN U.aV U.eAt U.bJ U.eTo U.aK U.aG U.eu U.dH U.eY U.eN U.dQ
 simp only [Y3, gQ, <- Bool.and_assoc]
 exact ⟨trivial, trivial⟩
theorem TY (e : Event) : zN e := by
 unfold zN U.great U.bJ U.eTo U.aK U.aG U.dQ
 simp only [iI, <- Bool.or_assoc]
 refine ⟨?_, trivial⟩
 have h5 : ∀ a : Nat, decide ((a : Int) > 500) = decide (a > 500) := fun a => by rw [decide_eq_decide]; omega
 have h2 : ∀ a : Nat, decide ((a : Int) > 200) = decide (a > 200) := fun a => by rw [decide_eq_decide]; omega
 have h50 : ∀ a : Nat, decide ((a : Int) > 5000) = decide (a > 5000) := fun a => by rw [decide_eq_decide]; omega
 rw [h5, h5, h2, h2, h50]
theorem Yk (b : List Int) (e : Event) (c : Int) (hb : b.length <= 100000000000) (h1 : (U.aK e).length <= 1000000000) (h2 : (U.aG e).length <= 1000000000) : EM b e c := by
 have hb' : b.length <= 1000000000000 := by omega
 have t1 : ∀ s : List Int, U.texts [s] = U.text1 s := fun s => by simp [U.texts]
 have n1 : ∀ n : Int, U.nums [n] = U.num1 n := fun n => by simp [U.nums]
 unfold EM U.jY
 by_cases h : c = 98
 ·simp only [decide_eq_true h, cond_true]; exact ⟨hb', by omega, congrArg (b ++ ·) (t1 _), trivial⟩
 simp only [decide_eq_false h, cond_false]; clear h
 by_cases h : c = 116
 ·simp only [decide_eq_true h, cond_true]; exact ⟨hb', by omega, congrArg (b ++ ·) (t1 _), trivial⟩
 simp only [decide_eq_false h, cond_false]; clear h
 by_cases h : c = 105
 ·simp only [decide_eq_true h, cond_true]
  refine ⟨hb', by omega, ?_, by show (U.aK e).length <= _; omega, ?_, trivial⟩
  ·show (b ++ U.nums [_]).length <= _; rw [n1, List.length_append, dS]; omega
  ·show (b ++ U.nums [_]) ++ U.nums (U.aK e) = b ++ _
   rw [n1, List.append_assoc]; rfl
 simp only [decide_eq_false h, cond_false]; clear h
 by_cases h : c = 115
 ·simp only [decide_eq_true h, cond_true, cond_prop, bU, dB, dW, decide_eq_true_eq, decide_eq_false_iff_not, and_true, U.nV, U.at_]
  refine ⟨hb', by omega, (_, 0), ⟨rfl, ⟨by show (0 : Int) <= 0; omega, by show (0 : Int) <= _; omega⟩, ?_⟩, ?_⟩
  ·show b ++ U.nums [((U.aG e).length : Int)] = b ++ (U.num1 (U.aG e).length ++ [])
   rw [n1, List.append_nil]
  ·rintro ⟨o, i⟩ ⟨⟨h0, hi1⟩, ho⟩
   simp only [] at *
   have hol : o.length <= b.length + 8 + 16 * (U.aG e).length := by
    rw [ho, List.length_append, List.length_append, dS, KA, List.length_take]
    have := Nat.mul_le_mul_left 16 (Nat.min_le_right i.toNat (U.aG e).length); omega
   refine ⟨fun hi => ⟨h0, hi, by omega, by omega, (_, i + 1), by rw [dI (x := i + 1) (by omega) (by omega)], ⟨⟨by show 0 <= i + 1; omega, by show i + 1 <= _; omega⟩, ?_⟩, by show (U.aG e).length - (i + 1).toNat < _; omega⟩, fun hi => ?_⟩
   ·show o ++ U.nums [((U.aG e).getD i.toNat (0, 0)).1, ((U.aG e).getD i.toNat (0, 0)).2] = _
    rw [ho, take_at h0 hi, aad, getD_at (by omega), List.append_assoc, List.append_assoc]
    simp [U.nums]
   ·rw [ho, jV (by omega)]
 simp only [decide_eq_false h, cond_false]; clear h
 by_cases h : c = 109
 ·simp only [decide_eq_true h, cond_true]; exact ⟨hb', by omega, congrArg (b ++ ·) (n1 _), trivial⟩
 simp only [decide_eq_false h, cond_false]; clear h
 by_cases h : c = 102
 ·simp only [decide_eq_true h, cond_true]; exact ⟨hb', by omega, congrArg (b ++ ·) (n1 _), trivial⟩
 simp only [decide_eq_false h, cond_false]; clear h
 by_cases h : c = 100
 ·simp only [decide_eq_true h, cond_true]; exact ⟨hb', by omega, congrArg (b ++ ·) (n1 _), trivial⟩
 simp only [decide_eq_false h, cond_false]; clear h
 by_cases h : c = 110
 ·simp only [decide_eq_true h, cond_true]; exact ⟨hb', by omega, congrArg (b ++ ·) (n1 _), trivial⟩
 simp only [decide_eq_false h, cond_false]; clear h
 exact ⟨hb', by omega, congrArg (b ++ ·) (t1 _), trivial⟩
theorem abh {e : Event} (h : U.bI e = true) : U.uf e = (U.nN e, 0) := by unfold U.uf; rw [h]; rfl
theorem abj {e : Event} (h : U.bI e = false) : U.uf e = ([], 1) := by unfold U.uf; rw [h]; rfl
theorem abk {f : Int -> List Int} (l : List Int) (c : Int) : (l ++ [c]).flatMap f = l.flatMap f ++ f c := by simp
theorem Rx (e : Event) (h1 : (U.bJ e).length <= 1000000000000) (h2 : (U.eTo e).length <= 1000000000000) : xH e := by
 unfold xH
 refine ⟨h1, h2, ?_⟩
 cases hr : U.bI e with
 | false => rw [abj hr]; exact ⟨rfl, rfl, trivial⟩
 | true =>
   have hk : U.aV e = e.1 := rfl
   rw [abh hr]
   simp only [Bool.not_true, cond_false, cond_prop, bU, dB, dW, decide_eq_true_eq, decide_eq_false_iff_not, and_true, U.lD, U.at_]
   refine ⟨by omega, by omega, (_, 0), ⟨rfl, ⟨by show (0 : Int) <= 0; omega, by show (0 : Int) <= _; omega⟩, hr, ?_⟩, ?_⟩
   ·show U.nums [e.1, e.2.1] = U.num1 (U.aV e) ++ (U.num1 (U.eAt e) ++ [])
    simp [U.nums]; rfl
   ·rintro ⟨o, i⟩ ⟨⟨h0, hi1⟩, _, ho⟩
    simp only [] at *
    refine ⟨fun hi => ?_, fun hi => ?_⟩
    ·have hm : (U.parts e.1)[i.toNat]'(by omega) ∈ U.parts (U.aV e) := List.getElem_mem _
     have QT : (U.aK e).length <= 60 := by
      by_cases h5 : 105 ∈ U.parts (U.aV e)
      ·exact (Ru (show U.vZ (U.aK e) = true from LW hr h5)).1.2
      ·have := ((((rU e).1 hr).2.2 105 (by decide)).2 h5)
       rw [of_decide_eq_true (show decide (U.aK e = []) = true from this)]; exact Nat.zero_le _
     have hset : (U.aG e).length <= 60 := by
      by_cases h5 : 115 ∈ U.parts (U.aV e)
      ·exact (Rt (show U.sN (U.aG e) = true from LW hr h5)).1
      ·have := ((((rU e).1 hr).2.2 115 (by decide)).2 h5)
       rw [of_decide_eq_true (show decide (U.aG e = []) = true from this)]; exact Nat.zero_le _
     have hpl : (U.parts e.1).length <= 4 := by
      have : ∀ p ∈ U.zo, p.length <= 4 := by decide
      exact this _ (D9 _)
     have hol : o.length <= 30000 := by
      rw [ho, List.length_append, List.length_append, dS, dS]
      have := OB (f := fun c => U.jY c e) (k := 5000) ((U.parts e.1).take i.toNat) fun c hc => Y2 ((ug _).2 c (List.mem_of_mem_take hc)) (LW hr (List.mem_of_mem_take hc))
      have h4 : ((U.parts e.1).take i.toNat).length <= 4 := by rw [List.length_take]; omega
      have := Nat.mul_le_mul_left 5000 h4
      omega
     refine ⟨h0, hi, by omega, by omega, by omega, by omega, (_, i + 1), by rw [dI (x := i + 1) (by omega) (by omega)], ⟨⟨by show 0 <= i + 1; omega, by show i + 1 <= _; omega⟩, hr, ?_⟩, by show (U.parts e.1).length - (i + 1).toNat < _; omega⟩
     show o ++ U.jY ((U.parts e.1).getD i.toNat 0) e = _
     rw [ho, take_at h0 hi, abk, getD_at (by omega), List.append_assoc, List.append_assoc]
    ·rw [ho, jV (by omega)]; rfl
theorem uh (r : U.RS) : ∃ k, (U.aj r).2.1 = r.1.drop k := by
 unfold U.aj
 cases decide (r.2 = 0) with
 | false => exact ⟨0, rfl⟩
 | true =>
   cases decide (r.1.length < 8) with
   | true => exact ⟨0, rfl⟩
   | false => cases decide (U.aO (r.1.take 8) > 4611686018427387904) <;> exact ⟨8, rfl⟩
theorem abl (r : U.RS) : (∃ k, (U.aI r).2.1 = r.1.drop k) /\ (U.aI r).1.length <= r.1.length := by
 unfold U.aI
 cases decide (r.2 = 0) with
 | false => exact ⟨⟨0, rfl⟩, Nat.zero_le _⟩
 | true =>
   cases decide (r.1.length < 4) with
   | true => exact ⟨⟨0, rfl⟩, Nat.zero_le _⟩
   | false =>
     cases decide (U.aO (r.1.take 4) > 4096) with
     | true => exact ⟨⟨4, rfl⟩, Nat.zero_le _⟩
     | false =>
       cases decide ((r.1.drop 4).length < (U.aO (r.1.take 4)).toNat) with
       | true => exact ⟨⟨4, rfl⟩, Nat.zero_le _⟩
       | false => exact ⟨⟨4 + (U.aO (r.1.take 4)).toNat, by rw [<- List.drop_drop]; rfl⟩, by show ((r.1.drop 4).take _).length <= _; rw [List.length_take, List.length_drop]; omega⟩
theorem Qq (m : Int) (r : U.RS) : ∃ k, (U.aC m r).2.1 = r.1.drop k := by
 unfold U.aC
 obtain ⟨k, h⟩ := uh r
 cases (decide ((U.aj r).2.2 = 0) && decide ((U.aj r).1 > m)) <;> exact ⟨k, h⟩
theorem uT {a b c : List Int} (h1 : ∃ k, b = a.drop k) (h2 : ∃ k, c = b.drop k) : ∃ k, c = a.drop k := by
 obtain ⟨i, rfl⟩ := h1
 obtain ⟨j, rfl⟩ := h2
 exact ⟨i + j, by rw [List.drop_drop]⟩
theorem KC : ∀ (n : Nat) (r : U.RS), ∃ k, (U.dM n r).2.1 = r.1.drop k
 | 0, r => ⟨0, rfl⟩
 | n + 1, r => uT (uh r) (KC n (U.aj r).2)
theorem FP : ∀ (n : Nat) (r : U.RS), ∃ k, (U.cO n r).2.1 = r.1.drop k
 | 0, r => ⟨0, rfl⟩
 | n + 1, r => uT (uh r) (uT (uh (U.aj r).2) (FP n (U.aj (U.aj r).2).2))
def okX (M : Nat) (x : U.RS × Event) : Prop := (∀ z ∈ x.1.1, Byte z) /\ x.1.1.length <= M /\ (U.bJ x.2).length <= M /\ (U.eTo x.2).length <= M
theorem oz {M : Nat} {x y : U.RS × Event} (h : okX M x) (hs : ∃ k, y.1.1 = x.1.1.drop k) (hb : (U.bJ y.2).length <= M) (ht : (U.eTo y.2).length <= M) : okX M y := by
 obtain ⟨k, hk⟩ := hs
 refine ⟨fun z hz => h.1 z (List.mem_of_mem_drop (by rw [<- hk]; exact hz)), ?_, hb, ht⟩
 rw [hk, List.length_drop]; have := h.2.1; omega
theorem WV {M : Nat} {x : U.RS × Event} (h : okX M x) (c : Int) : okX M (U.dR c x) := by
 have key : ∀ (b : Bool) (p q : U.RS × Event), okX M p -> okX M q -> okX M (cond b p q) := by intro b p q h1 h2; cases b <;> assumption
 have hN := uh x.1
 have hT := abl x.1
 have hl : (U.aI x.1).1.length <= M := Nat.le_trans hT.2 h.2.1
 unfold U.dR
 refine key _ _ _ (oz h hT.1 hl h.2.2.2) (key _ _ _ (oz h hT.1 h.2.2.1 hl) (key _ _ _ (oz h ?_ h.2.2.1 h.2.2.2) (key _ _ _ (oz h ?_ h.2.2.1 h.2.2.2) (key _ _ _ (oz h hN h.2.2.1 h.2.2.2) (key _ _ _ (oz h hN h.2.2.1 h.2.2.2) (key _ _ _ (oz h hN h.2.2.1 h.2.2.2) (key _ _ _ (oz h hN h.2.2.1 h.2.2.2) (key _ _ _ (oz h hT.1 h.2.2.1 h.2.2.2) h))))))))
 ·exact uT (Qq 60 x.1) (KC _ _)
 ·exact uT (Qq 60 x.1) (FP _ _)
theorem WW {M : Nat} : ∀ (p : List Int) {x : U.RS × Event}, okX M x -> okX M (Hg p x)
 | [], _, h => h
 | c :: p, _, h => WW p (WV h c)
theorem acf {b : List Int} (hb : ∀ z ∈ b, Byte z) : okX b.length (U.ED b) := by
 have h0 : okX b.length ((b, 0), (U.ED b).2) := ⟨hb, Nat.le_refl _, Nat.zero_le _, Nat.zero_le _⟩
 refine oz h0 ?_ (Nat.zero_le _) (Nat.zero_le _)
 have h2 : ∃ k, (U.aj (U.aj (b, 0)).2).2.1 = b.drop k := uT (uh (b, 0)) (uh (U.aj (b, 0)).2)
 have : ∀ (t : Bool) (r : U.RS), (U.fH t r).1 = r.1 := fun t r => by unfold U.fH; cases (decide (r.2 = 0) && t) <;> rfl
 show ∃ k, (U.fH _ _).1 = _
 rw [this]; exact h2
theorem KD {r : U.RS} (hb : ∀ z ∈ r.1, Byte z) : 0 <= (U.aC 60 r).1 /\ (U.aC 60 r).1 <= 60 := by
 unfold U.aC U.aj
 by_cases h0 : r.2 = 0
 ·by_cases h8 : r.1.length < 8
  ·simp [h0, h8]
  ·have hv := CX 8 (r.1.take 8) (by rw [List.length_take]; omega) (fun x hx => hb x (List.mem_of_mem_take hx))
   by_cases hg : U.aO (r.1.take 8) > 4611686018427387904
   ·simp [h0, h8, hg]
   ·by_cases h60 : U.aO (r.1.take 8) > 60
    ·simp [h0, h8, hg, h60]
    ·simp [h0, h8, hg, h60]; omega
 ·simp [h0]
theorem ac7 {b : List Int} (hf : U.kZ (U.oM b).1 = 0) (hr : U.bI (U.oM b).2 = true) : U.aZ b = ((U.oM b).2, 0) := by
 have h : U.EF b = 0 := by unfold U.EF; simp only [hf, hr]; rfl
 unfold U.aZ; rw [h]; rfl
theorem abm {b : List Int} (hf : U.kZ (U.oM b).1 = 0) (hr : U.bI (U.oM b).2 = false) : U.aZ b = (U.zeroE, 3) := by
 have h : U.EF b = 3 := by unfold U.EF; simp only [hf, hr]; rfl
 unfold U.aZ; rw [h]; rfl
theorem acg {b : List Int} (hf : U.kZ (U.oM b).1 ≠ 0) : U.aZ b = (U.zeroE, U.kZ (U.oM b).1) := by
 have h : U.EF b = U.kZ (U.oM b).1 := by unfold U.EF; simp only []; rw [decide_eq_false hf]; rfl
 unfold U.aZ; rw [h, decide_eq_false hf]; rfl
theorem Qr (n : Nat) (r : U.RS) : U.dM (n + 1) r = ((U.aj r).1 :: (U.dM n (U.aj r).2).1, (U.dM n (U.aj r).2).2) := rfl
theorem KE (n : Nat) (r : U.RS) : U.cO (n + 1) r = (((U.aj r).1, (U.aj (U.aj r).2).1) :: (U.cO n (U.aj (U.aj r).2).2).1, (U.cO n (U.aj (U.aj r).2).2).2) := rfl
theorem KF : ∀ (n : Nat) (r : U.RS), (U.dM n r).1.length = n
 | 0, _ => rfl
 | n + 1, r => by rw [Qr, List.length_cons, KF n]
theorem FQ : ∀ (n : Nat) (r : U.RS), (U.cO n r).1.length = n
 | 0, _ => rfl
 | n + 1, r => by rw [KE, List.length_cons, FQ n]
def Hl (n : Nat) (x : U.RS × Event) : Prop := (U.aK x.2).length <= n /\ (U.aG x.2).length <= n
theorem abn {M n : Nat} {x : U.RS × Event} (h : okX M x) (hc : Hl n x) (c : Int) : Hl (n + 60) (U.dR c x) := by
 have key : ∀ (b : Bool) (p q : U.RS × Event), Hl (n + 60) p -> Hl (n + 60) q -> Hl (n + 60) (cond b p q) := by intro b p q h1 h2; cases b <;> assumption
 have h1 := hc.1
 have h2 := hc.2
 have hb := KD (r := x.1) h.1
 have same : ∀ y : U.RS × Event, U.aK y.2 = U.aK x.2 -> U.aG y.2 = U.aG x.2 -> Hl (n + 60) y := fun y e1 e2 => ⟨by rw [e1]; omega, by rw [e2]; omega⟩
 unfold U.dR
 refine key _ _ _ (same _ rfl rfl) (key _ _ _ (same _ rfl rfl) (key _ _ _ ?_ (key _ _ _ ?_ (key _ _ _ (same _ rfl rfl) (key _ _ _ (same _ rfl rfl) (key _ _ _ (same _ rfl rfl) (key _ _ _ (same _ rfl rfl) (key _ _ _ (same _ rfl rfl) (same _ rfl rfl)))))))))
 ·refine ⟨?_, by show (U.aG x.2).length <= _; omega⟩
  show (U.aK x.2 ++ (U.dM (U.aC 60 x.1).1.toNat (U.aC 60 x.1).2).1).length <= _
  rw [List.length_append, KF]; omega
 ·refine ⟨by show (U.aK x.2).length <= _; omega, ?_⟩
  show (U.aG x.2 ++ (U.cO (U.aC 60 x.1).1.toNat (U.aC 60 x.1).2).1).length <= _
  rw [List.length_append, FQ]; omega
theorem SS {M : Nat} : ∀ (p : List Int) {n : Nat} {x : U.RS × Event}, okX M x -> Hl n x -> Hl (n + 60 * p.length) (Hg p x)
 | [], _, _, _, hc => hc
 | c :: p, n, x, h, hc => by
   have := SS p (WV h c) (abn h hc c)
   rw [show n + 60 + 60 * p.length = n + 60 * (c :: p).length by rw [List.length_cons]; omega] at this
   exact this
theorem Ry (b : List Int) (hb : ∀ z ∈ b, Valid (.int .u8) z) (hl : b.length <= 1000000000) : xI b := by
 have hbb := sJ hb
 unfold xI
 have hPM := D9 (U.aj (b, 0)).1
 have hP4 : (U.parts (U.aj (b, 0)).1).length <= 4 := by
  have : ∀ p ∈ U.zo, p.length <= 4 := by decide
  exact this _ hPM
 have hord := (ug (U.aj (b, 0)).1).2
 have hd0 : U.ED b = (U.fH ((U.parts (U.aj (b, 0)).1).beq []) (U.aj (U.aj (b, 0)).2).2, (U.aj (b, 0)).1, (U.aj (U.aj (b, 0)).2).1, [], [], [], [], 0, 0, 0, 0, []) := by rw [LX]; rfl
 have hd1 : U.oM b = Hg (U.parts (U.aj (b, 0)).1) (U.ED b) := rfl
 have hok0 := acf hbb
 obtain ⟨p, hP⟩ : ∃ p, U.parts (U.aj (b, 0)).1 = p := ⟨_, rfl⟩
 rw [hP] at hPM hP4 hord hd0 hd1 ⊢
 refine ⟨((U.ED b).1.1, (U.ED b).1.2, (U.ED b).2, 0), ⟨by rw [hd0]; simp only [U.aP, hP] <;> rfl, ⟨by show (0 : Int) <= 0; omega, by show (0 : Int) <= _; omega⟩, rfl⟩, ?_⟩
 rintro ⟨l, r, e, i⟩ ⟨⟨h0, h1⟩, hI⟩
 simp only [hP] at h0 h1 hI
 simp only []
 have hX : okX b.length ((l, r), e) := by rw [hI]; exact WW _ hok0
 have hcnt : Hl 240 ((l, r), e) := by
  have := SS (p.take i.toNat) hok0 (n := 0) ⟨Nat.zero_le _, Nat.zero_le _⟩
  have hle : (p.take i.toNat).length <= 4 := by rw [List.length_take]; omega
  rw [hI]
  exact ⟨Nat.le_trans this.1 (by omega), Nat.le_trans this.2 (by omega)⟩
 have hnext : (hi : i < p.length) -> ∀ z, z = U.dR p[i.toNat] ((l, r), e) -> U.bZ b z.1.1 z.1.2 z.2 (i + 1) := by
  intro hi z hz
  refine ⟨⟨by omega, by rw [hP]; omega⟩, ?_⟩
  show z = _
  rw [hz, hI, hP, take_at h0 hi, List.foldl_append]; rfl
 rw [cond_prop]
 refine ⟨fun hi => ?_, fun hi => ?_⟩
 ·have hi : i < p.length := of_decide_eq_true hi
  have hg : p.getD i.toNat 0 = p[i.toNat] := getD_at (by omega)
  have hmu : p.length.sub (i + 1).toNat < p.length.sub i.toNat := by simp only [dB]; omega
  rw [hg]
  have hw : IntKind.i64.wrap (i.add 1) = i + 1 := by rw [bU, dI] <;> omega
  rw [hw]
  have hn := hnext hi
  have hmo := Kw (hord p[i.toNat] (List.getElem_mem _))
  refine ⟨h0, hi, by omega, ?_⟩
  generalize p[i.toNat] = c at *
  rcases hmo with rfl | rfl | rfl | rfl | rfl | rfl | rfl | rfl | rfl
  ·exact ⟨((U.dR 98 ((l, r), e)).1.1, (U.dR 98 ((l, r), e)).1.2, (U.dR 98 ((l, r), e)).2, i + 1), by simp only [U.aP, hP] <;> rfl, hn _ rfl, hmu⟩
  ·exact ⟨((U.dR 116 ((l, r), e)).1.1, (U.dR 116 ((l, r), e)).1.2, (U.dR 116 ((l, r), e)).2, i + 1), by simp only [U.aP, hP] <;> rfl, hn _ rfl, hmu⟩
  ·show ∃ x0, _
   have hc := KD (r := (l, r)) hX.1
   refine ⟨((U.aC 60 (l, r)).2.1, (U.aC 60 (l, r)).2.2, e, p, (U.aC 60 (l, r)).1, 0), ⟨rfl, ?_⟩, ?_⟩
   ·exact ⟨rfl, rfl, by show (0 : Int) <= 0; omega, hc.1, hc.2, rfl, by show _ = _ + Int.toNat 0; rfl, rfl, by simp, by simp⟩
   ·rintro ⟨l1, r1, e1, p1, n1, j⟩ ⟨hn1, hp1, j0, j1, ach, _, hlen, he1, UW, UY⟩
    simp only [] at *
    subst hn1; subst hp1
    have j0 : 0 <= j := j0
    have j1 : j <= (U.aC 60 (l, r)).1 := j1
    rw [cond_prop]
    have aea : (U.aK e1).length <= (U.aK e).length + 60 := by omega
    have hide : (U.aK e).length <= 240 := hcnt.1
    refine ⟨fun hj => ?_, fun hj => ?_⟩
    ·have hj : j < _ := of_decide_eq_true hj
     have hwj : IntKind.i64.wrap (j.add 1) = j + 1 := by rw [bU, dI] <;> omega
     rw [hwj]
     have hst := Qr ((U.aC 60 (l, r)).1 - (j + 1)).toNat (l1, r1)
     rw [show ((U.aC 60 (l, r)).1 - (j + 1)).toNat + 1 = ((U.aC 60 (l, r)).1 - j).toNat by omega] at hst
     rw [hst] at UW UY
     refine ⟨by simp only [fC, jk]; omega, by simp only [fC, maxLen_eq]; omega, ((U.aj (l1, r1)).2.1, (U.aj (l1, r1)).2.2, (U.aV e1, U.eAt e1, U.bJ e1, U.eTo e1, U.aK e1 ++ [(U.aj (l1, r1)).1], U.aG e1, U.eu e1, U.dH e1, U.eY e1, U.eN e1, U.dQ e1), p1, (U.aC 60 (l, r)).1, j + 1), rfl, ⟨rfl, rfl, by show 0 <= j + 1; omega, by show j + 1 <= (U.aC 60 (l, r)).1; omega, ach, rfl, ?_, ?_, ?_, UY⟩, ?_⟩
     ·show (U.aK e1 ++ [_]).length = _ + (j + 1).toNat
      rw [List.length_append, hlen]; show _ + j.toNat + 1 = _; omega
     ·rw [he1]; rfl
     ·show U.aK e ++ _ = (U.aK e1 ++ [_]) ++ _
      rw [UW, List.append_assoc]; rfl
     ·show ((U.aC 60 (l, r)).1 - (j + 1)).toNat < ((U.aC 60 (l, r)).1 - j).toNat; omega
    ·have hj : ¬ j < _ := of_decide_eq_false hj
     have hjn : ((U.aC 60 (l, r)).1 - j).toNat = 0 := by omega
     rw [hjn] at UW UY
     have hz : ((l1, r1), e1) = U.dR 105 ((l, r), e) := by
      refine Prod.ext UY.symm ?_
      rw [he1]
      show (U.aV e, U.eAt e, U.bJ e, U.eTo e, U.aK e1, _) = (U.aV e, U.eAt e, U.bJ e, U.eTo e, U.aK e ++ (U.dM (U.aC 60 (l, r)).1.toNat (U.aC 60 (l, r)).2).1, _)
      have : U.aK e ++ (U.dM (U.aC 60 (l, r)).1.toNat (U.aC 60 (l, r)).2).1 = U.aK e1 := by
       have h2 : U.aK e ++ (U.dM (U.aC 60 (l, r)).1.toNat ((U.aC 60 (l, r)).2.1, (U.aC 60 (l, r)).2.2)).1 = U.aK e1 ++ [] := UW
       rw [List.append_nil] at h2; exact h2
      rw [this]
     exact ⟨(l1, r1, e1, i + 1), by simp only [U.aP, hP] <;> rfl, hn ((l1, r1), e1) hz, hmu⟩
  ·show ∃ x0, _
   have hc := KD (r := (l, r)) hX.1
   refine ⟨((U.aC 60 (l, r)).2.1, (U.aC 60 (l, r)).2.2, e, p, (U.aC 60 (l, r)).1, 0), ⟨rfl, ?_⟩, ?_⟩
   ·exact ⟨rfl, rfl, by show (0 : Int) <= 0; omega, hc.1, hc.2, rfl, by show _ = _ + Int.toNat 0; rfl, rfl, by simp, by simp⟩
   ·rintro ⟨l1, r1, e1, p1, n1, j⟩ ⟨hn1, hp1, j0, j1, ach, _, hlen, he1, UZ, U0⟩
    simp only [] at *
    subst hn1; subst hp1
    have j0 : 0 <= j := j0
    have j1 : j <= (U.aC 60 (l, r)).1 := j1
    rw [cond_prop]
    have aea : (U.aG e1).length <= (U.aG e).length + 60 := by omega
    have hide : (U.aG e).length <= 240 := hcnt.2
    refine ⟨fun hj => ?_, fun hj => ?_⟩
    ·have hj : j < _ := of_decide_eq_true hj
     have hwj : IntKind.i64.wrap (j.add 1) = j + 1 := by rw [bU, dI] <;> omega
     rw [hwj]
     have hst := KE ((U.aC 60 (l, r)).1 - (j + 1)).toNat (l1, r1)
     rw [show ((U.aC 60 (l, r)).1 - (j + 1)).toNat + 1 = ((U.aC 60 (l, r)).1 - j).toNat by omega] at hst
     rw [hst] at UZ U0
     refine ⟨by simp only [fC, jk]; omega, by simp only [fC, maxLen_eq]; omega, ((U.aj (U.aj (l1, r1)).2).2.1, (U.aj (U.aj (l1, r1)).2).2.2, (U.aV e1, U.eAt e1, U.bJ e1, U.eTo e1, U.aK e1, U.aG e1 ++ [((U.aj (l1, r1)).1, (U.aj (U.aj (l1, r1)).2).1)], U.eu e1, U.dH e1, U.eY e1, U.eN e1, U.dQ e1), p1, (U.aC 60 (l, r)).1, j + 1), rfl, ⟨rfl, rfl, by show 0 <= j + 1; omega, by show j + 1 <= (U.aC 60 (l, r)).1; omega, ach, rfl, ?_, ?_, ?_, U0⟩, ?_⟩
     ·show (U.aG e1 ++ [_]).length = _ + (j + 1).toNat
      rw [List.length_append, hlen]; show _ + j.toNat + 1 = _; omega
     ·rw [he1]; rfl
     ·show U.aG e ++ _ = (U.aG e1 ++ [_]) ++ _
      rw [UZ, List.append_assoc]; rfl
     ·show ((U.aC 60 (l, r)).1 - (j + 1)).toNat < ((U.aC 60 (l, r)).1 - j).toNat; omega
    ·have hj : ¬ j < _ := of_decide_eq_false hj
     have hjn : ((U.aC 60 (l, r)).1 - j).toNat = 0 := by omega
     rw [hjn] at UZ U0
     have hz : ((l1, r1), e1) = U.dR 115 ((l, r), e) := by
      refine Prod.ext U0.symm ?_
      rw [he1]
      show (U.aV e, U.eAt e, U.bJ e, U.eTo e, U.aK e, U.aG e1, _) = (U.aV e, U.eAt e, U.bJ e, U.eTo e, U.aK e, U.aG e ++ (U.cO (U.aC 60 (l, r)).1.toNat (U.aC 60 (l, r)).2).1, _)
      have : U.aG e ++ (U.cO (U.aC 60 (l, r)).1.toNat (U.aC 60 (l, r)).2).1 = U.aG e1 := by
       have h2 : U.aG e ++ (U.cO (U.aC 60 (l, r)).1.toNat ((U.aC 60 (l, r)).2.1, (U.aC 60 (l, r)).2.2)).1 = U.aG e1 ++ [] := UZ
       rw [List.append_nil] at h2; exact h2
      rw [this]
     exact ⟨(l1, r1, e1, i + 1), by simp only [U.aP, hP] <;> rfl, hn ((l1, r1), e1) hz, hmu⟩
  ·exact ⟨((U.dR 109 ((l, r), e)).1.1, (U.dR 109 ((l, r), e)).1.2, (U.dR 109 ((l, r), e)).2, i + 1), by simp only [U.aP, hP] <;> rfl, hn _ rfl, hmu⟩
  ·exact ⟨((U.dR 102 ((l, r), e)).1.1, (U.dR 102 ((l, r), e)).1.2, (U.dR 102 ((l, r), e)).2, i + 1), by simp only [U.aP, hP] <;> rfl, hn _ rfl, hmu⟩
  ·exact ⟨((U.dR 100 ((l, r), e)).1.1, (U.dR 100 ((l, r), e)).1.2, (U.dR 100 ((l, r), e)).2, i + 1), by simp only [U.aP, hP] <;> rfl, hn _ rfl, hmu⟩
  ·exact ⟨((U.dR 110 ((l, r), e)).1.1, (U.dR 110 ((l, r), e)).1.2, (U.dR 110 ((l, r), e)).2, i + 1), by simp only [U.aP, hP] <;> rfl, hn _ rfl, hmu⟩
  ·exact ⟨((U.dR 121 ((l, r), e)).1.1, (U.dR 121 ((l, r), e)).1.2, (U.dR 121 ((l, r), e)).2, i + 1), by simp only [U.aP, hP] <;> rfl, hn _ rfl, hmu⟩
 ·have hi : ¬ i < p.length := of_decide_eq_false hi
  rw [jV (by omega)] at hI
  have hD : U.oM b = ((l, r), e) := hd1.trans hI.symm
  have hev : ∀ x : Event, (x.1, x.2.1, x.2.2.1, x.2.2.2.1, U.aK x, U.aG x, x.2.2.2.2.2.2) = x := fun _ => rfl
  rw [hev e]
  have h3 : ((3 : Int) != 0) = true := rfl
  rw [h3]
  refine ⟨fun _ => by have : (U.bJ e).length <= b.length := hX.2.2.1; show (U.bJ e).length <= 1000000000000; omega, fun _ => by have : (U.eTo e).length <= b.length := hX.2.2.2; show (U.eTo e).length <= 1000000000000; omega, ?_⟩
  by_cases hf : U.kZ (l, r) = 0
  ·have hf1 : U.kZ (U.oM b).1 = 0 := by rw [hD]; exact hf
   rw [decide_eq_true hf]
   cases hr : U.bI e with
   | false =>
     have := abm hf1 (by rw [hD]; exact hr)
     rw [this]
     exact ⟨rfl, rfl, rfl, rfl, rfl, rfl, rfl, rfl, rfl, rfl, rfl, rfl, trivial⟩
   | true =>
     have := ac7 hf1 (by rw [hD]; exact hr)
     rw [this, hD, hf]
     exact ⟨rfl, rfl, rfl, rfl, rfl, rfl, rfl, rfl, rfl, rfl, rfl, rfl, trivial⟩
  ·have hf1 : U.kZ (U.oM b).1 ≠ 0 := by rw [hD]; exact hf
   have := acg hf1
   rw [this, hD, decide_eq_false hf, bne_iff_ne.2 hf]
   exact ⟨rfl, rfl, rfl, rfl, rfl, rfl, rfl, rfl, rfl, rfl, rfl, rfl, trivial⟩
theorem NR {α : Type} (f : α -> Bool) (g : α -> List Int) : ∀ l : List α, l.flatMap (fun c => cond (f c) (g c) []) = (l.filter f).flatMap g
 | [] => rfl
 | x :: l => by
   rw [List.flatMap_cons, NR f g l, List.filter_cons]
   cases f x <;> simp
theorem Yl (k : Int) : U.order.filter (fun c => decide (aH (U.parts k) c >= 0)) = U.parts k := by
 have : ∀ p ∈ U.zo, U.order.filter (fun c => decide (aH p c >= 0)) = p := by decide
 exact this _ (D9 k)
theorem aci (e : Event) : U.aac 9 e = U.nN e := by
 unfold U.aac
 rw [Y0]
 have : (U.order.take 9).flatMap (U.WJ (U.parts (U.aV e)) e) = (U.parts (U.aV e)).flatMap fun c => U.jY c e := by
  conv => rhs; rw [<- Yl]
  exact NR (fun c => decide (aH (U.parts (U.aV e)) c >= 0)) (fun c => U.jY c e) U.order
 rw [this]
end Go.Proofs.YtkhdeldobekciaaDoor
set_option linter.unusedSimpArgs false
set_option maxRecDepth 100000
set_option linter.unusedVariables false
namespace Go.Proofs.YtkhdeldobekciaaDoor
open Go.Vc
theorem Ym (x : aQ [kY, kY]) : bY Tryd.prog (bC yg) (NC x.1 x.2) 18 (bV [kY, kY] x) [] (EG x.1 x.2) = Dc x.1 x.2 := by kernel_rfl
theorem Yn : Pok 18 [kY, kY] (fun x => EG x.1 x.2) := by
 refine pk (L := fun x => NC x.1 x.2) (l := yg) J6 (fun _ => rfl) ?_
 intro x hv hp
 rw [Ym]
 exact WQ x.1 x.2 hv.1.2
theorem Yo : bH Tryd.prog gl 18 Nz := Yn
theorem KG : bn yh := .cons Yo J6
theorem Yp (x : aQ [jL, jL]) : bY Tryd.prog (bC yh) (NG x.1 x.2) 19 (bV [jL, jL] x) [] (EH x.1 x.2) = Df x.1 x.2 := by kernel_rfl
theorem Yq : Pok 19 [jL, jL] (fun x => EH x.1 x.2) := by
 refine pk (L := fun x => NG x.1 x.2) (l := yh) KG (fun _ => rfl) ?_
 intro x hv hp
 rw [Yp]
 exact WR x.1 x.2 hv.1.2
theorem Yr : bH Tryd.prog gl 19 ND := Yq
theorem KH : bn yj := .cons Yr KG
theorem Ua (x : aQ [.int .i64, .int .i64]) : bY Tryd.prog (bC yj) (Ig x.1 x.2) 43 (bV [.int .i64, .int .i64] x) [] (zJ x.1 x.2) = xG x.1 x.2 := by kernel_rfl
theorem Ub : Pok 43 [.int .i64, .int .i64] (fun x => zJ x.1 x.2) := by
 refine pk (L := fun x => Ig x.1 x.2) (l := yj) KH (fun _ => rfl) ?_
 intro x hv hp
 rw [Ua]
 exact Rw x.1 x.2
theorem Uc : bH Tryd.prog gl 43 Ie := Ub
theorem FT : bn sQ := .cons Uc KH
theorem WX (x : aQ [.int .i64]) : bY Tryd.prog (bC sQ) (J8 x) 26 (bV [.int .i64] x) [] (CY x) = zK x := by kernel_rfl
theorem WY : Pok 26 [.int .i64] (fun x => CY x) := by
 refine pk (L := fun x => J8 x) (l := sQ) FT (fun _ => rfl) ?_
 intro x hv hp
 rw [WX]
 exact TU x
theorem WZ : bH Tryd.prog gl 26 J7 := WY
theorem Io : bn wu := .cons WZ FT
theorem aae (x : aQ [kY]) : bY Tryd.prog (bC wu) (Qk x) 58 (bV [kY] x) [] (He x) = EK x := by kernel_rfl
theorem aaf : Pok 58 [kY] (fun x => He x) := by
 refine pk (L := fun x => Qk x) (l := wu) Io (fun _ => rfl) ?_
 intro x hv hp
 rw [aae]
 exact Yi x hv.2
theorem aag : bH Tryd.prog gl 58 Qj := aaf
theorem NS : bn AO := .cons aag Io
theorem W9 (x : aQ [lC]) : bY Tryd.prog (bC AO) (Ko x) 70 (bV [lC] x) [] (CZ x) = zL x := by kernel_rfl
theorem Xa : Pok 70 [lC] (fun x => CZ x) := by
 refine pk (L := fun x => Ko x) (l := AO) NS (fun _ => rfl) ?_
 intro x hv hp
 rw [W9]
 exact TV x
theorem Xb : bH Tryd.prog gl 70 J9 := Xa
theorem Ip : bn wz := .cons Xb NS
theorem aah (x : aQ [jL]) : bY Tryd.prog (bC wz) (Qm x) 59 (bV [jL] x) [] (Hf x) = EL x := by kernel_rfl
theorem aai : Pok 59 [jL] (fun x => Hf x) := by
 refine pk (L := fun x => Qm x) (l := wz) Ip (fun _ => rfl) ?_
 intro x hv hp
 rw [aah]
 exact Yj x hv.2
theorem aaj : bH Tryd.prog gl 59 Ql := aai
theorem NT : bn AP := .cons aaj Ip
theorem Yt (x : aQ [.int .i64]) : bY Tryd.prog (bC AP) (NI x) 60 (bV [.int .i64] x) [] (EI x) = Dh x := by kernel_rfl
theorem Yu : Pok 60 [.int .i64] (fun x => EI x) := by
 refine pk (L := fun x => NI x) (l := AP) NT (fun _ => rfl) ?_
 intro x hv hp
 rw [Yt]
 exact WS x (T.ad6 hv)
theorem Yv : bH Tryd.prog gl 60 NH := Yu
theorem KI : bn yt := .cons Yv NT
theorem Yw (x : aQ [bQ, .int .u8]) : bY Tryd.prog (bC yt) (NK x.1 x.2) 44 (bV [bQ, .int .u8] x) [] (rQ x.1 x.2) = Di x.1 x.2 := by kernel_rfl
theorem Yx : Pok 44 [bQ, .int .u8] (fun x => rQ x.1 x.2) := by
 refine pk (L := fun x => NK x.1 x.2) (l := yt) KI (fun _ => rfl) ?_
 intro x hv hp
 rw [Yw]
 exact WT x.1 x.2 (hp (List.length (U.bJ x.1) <= 1000000000000) (by simp [rQ])) (hp (List.length (U.eTo x.1) <= 1000000000000) (by simp [rQ]))
theorem Yy : bH Tryd.prog gl 44 NJ := Yx
theorem KJ : bn yu := .cons Yy KI
theorem Xc (x : aQ [bQ]) : bY Tryd.prog (bC yu) (Kr x) 25 (bV [bQ] x) [] (qh x) = zM x := by kernel_rfl
theorem Xd : Pok 25 [bQ] (fun x => qh x) := by
 refine pk (L := fun x => Kr x) (l := yu) KJ (fun _ => rfl) ?_
 intro x hv hp
 rw [Xc]
 exact TW x (hp (List.length (U.bJ x) <= 1000000000000) (by simp [qh])) (hp (List.length (U.eTo x) <= 1000000000000) (by simp [qh]))
theorem Xe : bH Tryd.prog gl 25 Kq := Xd
theorem Iq : bn wB := .cons Xe KJ
theorem aak (x : aQ [aN, bQ, .int .u8]) : bY Tryd.prog (bC wB) (Qo x.1 x.2.1 x.2.2) 27 (bV [aN, bQ, .int .u8] x) [] (qN x.1 x.2.1 x.2.2) = EM x.1 x.2.1 x.2.2 := by kernel_rfl
theorem aal : Pok 27 [aN, bQ, .int .u8] (fun x => qN x.1 x.2.1 x.2.2) := by
 refine pk (L := fun x => Qo x.1 x.2.1 x.2.2) (l := wB) Iq (fun _ => rfl) ?_
 intro x hv hp
 rw [aak]
 exact Yk x.1 x.2.1 x.2.2 (hp (List.length x.1 <= 100000000000) (by simp [qN])) (hp (List.length (U.aK x.2.1) <= 1000000000) (by simp [qN])) (hp (List.length (U.aG x.2.1) <= 1000000000) (by simp [qN]))
theorem aam : bH Tryd.prog gl 27 Qn := aal
theorem NU : bn AQ := .cons aam Iq
theorem Ud (x : aQ [bQ]) : bY Tryd.prog (bC AQ) (Ii x) 12 (bV [bQ] x) [] (nX x) = xH x := by kernel_rfl
theorem Ue : Pok 12 [bQ] (fun x => nX x) := by
 refine pk (L := fun x => Ii x) (l := AQ) NU (fun _ => rfl) ?_
 intro x hv hp
 rw [Ud]
 exact Rx x (hp (List.length (U.bJ x) <= 1000000000000) (by simp [nX])) (hp (List.length (U.eTo x) <= 1000000000000) (by simp [nX]))
theorem Uf : bH Tryd.prog gl 12 Ih := Ue
theorem FU : bn sU := .cons Uf NU
theorem Ug (x : aQ [aN]) : bY Tryd.prog (bC sU) (Ik x) 36 (bV [aN] x) [] (sV x) = xI x := by kernel_rfl
theorem Uh : Pok 36 [aN] (fun x => sV x) := by
 refine pk (L := fun x => Ik x) (l := sU) FU (fun _ => rfl) ?_
 intro x hv hp
 rw [Ug]
 exact Ry x hv.1 (hp (List.length x <= 1000000000) (by simp [sV]))
theorem Ui : bH Tryd.prog gl 36 Ij := Uh
theorem FV : bn sW := .cons Ui FU
theorem Yz (x : aQ [bQ, bQ]) : bY Tryd.prog (bC sW) (NP x.1 x.2) 9 (bV [bQ, bQ] x) [] (EJ x.1 x.2) = Dj x.1 x.2 := by kernel_rfl
theorem YA : Pok 9 [bQ, bQ] (fun x => EJ x.1 x.2) := by
 refine pk (L := fun x => NP x.1 x.2) (l := sW) FV (fun _ => rfl) ?_
 intro x hv hp
 rw [Yz]
 exact WU x.1 x.2
theorem YB : bH Tryd.prog gl 9 NM := YA
theorem KL : bn yw := .cons YB FV
theorem Xf (x : aQ [bQ]) : bY Tryd.prog (bC yw) (Ku x) 6 (bV [bQ] x) [] (C9 x) = zN x := by kernel_rfl
theorem Xg : Pok 6 [bQ] (fun x => C9 x) := by
 refine pk (L := fun x => Ku x) (l := yw) KL (fun _ => rfl) ?_
 intro x hv hp
 rw [Xf]
 exact TY x
theorem Xh : bH Tryd.prog gl 6 Kt := Xg
theorem Ir : bn wC := .cons Xh KL
end Go.Proofs.YtkhdeldobekciaaDoor
