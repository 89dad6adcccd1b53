/- What is owed of the functions, proved in plain Lean. -/
import Derived.Test.YtllmhikoaklpbaaDoorF
import Derived.Test.YtllmhikoaklpbaaDoorD
set_option linter.unusedSimpArgs false
set_option linter.unusedVariables false
set_option maxRecDepth 100000
namespace Go.Proofs.YtllmhikoaklpbaaDoor
open Go.Vc
open Go.Vc.T
theorem beN_snoc (k : Nat) (n : Int) : U.beN (k + 1) n = U.beN k (n / 256) ++ [n % 256] := by
  unfold U.beN
  rw [List.range_succ, List.map_append, List.map_singleton]
  congr 1
  · apply List.map_congr_left
    intro j hj
    rw [List.mem_range] at hj
    rw [show 8 * (k + 1 - 1 - j) = 8 + 8 * (k - 1 - j) by omega, Int.pow_add, Int.ediv_ediv_of_nonneg (by decide)]; rfl
  · rw [show k + 1 - 1 - k = 0 by omega]; simp
theorem valB_beN : ∀ (k : Nat) (n : Int), 0 ≤ n → n < 256 ^ k → U.valB (U.beN k n) = n
  | 0, n, h0, h1 => by
    have : n = 0 := by rw [Int.pow_zero] at h1; omega
    subst this; rw [List.length_eq_zero_iff.1 (beN_len 0 0)]; rfl
  | k + 1, n, h0, h1 => by
    rw [beN_snoc, valB_app, valB_beN k (n / 256) (by omega) ?_]
    · omega
    · rw [Int.pow_succ] at h1
      exact Int.ediv_lt_of_lt_mul (by omega) h1
theorem beN_valB : ∀ (n : Nat) (l : List Int), l.length = n → (∀ x ∈ l, Byte x) → U.beN n (U.valB l) = l
  | 0, l, h, _ => by
    obtain rfl := List.length_eq_zero_iff.1 h
    exact List.length_eq_zero_iff.1 (beN_len 0 _)
  | n + 1, l, h, hb => by
    obtain ⟨a, x, rfl, ha⟩ := snoc_of h
    have ih := beN_valB n a ha fun y hy => hb y (List.mem_append_left _ hy)
    have hx := hb x (by simp)
    have hx0 : 0 ≤ x := hx.1
    have hx1 : x ≤ 255 := by have := hx.2; omega
    rw [valB_app, beN_snoc, show (U.valB a * 256 + x) / 256 = U.valB a by omega, show (U.valB a * 256 + x) % 256 = x by omega, ih]
theorem clamp_id {n : Int} (h0 : 0 ≤ n) (h1 : n ≤ 4611686018427387904) : U.clamp n = n := by unfold U.clamp minI maxI; rw [if_neg (by omega)]; rw [if_neg (by omega)]
theorem rNum_num1 {n : Int} (rest : List Int) (h0 : 0 ≤ n) (h1 : n ≤ 4611686018427387904) : U.rNum (U.num1 n ++ rest, 0) = (n, rest, 0) := by
  have ht : (U.num1 n ++ rest).take 8 = U.num1 n := by rw [← num1_len n, List.take_left]
  have hd : (U.num1 n ++ rest).drop 8 = rest := by rw [← num1_len n, List.drop_left]
  have hv : U.valB (U.num1 n) = n := by unfold U.num1; rw [clamp_id h0 h1]; exact valB_beN 8 n h0 (by omega)
  unfold U.rNum
  simp only [ht, hd, hv]
  rw [show decide ((U.num1 n ++ rest).length < 8) = false by rw [decide_eq_false_iff_not, List.length_append, num1_len]; omega, decide_eq_false (by omega : ¬ n > 4611686018427387904)]
  rfl
theorem rNum_ok {l l' : List Int} {v : Int} (hb : ∀ x ∈ l, Byte x) (h : U.rNum (l, 0) = (v, l', 0)) : l = U.num1 v ++ l' ∧ 0 ≤ v ∧ v ≤ 4611686018427387904 := by
  unfold U.rNum at h
  simp only [decide_true, cond_true] at h
  by_cases h8 : l.length < 8
  · rw [decide_eq_true h8] at h; simp at h
  · rw [decide_eq_false h8] at h
    simp only [cond_false] at h
    by_cases hv : U.valB (l.take 8) > 4611686018427387904
    · rw [decide_eq_true hv] at h; simp at h
    · rw [decide_eq_false hv] at h
      simp only [cond_false, Prod.mk.injEq, and_true] at h
      obtain ⟨rfl, rfl⟩ := h
      have hl : (l.take 8).length = 8 := by rw [List.length_take]; omega
      have hbt : ∀ x ∈ l.take 8, Byte x := fun x hx => hb x (List.mem_of_mem_take hx)
      have h0 := (valB_low 8 _ hl hbt).1
      refine ⟨?_, h0, by omega⟩
      unfold U.num1
      rw [clamp_id h0 (by omega), beN_valB 8 _ hl hbt, List.take_append_drop]
theorem rNum_short {l : List Int} (h : l.length < 8) : U.rNum (l, 0) = (0, l, 2) := by
  unfold U.rNum; simp only [decide_true, cond_true, decide_eq_true h]
theorem two_ne : (2 : Int) ≠ 0 := by decide
theorem rNum_err {r : U.RS} (h : r.2 ≠ 0) : U.rNum r = (0, r) := by
  unfold U.rNum; rw [decide_eq_false h]; rfl
theorem text1_eq {s : List Int} (h : s.length ≤ 4096) : U.text1 s = U.beN 4 s.length ++ s := by
  unfold U.text1 minI; rw [if_neg (by omega), List.take_of_length_le h]
theorem rText_text1 {s : List Int} (rest : List Int) (h : s.length ≤ 4096) : U.rText (U.text1 s ++ rest, 0) = (s, rest, 0) := by
  rw [text1_eq h, List.append_assoc]
  have ht : (U.beN 4 s.length ++ (s ++ rest)).take 4 = U.beN 4 s.length := List.take_left' (beN_len 4 _)
  have hd : (U.beN 4 s.length ++ (s ++ rest)).drop 4 = s ++ rest := List.drop_left' (beN_len 4 _)
  have hv : U.valB (U.beN 4 s.length) = s.length := valB_beN 4 _ (by omega) (by omega)
  unfold U.rText
  simp only [ht, hd, hv, Int.toNat_natCast]
  rw [show decide ((U.beN 4 s.length ++ (s ++ rest)).length < 4) = false by rw [decide_eq_false_iff_not, List.length_append, beN_len]; omega, decide_eq_false (by omega : ¬ (s.length : Int) > 4096), show decide ((s ++ rest).length < s.length) = false by rw [decide_eq_false_iff_not, List.length_append]; omega]
  rw [List.take_left, List.drop_left]; rfl
theorem rText_ok {l l' s : List Int} (hb : ∀ x ∈ l, Byte x) (h : U.rText (l, 0) = (s, l', 0)) : l = U.text1 s ++ l' ∧ s.length ≤ 4096 := by
  unfold U.rText at h
  simp only [decide_true, cond_true] at h
  by_cases h4 : l.length < 4
  · rw [decide_eq_true h4] at h; simp at h
  · rw [decide_eq_false h4] at h
    simp only [cond_false] at h
    by_cases hv : U.valB (l.take 4) > 4096
    · rw [decide_eq_true hv] at h; simp at h
    · rw [decide_eq_false hv] at h
      simp only [cond_false] at h
      by_cases hd : (l.drop 4).length < (U.valB (l.take 4)).toNat
      · rw [decide_eq_true hd] at h; simp at h
      · rw [decide_eq_false hd] at h
        simp only [cond_false, Prod.mk.injEq, and_true] at h
        obtain ⟨rfl, rfl⟩ := h
        have hl : (l.take 4).length = 4 := by rw [List.length_take]; omega
        have hbt : ∀ x ∈ l.take 4, Byte x := fun x hx => hb x (List.mem_of_mem_take hx)
        have h0 := (valB_low 4 _ hl hbt).1
        have hsl : ((l.drop 4).take (U.valB (l.take 4)).toNat).length = (U.valB (l.take 4)).toNat := by rw [List.length_take]; omega
        refine ⟨?_, by omega⟩
        rw [text1_eq (by omega), hsl, show (((U.valB (l.take 4)).toNat : Nat) : Int) = U.valB (l.take 4) by omega, beN_valB 4 _ hl hbt, List.append_assoc, List.take_append_drop, List.take_append_drop]
theorem rText_err {r : U.RS} (h : r.2 ≠ 0) : U.rText r = ([], r) := by
  unfold U.rText; rw [decide_eq_false h]; rfl
theorem rText_cut {s : List Int} {k : Nat} (h : s.length ≤ 4096) (hk : k < (U.text1 s).length) : (U.rText ((U.text1 s).take k, 0)).2.2 = 2 := by
  rw [text1_eq h] at *
  rw [List.length_append, beN_len] at hk
  unfold U.rText
  simp only [decide_true, cond_true]
  by_cases h4 : k < 4
  · rw [decide_eq_true (by rw [List.length_take]; omega : ((U.beN 4 s.length ++ s).take k).length < 4)]; rfl
  · have ht : ((U.beN 4 s.length ++ s).take k).take 4 = U.beN 4 s.length := by
      rw [List.take_take, Nat.min_eq_left (by omega)]
      exact List.take_left' (beN_len 4 _)
    have hd : (((U.beN 4 s.length ++ s).take k).drop 4).length = k - 4 := by rw [List.length_drop, List.length_take, List.length_append, beN_len]; omega
    have hv : U.valB (U.beN 4 s.length) = s.length := valB_beN 4 _ (by omega) (by omega)
    rw [decide_eq_false (by rw [List.length_take, List.length_append, beN_len]; omega : ¬ ((U.beN 4 s.length ++ s).take k).length < 4)]
    simp only [ht, hd, hv, Int.toNat_natCast, cond_false]
    rw [decide_eq_false (by omega : ¬ (s.length : Int) > 4096), decide_eq_true (by omega : k - 4 < s.length)]; rfl
theorem rCount_num1 {n m : Int} (rest : List Int) (h0 : 0 ≤ n) (h1 : n ≤ m) (hm : m ≤ 4611686018427387904) : U.rCount m (U.num1 n ++ rest, 0) = (n, rest, 0) := by
  unfold U.rCount
  rw [rNum_num1 rest h0 (by omega)]
  simp only [decide_true, Bool.true_and]
  rw [decide_eq_false (by omega : ¬ n > m)]; rfl
theorem rCount_ok {l l' : List Int} {v m : Int} (hb : ∀ x ∈ l, Byte x) (h : U.rCount m (l, 0) = (v, l', 0)) : l = U.num1 v ++ l' ∧ 0 ≤ v ∧ v ≤ m ∧ v ≤ 4611686018427387904 := by
  unfold U.rCount at h
  cases hc : (decide ((U.rNum (l, 0)).2.2 = 0) && decide ((U.rNum (l, 0)).1 > m)) with
  | true => rw [hc] at h; simp at h
  | false =>
    rw [hc] at h
    simp only [cond_false] at h
    rw [h] at hc
    simp only [decide_true, Bool.true_and, decide_eq_false_iff_not] at hc
    obtain ⟨a, b, c⟩ := rNum_ok hb h
    exact ⟨a, b, by omega, c⟩
theorem rCount_short {l : List Int} {m : Int} (h : l.length < 8) : U.rCount m (l, 0) = (0, l, 2) := by
  unfold U.rCount; rw [rNum_short h]; rfl
theorem rCount_err {r : U.RS} {m : Int} (h : r.2 ≠ 0) : U.rCount m r = (0, r) := by
  unfold U.rCount; rw [rNum_err h]
  simp only []
  rw [decide_eq_false h]; rfl
theorem readNums_err : ∀ (n : Nat) {r : U.RS}, r.2 ≠ 0 → (U.readNums n r).2 = r
  | 0, _, _ => rfl
  | n + 1, r, h => by
    show (U.readNums n (U.rNum r).2).2 = r
    rw [rNum_err h]; exact readNums_err n h
theorem readNums_nums (rest : List Int) : ∀ l : List Int, (∀ x ∈ l, 0 ≤ x ∧ x ≤ 4611686018427387904) → U.readNums l.length (U.nums l ++ rest, 0) = (l, rest, 0)
  | [], _ => rfl
  | x :: l, h => by
    have hx := h x (by simp)
    have ih := readNums_nums rest l fun y hy => h y (List.mem_cons_of_mem _ hy)
    rw [nums_c, List.append_assoc, List.length_cons]
    show ((U.rNum _).1 :: (U.readNums l.length (U.rNum _).2).1, (U.readNums l.length (U.rNum _).2).2) = _
    rw [rNum_num1 _ hx.1 hx.2, ih]
theorem readNums_ok : ∀ (n : Nat) {l l' ids : List Int}, (∀ x ∈ l, Byte x) → U.readNums n (l, 0) = (ids, l', 0) → l = U.nums ids ++ l' ∧ ids.length = n
  | 0, l, l', ids, _, h => by
    unfold U.readNums at h
    simp only [Prod.mk.injEq, and_true] at h
    obtain ⟨rfl, rfl⟩ := h; exact ⟨rfl, rfl⟩
  | n + 1, l, l', ids, hb, h => by
    have h : ((U.rNum (l, 0)).1 :: (U.readNums n (U.rNum (l, 0)).2).1, (U.readNums n (U.rNum (l, 0)).2).2) = (ids, l', 0) := h
    by_cases he : (U.rNum (l, 0)).2.2 = 0
    · obtain ⟨v, m, e⟩ : ∃ v m, U.rNum (l, 0) = (v, m, 0) := ⟨_, _, Prod.ext rfl (Prod.ext rfl he)⟩
      obtain ⟨h1, _, _⟩ := rNum_ok hb e
      rw [e] at h
      simp only [Prod.mk.injEq] at h
      have hb' : ∀ x ∈ m, Byte x := fun x hx => hb x (by rw [h1]; exact List.mem_append_right _ hx)
      obtain ⟨h2, h3⟩ := readNums_ok n (ids := (U.readNums n (m, 0)).1) (l' := l') hb' (by rw [← h.2])
      rw [← h.1, nums_c, List.append_assoc, ← h2, List.length_cons, h3]; exact ⟨h1, rfl⟩
    · simp only [Prod.mk.injEq] at h
      rw [readNums_err n he] at h
      rw [h.2] at he; exact absurd rfl he
theorem take_over {a b : List Int} {k : Nat} (h : a.length ≤ k) : (a ++ b).take k = a ++ b.take (k - a.length) := by
  rw [List.take_append, List.take_of_length_le h]
theorem take_in {a b : List Int} {k : Nat} (h : k ≤ a.length) : (a ++ b).take k = a.take k := List.take_append_of_le_length h
theorem readNums_cut : ∀ (l : List Int) (k : Nat), (∀ x ∈ l, 0 ≤ x ∧ x ≤ 4611686018427387904) → k < (U.nums l).length → (U.readNums l.length ((U.nums l).take k, 0)).2.2 = 2
  | [], k, _, hk => by simp [U.nums] at hk
  | x :: l, k, h, hk => by
    have hx := h x (by simp)
    rw [nums_c] at *
    rw [List.length_append, num1_len] at hk
    show (U.readNums l.length (U.rNum ((U.num1 x ++ U.nums l).take k, 0)).2).2.2 = 2
    by_cases h8 : k < 8
    · rw [rNum_short (by rw [List.length_take]; omega), readNums_err _ (r := (_, 2)) two_ne]
    · rw [take_over (by rw [num1_len]; omega), rNum_num1 _ hx.1 hx.2, num1_len]
      exact readNums_cut l (k - 8) (fun y hy => h y (List.mem_cons_of_mem _ hy)) (by omega)
theorem pairs_c (x : Range) (l : List Range) : U.pairs (x :: l) = U.num1 x.1 ++ (U.num1 x.2 ++ U.pairs l) := by simp [U.pairs]
theorem readRanges_err : ∀ (n : Nat) {r : U.RS}, r.2 ≠ 0 → (U.readRanges n r).2 = r
  | 0, _, _ => rfl
  | n + 1, r, h => by
    show (U.readRanges n (U.rNum (U.rNum r).2).2).2 = r
    rw [rNum_err h]; simp only []; rw [rNum_err h]; exact readRanges_err n h
theorem readRanges_pairs (rest : List Int) : ∀ l : List Range, (∀ x ∈ l, (0 ≤ x.1 ∧ x.1 ≤ 4611686018427387904) ∧ 0 ≤ x.2 ∧ x.2 ≤ 4611686018427387904) → U.readRanges l.length (U.pairs l ++ rest, 0) = (l, rest, 0)
  | [], _ => rfl
  | x :: l, h => by
    have hx := h x (by simp)
    have ih := readRanges_pairs rest l fun y hy => h y (List.mem_cons_of_mem _ hy)
    rw [pairs_c, List.append_assoc, List.append_assoc, List.length_cons]
    show (((U.rNum _).1, (U.rNum (U.rNum _).2).1) :: (U.readRanges l.length (U.rNum (U.rNum _).2).2).1, (U.readRanges l.length (U.rNum (U.rNum _).2).2).2) = _
    rw [rNum_num1 _ hx.1.1 hx.1.2]; simp only []
    rw [rNum_num1 _ hx.2.1 hx.2.2]; simp only []
    rw [ih]
theorem readRanges_ok : ∀ (n : Nat) {l l' : List Int} {ids : List Range}, (∀ x ∈ l, Byte x) → U.readRanges n (l, 0) = (ids, l', 0) → l = U.pairs ids ++ l' ∧ ids.length = n
  | 0, l, l', ids, _, h => by
    unfold U.readRanges at h
    simp only [Prod.mk.injEq, and_true] at h
    obtain ⟨rfl, rfl⟩ := h; exact ⟨rfl, rfl⟩
  | n + 1, l, l', ids, hb, h => by
    have h : (((U.rNum (l, 0)).1, (U.rNum (U.rNum (l, 0)).2).1) :: (U.readRanges n (U.rNum (U.rNum (l, 0)).2).2).1, (U.readRanges n (U.rNum (U.rNum (l, 0)).2).2).2) = (ids, l', 0) := h
    by_cases he : (U.rNum (l, 0)).2.2 = 0
    · obtain ⟨v, m, e⟩ : ∃ v m, U.rNum (l, 0) = (v, m, 0) := ⟨_, _, Prod.ext rfl (Prod.ext rfl he)⟩
      obtain ⟨h1, _, _⟩ := rNum_ok hb e
      rw [e] at h
      simp only [] at h
      have hb' : ∀ x ∈ m, Byte x := fun x hx => hb x (by rw [h1]; exact List.mem_append_right _ hx)
      by_cases he2 : (U.rNum (m, 0)).2.2 = 0
      · obtain ⟨v2, m2, e2⟩ : ∃ v m', U.rNum (m, 0) = (v, m', 0) := ⟨_, _, Prod.ext rfl (Prod.ext rfl he2)⟩
        obtain ⟨h12, _, _⟩ := rNum_ok hb' e2
        rw [e2] at h
        simp only [Prod.mk.injEq] at h
        have hb2 : ∀ x ∈ m2, Byte x := fun x hx => hb' x (by rw [h12]; exact List.mem_append_right _ hx)
        obtain ⟨h2, h3⟩ := readRanges_ok n (ids := (U.readRanges n (m2, 0)).1) (l' := l') hb2 (by rw [← h.2])
        rw [← h.1, pairs_c, List.append_assoc, List.append_assoc, ← h2, List.length_cons, h3, ← h12]; exact ⟨h1, rfl⟩
      · simp only [Prod.mk.injEq] at h
        rw [readRanges_err n he2] at h
        rw [h.2] at he2; exact absurd rfl he2
    · have h2 := (Prod.mk.inj h).2
      rw [rNum_err he] at h2
      have h2 : (U.readRanges n (U.rNum (l, 0)).2).2 = (l', 0) := h2
      rw [readRanges_err n he] at h2
      rw [h2] at he; exact absurd rfl he
theorem readRanges_cut : ∀ (l : List Range) (k : Nat), (∀ x ∈ l, (0 ≤ x.1 ∧ x.1 ≤ 4611686018427387904) ∧ 0 ≤ x.2 ∧ x.2 ≤ 4611686018427387904) → k < (U.pairs l).length → (U.readRanges l.length ((U.pairs l).take k, 0)).2.2 = 2
  | [], k, _, hk => by simp [U.pairs] at hk
  | x :: l, k, h, hk => by
    have hx := h x (by simp)
    rw [pairs_c] at *
    rw [List.length_append, List.length_append, num1_len, num1_len] at hk
    show (U.readRanges l.length (U.rNum (U.rNum ((U.num1 x.1 ++ (U.num1 x.2 ++ U.pairs l)).take k, 0)).2).2).2.2 = 2
    by_cases h8 : k < 8
    · rw [rNum_short (by rw [List.length_take]; omega)]; simp only []
      rw [rNum_err (r := (_, 2)) two_ne]; simp only []
      rw [readRanges_err _ (r := (_, 2)) two_ne]
    · rw [take_over (by rw [num1_len]; omega), rNum_num1 _ hx.1.1 hx.1.2, num1_len]; simp only []
      by_cases h16 : k - 8 < 8
      · rw [rNum_short (by rw [List.length_take]; omega)]; simp only []
        rw [readRanges_err _ (r := (_, 2)) two_ne]
      · rw [take_over (by rw [num1_len]; omega), rNum_num1 _ hx.2.1 hx.2.2, num1_len]
        exact readRanges_cut l (k - 8 - 8) (fun y hy => h y (List.mem_cons_of_mem _ hy)) (by omega)
def setC (c : Int) (ev e : Event) : Event :=
  (U.eKind ev, U.eAt ev, cond (decide (c = 98)) (U.eBox e) (U.eBox ev), cond (decide (c = 116)) (U.eTo e) (U.eTo ev), cond (decide (c = 105)) (U.eIDs e) (U.eIDs ev), cond (decide (c = 115)) (U.eSet e) (U.eSet ev), cond (decide (c = 109)) (U.eMode e) (U.eMode ev), cond (decide (c = 102)) (U.eFlags e) (U.eFlags ev), cond (decide (c = 100)) (U.eDate e) (U.eDate ev), cond (decide (c = 110)) (U.eN e) (U.eN ev), cond (decide (c = 121)) (U.eBody e) (U.eBody ev))
theorem rise_low : ∀ (l : List Int) (p : Int), 0 ≤ p → U.rise p l = true → ∀ x ∈ l, 0 ≤ x ∧ x ≤ 4611686018427387904
  | [], _, _, _, x, hx => by cases hx
  | y :: r, p, hp, h, x, hx => by
    unfold U.rise at h
    simp only [Bool.and_eq_true, decide_eq_true_eq] at h
    rcases List.mem_cons.1 hx with rfl | hx
    · omega
    · exact rise_low r y (by omega) h.2 x hx
theorem set_low {l : List Range} (h : U.setOk l = true) : l.length ≤ 60 ∧ ∀ x ∈ l, (0 ≤ x.1 ∧ x.1 ≤ 4611686018427387904) ∧ 0 ≤ x.2 ∧ x.2 ≤ 4611686018427387904 := by
  unfold U.setOk at h
  simp only [Bool.and_eq_true, decide_eq_true_eq, Bool.not_eq_true', List.any_eq_false] at h
  refine ⟨h.1, fun x hx => ?_⟩
  have := h.2 x hx
  unfold U.badR U.within at this
  simp only [Bool.or_eq_true, Bool.not_eq_true', Bool.and_eq_false_iff, decide_eq_false_iff_not, not_or] at this
  omega
theorem mem_order {c : Int} (h : c ∈ U.order) : c = 98 ∨ c = 116 ∨ c = 105 ∨ c = 115 ∨ c = 109 ∨ c = 102 ∨ c = 100 ∨ c = 110 ∨ c = 121 := by
  simpa [U.order] using h
theorem readC_err1 {c : Int} {x : U.RS × Event} (h : x.1.2 ≠ 0) : (U.readC c x).1 = x.1 := by
  have key : ∀ (b : Bool) (p q : U.RS × Event), p.1 = x.1 → q.1 = x.1 → (cond b p q).1 = x.1 := by intro b p q h1 h2; cases b <;> assumption
  unfold U.readC
  rw [rText_err h, rNum_err h, rCount_err h]
  repeat' (first | rfl | apply key)
theorem readC_err {c : Int} {x : U.RS × Event} (h : x.1.2 ≠ 0) : (U.readC c x).1.2 = x.1.2 := by
  have key : ∀ (b : Bool) (p q : U.RS × Event), p.1 = x.1 → q.1 = x.1 → (cond b p q).1 = x.1 := by intro b p q h1 h2; cases b <;> assumption
  unfold U.readC
  rw [rText_err h, rNum_err h, rCount_err h]
  refine congrArg Prod.snd (?_ : _ = x.1)
  repeat' (first | rfl | apply key)
theorem right_len {s : List Int} (h : U.rightN s = true) : s.length ≤ 4096 := by have := formed_len (right_formed h); omega
theorem within_iff {n m : Int} : U.within n m = true ↔ 0 ≤ n ∧ n ≤ m := by unfold U.within; simp only [Bool.and_eq_true, decide_eq_true_eq, ge_iff_le]
theorem ids_low {l : List Int} (h : U.idsOk l = true) : (1 ≤ l.length ∧ l.length ≤ 60) ∧ ∀ x ∈ l, 0 ≤ x ∧ x ≤ 4611686018427387904 := by
  unfold U.idsOk at h
  simp only [Bool.and_eq_true, decide_eq_true_eq] at h
  exact ⟨h.2, rise_low l 0 (by omega) h.1⟩
theorem readC_lay {c : Int} (hc : c ∈ U.order) {e ev : Event} (hg : U.good c e = true) (h1 : c = 105 → U.eIDs ev = []) (h2 : c = 115 → U.eSet ev = []) (rest : List Int) : U.readC c ((U.lay1 c e ++ rest, 0), ev) = ((rest, 0), setC c ev e) := by
  rcases mem_order hc with rfl | rfl | rfl | rfl | rfl | rfl | rfl | rfl | rfl
  · show ((U.rText (U.text1 (U.eBox e) ++ rest, 0)).2, _) = _
    have hr : U.rText (U.text1 (U.eBox e) ++ rest, 0) = _ := rText_text1 rest (right_len hg)
    show ((U.rText (U.text1 (U.eBox e) ++ rest, 0)).2, U.eKind ev, U.eAt ev, (U.rText (U.text1 (U.eBox e) ++ rest, 0)).1, _) = _
    rw [hr]; rfl
  · have hr : U.rText (U.text1 (U.eTo e) ++ rest, 0) = _ := rText_text1 rest (right_len hg)
    show ((U.rText (U.text1 (U.eTo e) ++ rest, 0)).2, U.eKind ev, U.eAt ev, U.eBox ev, (U.rText (U.text1 (U.eTo e) ++ rest, 0)).1, _) = _
    rw [hr]; rfl
  · obtain ⟨⟨_, h60⟩, hl⟩ := ids_low (show U.idsOk (U.eIDs e) = true from hg)
    have hr : U.rCount 60 ((U.num1 (U.eIDs e).length ++ U.nums (U.eIDs e)) ++ rest, 0) = (((U.eIDs e).length : Int), U.nums (U.eIDs e) ++ rest, 0) := by rw [List.append_assoc]; exact rCount_num1 _ (by omega) (by omega) (by omega)
    show ((U.readNums (U.rCount 60 ((U.num1 (U.eIDs e).length ++ U.nums (U.eIDs e)) ++ rest, 0)).1.toNat (U.rCount 60 ((U.num1 (U.eIDs e).length ++ U.nums (U.eIDs e)) ++ rest, 0)).2).2, U.eKind ev, U.eAt ev, U.eBox ev, U.eTo ev, U.eIDs ev ++ (U.readNums (U.rCount 60 ((U.num1 (U.eIDs e).length ++ U.nums (U.eIDs e)) ++ rest, 0)).1.toNat (U.rCount 60 ((U.num1 (U.eIDs e).length ++ U.nums (U.eIDs e)) ++ rest, 0)).2).1, _) = _
    rw [hr]; simp only [Int.toNat_natCast]
    rw [readNums_nums rest _ hl, h1 rfl]; rfl
  · obtain ⟨h60, hl⟩ := set_low (show U.setOk (U.eSet e) = true from hg)
    have hr : U.rCount 60 ((U.num1 (U.eSet e).length ++ U.pairs (U.eSet e)) ++ rest, 0) = (((U.eSet e).length : Int), U.pairs (U.eSet e) ++ rest, 0) := by rw [List.append_assoc]; exact rCount_num1 _ (by omega) (by omega) (by omega)
    show ((U.readRanges (U.rCount 60 ((U.num1 (U.eSet e).length ++ U.pairs (U.eSet e)) ++ rest, 0)).1.toNat (U.rCount 60 ((U.num1 (U.eSet e).length ++ U.pairs (U.eSet e)) ++ rest, 0)).2).2, U.eKind ev, U.eAt ev, U.eBox ev, U.eTo ev, U.eIDs ev, U.eSet ev ++ (U.readRanges (U.rCount 60 ((U.num1 (U.eSet e).length ++ U.pairs (U.eSet e)) ++ rest, 0)).1.toNat (U.rCount 60 ((U.num1 (U.eSet e).length ++ U.pairs (U.eSet e)) ++ rest, 0)).2).1, _) = _
    rw [hr]; simp only [Int.toNat_natCast]
    rw [readRanges_pairs rest _ hl, h2 rfl]; rfl
  · have hw := within_iff.1 (show U.within (U.eMode e) 2 = true from hg)
    have hr : U.rNum (U.num1 (U.eMode e) ++ rest, 0) = _ := rNum_num1 rest hw.1 (by omega)
    show ((U.rNum (U.num1 (U.eMode e) ++ rest, 0)).2, U.eKind ev, U.eAt ev, U.eBox ev, U.eTo ev, U.eIDs ev, U.eSet ev, (U.rNum (U.num1 (U.eMode e) ++ rest, 0)).1, _) = _
    rw [hr]; rfl
  · have hw := (show U.fRight (U.eFlags e) = true from hg)
    unfold U.fRight at hw
    simp only [Bool.and_eq_true, decide_eq_true_eq] at hw
    have hr : U.rNum (U.num1 (U.eFlags e) ++ rest, 0) = _ := rNum_num1 rest hw.1 (by omega)
    show ((U.rNum (U.num1 (U.eFlags e) ++ rest, 0)).2, U.eKind ev, U.eAt ev, U.eBox ev, U.eTo ev, U.eIDs ev, U.eSet ev, U.eMode ev, (U.rNum (U.num1 (U.eFlags e) ++ rest, 0)).1, _) = _
    rw [hr]; rfl
  · have hw := within_iff.1 (show U.within (U.eDate e) 1099511627776 = true from hg)
    have hr : U.rNum (U.num1 (U.eDate e) ++ rest, 0) = _ := rNum_num1 rest hw.1 (by omega)
    show ((U.rNum (U.num1 (U.eDate e) ++ rest, 0)).2, U.eKind ev, U.eAt ev, U.eBox ev, U.eTo ev, U.eIDs ev, U.eSet ev, U.eMode ev, U.eFlags ev, (U.rNum (U.num1 (U.eDate e) ++ rest, 0)).1, _) = _
    rw [hr]; rfl
  · have hw := within_iff.1 (show U.within (U.eN e) 1099511627776 = true from hg)
    have hr : U.rNum (U.num1 (U.eN e) ++ rest, 0) = _ := rNum_num1 rest hw.1 (by omega)
    show ((U.rNum (U.num1 (U.eN e) ++ rest, 0)).2, U.eKind ev, U.eAt ev, U.eBox ev, U.eTo ev, U.eIDs ev, U.eSet ev, U.eMode ev, U.eFlags ev, U.eDate ev, (U.rNum (U.num1 (U.eN e) ++ rest, 0)).1, _) = _
    rw [hr]; rfl
  · have hb : (U.eBody e).length ≤ 2000 := of_decide_eq_true (show decide ((U.eBody e).length ≤ 2000) = true from hg)
    have hr : U.rText (U.text1 (U.eBody e) ++ rest, 0) = _ := rText_text1 rest (by omega)
    show ((U.rText (U.text1 (U.eBody e) ++ rest, 0)).2, U.eKind ev, U.eAt ev, U.eBox ev, U.eTo ev, U.eIDs ev, U.eSet ev, U.eMode ev, U.eFlags ev, U.eDate ev, U.eN ev, (U.rText (U.text1 (U.eBody e) ++ rest, 0)).1) = _
    rw [hr]; rfl
theorem readC_cut {c : Int} (hc : c ∈ U.order) {e ev : Event} (hg : U.good c e = true) {k : Nat} (hk : k < (U.lay1 c e).length) : (U.readC c (((U.lay1 c e).take k, 0), ev)).1.2 = 2 := by
  have one : ∀ n : Int, k < (U.num1 n).length → (U.rNum ((U.num1 n).take k, 0)).2.2 = 2 := fun n h => by
    rw [rNum_short (by rw [List.length_take, num1_len]; rw [num1_len] at h; omega)]
  rcases mem_order hc with rfl | rfl | rfl | rfl | rfl | rfl | rfl | rfl | rfl
  · exact rText_cut (right_len hg) hk
  · exact rText_cut (right_len hg) hk
  · obtain ⟨⟨_, h60⟩, hl⟩ := ids_low (show U.idsOk (U.eIDs e) = true from hg)
    have hk : k < (U.num1 (U.eIDs e).length ++ U.nums (U.eIDs e)).length := hk
    rw [List.length_append, num1_len] at hk
    show (U.readNums (U.rCount 60 ((U.num1 (U.eIDs e).length ++ U.nums (U.eIDs e)).take k, 0)).1.toNat (U.rCount 60 ((U.num1 (U.eIDs e).length ++ U.nums (U.eIDs e)).take k, 0)).2).2.2 = 2
    by_cases h8 : k < 8
    · rw [rCount_short (by rw [List.length_take]; omega)]; rfl
    · rw [take_over (by rw [num1_len]; omega), rCount_num1 _ (by omega) (by omega) (by omega), num1_len]
      simp only [Int.toNat_natCast]
      exact readNums_cut _ _ hl (by omega)
  · obtain ⟨h60, hl⟩ := set_low (show U.setOk (U.eSet e) = true from hg)
    have hk : k < (U.num1 (U.eSet e).length ++ U.pairs (U.eSet e)).length := hk
    rw [List.length_append, num1_len] at hk
    show (U.readRanges (U.rCount 60 ((U.num1 (U.eSet e).length ++ U.pairs (U.eSet e)).take k, 0)).1.toNat (U.rCount 60 ((U.num1 (U.eSet e).length ++ U.pairs (U.eSet e)).take k, 0)).2).2.2 = 2
    by_cases h8 : k < 8
    · rw [rCount_short (by rw [List.length_take]; omega)]; rfl
    · rw [take_over (by rw [num1_len]; omega), rCount_num1 _ (by omega) (by omega) (by omega), num1_len]
      simp only [Int.toNat_natCast]
      exact readRanges_cut _ _ hl (by omega)
  · exact one _ hk
  · exact one _ hk
  · exact one _ hk
  · exact one _ hk
  · exact rText_cut (by have : (U.eBody e).length ≤ 2000 := of_decide_eq_true (show decide ((U.eBody e).length ≤ 2000) = true from hg); omega) hk
theorem readC_ok {c : Int} (hc : c ∈ U.order) {l l' : List Int} {ev ev' : Event} (hb : ∀ x ∈ l, Byte x) (h1 : c = 105 → U.eIDs ev = []) (h2 : c = 115 → U.eSet ev = []) (h : U.readC c ((l, 0), ev) = ((l', 0), ev')) : l = U.lay1 c ev' ++ l' ∧ ev' = setC c ev ev' := by
  have txt : ∀ {s m : List Int}, (U.rText (l, 0)).2 = (m, 0) → (U.rText (l, 0)).1 = s → l = U.text1 s ++ m := fun h1 h2 => (rText_ok hb (Prod.ext h2 h1)).1
  have num : ∀ {s : Int} {m : List Int}, (U.rNum (l, 0)).2 = (m, 0) → (U.rNum (l, 0)).1 = s → l = U.num1 s ++ m := fun h1 h2 => (rNum_ok hb (Prod.ext h2 h1)).1
  have e1 := congrArg Prod.fst h
  have e2 := congrArg Prod.snd h
  rcases mem_order hc with rfl | rfl | rfl | rfl | rfl | rfl | rfl | rfl | rfl
  · subst e2; exact ⟨txt e1 rfl, rfl⟩
  · subst e2; exact ⟨txt e1 rfl, rfl⟩
  · have e1 : (U.readNums (U.rCount 60 (l, 0)).1.toNat (U.rCount 60 (l, 0)).2).2 = (l', 0) := e1
    by_cases he : (U.rCount 60 (l, 0)).2.2 = 0
    · obtain ⟨v, m, hv⟩ : ∃ v m, U.rCount 60 (l, 0) = (v, m, 0) := ⟨_, _, Prod.ext rfl (Prod.ext rfl he)⟩
      obtain ⟨a1, a2, a3, _⟩ := rCount_ok hb hv
      rw [hv] at e1
      have hb' : ∀ x ∈ m, Byte x := fun x hx => hb x (by rw [a1]; exact List.mem_append_right _ hx)
      obtain ⟨b1, b2⟩ := readNums_ok v.toNat (ids := (U.readNums v.toNat (m, 0)).1) (l' := l') hb' (Prod.ext rfl e1)
      have e2 : (U.eKind ev, U.eAt ev, U.eBox ev, U.eTo ev, U.eIDs ev ++ (U.readNums (U.rCount 60 (l, 0)).1.toNat (U.rCount 60 (l, 0)).2).1, U.eSet ev, U.eMode ev, U.eFlags ev, U.eDate ev, U.eN ev, U.eBody ev) = ev' := e2
      rw [hv, h1 rfl, List.nil_append] at e2
      subst e2
      refine ⟨?_, rfl⟩
      show l = (U.num1 ((U.readNums v.toNat (m, 0)).1.length : Int) ++ U.nums (U.readNums v.toNat (m, 0)).1) ++ l'
      rw [b2, show ((v.toNat : Nat) : Int) = v by omega, List.append_assoc, ← b1]; exact a1
    · rw [readNums_err _ he] at e1
      rw [e1] at he; exact absurd rfl he
  · have e1 : (U.readRanges (U.rCount 60 (l, 0)).1.toNat (U.rCount 60 (l, 0)).2).2 = (l', 0) := e1
    by_cases he : (U.rCount 60 (l, 0)).2.2 = 0
    · obtain ⟨v, m, hv⟩ : ∃ v m, U.rCount 60 (l, 0) = (v, m, 0) := ⟨_, _, Prod.ext rfl (Prod.ext rfl he)⟩
      obtain ⟨a1, a2, a3, _⟩ := rCount_ok hb hv
      rw [hv] at e1
      have hb' : ∀ x ∈ m, Byte x := fun x hx => hb x (by rw [a1]; exact List.mem_append_right _ hx)
      obtain ⟨b1, b2⟩ := readRanges_ok v.toNat (ids := (U.readRanges v.toNat (m, 0)).1) (l' := l') hb' (Prod.ext rfl e1)
      have e2 : (U.eKind ev, U.eAt ev, U.eBox ev, U.eTo ev, U.eIDs ev, U.eSet ev ++ (U.readRanges (U.rCount 60 (l, 0)).1.toNat (U.rCount 60 (l, 0)).2).1, U.eMode ev, U.eFlags ev, U.eDate ev, U.eN ev, U.eBody ev) = ev' := e2
      rw [hv, h2 rfl, List.nil_append] at e2
      subst e2
      refine ⟨?_, rfl⟩
      show l = (U.num1 ((U.readRanges v.toNat (m, 0)).1.length : Int) ++ U.pairs (U.readRanges v.toNat (m, 0)).1) ++ l'
      rw [b2, show ((v.toNat : Nat) : Int) = v by omega, List.append_assoc, ← b1]; exact a1
    · rw [readRanges_err _ he] at e1
      rw [e1] at he; exact absurd rfl he
  · subst e2; exact ⟨num e1 rfl, rfl⟩
  · subst e2; exact ⟨num e1 rfl, rfl⟩
  · subst e2; exact ⟨num e1 rfl, rfl⟩
  · subst e2; exact ⟨num e1 rfl, rfl⟩
  · subst e2; exact ⟨txt e1 rfl, rfl⟩
def foldC (p : List Int) (x : U.RS × Event) : U.RS × Event := p.foldl (fun x c => U.readC c x) x
theorem foldC_c (c : Int) (p : List Int) (x : U.RS × Event) : foldC (c :: p) x = foldC p (U.readC c x) := rfl
theorem fold_err : ∀ (p : List Int) {x : U.RS × Event}, x.1.2 ≠ 0 → (foldC p x).1.2 = x.1.2
  | [], _, _ => rfl
  | c :: p, x, h => by
    have := readC_err (c := c) h
    rw [foldC_c, fold_err p (by rw [this]; exact h), this]
theorem ids_setC {c : Int} {ev e : Event} (h : c ≠ 105) : U.eIDs (setC c ev e) = U.eIDs ev := by
  show cond (decide (c = 105)) _ _ = _; rw [decide_eq_false h]; rfl
theorem set_setC {c : Int} {ev e : Event} (h : c ≠ 115) : U.eSet (setC c ev e) = U.eSet ev := by
  show cond (decide (c = 115)) _ _ = _; rw [decide_eq_false h]; rfl
def allC (p : List Int) (e ev : Event) : Event := p.foldl (fun ev c => setC c ev e) ev
theorem fold_lay (e : Event) (rest : List Int) : ∀ (p : List Int) {ev : Event}, p.Nodup → (∀ c ∈ p, c ∈ U.order ∧ U.good c e = true) → (105 ∈ p → U.eIDs ev = []) → (115 ∈ p → U.eSet ev = []) → foldC p ((p.flatMap (fun c => U.lay1 c e) ++ rest, 0), ev) = ((rest, 0), allC p e ev)
  | [], _, _, _, _, _ => rfl
  | c :: p, ev, hn, hp, h1, h2 => by
    rw [List.nodup_cons] at hn
    rw [foldC_c, List.flatMap_cons, List.append_assoc, readC_lay (hp c (by simp)).1 (hp c (by simp)).2 (fun h => h1 (by simp [h])) (fun h => h2 (by simp [h]))]
    rw [fold_lay e rest p hn.2 (fun d hd => hp d (List.mem_cons_of_mem _ hd)) (fun h => ?_) (fun h => ?_)]; rfl
    · rw [ids_setC (c := c) (fun hc => hn.1 (by rw [hc]; exact h))]; exact h1 (List.mem_cons_of_mem _ h)
    · rw [set_setC (c := c) (fun hc => hn.1 (by rw [hc]; exact h))]; exact h2 (List.mem_cons_of_mem _ h)
theorem fold_cut (e : Event) : ∀ (p : List Int) {ev : Event} {k : Nat}, p.Nodup → (∀ c ∈ p, c ∈ U.order ∧ U.good c e = true) → (105 ∈ p → U.eIDs ev = []) → (115 ∈ p → U.eSet ev = []) → k < (p.flatMap (fun c => U.lay1 c e)).length → (foldC p (((p.flatMap (fun c => U.lay1 c e)).take k, 0), ev)).1.2 = 2
  | [], _, _, _, _, _, _, h => by simp at h
  | c :: p, ev, k, hn, hp, h1, h2, hk => by
    rw [List.nodup_cons] at hn
    rw [List.flatMap_cons, List.length_append] at hk
    rw [foldC_c, List.flatMap_cons]
    by_cases hkc : k < (U.lay1 c e).length
    · rw [take_in (by omega)]
      have := readC_cut (ev := ev) (hp c (by simp)).1 (hp c (by simp)).2 hkc
      rw [fold_err p (by rw [this]; decide), this]
    · rw [take_over (by omega), readC_lay (hp c (by simp)).1 (hp c (by simp)).2 (fun h => h1 (by simp [h])) (fun h => h2 (by simp [h]))]
      refine fold_cut e p hn.2 (fun d hd => hp d (List.mem_cons_of_mem _ hd)) (fun h => ?_) (fun h => ?_) (by omega)
      · rw [ids_setC (c := c) (fun hc => hn.1 (by rw [hc]; exact h))]; exact h1 (List.mem_cons_of_mem _ h)
      · rw [set_setC (c := c) (fun hc => hn.1 (by rw [hc]; exact h))]; exact h2 (List.mem_cons_of_mem _ h)
theorem lay_setC {c d : Int} {ev e : Event} (hd : d ∈ U.order) (h : c ≠ d) : U.lay1 d (setC c ev e) = U.lay1 d ev := by
  rcases mem_order hd with rfl | rfl | rfl | rfl | rfl | rfl | rfl | rfl | rfl
  · show U.text1 (cond (decide (c = 98)) _ _) = _; rw [decide_eq_false h]; rfl
  · show U.text1 (cond (decide (c = 116)) _ _) = _; rw [decide_eq_false h]; rfl
  · show U.num1 ((cond (decide (c = 105)) _ _ : List Int).length) ++ U.nums (cond (decide (c = 105)) _ _) = _; rw [decide_eq_false h]; rfl
  · show U.num1 ((cond (decide (c = 115)) _ _ : List Range).length) ++ U.pairs (cond (decide (c = 115)) _ _) = _; rw [decide_eq_false h]; rfl
  · show U.num1 (cond (decide (c = 109)) _ _) = _; rw [decide_eq_false h]; rfl
  · show U.num1 (cond (decide (c = 102)) _ _) = _; rw [decide_eq_false h]; rfl
  · show U.num1 (cond (decide (c = 100)) _ _) = _; rw [decide_eq_false h]; rfl
  · show U.num1 (cond (decide (c = 110)) _ _) = _; rw [decide_eq_false h]; rfl
  · show U.text1 (cond (decide (c = 121)) _ _) = _; rw [decide_eq_false h]; rfl
theorem fold_ok : ∀ (p : List Int) {l l' : List Int} {ev ev' : Event}, p.Nodup → (∀ c ∈ p, c ∈ U.order) → (∀ x ∈ l, Byte x) → (105 ∈ p → U.eIDs ev = []) → (115 ∈ p → U.eSet ev = []) → foldC p ((l, 0), ev) = ((l', 0), ev') → l = p.flatMap (fun c => U.lay1 c ev') ++ l' ∧ (∀ d ∈ U.order, d ∉ p → U.lay1 d ev' = U.lay1 d ev) ∧ U.eKind ev' = U.eKind ev ∧ U.eAt ev' = U.eAt ev
  | [], l, l', ev, ev', _, _, _, _, _, h => by cases h; exact ⟨rfl, fun _ _ _ => rfl, rfl, rfl⟩
  | c :: p, l, l', ev, ev', hn, hp, hb, h1, h2, h => by
    rw [List.nodup_cons] at hn
    rw [foldC_c] at h
    by_cases he : (U.readC c ((l, 0), ev)).1.2 = 0
    · obtain ⟨l1, ev1, e1⟩ : ∃ l1 ev1, U.readC c ((l, 0), ev) = ((l1, 0), ev1) := ⟨_, _, Prod.ext (Prod.ext rfl he) rfl⟩
      obtain ⟨a1, a2⟩ := readC_ok (hp c (by simp)) hb (fun h => h1 (by simp [h])) (fun h => h2 (by simp [h])) e1
      rw [e1] at h
      have hb' : ∀ x ∈ l1, Byte x := fun x hx => hb x (by rw [a1]; exact List.mem_append_right _ hx)
      obtain ⟨b1, b2, b3, b4⟩ := fold_ok p hn.2 (fun d hd => hp d (List.mem_cons_of_mem _ hd)) hb' (fun h => by rw [a2, ids_setC (c := c) (fun hc => hn.1 (by rw [hc]; exact h))]; exact h1 (List.mem_cons_of_mem _ h)) (fun h => by rw [a2, set_setC (c := c) (fun hc => hn.1 (by rw [hc]; exact h))]; exact h2 (List.mem_cons_of_mem _ h)) h
      refine ⟨?_, fun d hd hdp => ?_, ?_, ?_⟩
      · rw [List.flatMap_cons, b2 c (hp c (by simp)) hn.1, List.append_assoc, ← b1]; exact a1
      · rw [List.mem_cons, not_or] at hdp
        rw [b2 d hd hdp.2, a2, lay_setC hd (fun h => hdp.1 h.symm)]
      · rw [b3, a2]; rfl
      · rw [b4, a2]; rfl
    · have := fold_err p he
      rw [h] at this; exact absurd this.symm he
theorem parts_mem (k : Int) : U.parts k ∈ U.partsT := by
  unfold U.parts
  cases h : (decide (k < 0) || decide (k ≥ 15)) with
  | true => exact (by decide : ([] : List Int) ∈ U.partsT)
  | false =>
    simp only [Bool.or_eq_false_iff, decide_eq_false_iff_not] at h
    simp only [cond_false]
    have hl : k.toNat < U.partsT.length := by show k.toNat < 15; omega
    rw [getD_at hl]; exact List.getElem_mem hl
theorem parts_ok (k : Int) : (U.parts k).Nodup ∧ ∀ c ∈ U.parts k, c ∈ U.order := by
  have : ∀ p ∈ U.partsT, p.Nodup ∧ ∀ c ∈ p, c ∈ U.order := by decide
  exact this _ (parts_mem k)
theorem parts_in {k : Int} (h : U.parts k ≠ []) : 0 ≤ k ∧ k < 15 := by
  unfold U.parts at h
  cases hc : (decide (k < 0) || decide (k ≥ 15)) with
  | true => rw [hc] at h; exact absurd rfl h
  | false => simp only [Bool.or_eq_false_iff, decide_eq_false_iff_not] at hc; omega
theorem evRight_iff (e : Event) : U.evRight e = true ↔ U.parts (U.eKind e) ≠ [] ∧ (0 ≤ U.eAt e ∧ U.eAt e ≤ 1099511627776) ∧ ∀ c ∈ U.order, (c ∈ U.parts (U.eKind e) → U.good c e = true) ∧ (c ∉ U.parts (U.eKind e) → U.none_ c e = true) := by
  unfold U.evRight
  simp only [Bool.and_eq_true, Bool.not_eq_true', decide_eq_false_iff_not, within_iff, List.all_eq_true]
  constructor
  · rintro ⟨a, b, h⟩
    refine ⟨a, b, fun c hc => ?_⟩
    have := h c hc
    unfold U.okC at this
    constructor
    · intro hm
      rw [decide_eq_false (by have := (idxB_mem (U.parts (U.eKind e)) c).2 hm; omega)] at this; exact this
    · intro hm
      rw [decide_eq_true (by have := mt (idxB_mem (U.parts (U.eKind e)) c).1 hm; omega)] at this; exact this
  · rintro ⟨a, b, h⟩
    refine ⟨a, b, fun c hc => ?_⟩
    unfold U.okC
    by_cases hm : c ∈ U.parts (U.eKind e)
    · rw [decide_eq_false (by have := (idxB_mem (U.parts (U.eKind e)) c).2 hm; omega)]; exact (h c hc).1 hm
    · rw [decide_eq_true (by have := mt (idxB_mem (U.parts (U.eKind e)) c).1 hm; omega)]; exact (h c hc).2 hm
theorem allC_field {α : Type} (f : Event → α) (d : Int) (hf : ∀ c ev e, f (setC c ev e) = cond (decide (c = d)) (f e) (f ev)) (e : Event) : ∀ (p : List Int) (ev : Event), f (allC p e ev) = cond (decide (d ∈ p)) (f e) (f ev)
  | [], ev => by simp [allC]
  | c :: p, ev => by
    show f (allC p e (setC c ev e)) = _
    rw [allC_field f d hf e p, hf]
    by_cases h1 : d ∈ p
    · rw [decide_eq_true h1, decide_eq_true (List.mem_cons_of_mem _ h1)]; rfl
    · by_cases h2 : c = d
      · subst h2; rw [decide_eq_true (by simp : c ∈ c :: p)]; simp
      · rw [decide_eq_false h1, decide_eq_false h2, decide_eq_false (by rw [List.mem_cons, not_or]; exact ⟨fun h => h2 h.symm, h1⟩)]; rfl
theorem allC_kind (e : Event) : ∀ (p : List Int) (ev : Event), U.eKind (allC p e ev) = U.eKind ev ∧ U.eAt (allC p e ev) = U.eAt ev
  | [], ev => ⟨rfl, rfl⟩
  | c :: p, ev => allC_kind e p (setC c ev e)
theorem ev_ext {a b : Event} (h1 : U.eKind a = U.eKind b) (h2 : U.eAt a = U.eAt b) (h3 : U.eBox a = U.eBox b) (h4 : U.eTo a = U.eTo b) (h5 : U.eIDs a = U.eIDs b) (h6 : U.eSet a = U.eSet b) (h7 : U.eMode a = U.eMode b) (h8 : U.eFlags a = U.eFlags b) (h9 : U.eDate a = U.eDate b) (h10 : U.eN a = U.eN b) (h11 : U.eBody a = U.eBody b) : a = b :=
  Prod.ext h1 (Prod.ext h2 (Prod.ext h3 (Prod.ext h4 (Prod.ext h5 (Prod.ext h6 (Prod.ext h7 (Prod.ext h8 (Prod.ext h9 (Prod.ext h10 h11)))))))))
theorem allC_all {e : Event} (h : U.evRight e = true) : allC (U.parts (U.eKind e)) e (U.eKind e, U.eAt e, [], [], [], [], 0, 0, 0, 0, []) = e := by
  obtain ⟨hp, _, hc⟩ := (evRight_iff e).1 h
  have key : ∀ {α : Type} (f : Event → α) (d : Int), d ∈ U.order → (∀ c ev e, f (setC c ev e) = cond (decide (c = d)) (f e) (f ev)) → (U.none_ d e = true → f e = f (U.eKind e, U.eAt e, [], [], [], [], 0, 0, 0, 0, [])) → f (allC (U.parts (U.eKind e)) e (U.eKind e, U.eAt e, [], [], [], [], 0, 0, 0, 0, [])) = f e := by
    intro α f d hd hf hn
    rw [allC_field f d hf]
    by_cases hm : d ∈ U.parts (U.eKind e)
    · rw [decide_eq_true hm]; rfl
    · rw [decide_eq_false hm]; exact (hn ((hc d hd).2 hm)).symm
  refine ev_ext (allC_kind _ _ _).1 (allC_kind _ _ _).2 ?_ ?_ ?_ ?_ ?_ ?_ ?_ ?_ ?_
  · exact key U.eBox 98 (by decide) (fun _ _ _ => rfl) (fun h => of_decide_eq_true h)
  · exact key U.eTo 116 (by decide) (fun _ _ _ => rfl) (fun h => of_decide_eq_true h)
  · exact key U.eIDs 105 (by decide) (fun _ _ _ => rfl) (fun h => of_decide_eq_true h)
  · exact key U.eSet 115 (by decide) (fun _ _ _ => rfl) (fun h => of_decide_eq_true h)
  · exact key U.eMode 109 (by decide) (fun _ _ _ => rfl) (fun h => of_decide_eq_true h)
  · exact key U.eFlags 102 (by decide) (fun _ _ _ => rfl) (fun h => of_decide_eq_true h)
  · exact key U.eDate 100 (by decide) (fun _ _ _ => rfl) (fun h => of_decide_eq_true h)
  · exact key U.eN 110 (by decide) (fun _ _ _ => rfl) (fun h => of_decide_eq_true h)
  · exact key U.eBody 121 (by decide) (fun _ _ _ => rfl) (fun h => of_decide_eq_true h)
theorem dec1_eq {k a : Int} (rest : List Int) (hk : U.parts k ≠ []) (h0 : 0 ≤ a) (h1 : a ≤ 4611686018427387904) : U.dec1 (U.num1 k ++ (U.num1 a ++ rest)) = foldC (U.parts k) ((rest, 0), (k, a, [], [], [], [], 0, 0, 0, 0, [])) := by
  have hb := parts_in hk
  have e1 := rNum_num1 (n := k) (U.num1 a ++ rest) (by omega) (by omega)
  have e2 := rNum_num1 (n := a) rest h0 h1
  unfold U.dec1 U.dec0
  simp only [e1, e2]
  rw [decide_eq_false hk]; rfl
theorem encB_eq (e : Event) : U.encB e = U.num1 (U.eKind e) ++ (U.num1 (U.eAt e) ++ (U.parts (U.eKind e)).flatMap fun c => U.lay1 c e) := rfl
theorem dec1_enc {e : Event} (h : U.evRight e = true) (rest : List Int) : U.dec1 (U.encB e ++ rest) = ((rest, 0), e) := by
  obtain ⟨hp, ha, hc⟩ := (evRight_iff e).1 h
  rw [encB_eq, List.append_assoc, List.append_assoc, dec1_eq _ hp ha.1 (by omega), fold_lay e rest _ (parts_ok _).1 (fun c hm => ⟨(parts_ok _).2 c hm, (hc c ((parts_ok _).2 c hm)).1 hm⟩) (fun _ => rfl) (fun _ => rfl), allC_all h]
theorem dec_enc {e : Event} (h : U.evRight e = true) : U.decE (U.encB e) = (e, 0) := by
  have h1 := dec1_enc h []
  rw [List.append_nil] at h1
  have hf : U.decF (U.encB e) = 0 := by
    unfold U.decF; simp only [h1, h]; rfl
  unfold U.decE; rw [hf, h1]; rfl
theorem dec_more {e : Event} (h : U.evRight e = true) (x : Int) : U.decF (U.encB e ++ [x]) = 3 := by
  unfold U.decF; simp only [dec1_enc h [x]]; rfl
theorem decF_err {b : List Int} {f : Int} (hf : (U.dec1 b).1.2 = f) (h : f ≠ 0) : U.decF b = f := by
  unfold U.decF U.rDone U.rFail
  simp only []
  rw [hf, decide_eq_false h, Bool.false_and]
  simp only [cond_false, hf]
  rw [decide_eq_false h]; rfl
theorem dec_cut {e : Event} (h : U.evRight e = true) {k : Nat} (hk : k < (U.encB e).length) : U.decF ((U.encB e).take k) = 2 := by
  obtain ⟨hp, ha, hc⟩ := (evRight_iff e).1 h
  have hb := parts_in hp
  refine decF_err ?_ (by decide)
  rw [encB_eq] at *
  rw [List.length_append, List.length_append, num1_len, num1_len] at hk
  by_cases h8 : k < 8
  · have hs := rNum_short (l := (U.num1 (U.eKind e) ++ (U.num1 (U.eAt e) ++ (U.parts (U.eKind e)).flatMap fun c => U.lay1 c e)).take k) (by rw [List.length_take]; omega)
    unfold U.dec1 U.dec0
    rw [hs]; simp only []
    rw [rNum_err (r := (_, 2)) two_ne]; rfl
  · rw [take_over (by rw [num1_len]; omega), num1_len]
    by_cases h16 : k - 8 < 8
    · have e1 := rNum_num1 (n := U.eKind e) ((U.num1 (U.eAt e) ++ (U.parts (U.eKind e)).flatMap fun c => U.lay1 c e).take (k - 8)) (by omega) (by omega)
      have hs := rNum_short (l := (U.num1 (U.eAt e) ++ (U.parts (U.eKind e)).flatMap fun c => U.lay1 c e).take (k - 8)) (by rw [List.length_take]; omega)
      have : ∀ x : U.RS × Event, x.1.2 = 2 → ((U.parts (U.eKind e)).foldl (fun x c => U.readC c x) x).1.2 = 2 := fun x hx => by
        have := fold_err (U.parts (U.eKind e)) (x := x) (by rw [hx]; decide)
        rw [hx] at this; exact this
      unfold U.dec1
      rw [show (U.rNum (U.num1 (U.eKind e) ++ (U.num1 (U.eAt e) ++ (U.parts (U.eKind e)).flatMap fun c => U.lay1 c e).take (k - 8), 0)).1 = U.eKind e by rw [e1]]
      refine this _ ?_
      unfold U.dec0
      simp only [e1, hs]; rfl
    · rw [take_over (by rw [num1_len]; omega), num1_len, dec1_eq _ hp ha.1 (by omega)]
      exact fold_cut e _ (parts_ok _).1 (fun c hm => ⟨(parts_ok _).2 c hm, (hc c ((parts_ok _).2 c hm)).1 hm⟩) (fun _ => rfl) (fun _ => rfl) (by omega)
theorem enc_dec {b : List Int} {e : Event} (hb : ∀ x ∈ b, Byte x) (h : U.decE b = (e, 0)) : U.evRight e = true ∧ U.encB e = b := by
  unfold U.decE at h
  by_cases hf : U.decF b = 0
  · rw [decide_eq_true hf] at h
    simp only [cond_true, Prod.mk.injEq, and_true] at h
    have h0 : (U.dec1 b).1.2 = 0 := Decidable.byContradiction fun hn => hn (by rw [← decF_err rfl hn]; exact hf)
    have hl : (U.dec1 b).1.1 = [] := by
      unfold U.decF U.rDone U.rFail at hf
      simp only [h0, decide_true, Bool.true_and] at hf
      cases hz : decide ((U.dec1 b).1.1.length > 0) with
      | false => rw [decide_eq_false_iff_not] at hz; exact List.length_eq_zero_iff.1 (by omega)
      | true => rw [hz] at hf; simp at hf
    have hr : U.evRight e = true := by
      unfold U.decF at hf
      cases hr : U.evRight e with
      | true => rfl
      | false =>
        have h3 : U.rDone (U.dec1 b).1 = 0 := by unfold U.rDone U.rFail; rw [hl]; simp [h0]
        rw [h, h3, hr] at hf; simp at hf
    refine ⟨hr, ?_⟩
    have hd : U.dec1 b = (([], 0), e) := Prod.ext (Prod.ext hl h0) h
    by_cases hk : (U.rNum (b, 0)).2.2 = 0
    · obtain ⟨k, m, ek⟩ : ∃ k m, U.rNum (b, 0) = (k, m, 0) := ⟨_, _, Prod.ext rfl (Prod.ext rfl hk)⟩
      obtain ⟨a1, a2, a3⟩ := rNum_ok hb ek
      have hbm : ∀ x ∈ m, Byte x := fun x hx => hb x (by rw [a1]; exact List.mem_append_right _ hx)
      by_cases hk2 : (U.rNum (m, 0)).2.2 = 0
      · obtain ⟨a, m2, ea⟩ : ∃ k m', U.rNum (m, 0) = (k, m', 0) := ⟨_, _, Prod.ext rfl (Prod.ext rfl hk2)⟩
        obtain ⟨b1, b2, b3⟩ := rNum_ok hbm ea
        by_cases hp : U.parts k = []
        · exfalso
          have : U.dec1 b = ((m2, 3), (k, a, [], [], [], [], 0, 0, 0, 0, [])) := by
            unfold U.dec1 U.dec0
            simp only [ek, ea, hp]; rfl
          rw [this] at h0; simp at h0
        · rw [a1, b1, dec1_eq _ hp b2 b3] at hd
          have hb2 : ∀ x ∈ m2, Byte x := fun x hx => hbm x (by rw [b1]; exact List.mem_append_right _ hx)
          obtain ⟨c1, _, c3, c4⟩ := fold_ok _ (parts_ok k).1 (parts_ok k).2 hb2 (fun _ => rfl) (fun _ => rfl) hd
          have c3 : U.eKind e = k := c3
          have c4 : U.eAt e = a := c4
          rw [encB_eq, c3, c4, a1, b1, c1, List.append_nil]
      · exfalso
        have : (U.dec1 b).1.2 = (U.rNum (m, 0)).2.2 := by
          unfold U.dec1
          have hd0 : (U.dec0 b).1.2 = (U.rNum (m, 0)).2.2 := by
            unfold U.dec0 U.rFail
            simp only [ek]; rw [decide_eq_false hk2]; rfl
          have := fold_err (U.parts (U.rNum (b, 0)).1) (x := U.dec0 b) (by rw [hd0]; exact hk2)
          rw [hd0] at this; exact this
        rw [h0] at this; exact hk2 this.symm
    · exfalso
      have : (U.dec1 b).1.2 = (U.rNum (b, 0)).2.2 := by
        have hd0 : (U.dec0 b).1.2 = (U.rNum (b, 0)).2.2 := by
          unfold U.dec0 U.rFail
          simp only []; rw [rNum_err hk]; simp only []; rw [decide_eq_false hk]; rfl
        have := fold_err (U.parts (U.rNum (b, 0)).1) (x := U.dec0 b) (by rw [hd0]; exact hk)
        rw [hd0] at this; exact this
      rw [h0] at this; exact hk this.symm
  · rw [decide_eq_false hf] at h
    simp only [cond_false, Prod.mk.injEq] at h
    exact absurd h.2 hf
theorem dec_none {b : List Int} (h : (U.decE b).2 ≠ 0) : (U.decE b).1 = U.zeroE ∧ (U.decE b).2 = U.decF b := by
  unfold U.decE at *
  by_cases hf : U.decF b = 0
  · rw [decide_eq_true hf] at h; exact absurd rfl h
  · rw [decide_eq_false hf]; exact ⟨rfl, rfl⟩
theorem pairs_len : ∀ l : List Range, (U.pairs l).length = 16 * l.length
  | [] => rfl
  | x :: l => by rw [pairs_c, List.length_append, List.length_append, num1_len, num1_len, pairs_len l, List.length_cons]; omega
theorem pairs_snoc (l : List Range) (x : Range) : U.pairs (l ++ [x]) = U.pairs l ++ (U.num1 x.1 ++ U.num1 x.2) := by simp [U.pairs]
theorem lay_len {c : Int} (hc : c ∈ U.order) {e : Event} (hg : U.good c e = true) : (U.lay1 c e).length ≤ 5000 := by
  rcases mem_order hc with rfl | rfl | rfl | rfl | rfl | rfl | rfl | rfl | rfl
  · have := text1_len (U.eBox e); show (U.text1 (U.eBox e)).length ≤ 5000; omega
  · have := text1_len (U.eTo e); show (U.text1 (U.eTo e)).length ≤ 5000; omega
  · obtain ⟨⟨_, h60⟩, hl⟩ := ids_low (show U.idsOk (U.eIDs e) = true from hg)
    show (U.num1 (U.eIDs e).length ++ U.nums (U.eIDs e)).length ≤ 5000
    rw [List.length_append, num1_len, nums_len]; omega
  · obtain ⟨h60, hl⟩ := set_low (show U.setOk (U.eSet e) = true from hg)
    show (U.num1 (U.eSet e).length ++ U.pairs (U.eSet e)).length ≤ 5000
    rw [List.length_append, num1_len, pairs_len]; omega
  · show (U.num1 _).length ≤ 5000; rw [num1_len]; omega
  · show (U.num1 _).length ≤ 5000; rw [num1_len]; omega
  · show (U.num1 _).length ≤ 5000; rw [num1_len]; omega
  · show (U.num1 _).length ≤ 5000; rw [num1_len]; omega
  · have := text1_len (U.eBody e); show (U.text1 (U.eBody e)).length ≤ 5000; omega
theorem flat_len {f : Int → List Int} {k : Nat} : ∀ l : List Int, (∀ c ∈ l, (f c).length ≤ k) → (l.flatMap f).length ≤ k * l.length
  | [], _ => by simp
  | x :: l, h => by
    have h1 := h x (by simp)
    have ih := flat_len l fun c hc => h c (List.mem_cons_of_mem _ hc)
    rw [List.flatMap_cons, List.length_append, List.length_cons, Nat.mul_add]; omega
theorem good_of {e : Event} (h : U.evRight e = true) {c : Int} (hc : c ∈ U.parts (U.eKind e)) : U.good c e = true := (((evRight_iff e).1 h).2.2 c ((parts_ok _).2 c hc)).1 hc
theorem hasC_len {e : Event} (h : U.evRight e = true) (c : Int) : (U.hasC (U.parts (U.eKind e)) e c).length ≤ 5000 := by
  unfold U.hasC
  by_cases hi : idxB (U.parts (U.eKind e)) c ≥ 0
  · have hm := (idxB_mem _ _).1 hi
    rw [decide_eq_true hi]; exact lay_len ((parts_ok _).2 c hm) (good_of h hm)
  · rw [decide_eq_false hi]; exact Nat.zero_le _
theorem encP_len {e : Event} (h : U.evRight e = true) (n : Nat) : (U.encP n e).length ≤ 50000 := by
  unfold U.encP
  rw [List.length_append, List.length_append, num1_len, num1_len]
  have := flat_len (f := U.hasC (U.parts (U.eKind e)) e) (k := 5000) (U.order.take n) fun c _ => hasC_len h c
  have h9 : (U.order.take n).length ≤ 9 := by rw [List.length_take]; exact Nat.min_le_right _ _
  have := Nat.mul_le_mul_left 5000 h9
  omega
theorem beq_nil {α : Type} [BEq α] [DecidableEq α] (l : List α) : l.beq [] = decide (l = []) := by cases l <;> simp [List.beq]
theorem len_zero {α : Type} [DecidableEq α] (l : List α) : decide ((l.length : Int) = 0) = decide (l = []) := by
  rw [decide_eq_decide, ← List.length_eq_zero_iff]; omega
theorem range_eq (x y : Range) : (decide (x.1 = y.1) && (decide (x.2 = y.2) && true)) = decide (x = y) := by
  rw [Bool.eq_iff_iff]; simp [Prod.ext_iff]
theorem beq_dec (a b : List Int) : a.beq b = decide (a = b) := by rw [list_beq, Bool.eq_iff_iff]; simp
theorem okslices_Equal_int_int (a b : List Int) (h : a.length ≤ maxLen) : vcslices_Equal_int_int a b := by
  unfold vcslices_Equal_int_int
  rw [maxLen_eq] at h
  simp only [cond_prop, cond_and, cond_or, int_add, int_sub, int_mul, int_neg, nat_add, nat_sub, nat_mul, list_append, list_beq, U.at_, maxLen_eq, decide_eq_true_eq, decide_eq_false_iff_not, bne_iff_ne, bne_eq_false_iff_eq, Bool.not_eq_true', Bool.not_eq_false', Bool.not_eq_eq_eq_not, Bool.not_true, Bool.not_false, beq_eq_false_iff_ne, beq_iff_eq, and_true, true_and, Bool.and_eq_true, Bool.or_eq_true, Bool.and_eq_false_iff, Bool.or_eq_false_iff, wrap_i64, U.Islices_Equal_int_int_4]
  refine ⟨fun hn => ?_, fun hl => ⟨0, ⟨rfl, ⟨by omega, by omega⟩, by omega, rfl⟩, ?_⟩⟩
  · symm; rw [decide_eq_false_iff_not]; rintro rfl; exact hn rfl
  · rintro i ⟨⟨h0, h1⟩, h2, h3⟩
    refine ⟨fun hi => ⟨h0, hi, h0, by omega, fun hne => ?_, fun he => ⟨i + 1, by rw [show (i + 1 + 9223372036854775808) % 18446744073709551616 - 9223372036854775808 = i + 1 by omega], ⟨⟨by omega, by omega⟩, h2, ?_⟩, by omega⟩⟩, fun hi => ?_⟩
    · symm; rw [decide_eq_false_iff_not]; rintro rfl; exact hne rfl
    · rw [take_at h0 hi, take_at h0 (by omega), h3]
      rw [getD_at (by omega), getD_at (by omega)] at he
      rw [he]
    · symm; rw [decide_eq_true_eq]
      rw [take_end (by omega), take_end (by omega)] at h3; exact h3
theorem okref09_Ints (a b : List Int) (h : a.length ≤ maxLen) : vcref09_Ints a b := by
  unfold vcref09_Ints
  rw [maxLen_eq] at h
  simp only [cond_prop, cond_and, cond_or, int_add, int_sub, int_mul, int_neg, nat_add, nat_sub, nat_mul, list_append, list_beq, U.at_, maxLen_eq, decide_eq_true_eq, decide_eq_false_iff_not, bne_iff_ne, bne_eq_false_iff_eq, Bool.not_eq_true', Bool.not_eq_false', Bool.not_eq_eq_eq_not, Bool.not_true, Bool.not_false, beq_eq_false_iff_ne, beq_iff_eq, and_true, true_and, Bool.and_eq_true, Bool.or_eq_true, Bool.and_eq_false_iff, Bool.or_eq_false_iff, wrap_i64, U.Iref09_Ints_4]
  refine ⟨fun hn => ?_, fun hl => ⟨0, ⟨rfl, ⟨by omega, by omega⟩, by omega, rfl⟩, ?_⟩⟩
  · symm; rw [decide_eq_false_iff_not]; rintro rfl; exact hn rfl
  · rintro i ⟨⟨h0, h1⟩, h2, h3⟩
    refine ⟨fun hi => ⟨h0, hi, h0, by omega, fun hne => ?_, fun he => ⟨i + 1, by rw [show (i + 1 + 9223372036854775808) % 18446744073709551616 - 9223372036854775808 = i + 1 by omega], ⟨⟨by omega, by omega⟩, h2, ?_⟩, by omega⟩⟩, fun hi => ?_⟩
    · symm; rw [decide_eq_false_iff_not]; rintro rfl; exact hne rfl
    · rw [take_at h0 hi, take_at h0 (by omega), h3]
      rw [getD_at (by omega), getD_at (by omega)] at he
      rw [he]
    · symm; rw [decide_eq_true_eq]
      rw [take_end (by omega), take_end (by omega)] at h3; exact h3
theorem okslices_Equal_api_Range_api_Range (a b : List Range) (h : a.length ≤ maxLen) : vcslices_Equal_api_Range_api_Range a b := by
  unfold vcslices_Equal_api_Range_api_Range
  rw [maxLen_eq] at h
  simp only [range_eq]
  simp only [cond_prop, cond_and, cond_or, int_add, int_sub, int_mul, int_neg, nat_add, nat_sub, nat_mul, list_append, list_beq, U.at_, maxLen_eq, decide_eq_true_eq, decide_eq_false_iff_not, bne_iff_ne, bne_eq_false_iff_eq, Bool.not_eq_true', Bool.not_eq_false', Bool.not_eq_eq_eq_not, Bool.not_true, Bool.not_false, beq_eq_false_iff_ne, beq_iff_eq, and_true, true_and, Bool.and_eq_true, Bool.or_eq_true, Bool.and_eq_false_iff, Bool.or_eq_false_iff, wrap_i64, U.Islices_Equal_api_Range_api_Range_4]
  refine ⟨fun hn => ?_, fun hl => ⟨0, ⟨rfl, ⟨by omega, by omega⟩, by omega, rfl⟩, ?_⟩⟩
  · symm; rw [decide_eq_false_iff_not]; rintro rfl; exact hn rfl
  · rintro i ⟨⟨h0, h1⟩, h2, h3⟩
    refine ⟨fun hi => ⟨h0, hi, h0, by omega, fun hne => ?_, fun he => ⟨i + 1, by rw [show (i + 1 + 9223372036854775808) % 18446744073709551616 - 9223372036854775808 = i + 1 by omega], ⟨⟨by omega, by omega⟩, h2, ?_⟩, by omega⟩⟩, fun hi => ?_⟩
    · symm; rw [decide_eq_false_iff_not]; rintro rfl; exact hne rfl
    · rw [take_at h0 hi, take_at h0 (by omega), h3]
      rw [getD_at (by omega), getD_at (by omega)] at he
      rw [he]
    · symm; rw [decide_eq_true_eq]
      rw [take_end (by omega), take_end (by omega)] at h3; exact h3
theorem okref09_Same (a b : List Range) (h : a.length ≤ maxLen) : vcref09_Same a b := by
  unfold vcref09_Same
  rw [maxLen_eq] at h
  simp only [range_eq]
  simp only [cond_prop, cond_and, cond_or, int_add, int_sub, int_mul, int_neg, nat_add, nat_sub, nat_mul, list_append, list_beq, U.at_, maxLen_eq, decide_eq_true_eq, decide_eq_false_iff_not, bne_iff_ne, bne_eq_false_iff_eq, Bool.not_eq_true', Bool.not_eq_false', Bool.not_eq_eq_eq_not, Bool.not_true, Bool.not_false, beq_eq_false_iff_ne, beq_iff_eq, and_true, true_and, Bool.and_eq_true, Bool.or_eq_true, Bool.and_eq_false_iff, Bool.or_eq_false_iff, wrap_i64, U.Iref09_Same_4]
  refine ⟨fun hn => ?_, fun hl => ⟨0, ⟨rfl, ⟨by omega, by omega⟩, by omega, rfl⟩, ?_⟩⟩
  · symm; rw [decide_eq_false_iff_not]; rintro rfl; exact hn rfl
  · rintro i ⟨⟨h0, h1⟩, h2, h3⟩
    refine ⟨fun hi => ⟨h0, hi, h0, by omega, fun hne => ?_, fun he => ⟨i + 1, by rw [show (i + 1 + 9223372036854775808) % 18446744073709551616 - 9223372036854775808 = i + 1 by omega], ⟨⟨by omega, by omega⟩, h2, ?_⟩, by omega⟩⟩, fun hi => ?_⟩
    · symm; rw [decide_eq_false_iff_not]; rintro rfl; exact hne rfl
    · rw [take_at h0 hi, take_at h0 (by omega), h3]
      rw [getD_at (by omega), getD_at (by omega)] at he
      rw [he]
    · symm; rw [decide_eq_true_eq]
      rw [take_end (by omega), take_end (by omega)] at h3; exact h3
theorem okevent_within (n m : Int) : vcevent_within n m := by
  unfold vcevent_within U.within; rw [cond_and]; exact ⟨rfl, trivial⟩
theorem okevent_Parts (k : Int) : vcevent_Parts k := by
  unfold vcevent_Parts U.parts
  rw [cond_or]
  cases h : (decide (k < 0) || decide (k ≥ 15)) with
  | true => exact ⟨rfl, trivial⟩
  | false =>
    simp only [Bool.or_eq_false_iff, decide_eq_false_iff_not] at h
    exact ⟨by omega, by show k < 15; omega, rfl, trivial⟩
theorem rise_at {l : List Int} {i : Int} (h0 : 0 ≤ i) (hi : i < l.length) (hr : U.rise 0 l = U.rise (U.prevI l i) (l.drop i.toNat)) :
    U.rise 0 l = ((decide (U.prevI l i < l[i.toNat]) && decide (l[i.toNat] ≤ 4294967295)) && U.rise l[i.toNat] (l.drop (i + 1).toNat)) := by
  rw [hr, drop_at h0 hi]; rfl
theorem prev_next {l : List Int} {i : Int} (h0 : 0 ≤ i) (hi : i < l.length) : U.prevI l (i + 1) = l[i.toNat] := by
  unfold U.prevI
  rw [decide_eq_false (by omega), show i + 1 - 1 = i by omega, getD_at (by omega)]; rfl
theorem okevent_ids (l : List Int) (h : l.length ≤ maxLen) : vcevent_ids l := by
  unfold vcevent_ids U.idsOk
  rw [maxLen_eq] at h
  simp only [cond_prop, cond_and, cond_or, int_add, int_sub, int_mul, int_neg, nat_add, nat_sub, nat_mul, list_append, list_beq, U.at_, maxLen_eq, decide_eq_true_eq, decide_eq_false_iff_not, bne_iff_ne, bne_eq_false_iff_eq, Bool.not_eq_true', Bool.not_eq_false', Bool.not_eq_eq_eq_not, Bool.not_true, Bool.not_false, beq_eq_false_iff_ne, beq_iff_eq, and_true, true_and, Bool.and_eq_true, Bool.or_eq_true, Bool.and_eq_false_iff, Bool.or_eq_false_iff, U.Ievent_ids_2]
  refine ⟨0, ⟨rfl, ⟨by omega, by omega⟩, by show (0 : Int) ≤ 0; omega, rfl⟩, ?_⟩
  rintro i ⟨⟨h0, h1⟩, h2, h3⟩
  refine ⟨fun hi => ⟨h0, hi, fun _ _ => by rw [wrap_i] <;> omega, fun _ _ => by rw [wrap_i] <;> omega, fun hb => ?_, fun hb => ⟨i + 1, by rw [wrap_i (x := i + 1) (by omega) (by omega)], ⟨⟨by omega, by omega⟩, ?_, ?_⟩, by omega⟩⟩, fun hi => ?_⟩
  · rw [rise_at h0 hi h3]
    rw [getD_at (by omega)] at hb
    have : (decide (U.prevI l i < l[i.toNat]) && decide (l[i.toNat] ≤ 4294967295)) = false := by
      rw [Bool.and_eq_false_iff, decide_eq_false_iff_not, decide_eq_false_iff_not]
      rcases hb with (hb | hb) | ⟨hb1, hb2⟩
      · left; omega
      · right; omega
      · left
        rw [wrap_i (x := i - 1) (by omega) (by omega)] at hb2
        unfold U.prevI; rw [decide_eq_false (by omega)]; simp only [cond_false]; omega
    rw [this]; rfl
  · rw [getD_at (by omega)] at hb
    rw [prev_next h0 hi]; omega
  · rw [getD_at (by omega)] at hb
    rw [prev_next h0 hi, rise_at h0 hi h3]
    have : (decide (U.prevI l i < l[i.toNat]) && decide (l[i.toNat] ≤ 4294967295)) = true := by
      rw [Bool.and_eq_true, decide_eq_true_eq, decide_eq_true_eq]
      obtain ⟨⟨hb1, hb2⟩, hb3⟩ := hb
      refine ⟨?_, by omega⟩
      unfold U.prevI
      by_cases hz : i = 0
      · rw [decide_eq_true hz]; simp only [cond_true]; omega
      · rw [decide_eq_false hz]; simp only [cond_false]
        rw [wrap_i (x := i - 1) (by omega) (by omega)] at hb3
        omega
    rw [this, Bool.true_and]
  · rw [h3, drop_end (by omega)]
    rw [show U.rise (U.prevI l i) [] = true from rfl, Bool.true_and]
    congr 1 <;> (rw [decide_eq_decide]; omega)
theorem okevent_set_1 (r : Range) : vcevent_set_1 r := by
  unfold vcevent_set_1 U.badR; rw [cond_or]; exact ⟨rfl, trivial⟩
theorem okevent_set (l : List Range) (h : l.length ≤ maxLen) : vcevent_set l := by
  unfold vcevent_set U.setOk
  rw [maxLen_eq] at h
  simp only [cond_prop, int_add, nat_sub, U.at_, decide_eq_true_eq, decide_eq_false_iff_not, and_true, U.IIndexFuncR]
  have hd : decide (l.length ≤ 60) = decide ((l.length : Int) ≤ 60) := by rw [decide_eq_decide]; omega
  refine ⟨fun h6 => ⟨0, ⟨rfl, ⟨by omega, by omega⟩, rfl⟩, ?_⟩, fun h6 => ?_⟩
  · rintro i ⟨⟨h0, h1⟩, h2⟩
    rw [hd, decide_eq_true h6, Bool.true_and]
    refine ⟨fun hi => ⟨h0, hi, fun hb => ?_, fun hb => ⟨i + 1, by rw [wrap_i (x := i + 1) (by omega) (by omega)], ⟨⟨by omega, by omega⟩, ?_⟩, by omega⟩⟩, fun hi => ?_⟩
    · rw [getD_at (by omega)] at hb
      rw [← h2, drop_at h0 hi, List.any_cons, hb, decide_eq_true h0]; rfl
    · rw [getD_at (by omega)] at hb
      rw [← h2, drop_at h0 hi, List.any_cons, hb, Bool.false_or]
    · rw [← h2, drop_end (by omega)]; rfl
  · rw [hd, decide_eq_false h6]; rfl
theorem bits31 (x : BitVec 64) : (x &&& ~~~(BitVec.ofInt 64 31)) = 0#64 ↔ x.toNat < 32 := by
  have h31 : ∀ i < 64, (~~~(BitVec.ofInt 64 31)).getLsbD i = decide (5 ≤ i) := by decide
  constructor
  · intro h
    refine Nat.lt_pow_two_of_testBit (n := 5) _ fun i hi => ?_
    by_cases h64 : i < 64
    · have := congrArg (fun y : BitVec 64 => y.getLsbD i) h
      simp only [BitVec.getLsbD_and, h31 i h64, decide_eq_true hi, Bool.and_true, BitVec.getLsbD_zero] at this
      exact this
    · exact BitVec.getLsbD_of_ge x i (by omega)
  · intro h
    apply BitVec.eq_of_getLsbD_eq
    intro i hi
    rw [BitVec.getLsbD_and, h31 i hi, BitVec.getLsbD_zero]
    by_cases h5 : 5 ≤ i
    · have : x.toNat.testBit i = false := Nat.testBit_lt_two_pow (Nat.lt_of_lt_of_le h (Nat.pow_le_pow_right (n := 2) (by decide) h5))
      rw [show x.getLsbD i = x.toNat.testBit i from rfl, this]; rfl
    · rw [decide_eq_false h5, Bool.and_false]
theorem flag_eq {f : Int} (h : -9223372036854775808 ≤ f ∧ f ≤ 9223372036854775807) : decide (andNotK .i64 f 31 = 0) = U.fRight f := by
  unfold U.fRight andNotK
  rw [Bool.eq_iff_iff, decide_eq_true_eq, Bool.and_eq_true, decide_eq_true_eq, decide_eq_true_eq]
  have hb := bits31 (BitVec.ofInt 64 f)
  have hn : (BitVec.ofInt 64 f).toNat = (f % 18446744073709551616).toNat := by rw [BitVec.toNat_ofInt]; rfl
  have hz : IntKind.i64.wrap (((BitVec.ofInt 64 f) &&& ~~~(BitVec.ofInt 64 31)).toNat : Int) = 0 ↔ ((BitVec.ofInt 64 f) &&& ~~~(BitVec.ofInt 64 31)) = 0#64 := by
    have hlt := ((BitVec.ofInt 64 f) &&& ~~~(BitVec.ofInt 64 31)).isLt
    rw [wrap_i64, ← BitVec.toNat_inj, show (0#64).toNat = 0 from rfl]; omega
  show IntKind.i64.wrap (((BitVec.ofInt 64 f) &&& ~~~(BitVec.ofInt 64 31)).toNat : Int) = 0 ↔ _
  rw [hz, hb, hn]; omega
theorem okflag_Right (f : Int) (h : -9223372036854775808 ≤ f ∧ f ≤ 9223372036854775807) : vcflag_Right f := by
  unfold vcflag_Right
  exact ⟨flag_eq h, trivial⟩
theorem okevent_part (e : Event) (c : Int) (h1 : (U.eBox e).length ≤ 1000000000000) (h2 : (U.eTo e).length ≤ 1000000000000) : vcevent_part e c := by
  unfold vcevent_part U.good U.none_
  by_cases h : c = 98
  · simp only [decide_eq_true h, cond_true]; exact ⟨h1, rfl, beq_nil _, trivial⟩
  simp only [decide_eq_false h, cond_false]; clear h
  by_cases h : c = 116
  · simp only [decide_eq_true h, cond_true]; exact ⟨h2, rfl, beq_nil _, trivial⟩
  simp only [decide_eq_false h, cond_false]; clear h
  by_cases h : c = 105
  · simp only [decide_eq_true h, cond_true]; exact ⟨rfl, len_zero _, trivial⟩
  simp only [decide_eq_false h, cond_false]; clear h
  by_cases h : c = 115
  · simp only [decide_eq_true h, cond_true]; exact ⟨rfl, len_zero _, trivial⟩
  simp only [decide_eq_false h, cond_false]; clear h
  by_cases h : c = 109
  · simp only [decide_eq_true h, cond_true]; exact ⟨rfl, rfl, trivial⟩
  simp only [decide_eq_false h, cond_false]; clear h
  by_cases h : c = 102
  · simp only [decide_eq_true h, cond_true]; exact ⟨rfl, rfl, trivial⟩
  simp only [decide_eq_false h, cond_false]; clear h
  by_cases h : c = 100
  · simp only [decide_eq_true h, cond_true]; exact ⟨rfl, rfl, trivial⟩
  simp only [decide_eq_false h, cond_false]; clear h
  by_cases h : c = 110
  · simp only [decide_eq_true h, cond_true]; exact ⟨rfl, rfl, trivial⟩
  simp only [decide_eq_false h, cond_false]; clear h
  exact ⟨by rw [decide_eq_decide]; show ((U.eBody e).length : Int) ≤ 2000 ↔ _; omega, len_zero _, trivial⟩
theorem all_at {α : Type} {l : List α} {f : α → Bool} {i : Int} (h0 : 0 ≤ i) (hi : i < l.length) : (l.drop i.toNat).all f = (f l[i.toNat] && (l.drop (i + 1).toNat).all f) := by
  rw [drop_at h0 hi]; rfl
theorem okevent_Right (e : Event) (h1 : (U.eBox e).length ≤ 1000000000000) (h2 : (U.eTo e).length ≤ 1000000000000) : vcevent_Right e := by
  unfold vcevent_Right
  have hfold : U.evRight e = (!(decide (U.parts e.1 = [])) && (U.within (U.eAt e) 1099511627776 && U.order.all (U.okC (U.parts e.1) e))) := rfl
  simp only [beq_nil]
  simp only [cond_prop, cond_or, int_add, nat_sub, decide_eq_true_eq, decide_eq_false_iff_not, and_true, Bool.or_eq_true, Bool.or_eq_false_iff, Bool.not_eq_true', Bool.not_eq_false', U.Ievent_Right_5]
  refine ⟨fun hb => ?_, fun hb => ⟨by omega, 0, ⟨rfl, by omega, by omega, hb.1, hb.2, rfl⟩, ?_⟩⟩
  · rw [hfold]
    rcases hb with hb | hb
    · rw [decide_eq_true hb]; rfl
    · rw [show U.within (U.eAt e) 1099511627776 = false from hb, Bool.false_and, Bool.and_false]
  · rintro i ⟨h0, h9, hp, hw, ha⟩
    have hR : U.evRight e = U.order.all (U.okC (U.parts e.1) e) := by rw [hfold, decide_eq_false hp, hw]; rfl
    have hol : U.order.length = 9 := rfl
    refine ⟨fun hi => ?_, fun hi => ?_⟩
    · have hg : U.order.getD i.toNat 0 = U.order[i.toNat]'(by omega) := getD_at (by omega)
      have hstep := all_at (l := U.order) (f := U.okC (U.parts e.1) e) h0 (by omega)
      rw [ha] at hstep
      rw [hg, wrap_i (x := i + 1) (by omega) (by omega)]
      have hnext : U.okC (U.parts e.1) e (U.order[i.toNat]'(by omega)) = true → (U.order.drop (i + 1).toNat).all (U.okC (U.parts e.1) e) = U.order.all (U.okC (U.parts e.1) e) := fun h => by rw [hstep, h, Bool.true_and]
      refine ⟨h0, by show i < 9; omega, by omega, h1, h2, fun hc => ⟨fun hn => ?_, fun hn => ⟨i + 1, rfl, ⟨by omega, by omega, hp, hw, hnext ?_⟩, by omega⟩⟩, fun hc => ⟨fun hn => ?_, fun hn => ⟨i + 1, rfl, ⟨by omega, by omega, hp, hw, hnext ?_⟩, by omega⟩⟩⟩
      · have : U.okC (U.parts e.1) e (U.order[i.toNat]'(by omega)) = false := by unfold U.okC; rw [decide_eq_true hc]; exact hn
        rw [hR, hstep, this]; rfl
      · unfold U.okC; rw [decide_eq_true hc]; exact hn
      · have : U.okC (U.parts e.1) e (U.order[i.toNat]'(by omega)) = false := by unfold U.okC; rw [decide_eq_false hc]; exact hn
        rw [hR, hstep, this]; rfl
      · unfold U.okC; rw [decide_eq_false hc]; exact hn
    · have : i = 9 := by omega
      subst this
      rw [hR, ← ha]; rfl
theorem okevent_Same (a b : Event) : vcevent_Same a b := by
  unfold vcevent_Same U.evSame
  simp only [beq_dec, cond_and]
  cases h : (decide (a.1 = b.1) && decide (a.2.1 = b.2.1) && decide (a.2.2.1 = b.2.2.1) && decide (a.2.2.2.1 = b.2.2.2.1) && decide (a.2.2.2.2.1 = b.2.2.2.2.1) && decide (a.2.2.2.2.2.1 = b.2.2.2.2.2.1) && decide (a.2.2.2.2.2.2.1 = b.2.2.2.2.2.2.1) && decide (a.2.2.2.2.2.2.2.1 = b.2.2.2.2.2.2.2.1) && decide (a.2.2.2.2.2.2.2.2.1 = b.2.2.2.2.2.2.2.2.1) && decide (a.2.2.2.2.2.2.2.2.2.1 = b.2.2.2.2.2.2.2.2.2.1)) with
  | true =>
    refine ⟨?_, trivial⟩
    simp only [Bool.and_eq_true] at h
    obtain ⟨⟨⟨⟨⟨⟨⟨⟨⟨h1, h2⟩, h3⟩, h4⟩, h5⟩, h6⟩, h7⟩, h8⟩, h9⟩, h10⟩ := h
    unfold U.eKind U.eAt U.eBox U.eTo U.eIDs U.eSet U.eMode U.eFlags U.eDate U.eN U.eBody
    rw [h1, h2, h3, h4, h5, h6, h7, h8, h9, h10]; rfl
  | false =>
    refine ⟨?_, trivial⟩
    unfold U.eKind U.eAt U.eBox U.eTo U.eIDs U.eSet U.eMode U.eFlags U.eDate U.eN U.eBody
    simp only [← Bool.and_assoc]
    rw [h]; rfl
theorem okref12_Same (a b : Event) : vcref12_Same a b := by
  unfold vcref12_Same U.evSame U.eKind U.eAt U.eBox U.eTo U.eIDs U.eSet U.eMode U.eFlags U.eDate U.eN U.eBody
  simp only [beq_dec, cond_and, ← Bool.and_assoc]
  exact ⟨trivial, trivial⟩
theorem okref12_Great (e : Event) : vcref12_Great e := by
  unfold vcref12_Great U.great U.eBox U.eTo U.eIDs U.eSet U.eBody
  simp only [cond_or, ← Bool.or_assoc]
  refine ⟨?_, trivial⟩
  have h5 : ∀ a : Nat, decide ((a : Int) > 500) = decide (a > 500) := fun a => by rw [decide_eq_decide]; omega
  have h2 : ∀ a : Nat, decide ((a : Int) > 200) = decide (a > 200) := fun a => by rw [decide_eq_decide]; omega
  have h50 : ∀ a : Nat, decide ((a : Int) > 5000) = decide (a > 5000) := fun a => by rw [decide_eq_decide]; omega
  rw [h5, h5, h2, h2, h50]
theorem okevent_lay (b : List Int) (e : Event) (c : Int) (hb : b.length ≤ 100000000000) (h1 : (U.eIDs e).length ≤ 1000000000) (h2 : (U.eSet e).length ≤ 1000000000) : vcevent_lay b e c := by
  have hb' : b.length ≤ 1000000000000 := by omega
  have t1 : ∀ s : List Int, U.texts [s] = U.text1 s := fun s => by simp [U.texts]
  have n1 : ∀ n : Int, U.nums [n] = U.num1 n := fun n => by simp [U.nums]
  unfold vcevent_lay U.lay1
  by_cases h : c = 98
  · simp only [decide_eq_true h, cond_true]; exact ⟨hb', by omega, congrArg (b ++ ·) (t1 _), trivial⟩
  simp only [decide_eq_false h, cond_false]; clear h
  by_cases h : c = 116
  · simp only [decide_eq_true h, cond_true]; exact ⟨hb', by omega, congrArg (b ++ ·) (t1 _), trivial⟩
  simp only [decide_eq_false h, cond_false]; clear h
  by_cases h : c = 105
  · simp only [decide_eq_true h, cond_true]
    refine ⟨hb', by omega, ?_, by show (U.eIDs e).length ≤ _; omega, ?_, trivial⟩
    · show (b ++ U.nums [_]).length ≤ _; rw [n1, List.length_append, num1_len]; omega
    · show (b ++ U.nums [_]) ++ U.nums (U.eIDs e) = b ++ _
      rw [n1, List.append_assoc]; rfl
  simp only [decide_eq_false h, cond_false]; clear h
  by_cases h : c = 115
  · simp only [decide_eq_true h, cond_true, cond_prop, int_add, nat_sub, list_append, decide_eq_true_eq, decide_eq_false_iff_not, and_true, U.Ievent_lay_11, U.at_]
    refine ⟨hb', by omega, (_, 0), ⟨rfl, ⟨by show (0 : Int) ≤ 0; omega, by show (0 : Int) ≤ _; omega⟩, ?_⟩, ?_⟩
    · show b ++ U.nums [((U.eSet e).length : Int)] = b ++ (U.num1 (U.eSet e).length ++ [])
      rw [n1, List.append_nil]
    · rintro ⟨o, i⟩ ⟨⟨h0, hi1⟩, ho⟩
      simp only [] at *
      have hol : o.length ≤ b.length + 8 + 16 * (U.eSet e).length := by
        rw [ho, List.length_append, List.length_append, num1_len, pairs_len, List.length_take]
        have := Nat.mul_le_mul_left 16 (Nat.min_le_right i.toNat (U.eSet e).length); omega
      refine ⟨fun hi => ⟨h0, hi, by omega, by omega, (_, i + 1), by rw [wrap_i (x := i + 1) (by omega) (by omega)], ⟨⟨by show 0 ≤ i + 1; omega, by show i + 1 ≤ _; omega⟩, ?_⟩, by show (U.eSet e).length - (i + 1).toNat < _; omega⟩, fun hi => ?_⟩
      · show o ++ U.nums [((U.eSet e).getD i.toNat (0, 0)).1, ((U.eSet e).getD i.toNat (0, 0)).2] = _
        rw [ho, take_at h0 hi, pairs_snoc, getD_at (by omega), List.append_assoc, List.append_assoc]
        simp [U.nums]
      · rw [ho, take_end (by omega)]
  simp only [decide_eq_false h, cond_false]; clear h
  by_cases h : c = 109
  · simp only [decide_eq_true h, cond_true]; exact ⟨hb', by omega, congrArg (b ++ ·) (n1 _), trivial⟩
  simp only [decide_eq_false h, cond_false]; clear h
  by_cases h : c = 102
  · simp only [decide_eq_true h, cond_true]; exact ⟨hb', by omega, congrArg (b ++ ·) (n1 _), trivial⟩
  simp only [decide_eq_false h, cond_false]; clear h
  by_cases h : c = 100
  · simp only [decide_eq_true h, cond_true]; exact ⟨hb', by omega, congrArg (b ++ ·) (n1 _), trivial⟩
  simp only [decide_eq_false h, cond_false]; clear h
  by_cases h : c = 110
  · simp only [decide_eq_true h, cond_true]; exact ⟨hb', by omega, congrArg (b ++ ·) (n1 _), trivial⟩
  simp only [decide_eq_false h, cond_false]; clear h
  exact ⟨hb', by omega, congrArg (b ++ ·) (t1 _), trivial⟩
theorem enc_of {e : Event} (h : U.evRight e = true) : U.encE e = (U.encB e, 0) := by unfold U.encE; rw [h]; rfl
theorem enc_no {e : Event} (h : U.evRight e = false) : U.encE e = ([], 1) := by unfold U.encE; rw [h]; rfl
theorem flat_snoc {f : Int → List Int} (l : List Int) (c : Int) : (l ++ [c]).flatMap f = l.flatMap f ++ f c := by simp
theorem okevent_Encode (e : Event) (h1 : (U.eBox e).length ≤ 1000000000000) (h2 : (U.eTo e).length ≤ 1000000000000) : vcevent_Encode e := by
  unfold vcevent_Encode
  refine ⟨h1, h2, ?_⟩
  cases hr : U.evRight e with
  | false => rw [enc_no hr]; exact ⟨rfl, rfl, trivial⟩
  | true =>
    have hk : U.eKind e = e.1 := rfl
    rw [enc_of hr]
    simp only [Bool.not_true, cond_false, cond_prop, int_add, nat_sub, list_append, decide_eq_true_eq, decide_eq_false_iff_not, and_true, U.Ievent_Encode_5, U.at_]
    refine ⟨by omega, by omega, (_, 0), ⟨rfl, ⟨by show (0 : Int) ≤ 0; omega, by show (0 : Int) ≤ _; omega⟩, hr, ?_⟩, ?_⟩
    · show U.nums [e.1, e.2.1] = U.num1 (U.eKind e) ++ (U.num1 (U.eAt e) ++ [])
      simp [U.nums]; rfl
    · rintro ⟨o, i⟩ ⟨⟨h0, hi1⟩, _, ho⟩
      simp only [] at *
      refine ⟨fun hi => ?_, fun hi => ?_⟩
      · have hm : (U.parts e.1)[i.toNat]'(by omega) ∈ U.parts (U.eKind e) := List.getElem_mem _
        have hids : (U.eIDs e).length ≤ 60 := by
          by_cases h5 : 105 ∈ U.parts (U.eKind e)
          · exact (ids_low (show U.idsOk (U.eIDs e) = true from good_of hr h5)).1.2
          · have := ((((evRight_iff e).1 hr).2.2 105 (by decide)).2 h5)
            rw [of_decide_eq_true (show decide (U.eIDs e = []) = true from this)]; exact Nat.zero_le _
        have hset : (U.eSet e).length ≤ 60 := by
          by_cases h5 : 115 ∈ U.parts (U.eKind e)
          · exact (set_low (show U.setOk (U.eSet e) = true from good_of hr h5)).1
          · have := ((((evRight_iff e).1 hr).2.2 115 (by decide)).2 h5)
            rw [of_decide_eq_true (show decide (U.eSet e = []) = true from this)]; exact Nat.zero_le _
        have hpl : (U.parts e.1).length ≤ 4 := by
          have : ∀ p ∈ U.partsT, p.length ≤ 4 := by decide
          exact this _ (parts_mem _)
        have hol : o.length ≤ 30000 := by
          rw [ho, List.length_append, List.length_append, num1_len, num1_len]
          have := flat_len (f := fun c => U.lay1 c e) (k := 5000) ((U.parts e.1).take i.toNat) fun c hc => lay_len ((parts_ok _).2 c (List.mem_of_mem_take hc)) (good_of hr (List.mem_of_mem_take hc))
          have h4 : ((U.parts e.1).take i.toNat).length ≤ 4 := by rw [List.length_take]; omega
          have := Nat.mul_le_mul_left 5000 h4
          omega
        refine ⟨h0, hi, by omega, by omega, by omega, by omega, (_, i + 1), by rw [wrap_i (x := i + 1) (by omega) (by omega)], ⟨⟨by show 0 ≤ i + 1; omega, by show i + 1 ≤ _; omega⟩, hr, ?_⟩, by show (U.parts e.1).length - (i + 1).toNat < _; omega⟩
        show o ++ U.lay1 ((U.parts e.1).getD i.toNat 0) e = _
        rw [ho, take_at h0 hi, flat_snoc, getD_at (by omega), List.append_assoc, List.append_assoc]
      · rw [ho, take_end (by omega)]; rfl
theorem okref08_Right (f : Int) : vcref08_Right f := by
  unfold vcref08_Right U.fRight; rw [cond_and]; exact ⟨rfl, trivial⟩
theorem okref09_Rising (l : List Int) (h : l.length ≤ maxLen) : vcref09_Rising l := by
  unfold vcref09_Rising
  rw [maxLen_eq] at h
  simp only [cond_prop, cond_and, cond_or, int_add, int_sub, int_mul, int_neg, nat_add, nat_sub, nat_mul, list_append, list_beq, U.at_, maxLen_eq, decide_eq_true_eq, decide_eq_false_iff_not, bne_iff_ne, bne_eq_false_iff_eq, Bool.not_eq_true', Bool.not_eq_false', Bool.not_eq_eq_eq_not, Bool.not_true, Bool.not_false, beq_eq_false_iff_ne, beq_iff_eq, and_true, true_and, Bool.and_eq_true, Bool.or_eq_true, Bool.and_eq_false_iff, Bool.or_eq_false_iff, U.Iref09_Rising_2]
  refine ⟨0, ⟨rfl, ⟨by omega, by omega⟩, by show (0 : Int) ≤ 0; omega, rfl⟩, ?_⟩
  rintro i ⟨⟨h0, h1⟩, h2, h3⟩
  refine ⟨fun hi => ⟨h0, hi, fun _ => h0, fun _ => hi, fun _ _ => by rw [wrap_i] <;> omega, fun _ _ => by rw [wrap_i] <;> omega, fun _ _ => h0, fun _ _ => hi, fun hb => ?_, fun hb => ⟨i + 1, by rw [wrap_i (x := i + 1) (by omega) (by omega)], ⟨⟨by omega, by omega⟩, ?_, ?_⟩, by omega⟩⟩, fun hi => ?_⟩
  · rw [rise_at h0 hi h3]
    rw [getD_at (by omega)] at hb
    have : (decide (U.prevI l i < l[i.toNat]) && decide (l[i.toNat] ≤ 4294967295)) = false := by
      rw [Bool.and_eq_false_iff, decide_eq_false_iff_not, decide_eq_false_iff_not]
      rcases hb with (hb | hb) | ⟨hb1, hb2⟩
      · left; omega
      · right; omega
      · left
        rw [wrap_i (x := i - 1) (by omega) (by omega)] at hb2
        unfold U.prevI; rw [decide_eq_false (by omega)]; simp only [cond_false]; omega
    rw [this]; rfl
  · rw [getD_at (by omega)] at hb
    rw [prev_next h0 hi]; omega
  · rw [getD_at (by omega)] at hb
    rw [prev_next h0 hi, rise_at h0 hi h3]
    have : (decide (U.prevI l i < l[i.toNat]) && decide (l[i.toNat] ≤ 4294967295)) = true := by
      rw [Bool.and_eq_true, decide_eq_true_eq, decide_eq_true_eq]
      obtain ⟨⟨hb1, hb2⟩, hb3⟩ := hb
      refine ⟨?_, by omega⟩
      unfold U.prevI
      by_cases hz : i = 0
      · rw [decide_eq_true hz]; simp only [cond_true]; omega
      · rw [decide_eq_false hz]; simp only [cond_false]
        rw [wrap_i (x := i - 1) (by omega) (by omega)] at hb3
        omega
    rw [this, Bool.true_and]
  · rw [h3, drop_end (by omega)]; rfl
theorem badR_iff (r : Range) : U.badR r = (decide (r.1 < 0) || decide (r.1 > 4294967295) || decide (r.2 < 0) || decide (r.2 > 4294967295)) := by
  unfold U.badR U.within
  rw [Bool.eq_iff_iff]
  simp only [Bool.or_eq_true, Bool.not_eq_true', Bool.and_eq_false_iff, decide_eq_false_iff_not, decide_eq_true_eq]
  omega
theorem okref09_Right (l : List Range) (h : l.length ≤ maxLen) : vcref09_Right l := by
  unfold vcref09_Right U.setOk
  rw [maxLen_eq] at h
  simp only [cond_prop, cond_and, cond_or, int_add, int_sub, int_mul, int_neg, nat_add, nat_sub, nat_mul, list_append, list_beq, U.at_, maxLen_eq, decide_eq_true_eq, decide_eq_false_iff_not, bne_iff_ne, bne_eq_false_iff_eq, Bool.not_eq_true', Bool.not_eq_false', Bool.not_eq_eq_eq_not, Bool.not_true, Bool.not_false, beq_eq_false_iff_ne, beq_iff_eq, and_true, true_and, Bool.and_eq_true, Bool.or_eq_true, Bool.and_eq_false_iff, Bool.or_eq_false_iff, U.Iref09_Right_2]
  refine ⟨0, ⟨rfl, ⟨by omega, by omega⟩, by omega, rfl⟩, ?_⟩
  rintro i ⟨⟨h0, h1⟩, h2, h3⟩
  refine ⟨fun hi => ⟨h0, hi.1, fun _ => h0, fun _ => hi.1, fun _ => h0, fun _ => hi.1, fun _ => h0, fun _ => hi.1, fun hb => ?_, fun hb => ⟨i + 1, by rw [wrap_i (x := i + 1) (by omega) (by omega)], ⟨⟨by omega, by omega⟩, by omega, ?_⟩, by omega⟩⟩, fun hi => ?_⟩
  · rw [getD_at (by omega)] at hb
    have : U.badR l[i.toNat] = true := by rw [badR_iff]; simpa using hb
    rw [← h3, drop_at h0 hi.1, List.any_cons, this]; simp
  · rw [getD_at (by omega)] at hb
    have : U.badR l[i.toNat] = false := by rw [badR_iff]; simpa using hb
    rw [← h3, drop_at h0 hi.1, List.any_cons, this, Bool.false_or]
  · by_cases h6 : l.length ≤ 60
    · have hd : l.drop i.toNat = [] := drop_end (by omega)
      rw [← h3, hd, decide_eq_true h6, show decide ((l.length : Int) ≥ 1) = decide (l.length ≥ 1) by rw [decide_eq_decide]; omega, decide_eq_true (by omega : (l.length : Int) ≤ 60)]
      simp
    · rw [decide_eq_false h6, decide_eq_false (by omega : ¬ (l.length : Int) ≤ 60)]; simp
theorem okref12_Parts (k : Int) : vcref12_Parts k := by
  unfold vcref12_Parts
  by_cases hk : 0 ≤ k ∧ k < 15
  · have : k = 0 ∨ k = 1 ∨ k = 2 ∨ k = 3 ∨ k = 4 ∨ k = 5 ∨ k = 6 ∨ k = 7 ∨ k = 8 ∨ k = 9 ∨ k = 10 ∨ k = 11 ∨ k = 12 ∨ k = 13 ∨ k = 14 := by omega
    rcases this with rfl | rfl | rfl | rfl | rfl | rfl | rfl | rfl | rfl | rfl | rfl | rfl | rfl | rfl | rfl <;> exact ⟨rfl, trivial⟩
  · have hp : U.parts k = [] := by
      unfold U.parts
      rw [show (decide (k < 0) || decide (k ≥ 15)) = true by rw [Bool.or_eq_true, decide_eq_true_eq, decide_eq_true_eq]; omega]; rfl
    rw [hp]
    have hn : ∀ n : Int, 0 ≤ n → n < 15 → decide (k = n) = false := fun n h1 h2 => by rw [decide_eq_false_iff_not]; omega
    simp only [hn 1 (by omega) (by omega), hn 2 (by omega) (by omega), hn 3 (by omega) (by omega), hn 4 (by omega) (by omega), hn 5 (by omega) (by omega), hn 6 (by omega) (by omega), hn 7 (by omega) (by omega), hn 8 (by omega) (by omega), hn 9 (by omega) (by omega), hn 10 (by omega) (by omega), hn 11 (by omega) (by omega), hn 12 (by omega) (by omega), hn 13 (by omega) (by omega), hn 14 (by omega) (by omega), cond_false, and_true]
theorem okref12_time (n : Int) : vcref12_time n := by
  unfold vcref12_time U.within; rw [cond_and]; exact ⟨rfl, trivial⟩
theorem okref12_set (l : List Range) : vcref12_set l := by
  unfold vcref12_set
  refine ⟨?_, trivial⟩
  cases l with
  | nil => rfl
  | cons x r =>
    rw [decide_eq_false (by rw [List.length_cons]; omega), decide_eq_true (by rw [List.length_cons]; omega : (x :: r).length ≥ 1)]; rfl
theorem okref12_has (s : List Int) (c : Int) (h : s.length ≤ maxLen) : vcref12_has s c := by
  unfold vcref12_has
  rw [maxLen_eq] at h
  have hm : ∀ l : List Int, decide (idxB l c ≥ 0) = decide (c ∈ l) := fun l => by rw [decide_eq_decide]; exact idxB_mem l c
  simp only [cond_prop, cond_and, cond_or, int_add, int_sub, int_mul, int_neg, nat_add, nat_sub, nat_mul, list_append, list_beq, U.at_, maxLen_eq, decide_eq_true_eq, decide_eq_false_iff_not, bne_iff_ne, bne_eq_false_iff_eq, Bool.not_eq_true', Bool.not_eq_false', Bool.not_eq_eq_eq_not, Bool.not_true, Bool.not_false, beq_eq_false_iff_ne, beq_iff_eq, and_true, true_and, Bool.and_eq_true, Bool.or_eq_true, Bool.and_eq_false_iff, Bool.or_eq_false_iff, U.Iref12_has_2, hm]
  refine ⟨0, ⟨rfl, ⟨by omega, by omega⟩, rfl⟩, ?_⟩
  rintro i ⟨⟨h0, h1⟩, h2⟩
  refine ⟨fun hi => ⟨h0, hi, fun he => ?_, fun he => ⟨i + 1, by rw [wrap_i (x := i + 1) (by omega) (by omega)], ⟨⟨by omega, by omega⟩, ?_⟩, by omega⟩⟩, fun hi => ?_⟩
  · rw [getD_at (by omega)] at he
    rw [h2, drop_at h0 hi]; symm; rw [decide_eq_true_eq, he]; simp
  · rw [getD_at (by omega)] at he
    rw [h2, drop_at h0 hi, decide_eq_decide, List.mem_cons]
    constructor
    · rintro (h | h)
      · exact absurd h.symm he
      · exact h
    · exact .inr
  · rw [h2, drop_end (by omega)]; rfl
theorem rNum_suf (r : U.RS) : ∃ k, (U.rNum r).2.1 = r.1.drop k := by
  unfold U.rNum
  cases decide (r.2 = 0) with
  | false => exact ⟨0, rfl⟩
  | true =>
    cases decide (r.1.length < 8) with
    | true => exact ⟨0, rfl⟩
    | false => cases decide (U.valB (r.1.take 8) > 4611686018427387904) <;> exact ⟨8, rfl⟩
theorem rText_suf (r : U.RS) : (∃ k, (U.rText r).2.1 = r.1.drop k) ∧ (U.rText r).1.length ≤ r.1.length := by
  unfold U.rText
  cases decide (r.2 = 0) with
  | false => exact ⟨⟨0, rfl⟩, Nat.zero_le _⟩
  | true =>
    cases decide (r.1.length < 4) with
    | true => exact ⟨⟨0, rfl⟩, Nat.zero_le _⟩
    | false =>
      cases decide (U.valB (r.1.take 4) > 4096) with
      | true => exact ⟨⟨4, rfl⟩, Nat.zero_le _⟩
      | false =>
        cases decide ((r.1.drop 4).length < (U.valB (r.1.take 4)).toNat) with
        | true => exact ⟨⟨4, rfl⟩, Nat.zero_le _⟩
        | false => exact ⟨⟨4 + (U.valB (r.1.take 4)).toNat, by rw [← List.drop_drop]; rfl⟩, by show ((r.1.drop 4).take _).length ≤ _; rw [List.length_take, List.length_drop]; omega⟩
theorem rCount_suf (m : Int) (r : U.RS) : ∃ k, (U.rCount m r).2.1 = r.1.drop k := by
  unfold U.rCount
  obtain ⟨k, h⟩ := rNum_suf r
  cases (decide ((U.rNum r).2.2 = 0) && decide ((U.rNum r).1 > m)) <;> exact ⟨k, h⟩
theorem suf_trans {a b c : List Int} (h1 : ∃ k, b = a.drop k) (h2 : ∃ k, c = b.drop k) : ∃ k, c = a.drop k := by
  obtain ⟨i, rfl⟩ := h1
  obtain ⟨j, rfl⟩ := h2
  exact ⟨i + j, by rw [List.drop_drop]⟩
theorem readNums_suf : ∀ (n : Nat) (r : U.RS), ∃ k, (U.readNums n r).2.1 = r.1.drop k
  | 0, r => ⟨0, rfl⟩
  | n + 1, r => suf_trans (rNum_suf r) (readNums_suf n (U.rNum r).2)
theorem readRanges_suf : ∀ (n : Nat) (r : U.RS), ∃ k, (U.readRanges n r).2.1 = r.1.drop k
  | 0, r => ⟨0, rfl⟩
  | n + 1, r => suf_trans (rNum_suf r) (suf_trans (rNum_suf (U.rNum r).2) (readRanges_suf n (U.rNum (U.rNum r).2).2))
def okX (M : Nat) (x : U.RS × Event) : Prop := (∀ z ∈ x.1.1, Byte z) ∧ x.1.1.length ≤ M ∧ (U.eBox x.2).length ≤ M ∧ (U.eTo x.2).length ≤ M
theorem okX_suf {M : Nat} {x y : U.RS × Event} (h : okX M x) (hs : ∃ k, y.1.1 = x.1.1.drop k) (hb : (U.eBox y.2).length ≤ M) (ht : (U.eTo y.2).length ≤ M) : okX M y := by
  obtain ⟨k, hk⟩ := hs
  refine ⟨fun z hz => h.1 z (List.mem_of_mem_drop (by rw [← hk]; exact hz)), ?_, hb, ht⟩
  rw [hk, List.length_drop]; have := h.2.1; omega
theorem okX_read {M : Nat} {x : U.RS × Event} (h : okX M x) (c : Int) : okX M (U.readC c x) := by
  have key : ∀ (b : Bool) (p q : U.RS × Event), okX M p → okX M q → okX M (cond b p q) := by intro b p q h1 h2; cases b <;> assumption
  have hN := rNum_suf x.1
  have hT := rText_suf x.1
  have hl : (U.rText x.1).1.length ≤ M := Nat.le_trans hT.2 h.2.1
  unfold U.readC
  refine key _ _ _ (okX_suf h hT.1 hl h.2.2.2) (key _ _ _ (okX_suf h hT.1 h.2.2.1 hl) (key _ _ _ (okX_suf h ?_ h.2.2.1 h.2.2.2) (key _ _ _ (okX_suf h ?_ h.2.2.1 h.2.2.2) (key _ _ _ (okX_suf h hN h.2.2.1 h.2.2.2) (key _ _ _ (okX_suf h hN h.2.2.1 h.2.2.2) (key _ _ _ (okX_suf h hN h.2.2.1 h.2.2.2) (key _ _ _ (okX_suf h hN h.2.2.1 h.2.2.2) (key _ _ _ (okX_suf h hT.1 h.2.2.1 h.2.2.2) h))))))))
  · exact suf_trans (rCount_suf 60 x.1) (readNums_suf _ _)
  · exact suf_trans (rCount_suf 60 x.1) (readRanges_suf _ _)
theorem okX_fold {M : Nat} : ∀ (p : List Int) {x : U.RS × Event}, okX M x → okX M (foldC p x)
  | [], _, h => h
  | c :: p, _, h => okX_fold p (okX_read h c)
theorem okX_dec0 {b : List Int} (hb : ∀ z ∈ b, Byte z) : okX b.length (U.dec0 b) := by
  have h0 : okX b.length ((b, 0), (U.dec0 b).2) := ⟨hb, Nat.le_refl _, Nat.zero_le _, Nat.zero_le _⟩
  refine okX_suf h0 ?_ (Nat.zero_le _) (Nat.zero_le _)
  have h2 : ∃ k, (U.rNum (U.rNum (b, 0)).2).2.1 = b.drop k := suf_trans (rNum_suf (b, 0)) (rNum_suf (U.rNum (b, 0)).2)
  have : ∀ (t : Bool) (r : U.RS), (U.rFail t r).1 = r.1 := fun t r => by unfold U.rFail; cases (decide (r.2 = 0) && t) <;> rfl
  show ∃ k, (U.rFail _ _).1 = _
  rw [this]; exact h2
theorem rCount_bd {r : U.RS} (hb : ∀ z ∈ r.1, Byte z) : 0 ≤ (U.rCount 60 r).1 ∧ (U.rCount 60 r).1 ≤ 60 := by
  unfold U.rCount U.rNum
  by_cases h0 : r.2 = 0
  · by_cases h8 : r.1.length < 8
    · simp [h0, h8]
    · have hv := valB_low 8 (r.1.take 8) (by rw [List.length_take]; omega) (fun x hx => hb x (List.mem_of_mem_take hx))
      by_cases hg : U.valB (r.1.take 8) > 4611686018427387904
      · simp [h0, h8, hg]
      · by_cases h60 : U.valB (r.1.take 8) > 60
        · simp [h0, h8, hg, h60]
        · simp [h0, h8, hg, h60]; omega
  · simp [h0]
theorem decE_ok {b : List Int} (hf : U.rDone (U.dec1 b).1 = 0) (hr : U.evRight (U.dec1 b).2 = true) : U.decE b = ((U.dec1 b).2, 0) := by
  have h : U.decF b = 0 := by unfold U.decF; simp only [hf, hr]; rfl
  unfold U.decE; rw [h]; rfl
theorem decE_form {b : List Int} (hf : U.rDone (U.dec1 b).1 = 0) (hr : U.evRight (U.dec1 b).2 = false) : U.decE b = (U.zeroE, 3) := by
  have h : U.decF b = 3 := by unfold U.decF; simp only [hf, hr]; rfl
  unfold U.decE; rw [h]; rfl
theorem decE_bad {b : List Int} (hf : U.rDone (U.dec1 b).1 ≠ 0) : U.decE b = (U.zeroE, U.rDone (U.dec1 b).1) := by
  have h : U.decF b = U.rDone (U.dec1 b).1 := by unfold U.decF; simp only []; rw [decide_eq_false hf]; rfl
  unfold U.decE; rw [h, decide_eq_false hf]; rfl
theorem readNums_c (n : Nat) (r : U.RS) : U.readNums (n + 1) r = ((U.rNum r).1 :: (U.readNums n (U.rNum r).2).1, (U.readNums n (U.rNum r).2).2) := rfl
theorem readRanges_c (n : Nat) (r : U.RS) : U.readRanges (n + 1) r = (((U.rNum r).1, (U.rNum (U.rNum r).2).1) :: (U.readRanges n (U.rNum (U.rNum r).2).2).1, (U.readRanges n (U.rNum (U.rNum r).2).2).2) := rfl
theorem readNums_len : ∀ (n : Nat) (r : U.RS), (U.readNums n r).1.length = n
  | 0, _ => rfl
  | n + 1, r => by rw [readNums_c, List.length_cons, readNums_len n]
theorem readRanges_len : ∀ (n : Nat) (r : U.RS), (U.readRanges n r).1.length = n
  | 0, _ => rfl
  | n + 1, r => by rw [readRanges_c, List.length_cons, readRanges_len n]
def cntX (n : Nat) (x : U.RS × Event) : Prop := (U.eIDs x.2).length ≤ n ∧ (U.eSet x.2).length ≤ n
theorem cntX_read {M n : Nat} {x : U.RS × Event} (h : okX M x) (hc : cntX n x) (c : Int) : cntX (n + 60) (U.readC c x) := by
  have key : ∀ (b : Bool) (p q : U.RS × Event), cntX (n + 60) p → cntX (n + 60) q → cntX (n + 60) (cond b p q) := by intro b p q h1 h2; cases b <;> assumption
  have h1 := hc.1
  have h2 := hc.2
  have hb := rCount_bd (r := x.1) h.1
  have same : ∀ y : U.RS × Event, U.eIDs y.2 = U.eIDs x.2 → U.eSet y.2 = U.eSet x.2 → cntX (n + 60) y := fun y e1 e2 => ⟨by rw [e1]; omega, by rw [e2]; omega⟩
  unfold U.readC
  refine key _ _ _ (same _ rfl rfl) (key _ _ _ (same _ rfl rfl) (key _ _ _ ?_ (key _ _ _ ?_ (key _ _ _ (same _ rfl rfl) (key _ _ _ (same _ rfl rfl) (key _ _ _ (same _ rfl rfl) (key _ _ _ (same _ rfl rfl) (key _ _ _ (same _ rfl rfl) (same _ rfl rfl)))))))))
  · refine ⟨?_, by show (U.eSet x.2).length ≤ _; omega⟩
    show (U.eIDs x.2 ++ (U.readNums (U.rCount 60 x.1).1.toNat (U.rCount 60 x.1).2).1).length ≤ _
    rw [List.length_append, readNums_len]; omega
  · refine ⟨by show (U.eIDs x.2).length ≤ _; omega, ?_⟩
    show (U.eSet x.2 ++ (U.readRanges (U.rCount 60 x.1).1.toNat (U.rCount 60 x.1).2).1).length ≤ _
    rw [List.length_append, readRanges_len]; omega
theorem cntX_fold {M : Nat} : ∀ (p : List Int) {n : Nat} {x : U.RS × Event}, okX M x → cntX n x → cntX (n + 60 * p.length) (foldC p x)
  | [], _, _, _, hc => hc
  | c :: p, n, x, h, hc => by
    have := cntX_fold p (okX_read h c) (cntX_read h hc c)
    rw [show n + 60 + 60 * p.length = n + 60 * (c :: p).length by rw [List.length_cons]; omega] at this
    exact this
theorem okevent_Decode (b : List Int) (hb : ∀ z ∈ b, Valid (.int .u8) z) (hl : b.length ≤ 1000000000) : vcevent_Decode b := by
  have hbb := byte_of_valid hb
  unfold vcevent_Decode
  have hPM := parts_mem (U.rNum (b, 0)).1
  have hP4 : (U.parts (U.rNum (b, 0)).1).length ≤ 4 := by
    have : ∀ p ∈ U.partsT, p.length ≤ 4 := by decide
    exact this _ hPM
  have hord := (parts_ok (U.rNum (b, 0)).1).2
  have hd0 : U.dec0 b = (U.rFail ((U.parts (U.rNum (b, 0)).1).beq []) (U.rNum (U.rNum (b, 0)).2).2, (U.rNum (b, 0)).1, (U.rNum (U.rNum (b, 0)).2).1, [], [], [], [], 0, 0, 0, 0, []) := by rw [beq_nil]; rfl
  have hd1 : U.dec1 b = foldC (U.parts (U.rNum (b, 0)).1) (U.dec0 b) := rfl
  have hok0 := okX_dec0 hbb
  obtain ⟨p, hP⟩ : ∃ p, U.parts (U.rNum (b, 0)).1 = p := ⟨_, rfl⟩
  rw [hP] at hPM hP4 hord hd0 hd1 ⊢
  refine ⟨((U.dec0 b).1.1, (U.dec0 b).1.2, (U.dec0 b).2, 0), ⟨by rw [hd0]; simp only [U.stevent_Decode_6, hP] <;> rfl, ⟨by show (0 : Int) ≤ 0; omega, by show (0 : Int) ≤ _; omega⟩, rfl⟩, ?_⟩
  rintro ⟨l, r, e, i⟩ ⟨⟨h0, h1⟩, hI⟩
  simp only [hP] at h0 h1 hI
  simp only []
  have hX : okX b.length ((l, r), e) := by rw [hI]; exact okX_fold _ hok0
  have hcnt : cntX 240 ((l, r), e) := by
    have := cntX_fold (p.take i.toNat) hok0 (n := 0) ⟨Nat.zero_le _, Nat.zero_le _⟩
    have hle : (p.take i.toNat).length ≤ 4 := by rw [List.length_take]; omega
    rw [hI]
    exact ⟨Nat.le_trans this.1 (by omega), Nat.le_trans this.2 (by omega)⟩
  have hnext : (hi : i < p.length) → ∀ z, z = U.readC p[i.toNat] ((l, r), e) → U.Ievent_Decode_6 b z.1.1 z.1.2 z.2 (i + 1) := by
    intro hi z hz
    refine ⟨⟨by omega, by rw [hP]; omega⟩, ?_⟩
    show z = _
    rw [hz, hI, hP, take_at h0 hi, List.foldl_append]; rfl
  rw [cond_prop]
  refine ⟨fun hi => ?_, fun hi => ?_⟩
  · have hi : i < p.length := of_decide_eq_true hi
    have hg : p.getD i.toNat 0 = p[i.toNat] := getD_at (by omega)
    have hmu : p.length.sub (i + 1).toNat < p.length.sub i.toNat := by simp only [nat_sub]; omega
    rw [hg]
    have hw : IntKind.i64.wrap (i.add 1) = i + 1 := by rw [int_add, wrap_i] <;> omega
    rw [hw]
    have hn := hnext hi
    have hmo := mem_order (hord p[i.toNat] (List.getElem_mem _))
    refine ⟨h0, hi, by omega, ?_⟩
    generalize p[i.toNat] = c at *
    rcases hmo with rfl | rfl | rfl | rfl | rfl | rfl | rfl | rfl | rfl
    · exact ⟨((U.readC 98 ((l, r), e)).1.1, (U.readC 98 ((l, r), e)).1.2, (U.readC 98 ((l, r), e)).2, i + 1), by simp only [U.stevent_Decode_6, hP] <;> rfl, hn _ rfl, hmu⟩
    · exact ⟨((U.readC 116 ((l, r), e)).1.1, (U.readC 116 ((l, r), e)).1.2, (U.readC 116 ((l, r), e)).2, i + 1), by simp only [U.stevent_Decode_6, hP] <;> rfl, hn _ rfl, hmu⟩
    · show ∃ x0, _
      have hc := rCount_bd (r := (l, r)) hX.1
      refine ⟨((U.rCount 60 (l, r)).2.1, (U.rCount 60 (l, r)).2.2, e, p, (U.rCount 60 (l, r)).1, 0), ⟨rfl, ?_⟩, ?_⟩
      · exact ⟨rfl, rfl, by show (0 : Int) ≤ 0; omega, hc.1, hc.2, rfl, by show _ = _ + Int.toNat 0; rfl, rfl, by simp, by simp⟩
      · rintro ⟨l1, r1, e1, p1, n1, j⟩ ⟨hn1, hp1, j0, j1, hn60, _, hlen, he1, hnum1, hnum2⟩
        simp only [] at *
        subst hn1; subst hp1
        have j0 : 0 ≤ j := j0
        have j1 : j ≤ (U.rCount 60 (l, r)).1 := j1
        rw [cond_prop]
        have hidl : (U.eIDs e1).length ≤ (U.eIDs e).length + 60 := by omega
        have hide : (U.eIDs e).length ≤ 240 := hcnt.1
        refine ⟨fun hj => ?_, fun hj => ?_⟩
        · have hj : j < _ := of_decide_eq_true hj
          have hwj : IntKind.i64.wrap (j.add 1) = j + 1 := by rw [int_add, wrap_i] <;> omega
          rw [hwj]
          have hst := readNums_c ((U.rCount 60 (l, r)).1 - (j + 1)).toNat (l1, r1)
          rw [show ((U.rCount 60 (l, r)).1 - (j + 1)).toNat + 1 = ((U.rCount 60 (l, r)).1 - j).toNat by omega] at hst
          rw [hst] at hnum1 hnum2
          refine ⟨by simp only [nat_add, nat_mul]; omega, by simp only [nat_add, maxLen_eq]; omega, ((U.rNum (l1, r1)).2.1, (U.rNum (l1, r1)).2.2, (U.eKind e1, U.eAt e1, U.eBox e1, U.eTo e1, U.eIDs e1 ++ [(U.rNum (l1, r1)).1], U.eSet e1, U.eMode e1, U.eFlags e1, U.eDate e1, U.eN e1, U.eBody e1), p1, (U.rCount 60 (l, r)).1, j + 1), rfl, ⟨rfl, rfl, by show 0 ≤ j + 1; omega, by show j + 1 ≤ (U.rCount 60 (l, r)).1; omega, hn60, rfl, ?_, ?_, ?_, hnum2⟩, ?_⟩
          · show (U.eIDs e1 ++ [_]).length = _ + (j + 1).toNat
            rw [List.length_append, hlen]; show _ + j.toNat + 1 = _; omega
          · rw [he1]; rfl
          · show U.eIDs e ++ _ = (U.eIDs e1 ++ [_]) ++ _
            rw [hnum1, List.append_assoc]; rfl
          · show ((U.rCount 60 (l, r)).1 - (j + 1)).toNat < ((U.rCount 60 (l, r)).1 - j).toNat; omega
        · have hj : ¬ j < _ := of_decide_eq_false hj
          have hjn : ((U.rCount 60 (l, r)).1 - j).toNat = 0 := by omega
          rw [hjn] at hnum1 hnum2
          have hz : ((l1, r1), e1) = U.readC 105 ((l, r), e) := by
            refine Prod.ext hnum2.symm ?_
            rw [he1]
            show (U.eKind e, U.eAt e, U.eBox e, U.eTo e, U.eIDs e1, _) = (U.eKind e, U.eAt e, U.eBox e, U.eTo e, U.eIDs e ++ (U.readNums (U.rCount 60 (l, r)).1.toNat (U.rCount 60 (l, r)).2).1, _)
            have : U.eIDs e ++ (U.readNums (U.rCount 60 (l, r)).1.toNat (U.rCount 60 (l, r)).2).1 = U.eIDs e1 := by
              have h2 : U.eIDs e ++ (U.readNums (U.rCount 60 (l, r)).1.toNat ((U.rCount 60 (l, r)).2.1, (U.rCount 60 (l, r)).2.2)).1 = U.eIDs e1 ++ [] := hnum1
              rw [List.append_nil] at h2; exact h2
            rw [this]
          exact ⟨(l1, r1, e1, i + 1), by simp only [U.stevent_Decode_6, hP] <;> rfl, hn ((l1, r1), e1) hz, hmu⟩
    · show ∃ x0, _
      have hc := rCount_bd (r := (l, r)) hX.1
      refine ⟨((U.rCount 60 (l, r)).2.1, (U.rCount 60 (l, r)).2.2, e, p, (U.rCount 60 (l, r)).1, 0), ⟨rfl, ?_⟩, ?_⟩
      · exact ⟨rfl, rfl, by show (0 : Int) ≤ 0; omega, hc.1, hc.2, rfl, by show _ = _ + Int.toNat 0; rfl, rfl, by simp, by simp⟩
      · rintro ⟨l1, r1, e1, p1, n1, j⟩ ⟨hn1, hp1, j0, j1, hn60, _, hlen, he1, hrng1, hrng2⟩
        simp only [] at *
        subst hn1; subst hp1
        have j0 : 0 ≤ j := j0
        have j1 : j ≤ (U.rCount 60 (l, r)).1 := j1
        rw [cond_prop]
        have hidl : (U.eSet e1).length ≤ (U.eSet e).length + 60 := by omega
        have hide : (U.eSet e).length ≤ 240 := hcnt.2
        refine ⟨fun hj => ?_, fun hj => ?_⟩
        · have hj : j < _ := of_decide_eq_true hj
          have hwj : IntKind.i64.wrap (j.add 1) = j + 1 := by rw [int_add, wrap_i] <;> omega
          rw [hwj]
          have hst := readRanges_c ((U.rCount 60 (l, r)).1 - (j + 1)).toNat (l1, r1)
          rw [show ((U.rCount 60 (l, r)).1 - (j + 1)).toNat + 1 = ((U.rCount 60 (l, r)).1 - j).toNat by omega] at hst
          rw [hst] at hrng1 hrng2
          refine ⟨by simp only [nat_add, nat_mul]; omega, by simp only [nat_add, maxLen_eq]; omega, ((U.rNum (U.rNum (l1, r1)).2).2.1, (U.rNum (U.rNum (l1, r1)).2).2.2, (U.eKind e1, U.eAt e1, U.eBox e1, U.eTo e1, U.eIDs e1, U.eSet e1 ++ [((U.rNum (l1, r1)).1, (U.rNum (U.rNum (l1, r1)).2).1)], U.eMode e1, U.eFlags e1, U.eDate e1, U.eN e1, U.eBody e1), p1, (U.rCount 60 (l, r)).1, j + 1), rfl, ⟨rfl, rfl, by show 0 ≤ j + 1; omega, by show j + 1 ≤ (U.rCount 60 (l, r)).1; omega, hn60, rfl, ?_, ?_, ?_, hrng2⟩, ?_⟩
          · show (U.eSet e1 ++ [_]).length = _ + (j + 1).toNat
            rw [List.length_append, hlen]; show _ + j.toNat + 1 = _; omega
          · rw [he1]; rfl
          · show U.eSet e ++ _ = (U.eSet e1 ++ [_]) ++ _
            rw [hrng1, List.append_assoc]; rfl
          · show ((U.rCount 60 (l, r)).1 - (j + 1)).toNat < ((U.rCount 60 (l, r)).1 - j).toNat; omega
        · have hj : ¬ j < _ := of_decide_eq_false hj
          have hjn : ((U.rCount 60 (l, r)).1 - j).toNat = 0 := by omega
          rw [hjn] at hrng1 hrng2
          have hz : ((l1, r1), e1) = U.readC 115 ((l, r), e) := by
            refine Prod.ext hrng2.symm ?_
            rw [he1]
            show (U.eKind e, U.eAt e, U.eBox e, U.eTo e, U.eIDs e, U.eSet e1, _) = (U.eKind e, U.eAt e, U.eBox e, U.eTo e, U.eIDs e, U.eSet e ++ (U.readRanges (U.rCount 60 (l, r)).1.toNat (U.rCount 60 (l, r)).2).1, _)
            have : U.eSet e ++ (U.readRanges (U.rCount 60 (l, r)).1.toNat (U.rCount 60 (l, r)).2).1 = U.eSet e1 := by
              have h2 : U.eSet e ++ (U.readRanges (U.rCount 60 (l, r)).1.toNat ((U.rCount 60 (l, r)).2.1, (U.rCount 60 (l, r)).2.2)).1 = U.eSet e1 ++ [] := hrng1
              rw [List.append_nil] at h2; exact h2
            rw [this]
          exact ⟨(l1, r1, e1, i + 1), by simp only [U.stevent_Decode_6, hP] <;> rfl, hn ((l1, r1), e1) hz, hmu⟩
    · exact ⟨((U.readC 109 ((l, r), e)).1.1, (U.readC 109 ((l, r), e)).1.2, (U.readC 109 ((l, r), e)).2, i + 1), by simp only [U.stevent_Decode_6, hP] <;> rfl, hn _ rfl, hmu⟩
    · exact ⟨((U.readC 102 ((l, r), e)).1.1, (U.readC 102 ((l, r), e)).1.2, (U.readC 102 ((l, r), e)).2, i + 1), by simp only [U.stevent_Decode_6, hP] <;> rfl, hn _ rfl, hmu⟩
    · exact ⟨((U.readC 100 ((l, r), e)).1.1, (U.readC 100 ((l, r), e)).1.2, (U.readC 100 ((l, r), e)).2, i + 1), by simp only [U.stevent_Decode_6, hP] <;> rfl, hn _ rfl, hmu⟩
    · exact ⟨((U.readC 110 ((l, r), e)).1.1, (U.readC 110 ((l, r), e)).1.2, (U.readC 110 ((l, r), e)).2, i + 1), by simp only [U.stevent_Decode_6, hP] <;> rfl, hn _ rfl, hmu⟩
    · exact ⟨((U.readC 121 ((l, r), e)).1.1, (U.readC 121 ((l, r), e)).1.2, (U.readC 121 ((l, r), e)).2, i + 1), by simp only [U.stevent_Decode_6, hP] <;> rfl, hn _ rfl, hmu⟩
  · have hi : ¬ i < p.length := of_decide_eq_false hi
    rw [take_end (by omega)] at hI
    have hD : U.dec1 b = ((l, r), e) := hd1.trans hI.symm
    have hev : ∀ x : Event, (x.1, x.2.1, x.2.2.1, x.2.2.2.1, U.eIDs x, U.eSet x, x.2.2.2.2.2.2) = x := fun _ => rfl
    rw [hev e]
    have h3 : ((3 : Int) != 0) = true := rfl
    rw [h3]
    refine ⟨fun _ => by have : (U.eBox e).length ≤ b.length := hX.2.2.1; show (U.eBox e).length ≤ 1000000000000; omega, fun _ => by have : (U.eTo e).length ≤ b.length := hX.2.2.2; show (U.eTo e).length ≤ 1000000000000; omega, ?_⟩
    by_cases hf : U.rDone (l, r) = 0
    · have hf1 : U.rDone (U.dec1 b).1 = 0 := by rw [hD]; exact hf
      rw [decide_eq_true hf]
      cases hr : U.evRight e with
      | false =>
        have := decE_form hf1 (by rw [hD]; exact hr)
        rw [this]
        exact ⟨rfl, rfl, rfl, rfl, rfl, rfl, rfl, rfl, rfl, rfl, rfl, rfl, trivial⟩
      | true =>
        have := decE_ok hf1 (by rw [hD]; exact hr)
        rw [this, hD, hf]
        exact ⟨rfl, rfl, rfl, rfl, rfl, rfl, rfl, rfl, rfl, rfl, rfl, rfl, trivial⟩
    · have hf1 : U.rDone (U.dec1 b).1 ≠ 0 := by rw [hD]; exact hf
      have := decE_bad hf1
      rw [this, hD, decide_eq_false hf, bne_iff_ne.2 hf]
      exact ⟨rfl, rfl, rfl, rfl, rfl, rfl, rfl, rfl, rfl, rfl, rfl, rfl, trivial⟩
theorem okref12_Right (e : Event) (h1 : (U.eBox e).length ≤ 1000000000000) (h2 : (U.eTo e).length ≤ 1000000000000) : vcref12_Right e := by
  unfold vcref12_Right
  have hfold : U.evRight e = (!(decide (U.parts e.1 = [])) && (U.within (U.eAt e) 1099511627776 && U.order.all (U.okC (U.parts e.1) e))) := rfl
  have horder : ∀ i : Int, [(98 : Int), 116, 105, 115, 109, 102, 100, 110, 121].getD i.toNat 0 = U.order.getD i.toNat 0 := fun _ => rfl
  simp only [horder]
  have e2 : (bif bif decide (((U.eIDs e).length : Int) ≥ 1) then decide (((U.eIDs e).length : Int) ≤ 60) else false then U.rise 0 (U.eIDs e) else false) = U.idsOk (U.eIDs e) := by
    unfold U.idsOk
    rw [cond_and, cond_and, Bool.and_comm]
    congr 1
    congr 1 <;> (rw [decide_eq_decide]; omega)
  have e4 : (bif decide (U.eMode e ≥ 0) then decide (U.eMode e ≤ 2) else false) = U.within (U.eMode e) 2 := by unfold U.within; rw [cond_and]
  have e8 : decide (((U.eBody e).length : Int) ≤ 2000) = decide ((U.eBody e).length ≤ 2000) := by rw [decide_eq_decide]; omega
  have hgl : [U.rightN (U.eBox e), U.rightN (U.eTo e), U.idsOk (U.eIDs e), U.setOk (U.eSet e), U.within (U.eMode e) 2, U.fRight (U.eFlags e), U.within (U.eDate e) 1099511627776, U.within (U.eN e) 1099511627776, decide ((U.eBody e).length ≤ 2000)] = U.order.map (fun c => U.good c e) := rfl
  have hnl : [decide (U.eBox e = []), decide (U.eTo e = []), decide (U.eIDs e = []), decide (U.eSet e = []), decide (U.eMode e = 0), decide (U.eFlags e = 0), decide (U.eDate e = 0), decide (U.eN e = 0), decide (U.eBody e = [])] = U.order.map (fun c => U.none_ c e) := rfl
  rw [beq_nil]
  rw [cond_prop]
  refine ⟨fun hb => ⟨?_, trivial⟩, fun hb => ⟨h1, h2, (U.order.map (fun c => U.good c e), U.order.map (fun c => U.none_ c e), 0), ⟨?_, ?_⟩, ?_⟩⟩
  · rw [hfold]
    rw [cond_or, Bool.or_eq_true, decide_eq_true_eq, Bool.not_eq_true'] at hb
    rcases hb with hb | hb
    · rw [decide_eq_true hb]; rfl
    · rw [show U.within (U.eAt e) 1099511627776 = false from hb, Bool.false_and, Bool.and_false]
  · rw [← hgl, ← hnl, ← e2, ← e4, ← e8, ← beq_nil, ← beq_nil, ← len_zero, ← len_zero, ← len_zero]; rfl
  · rw [cond_or, Bool.or_eq_false_iff, decide_eq_false_iff_not, Bool.not_eq_false'] at hb
    exact ⟨by show (0 : Int) ≤ 0; omega, by show (0 : Int) ≤ 9; omega, rfl, rfl, hb.1, hb.2, rfl⟩
  · rintro ⟨gl, nl, i⟩ ⟨h0, h9, rfl, rfl, hp, hw, ha⟩
    simp only []
    have h0 : 0 ≤ i := h0
    have h9 : i ≤ 9 := h9
    have hR : U.evRight e = U.order.all (U.okC (U.parts e.1) e) := by rw [hfold, decide_eq_false hp, hw]; rfl
    have hol : U.order.length = 9 := rfl
    rw [cond_prop]
    refine ⟨fun hi => ?_, fun hi => ⟨?_, trivial⟩⟩
    · have hi : i < 9 := of_decide_eq_true hi
      have hg : U.order.getD i.toNat 0 = U.order[i.toNat]'(by omega) := getD_at (by omega)
      have hgg : (U.order.map (fun c => U.good c e)).getD i.toNat false = U.good (U.order[i.toNat]'(by omega)) e := by rw [getD_at (by rw [List.length_map]; omega), List.getElem_map]
      have hng : (U.order.map (fun c => U.none_ c e)).getD i.toNat false = U.none_ (U.order[i.toNat]'(by omega)) e := by rw [getD_at (by rw [List.length_map]; omega), List.getElem_map]
      have hstep := all_at (l := U.order) (f := U.okC (U.parts e.1) e) h0 (by omega)
      rw [ha] at hstep
      simp only [hg, hgg, hng, int_add]
      rw [wrap_i (x := i + 1) (by omega) (by omega)]
      have hnext : U.okC (U.parts e.1) e (U.order[i.toNat]'(by omega)) = true → (U.order.drop (i + 1).toNat).all (U.okC (U.parts e.1) e) = U.order.all (U.okC (U.parts e.1) e) := fun h => by rw [hstep, h, Bool.true_and]
      have hokc : U.okC (U.parts e.1) e (U.order[i.toNat]'(by omega)) = cond (decide (idxB (U.parts e.1) (U.order[i.toNat]'(by omega)) ≥ 0)) (U.good (U.order[i.toNat]'(by omega)) e) (U.none_ (U.order[i.toNat]'(by omega)) e) := by
        unfold U.okC
        by_cases hx : idxB (U.parts e.1) (U.order[i.toNat]'(by omega)) ≥ 0
        · rw [decide_eq_true hx, decide_eq_false (by omega)]; rfl
        · rw [decide_eq_false hx, decide_eq_true (by omega)]; rfl
      generalize U.order[i.toNat]'(by omega) = c at *
      refine ⟨h0, by show i < 9; omega, fun _ => h0, fun _ => by show i < 9; omega, fun _ => by omega, fun _ => h0, fun _ => by show i < 9; omega, fun _ _ => h0, fun _ _ => by show i < 9; omega, fun _ _ => by omega, ?_⟩
      rw [cond_prop]
      refine ⟨fun hb => ⟨?_, trivial⟩, fun hb => ⟨(_, _, i + 1), rfl, ⟨by show 0 ≤ i + 1; omega, by show i + 1 ≤ 9; omega, rfl, rfl, hp, hw, hnext ?_⟩, by show 9 - (i + 1).toNat < 9 - i.toNat; omega⟩⟩
      · have : U.okC (U.parts e.1) e c = false := by
          rw [hokc]; revert hb
          cases decide (idxB (U.parts e.1) c ≥ 0) <;> cases U.good c e <;> cases U.none_ c e <;> simp
        rw [hR, hstep, this]; rfl
      · rw [hokc]; revert hb
        cases decide (idxB (U.parts e.1) c ≥ 0) <;> cases U.good c e <;> cases U.none_ c e <;> simp
    · have hi : ¬ i < 9 := of_decide_eq_false hi
      have : i = 9 := by omega
      subst this
      rw [hR, ← ha]; rfl
theorem encP_next (e : Event) (n : Nat) (h : n < 9) : U.encP (n + 1) e = U.encP n e ++ U.hasC (U.parts (U.eKind e)) e (U.order.getD n 0) := by
  unfold U.encP
  rw [List.take_succ_eq_append_getElem (show n < U.order.length from h), flat_snoc, getD_at (show n < U.order.length from h), List.append_assoc, List.append_assoc]
theorem flat_filter {α : Type} (f : α → Bool) (g : α → List Int) : ∀ l : List α, l.flatMap (fun c => cond (f c) (g c) []) = (l.filter f).flatMap g
  | [] => rfl
  | x :: l => by
    rw [List.flatMap_cons, flat_filter f g l, List.filter_cons]
    cases f x <;> simp
theorem order_parts (k : Int) : U.order.filter (fun c => decide (idxB (U.parts k) c ≥ 0)) = U.parts k := by
  have : ∀ p ∈ U.partsT, U.order.filter (fun c => decide (idxB p c ≥ 0)) = p := by decide
  exact this _ (parts_mem k)
theorem encP_all (e : Event) : U.encP 9 e = U.encB e := by
  unfold U.encP
  rw [encB_eq]
  have : (U.order.take 9).flatMap (U.hasC (U.parts (U.eKind e)) e) = (U.parts (U.eKind e)).flatMap fun c => U.lay1 c e := by
    conv => rhs; rw [← order_parts]
    exact flat_filter (fun c => decide (idxB (U.parts (U.eKind e)) c ≥ 0)) (fun c => U.lay1 c e) U.order
  rw [this]
theorem hasC_yes {e : Event} {c : Int} (h : decide (idxB (U.parts e.1) c ≥ 0) = true) : U.hasC (U.parts (U.eKind e)) e c = U.lay1 c e := by
  unfold U.hasC; rw [show decide (idxB (U.parts (U.eKind e)) c ≥ 0) = true from h]; rfl
theorem hasC_no {e : Event} {c : Int} (h : decide (idxB (U.parts e.1) c ≥ 0) = false) : U.hasC (U.parts (U.eKind e)) e c = [] := by
  unfold U.hasC; rw [show decide (idxB (U.parts (U.eKind e)) c ≥ 0) = false from h]; rfl
theorem okref12_Encode (e : Event) (h1 : (U.eBox e).length ≤ 1000000000000) (h2 : (U.eTo e).length ≤ 1000000000000) : vcref12_Encode e := by
  unfold vcref12_Encode
  refine ⟨h1, h2, ?_⟩
  cases hr : U.evRight e with
  | false => rw [enc_no hr]; exact ⟨rfl, rfl, trivial⟩
  | true =>
    have hl := encP_len hr
    have step : ∀ (n : Nat) (h : n < 9) (c : Int) (hc : U.order.getD n 0 = c), (decide (idxB (U.parts e.1) c ≥ 0) = true → U.encP n e ++ U.lay1 c e = U.encP (n + 1) e) ∧ (decide (idxB (U.parts e.1) c ≥ 0) = false → U.encP n e = U.encP (n + 1) e) := by
      intro n h c hc
      refine ⟨fun hy => ?_, fun hy => ?_⟩
      · rw [encP_next e n h, hc, hasC_yes hy]
      · rw [encP_next e n h, hc, hasC_no hy, List.append_nil]
    have hP0 : U.num1 e.1 ++ U.num1 e.2.1 = U.encP 0 e := by
      show _ = U.num1 (U.eKind e) ++ (U.num1 (U.eAt e) ++ [])
      rw [List.append_nil]; rfl
    simp only [Bool.not_true, cond_false]
    refine ⟨by omega, by rw [num1_len]; omega, ?_, ?_⟩
    · rw [list_append, hP0, cond_prop]
      refine ⟨fun hy => ⟨by have := hl 0; omega, _, rfl, hr, ?_⟩, fun hy => ⟨_, rfl, hr, (step 0 (by omega) 98 rfl).2 hy⟩⟩
      exact (step 0 (by omega) 98 rfl).1 hy
    rintro x ⟨_, rfl⟩
    refine ⟨?_, ?_⟩
    · rw [cond_prop]
      exact ⟨fun hy => ⟨by have := hl 1; omega, _, rfl, hr, (step 1 (by omega) 116 rfl).1 hy⟩, fun hy => ⟨_, rfl, hr, (step 1 (by omega) 116 rfl).2 hy⟩⟩
    rintro x ⟨_, rfl⟩
    refine ⟨?_, ?_⟩
    · rw [cond_prop]
      refine ⟨fun hy => ⟨by have := hl 2; omega, (_, 0), ⟨rfl, hr, of_decide_eq_true hy, ⟨by show (0 : Int) ≤ 0; omega, by show (0 : Int) ≤ _; omega⟩, ?_⟩, ?_⟩, fun hy => ⟨_, rfl, hr, (step 2 (by omega) 105 rfl).2 hy⟩⟩
      · show U.encP 2 e ++ U.num1 (U.eIDs e).length = U.encP 2 e ++ (U.num1 (U.eIDs e).length ++ [])
        rw [List.append_nil]
      · rintro ⟨o, i⟩ ⟨_, _, ⟨i0, i1⟩, ho⟩
        simp only [] at *
        have hg := good_of hr (show (105 : Int) ∈ U.parts (U.eKind e) from (idxB_mem _ _).1 (of_decide_eq_true hy))
        have h60 := (ids_low (show U.idsOk (U.eIDs e) = true from hg)).1.2
        have hol : o.length ≤ 60000 := by
          have := hl 2
          rw [ho, List.length_append, List.length_append, num1_len, nums_len, List.length_take]; omega
        rw [cond_prop]
        refine ⟨fun hi => ?_, fun hi => ⟨_, rfl, hr, ?_⟩⟩
        · have hi : i < ((U.eIDs e).length : Int) := of_decide_eq_true hi
          rw [int_add, wrap_i (x := i + 1) (by omega) (by omega)]
          refine ⟨i0, hi, by omega, (_, i + 1), rfl, ⟨hr, of_decide_eq_true hy, ⟨by show 0 ≤ i + 1; omega, by show i + 1 ≤ _; omega⟩, ?_⟩, by simp only [nat_sub]; omega⟩
          show o ++ U.num1 ((U.eIDs e).getD i.toNat 0) = _
          rw [ho, take_at i0 hi, nums_snoc, getD_at (by omega), List.append_assoc, List.append_assoc]
        · have hi : ¬ i < ((U.eIDs e).length : Int) := of_decide_eq_false hi
          rw [ho, take_end (by omega)]
          exact (step 2 (by omega) 105 rfl).1 hy
    rintro x ⟨_, rfl⟩
    refine ⟨?_, ?_⟩
    · rw [cond_prop]
      refine ⟨fun hy => ⟨by have := hl 3; omega, (_, 0), ⟨rfl, hr, of_decide_eq_true hy, ⟨by show (0 : Int) ≤ 0; omega, by show (0 : Int) ≤ _; omega⟩, ?_⟩, ?_⟩, fun hy => ⟨_, rfl, hr, (step 3 (by omega) 115 rfl).2 hy⟩⟩
      · show U.encP 3 e ++ U.num1 (U.eSet e).length = U.encP 3 e ++ (U.num1 (U.eSet e).length ++ [])
        rw [List.append_nil]
      · rintro ⟨o, i⟩ ⟨_, _, ⟨i0, i1⟩, ho⟩
        simp only [] at *
        have hg := good_of hr (show (115 : Int) ∈ U.parts (U.eKind e) from (idxB_mem _ _).1 (of_decide_eq_true hy))
        have h60 := (set_low (show U.setOk (U.eSet e) = true from hg)).1
        have hol : o.length ≤ 60000 := by
          have := hl 3
          rw [ho, List.length_append, List.length_append, num1_len, pairs_len, List.length_take]; omega
        rw [cond_prop]
        refine ⟨fun hi => ?_, fun hi => ⟨_, rfl, hr, ?_⟩⟩
        · have hi : i < ((U.eSet e).length : Int) := of_decide_eq_true hi
          rw [int_add, wrap_i (x := i + 1) (by omega) (by omega)]
          refine ⟨i0, hi, by omega, i0, hi, by rw [list_append, List.length_append, num1_len]; omega, (_, i + 1), rfl, ⟨hr, of_decide_eq_true hy, ⟨by show 0 ≤ i + 1; omega, by show i + 1 ≤ _; omega⟩, ?_⟩, by simp only [nat_sub]; omega⟩
          show (o ++ U.num1 ((U.eSet e).getD i.toNat (0, 0)).1) ++ U.num1 ((U.eSet e).getD i.toNat (0, 0)).2 = _
          rw [ho, take_at i0 hi, pairs_snoc, getD_at (by omega)]; simp only [List.append_assoc]
        · have hi : ¬ i < ((U.eSet e).length : Int) := of_decide_eq_false hi
          rw [ho, take_end (by omega)]
          exact (step 3 (by omega) 115 rfl).1 hy
    rintro x ⟨_, rfl⟩
    refine ⟨⟨(_, 0), ⟨rfl, hr, by show (0 : Int) ≤ 0; omega, by show (0 : Int) ≤ 4; omega, rfl⟩, ?_⟩, ?_⟩
    · rintro ⟨o, i⟩ ⟨_, i0, i4, ho⟩
      simp only [] at *
      rw [cond_prop]
      refine ⟨fun hi => ?_, fun hi => ⟨_, rfl, hr, ?_⟩⟩
      · have hi : i < 4 := of_decide_eq_true hi
        rw [int_add, wrap_i (x := i + 1) (by omega) (by omega)]
        have hcase : i = 0 ∨ i = 1 ∨ i = 2 ∨ i = 3 := by omega
        refine ⟨i0, by show i < 4; omega, ?_⟩
        rw [cond_prop]
        refine ⟨fun hy => ⟨i0, by show i < 4; omega, by omega, by have := hl (4 + i.toNat); rw [ho]; omega, (_, i + 1), rfl, ⟨hr, by show 0 ≤ i + 1; omega, by show i + 1 ≤ 4; omega, ?_⟩, by simp only [nat_sub]; omega⟩, fun hy => ⟨(_, i + 1), rfl, ⟨hr, by show 0 ≤ i + 1; omega, by show i + 1 ≤ 4; omega, ?_⟩, by simp only [nat_sub]; omega⟩⟩
        · rcases hcase with rfl | rfl | rfl | rfl
          · rw [ho]; exact (step 4 (by omega) 109 rfl).1 hy
          · rw [ho]; exact (step 5 (by omega) 102 rfl).1 hy
          · rw [ho]; exact (step 6 (by omega) 100 rfl).1 hy
          · rw [ho]; exact (step 7 (by omega) 110 rfl).1 hy
        · rcases hcase with rfl | rfl | rfl | rfl
          · rw [ho]; exact (step 4 (by omega) 109 rfl).2 hy
          · rw [ho]; exact (step 5 (by omega) 102 rfl).2 hy
          · rw [ho]; exact (step 6 (by omega) 100 rfl).2 hy
          · rw [ho]; exact (step 7 (by omega) 110 rfl).2 hy
      · have hi : ¬ i < 4 := of_decide_eq_false hi
        rw [ho, show 4 + i.toNat = 8 by omega]
    rintro x ⟨_, rfl⟩
    refine ⟨?_, ?_⟩
    · rw [cond_prop]
      exact ⟨fun hy => ⟨by have := hl 8; omega, _, rfl, hr, (step 8 (by omega) 121 rfl).1 hy⟩, fun hy => ⟨_, rfl, hr, (step 8 (by omega) 121 rfl).2 hy⟩⟩
    rintro x ⟨_, rfl⟩
    rw [enc_of hr]
    exact ⟨encP_all e, rfl, trivial⟩
theorem readP_next (b : List Int) (n : Nat) (h : n < 9) : U.readP (n + 1) b = U.stepC (U.parts (U.rNum (b, 0)).1) (U.readP n b) (U.order.getD n 0) := by
  unfold U.readP
  rw [List.take_succ_eq_append_getElem (show n < U.order.length from h), List.foldl_append, getD_at (show n < U.order.length from h)]; rfl
theorem stepC_yes {p : List Int} {x : U.RS × Event} {c : Int} (h : decide (idxB p c ≥ 0) = true) : U.stepC p x c = U.readC c x := by unfold U.stepC; rw [h]; rfl
theorem stepC_no {p : List Int} {x : U.RS × Event} {c : Int} (h : decide (idxB p c ≥ 0) = false) : U.stepC p x c = x := by unfold U.stepC; rw [h]; rfl
theorem okX_steps {M : Nat} (p : List Int) : ∀ (q : List Int) {x : U.RS × Event}, okX M x → okX M (q.foldl (U.stepC p) x)
  | [], _, h => h
  | c :: q, x, h => okX_steps p q (by unfold U.stepC; cases decide (idxB p c ≥ 0); exact h; exact okX_read h c)
theorem readP_bare (b : List Int) : (U.eIDs (U.readP 2 b).2 = [] ∧ U.eSet (U.readP 2 b).2 = [] ∧ U.eBody (U.readP 2 b).2 = []) ∧ (U.eSet (U.readP 3 b).2 = [] ∧ U.eBody (U.readP 3 b).2 = []) ∧ U.eBody (U.readP 8 b).2 = [] := by
  have key : ∀ (n : Nat) (h : n < 9) (f : Event → Prop), f (U.readP n b).2 → (∀ x : U.RS × Event, f x.2 → f (U.readC (U.order.getD n 0) x).2) → f (U.readP (n + 1) b).2 := by
    intro n h f h1 h2
    rw [readP_next b n h]; unfold U.stepC
    cases decide (idxB (U.parts (U.rNum (b, 0)).1) (U.order.getD n 0) ≥ 0)
    · exact h1
    · exact h2 _ h1
  have z : U.eIDs (U.readP 0 b).2 = [] ∧ U.eSet (U.readP 0 b).2 = [] ∧ U.eBody (U.readP 0 b).2 = [] := ⟨rfl, rfl, rfl⟩
  have a2 : U.eIDs (U.readP 2 b).2 = [] := key 1 (by omega) (fun e => U.eIDs e = []) (key 0 (by omega) (fun e => U.eIDs e = []) z.1 (fun x h => h)) (fun x h => h)
  have s3 : U.eSet (U.readP 2 b).2 = [] := key 1 (by omega) (fun e => U.eSet e = []) (key 0 (by omega) (fun e => U.eSet e = []) z.2.1 (fun x h => h)) (fun x h => h)
  have b2 : U.eBody (U.readP 2 b).2 = [] := key 1 (by omega) (fun e => U.eBody e = []) (key 0 (by omega) (fun e => U.eBody e = []) z.2.2 (fun x h => h)) (fun x h => h)
  have s4 : U.eSet (U.readP 3 b).2 = [] := key 2 (by omega) (fun e => U.eSet e = []) s3 (fun x h => h)
  have b3 : U.eBody (U.readP 3 b).2 = [] := key 2 (by omega) (fun e => U.eBody e = []) b2 (fun x h => h)
  have b4 : U.eBody (U.readP 4 b).2 = [] := key 3 (by omega) (fun e => U.eBody e = []) b3 (fun x h => h)
  have b5 : U.eBody (U.readP 5 b).2 = [] := key 4 (by omega) (fun e => U.eBody e = []) b4 (fun x h => h)
  have b6 : U.eBody (U.readP 6 b).2 = [] := key 5 (by omega) (fun e => U.eBody e = []) b5 (fun x h => h)
  have b7 : U.eBody (U.readP 7 b).2 = [] := key 6 (by omega) (fun e => U.eBody e = []) b6 (fun x h => h)
  exact ⟨⟨a2, s3, b2⟩, ⟨s4, b3⟩, key 7 (by omega) (fun e => U.eBody e = []) b7 (fun x h => h)⟩
theorem okref12_ReadR (l : List Int) (e : Int) (he : EVal (.obj [.psl false tU8 l, .int .i64 e])) (h0 : e = 0) (hl : l.length ≤ 1000000000) : vcref12_ReadR l e := by
  obtain ⟨hb, _⟩ := rs_val he
  have hbb := byte_of_valid hb
  subst h0
  unfold vcref12_ReadR
  have hd0 : U.dec0 l = (U.rFail ((U.parts (U.rNum (l, 0)).1).beq []) (U.rNum (U.rNum (l, 0)).2).2, (U.rNum (l, 0)).1, (U.rNum (U.rNum (l, 0)).2).1, [], [], [], [], 0, 0, 0, 0, []) := by rw [beq_nil]; rfl
  have hok : ∀ n, okX l.length (U.readP n l) := fun n => okX_steps _ _ (okX_dec0 hbb)
  obtain ⟨⟨bI, bS, bB⟩, ⟨cS, cB⟩, dB⟩ := readP_bare l
  have step : ∀ (n : Nat) (h : n < 9) (c : Int) (hc : U.order.getD n 0 = c) (x : U.RS × Event), x = U.readP n l → (decide (idxB (U.parts (U.rNum (l, 0)).1) c ≥ 0) = true → U.readC c x = U.readP (n + 1) l) ∧ (decide (idxB (U.parts (U.rNum (l, 0)).1) c ≥ 0) = false → x = U.readP (n + 1) l) := by
    intro n h c hc x hx
    refine ⟨fun hy => ?_, fun hy => ?_⟩
    · rw [readP_next l n h, hc, stepC_yes hy, hx]
    · rw [readP_next l n h, hc, stepC_no hy, hx]
  rw [cond_prop]
  refine ⟨fun hz => ?_, fun hz => ⟨?_, ?_⟩⟩
  · have : (U.dec0 l).1.2 ≠ 0 := by rw [hd0]; exact bne_iff_ne.1 hz
    have hrr : U.refRead l = ((U.dec0 l).1, U.zeroE) := by unfold U.refRead; rw [decide_eq_false this]; rfl
    rw [hrr, hd0]
    exact ⟨rfl, rfl, rfl, rfl, rfl, rfl, rfl, rfl, rfl, rfl, rfl, rfl, rfl, trivial⟩
  · rw [cond_prop]
    refine ⟨fun hy => ?_, fun hy => ?_⟩
    · have h := (step 0 (by omega) 98 rfl (U.dec0 l) rfl).1 hy
      rw [hd0] at h
      exact ⟨(_, _, _), rfl, h⟩
    · have h := (step 0 (by omega) 98 rfl (U.dec0 l) rfl).2 hy
      rw [hd0] at h
      exact ⟨(_, _, _), rfl, h⟩
  have hrr : U.refRead l = U.readP 9 l := by
    have : (U.dec0 l).1.2 = 0 := by rw [hd0]; revert hz; simp
    unfold U.refRead; rw [decide_eq_true this]; rfl
  rw [hrr]
  rintro ⟨l1, r1, e1⟩ hI
  have hI : ((l1, r1), e1) = U.readP 1 l := hI
  refine ⟨?_, ?_⟩
  · rw [cond_prop]
    exact ⟨fun hy => ⟨(_, _, _), rfl, (step 1 (by omega) 116 rfl _ hI).1 hy⟩, fun hy => ⟨(_, _, _), rfl, (step 1 (by omega) 116 rfl _ hI).2 hy⟩⟩
  rintro ⟨l1, r1, e1⟩ hI
  have hI : ((l1, r1), e1) = U.readP 2 l := hI
  have n1 : e1.2.2.2.2.1 = [] := by rw [← hI] at bI; exact bI
  refine ⟨?_, ?_⟩
  · rw [cond_prop]
    refine ⟨fun hy => ?_, fun hy => ⟨(l1, r1, e1), by simp only [U.stRead17, n1] <;> rfl, (step 2 (by omega) 105 rfl _ hI).2 hy⟩⟩
    have hc := rCount_bd (r := (l1, r1)) (by have := (hok 2).1; rw [← hI] at this; exact this)
    refine ⟨((U.rCount 60 (l1, r1)).2.1, (U.rCount 60 (l1, r1)).2.2, e1, (U.rCount 60 (l1, r1)).1), ⟨by simp only [U.stref12_Read_14, U.eIDs, n1] <;> rfl, ?_⟩, ?_⟩
    · refine ⟨of_decide_eq_true hy, hc.1, ?_, hc.2, n1, ?_, ?_, ?_, rfl, ?_, rfl⟩
      · show (U.rCount 60 (l1, r1)).1 ≤ (U.rCount 60 (l1, r1)).1; omega
      · show e1.2.2.2.2.1.length + _ = _; rw [n1]; show 0 + _ = _; omega
      · rw [← hI]
      · rw [← hI]; show (U.rCount 60 (l1, r1)).1 = cond (decide ((U.rCount 60 (l1, r1)).1 ≥ 0)) (U.rCount 60 (l1, r1)).1 0; rw [decide_eq_true hc.1]; rfl
      · show _ = e1.2.2.2.2.1 ++ _; rw [n1]; rfl
    · rintro ⟨l2, r2, e2, j⟩ ⟨_, j0, j1, _, _, hlen, _, _, he2, hn1, hn2⟩
      have j0 : 0 ≤ j := j0
      have j1 : j ≤ (U.rCount 60 (l1, r1)).1 := j1
      have hlen : (U.eIDs e2).length + j.toNat = (U.rCount 60 (l1, r1)).1.toNat := hlen
      have hn1 : (U.readNums (U.rCount 60 (l1, r1)).1.toNat (U.rCount 60 (l1, r1)).2).1 = U.eIDs e2 ++ (U.readNums j.toNat (l2, r2)).1 := hn1
      have hn2 : (U.readNums (U.rCount 60 (l1, r1)).1.toNat (U.rCount 60 (l1, r1)).2).2 = (U.readNums j.toNat (l2, r2)).2 := hn2
      have he2 : e2 = (U.eKind e1, U.eAt e1, U.eBox e1, U.eTo e1, U.eIDs e2, U.eSet e1, U.eMode e1, U.eFlags e1, U.eDate e1, U.eN e1, U.eBody e1) := he2
      simp only []
      rw [cond_prop]
      refine ⟨fun hj => ?_, fun hj => ?_⟩
      · have hj : j > 0 := of_decide_eq_true hj
        have hwj : IntKind.i64.wrap (j.sub 1) = j - 1 := by rw [int_sub, wrap_i] <;> omega
        rw [hwj]
        have hst := readNums_c (j - 1).toNat (l2, r2)
        rw [show (j - 1).toNat + 1 = j.toNat by omega] at hst
        rw [hst] at hn1 hn2
        refine ⟨by simp only [nat_add, nat_mul]; omega, by simp only [nat_add, maxLen_eq]; omega, ((U.rNum (l2, r2)).2.1, (U.rNum (l2, r2)).2.2, (U.eKind e2, U.eAt e2, U.eBox e2, U.eTo e2, U.eIDs e2 ++ [(U.rNum (l2, r2)).1], U.eSet e2, U.eMode e2, U.eFlags e2, U.eDate e2, U.eN e2, U.eBody e2), j - 1), rfl, ⟨of_decide_eq_true hy, by show 0 ≤ j - 1; omega, by show j - 1 ≤ (U.rCount 60 (l1, r1)).1; omega, hc.2, n1, ?_, by rw [← hI], by rw [← hI]; show (U.rCount 60 (l1, r1)).1 = cond (decide ((U.rCount 60 (l1, r1)).1 ≥ 0)) (U.rCount 60 (l1, r1)).1 0; rw [decide_eq_true hc.1]; rfl, ?_, ?_, hn2⟩, ?_⟩
        · show (U.eIDs e2 ++ [_]).length + (j - 1).toNat = (U.rCount 60 (l1, r1)).1.toNat
          rw [List.length_append]; show _ + 1 + _ = _; omega
        · rw [he2]; rfl
        · show (U.readNums (U.rCount 60 (l1, r1)).1.toNat (U.rCount 60 (l1, r1)).2).1 = (U.eIDs e2 ++ [_]) ++ _
          rw [hn1, List.append_assoc]; rfl
        · show (j - 1).toNat < j.toNat; omega
      · have hj : ¬ j > 0 := of_decide_eq_false hj
        have hjn : j.toNat = 0 := by omega
        rw [hjn] at hn1 hn2
        have hn1 : (U.readNums (U.rCount 60 (l1, r1)).1.toNat (U.rCount 60 (l1, r1)).2).1 = U.eIDs e2 ++ [] := hn1
        rw [List.append_nil] at hn1
        refine ⟨(l2, r2, e2), rfl, ?_⟩
        have h3 := (step 2 (by omega) 105 rfl _ hI).1 hy
        refine Eq.trans ?_ h3
        refine Prod.ext hn2.symm ?_
        rw [he2]
        show _ = (U.eKind e1, U.eAt e1, U.eBox e1, U.eTo e1, U.eIDs e1 ++ (U.readNums (U.rCount 60 (l1, r1)).1.toNat (U.rCount 60 (l1, r1)).2).1, _)
        rw [hn1, show U.eIDs e1 = [] from n1]; rfl
  rintro ⟨l1, r1, e1⟩ hI
  have hI : ((l1, r1), e1) = U.readP 3 l := hI
  have n1 : e1.2.2.2.2.2.1 = [] := by rw [← hI] at cS; exact cS
  refine ⟨?_, ?_⟩
  · rw [cond_prop]
    refine ⟨fun hy => ?_, fun hy => ⟨(l1, r1, e1), by simp only [U.stRead23, n1] <;> rfl, (step 3 (by omega) 115 rfl _ hI).2 hy⟩⟩
    have hc := rCount_bd (r := (l1, r1)) (by have := (hok 3).1; rw [← hI] at this; exact this)
    refine ⟨((U.rCount 60 (l1, r1)).2.1, (U.rCount 60 (l1, r1)).2.2, e1, (U.rCount 60 (l1, r1)).1), ⟨by simp only [U.stref12_Read_19, U.eSet, n1] <;> rfl, ?_⟩, ?_⟩
    · refine ⟨of_decide_eq_true hy, hc.1, ?_, hc.2, n1, ?_, ?_, ?_, rfl, ?_, rfl⟩
      · show (U.rCount 60 (l1, r1)).1 ≤ (U.rCount 60 (l1, r1)).1; omega
      · show e1.2.2.2.2.2.1.length + _ = _; rw [n1]; show 0 + _ = _; omega
      · rw [← hI]
      · rw [← hI]; show (U.rCount 60 (l1, r1)).1 = cond (decide ((U.rCount 60 (l1, r1)).1 ≥ 0)) (U.rCount 60 (l1, r1)).1 0; rw [decide_eq_true hc.1]; rfl
      · show _ = e1.2.2.2.2.2.1 ++ _; rw [n1]; rfl
    · rintro ⟨l2, r2, e2, j⟩ ⟨_, j0, j1, _, _, hlen, _, _, he2, hn1, hn2⟩
      have j0 : 0 ≤ j := j0
      have j1 : j ≤ (U.rCount 60 (l1, r1)).1 := j1
      have hlen : (U.eSet e2).length + j.toNat = (U.rCount 60 (l1, r1)).1.toNat := hlen
      have hn1 : (U.readRanges (U.rCount 60 (l1, r1)).1.toNat (U.rCount 60 (l1, r1)).2).1 = U.eSet e2 ++ (U.readRanges j.toNat (l2, r2)).1 := hn1
      have hn2 : (U.readRanges (U.rCount 60 (l1, r1)).1.toNat (U.rCount 60 (l1, r1)).2).2 = (U.readRanges j.toNat (l2, r2)).2 := hn2
      have he2 : e2 = (U.eKind e1, U.eAt e1, U.eBox e1, U.eTo e1, U.eIDs e1, U.eSet e2, U.eMode e1, U.eFlags e1, U.eDate e1, U.eN e1, U.eBody e1) := he2
      simp only []
      rw [cond_prop]
      refine ⟨fun hj => ?_, fun hj => ?_⟩
      · have hj : j > 0 := of_decide_eq_true hj
        have hwj : IntKind.i64.wrap (j.sub 1) = j - 1 := by rw [int_sub, wrap_i] <;> omega
        rw [hwj]
        have hst := readRanges_c (j - 1).toNat (l2, r2)
        rw [show (j - 1).toNat + 1 = j.toNat by omega] at hst
        rw [hst] at hn1 hn2
        refine ⟨by simp only [nat_add, nat_mul]; omega, by simp only [nat_add, maxLen_eq]; omega, ((U.rNum (U.rNum (l2, r2)).2).2.1, (U.rNum (U.rNum (l2, r2)).2).2.2, (U.eKind e2, U.eAt e2, U.eBox e2, U.eTo e2, U.eIDs e2, U.eSet e2 ++ [((U.rNum (l2, r2)).1, (U.rNum (U.rNum (l2, r2)).2).1)], U.eMode e2, U.eFlags e2, U.eDate e2, U.eN e2, U.eBody e2), j - 1), rfl, ⟨of_decide_eq_true hy, by show 0 ≤ j - 1; omega, by show j - 1 ≤ (U.rCount 60 (l1, r1)).1; omega, hc.2, n1, ?_, by rw [← hI], by rw [← hI]; show (U.rCount 60 (l1, r1)).1 = cond (decide ((U.rCount 60 (l1, r1)).1 ≥ 0)) (U.rCount 60 (l1, r1)).1 0; rw [decide_eq_true hc.1]; rfl, ?_, ?_, hn2⟩, ?_⟩
        · show (U.eSet e2 ++ [_]).length + (j - 1).toNat = (U.rCount 60 (l1, r1)).1.toNat
          rw [List.length_append]; show _ + 1 + _ = _; omega
        · rw [he2]; rfl
        · show (U.readRanges (U.rCount 60 (l1, r1)).1.toNat (U.rCount 60 (l1, r1)).2).1 = (U.eSet e2 ++ [_]) ++ _
          rw [hn1, List.append_assoc]; rfl
        · show (j - 1).toNat < j.toNat; omega
      · have hj : ¬ j > 0 := of_decide_eq_false hj
        have hjn : j.toNat = 0 := by omega
        rw [hjn] at hn1 hn2
        have hn1 : (U.readRanges (U.rCount 60 (l1, r1)).1.toNat (U.rCount 60 (l1, r1)).2).1 = U.eSet e2 ++ [] := hn1
        rw [List.append_nil] at hn1
        refine ⟨(l2, r2, e2), rfl, ?_⟩
        have h3 := (step 3 (by omega) 115 rfl _ hI).1 hy
        refine Eq.trans ?_ h3
        refine Prod.ext hn2.symm ?_
        rw [he2]
        show _ = (U.eKind e1, U.eAt e1, U.eBox e1, U.eTo e1, U.eIDs e1, U.eSet e1 ++ (U.readRanges (U.rCount 60 (l1, r1)).1.toNat (U.rCount 60 (l1, r1)).2).1, _)
        rw [hn1, show U.eSet e1 = [] from n1]; rfl
  rintro ⟨l1, r1, e1⟩ hI
  have hI : ((l1, r1), e1) = U.readP 4 l := hI
  refine ⟨?_, ?_⟩
  · rw [cond_prop]
    exact ⟨fun hy => ⟨(_, _, _), rfl, (step 4 (by omega) 109 rfl _ hI).1 hy⟩, fun hy => ⟨(_, _, _), rfl, (step 4 (by omega) 109 rfl _ hI).2 hy⟩⟩
  rintro ⟨l1, r1, e1⟩ hI
  have hI : ((l1, r1), e1) = U.readP 5 l := hI
  refine ⟨?_, ?_⟩
  · rw [cond_prop]
    exact ⟨fun hy => ⟨(_, _, _), rfl, (step 5 (by omega) 102 rfl _ hI).1 hy⟩, fun hy => ⟨(_, _, _), rfl, (step 5 (by omega) 102 rfl _ hI).2 hy⟩⟩
  rintro ⟨l1, r1, e1⟩ hI
  have hI : ((l1, r1), e1) = U.readP 6 l := hI
  refine ⟨?_, ?_⟩
  · rw [cond_prop]
    exact ⟨fun hy => ⟨(_, _, _), rfl, (step 6 (by omega) 100 rfl _ hI).1 hy⟩, fun hy => ⟨(_, _, _), rfl, (step 6 (by omega) 100 rfl _ hI).2 hy⟩⟩
  rintro ⟨l1, r1, e1⟩ hI
  have hI : ((l1, r1), e1) = U.readP 7 l := hI
  refine ⟨?_, ?_⟩
  · rw [cond_prop]
    exact ⟨fun hy => ⟨(_, _, _), rfl, (step 7 (by omega) 110 rfl _ hI).1 hy⟩, fun hy => ⟨(_, _, _), rfl, (step 7 (by omega) 110 rfl _ hI).2 hy⟩⟩
  rintro ⟨l1, r1, e1⟩ hI
  have hI : ((l1, r1), e1) = U.readP 8 l := hI
  have n1 : e1.2.2.2.2.2.2.2.2.2.2 = [] := by rw [← hI] at dB; exact dB
  refine ⟨?_, ?_⟩
  · rw [cond_prop]
    exact ⟨fun hy => ⟨(_, _, _), rfl, (step 8 (by omega) 121 rfl _ hI).1 hy⟩, fun hy => ⟨(l1, r1, e1), by simp only [U.stRead33, n1] <;> rfl, (step 8 (by omega) 121 rfl _ hI).2 hy⟩⟩
  rintro ⟨l1, r1, e1⟩ hI
  have hI : ((l1, r1), e1) = U.readP 9 l := hI
  rw [← hI]
  exact ⟨rfl, rfl, rfl, rfl, rfl, rfl, rfl, rfl, rfl, rfl, rfl, rfl, rfl, trivial⟩
theorem fold_filter (p : List Int) : ∀ (q : List Int) (x : U.RS × Event), q.foldl (U.stepC p) x = (q.filter (fun c => decide (idxB p c ≥ 0))).foldl (fun x c => U.readC c x) x
  | [], _ => rfl
  | c :: q, x => by
    rw [List.foldl_cons, List.filter_cons]
    by_cases h : decide (idxB p c ≥ 0) = true
    · rw [stepC_yes h, fold_filter p q, h]; rfl
    · have h : decide (idxB p c ≥ 0) = false := by revert h; cases decide (idxB p c ≥ 0) <;> simp
      rw [stepC_no h, fold_filter p q, h]; rfl
theorem readP_all (b : List Int) : U.readP 9 b = U.dec1 b := by
  show (U.order.take 9).foldl _ _ = _
  rw [show U.order.take 9 = U.order from rfl, fold_filter, order_parts]; rfl
theorem okref12_Decode (b : List Int) (hb : ∀ z ∈ b, Valid (.int .u8) z) (hl : b.length ≤ 1000000000) : vcref12_Decode b := by
  have hbb := byte_of_valid hb
  unfold vcref12_Decode
  have h3 : ((3 : Int) != 0) = true := rfl
  rw [h3]
  by_cases hz : (U.dec0 b).1.2 = 0
  · have hrr : U.refRead b = U.dec1 b := by unfold U.refRead; rw [decide_eq_true hz]; exact readP_all b
    rw [hrr]
    have hX : okX b.length (U.dec1 b) := okX_fold _ (okX_dec0 hbb)
    refine ⟨rfl, hl, fun _ => Nat.le_trans hX.2.2.1 (by omega), fun _ => Nat.le_trans hX.2.2.2 (by omega), ?_⟩
    by_cases hf : U.rDone (U.dec1 b).1 = 0
    · rw [decide_eq_true hf]
      cases hr : U.evRight (U.dec1 b).2 with
      | false =>
        rw [decE_form hf hr]
        exact ⟨rfl, rfl, rfl, rfl, rfl, rfl, rfl, rfl, rfl, rfl, rfl, rfl, trivial⟩
      | true =>
        rw [decE_ok hf hr, hf]
        exact ⟨rfl, rfl, rfl, rfl, rfl, rfl, rfl, rfl, rfl, rfl, rfl, rfl, trivial⟩
    · rw [decide_eq_false hf, bne_iff_ne.2 hf, decE_bad hf]
      exact ⟨rfl, rfl, rfl, rfl, rfl, rfl, rfl, rfl, rfl, rfl, rfl, rfl, trivial⟩
  · have hrr : U.refRead b = ((U.dec0 b).1, U.zeroE) := by unfold U.refRead; rw [decide_eq_false hz]; rfl
    rw [hrr]
    have herr : ∀ (p : List Int) (x : U.RS × Event), x.1.2 ≠ 0 → (foldC p x).1 = x.1 := by
      intro p
      induction p with
      | nil => intro x _; rfl
      | cons c p ih =>
        intro x hx
        have h1 : (U.readC c x).1 = x.1 := readC_err1 hx
        show (foldC p (U.readC c x)).1 = _
        rw [ih _ (by rw [h1]; exact hx), h1]
    have hd1 : (U.dec1 b).1 = (U.dec0 b).1 := herr _ _ hz
    have hf : U.rDone (U.dec0 b).1 ≠ 0 := by unfold U.rDone U.rFail; rw [decide_eq_false hz]; exact hz
    have hbad := decE_bad (b := b) (by rw [hd1]; exact hf)
    rw [hd1] at hbad
    rw [hbad]
    refine ⟨rfl, hl, fun _ => Nat.zero_le _, fun _ => Nat.zero_le _, ?_⟩
    rw [decide_eq_false hf, bne_iff_ne.2 hf]
    exact ⟨rfl, rfl, rfl, rfl, rfl, rfl, rfl, rfl, rfl, rfl, rfl, rfl, trivial⟩
end Go.Proofs.YtllmhikoaklpbaaDoor

set_option linter.unusedSimpArgs false
set_option maxRecDepth 100000
set_option linter.unusedVariables false
namespace Go.Proofs.YtllmhikoaklpbaaDoor
open Go.Vc
theorem wslices_Equal_int_int (x : DenL [tInts, tInts]) : Owes Tryd.prog (cfgOf Qref03_Same) (Lslices_Equal_int_int x.1 x.2) 42 (argVs [tInts, tInts] x) [] (dslices_Equal_int_int x.1 x.2) = vcslices_Equal_int_int x.1 x.2 := by kernel_rfl
theorem qslices_Equal_int_int : Pok 42 [tInts, tInts] (fun x => dslices_Equal_int_int x.1 x.2) := by
  refine pk (L := fun x => Lslices_Equal_int_int x.1 x.2) (l := Qref03_Same) aQref03_Same (fun _ => rfl) ?_
  intro x hv hp
  rw [wslices_Equal_int_int]
  exact okslices_Equal_int_int x.1 x.2 hv.1.2
theorem pslices_Equal_int_int : SumOk Tryd.prog gl 42 sslices_Equal_int_int := qslices_Equal_int_int
theorem aQslices_Equal_int_int : AllOk Qslices_Equal_int_int := .cons pslices_Equal_int_int aQref03_Same
theorem wslices_Equal_api_Range_api_Range (x : DenL [tRanges, tRanges]) : Owes Tryd.prog (cfgOf Qslices_Equal_int_int) (Lslices_Equal_api_Range_api_Range x.1 x.2) 43 (argVs [tRanges, tRanges] x) [] (dslices_Equal_api_Range_api_Range x.1 x.2) = vcslices_Equal_api_Range_api_Range x.1 x.2 := by kernel_rfl
theorem qslices_Equal_api_Range_api_Range : Pok 43 [tRanges, tRanges] (fun x => dslices_Equal_api_Range_api_Range x.1 x.2) := by
  refine pk (L := fun x => Lslices_Equal_api_Range_api_Range x.1 x.2) (l := Qslices_Equal_int_int) aQslices_Equal_int_int (fun _ => rfl) ?_
  intro x hv hp
  rw [wslices_Equal_api_Range_api_Range]
  exact okslices_Equal_api_Range_api_Range x.1 x.2 hv.1.2
theorem pslices_Equal_api_Range_api_Range : SumOk Tryd.prog gl 43 sslices_Equal_api_Range_api_Range := qslices_Equal_api_Range_api_Range
theorem aQslices_Equal_api_Range_api_Range : AllOk Qslices_Equal_api_Range_api_Range := .cons pslices_Equal_api_Range_api_Range aQslices_Equal_int_int
theorem wref09_Ints (x : DenL [tInts, tInts]) : Owes Tryd.prog (cfgOf Qslices_Equal_api_Range_api_Range) (Lref09_Ints x.1 x.2) 27 (argVs [tInts, tInts] x) [] (dref09_Ints x.1 x.2) = vcref09_Ints x.1 x.2 := by kernel_rfl
theorem qref09_Ints : Pok 27 [tInts, tInts] (fun x => dref09_Ints x.1 x.2) := by
  refine pk (L := fun x => Lref09_Ints x.1 x.2) (l := Qslices_Equal_api_Range_api_Range) aQslices_Equal_api_Range_api_Range (fun _ => rfl) ?_
  intro x hv hp
  rw [wref09_Ints]
  exact okref09_Ints x.1 x.2 hv.1.2
theorem pref09_Ints : SumOk Tryd.prog gl 27 sref09_Ints := qref09_Ints
theorem aQref09_Ints : AllOk Qref09_Ints := .cons pref09_Ints aQslices_Equal_api_Range_api_Range
theorem wref09_Same (x : DenL [tRanges, tRanges]) : Owes Tryd.prog (cfgOf Qref09_Ints) (Lref09_Same x.1 x.2) 28 (argVs [tRanges, tRanges] x) [] (dref09_Same x.1 x.2) = vcref09_Same x.1 x.2 := by kernel_rfl
theorem qref09_Same : Pok 28 [tRanges, tRanges] (fun x => dref09_Same x.1 x.2) := by
  refine pk (L := fun x => Lref09_Same x.1 x.2) (l := Qref09_Ints) aQref09_Ints (fun _ => rfl) ?_
  intro x hv hp
  rw [wref09_Same]
  exact okref09_Same x.1 x.2 hv.1.2
theorem pref09_Same : SumOk Tryd.prog gl 28 sref09_Same := qref09_Same
theorem aQref09_Same : AllOk Qref09_Same := .cons pref09_Same aQref09_Ints
theorem wevent_within (x : DenL [.int .i64, .int .i64]) : Owes Tryd.prog (cfgOf Qref09_Same) (Levent_within x.1 x.2) 34 (argVs [.int .i64, .int .i64] x) [] (devent_within x.1 x.2) = vcevent_within x.1 x.2 := by kernel_rfl
theorem qevent_within : Pok 34 [.int .i64, .int .i64] (fun x => devent_within x.1 x.2) := by
  refine pk (L := fun x => Levent_within x.1 x.2) (l := Qref09_Same) aQref09_Same (fun _ => rfl) ?_
  intro x hv hp
  rw [wevent_within]
  exact okevent_within x.1 x.2
theorem pevent_within : SumOk Tryd.prog gl 34 sevent_within := qevent_within
theorem aQevent_within : AllOk Qevent_within := .cons pevent_within aQref09_Same
theorem wevent_Parts (x : DenL [.int .i64]) : Owes Tryd.prog (cfgOf Qevent_within) (Levent_Parts x) 17 (argVs [.int .i64] x) [] (devent_Parts x) = vcevent_Parts x := by kernel_rfl
theorem qevent_Parts : Pok 17 [.int .i64] (fun x => devent_Parts x) := by
  refine pk (L := fun x => Levent_Parts x) (l := Qevent_within) aQevent_within (fun _ => rfl) ?_
  intro x hv hp
  rw [wevent_Parts]
  exact okevent_Parts x
theorem pevent_Parts : SumOk Tryd.prog gl 17 sevent_Parts := qevent_Parts
theorem aQevent_Parts : AllOk Qevent_Parts := .cons pevent_Parts aQevent_within
theorem wevent_ids (x : DenL [tInts]) : Owes Tryd.prog (cfgOf Qevent_Parts) (Levent_ids x) 59 (argVs [tInts] x) [] (devent_ids x) = vcevent_ids x := by kernel_rfl
theorem qevent_ids : Pok 59 [tInts] (fun x => devent_ids x) := by
  refine pk (L := fun x => Levent_ids x) (l := Qevent_Parts) aQevent_Parts (fun _ => rfl) ?_
  intro x hv hp
  rw [wevent_ids]
  exact okevent_ids x hv.2
theorem pevent_ids : SumOk Tryd.prog gl 59 sevent_ids := qevent_ids
theorem aQevent_ids : AllOk Qevent_ids := .cons pevent_ids aQevent_Parts
theorem wevent_set_1 (x : DenL [tRange]) : Owes Tryd.prog (cfgOf Qevent_ids) (Levent_set_1 x) 69 (argVs [tRange] x) [] (devent_set_1 x) = vcevent_set_1 x := by kernel_rfl
theorem qevent_set_1 : Pok 69 [tRange] (fun x => devent_set_1 x) := by
  refine pk (L := fun x => Levent_set_1 x) (l := Qevent_ids) aQevent_ids (fun _ => rfl) ?_
  intro x hv hp
  rw [wevent_set_1]
  exact okevent_set_1 x
theorem pevent_set_1 : SumOk Tryd.prog gl 69 sevent_set_1 := qevent_set_1
theorem aQevent_set_1 : AllOk Qevent_set_1 := .cons pevent_set_1 aQevent_ids
theorem wevent_set (x : DenL [tRanges]) : Owes Tryd.prog (cfgOf Qevent_set_1) (Levent_set x) 60 (argVs [tRanges] x) [] (devent_set x) = vcevent_set x := by kernel_rfl
theorem qevent_set : Pok 60 [tRanges] (fun x => devent_set x) := by
  refine pk (L := fun x => Levent_set x) (l := Qevent_set_1) aQevent_set_1 (fun _ => rfl) ?_
  intro x hv hp
  rw [wevent_set]
  exact okevent_set x hv.2
theorem pevent_set : SumOk Tryd.prog gl 60 sevent_set := qevent_set
theorem aQevent_set : AllOk Qevent_set := .cons pevent_set aQevent_set_1
theorem wflag_Right (x : DenL [.int .i64]) : Owes Tryd.prog (cfgOf Qevent_set) (Lflag_Right x) 61 (argVs [.int .i64] x) [] (dflag_Right x) = vcflag_Right x := by kernel_rfl
theorem qflag_Right : Pok 61 [.int .i64] (fun x => dflag_Right x) := by
  refine pk (L := fun x => Lflag_Right x) (l := Qevent_set) aQevent_set (fun _ => rfl) ?_
  intro x hv hp
  rw [wflag_Right]
  exact okflag_Right x (T.vI64 hv)
theorem pflag_Right : SumOk Tryd.prog gl 61 sflag_Right := qflag_Right
theorem aQflag_Right : AllOk Qflag_Right := .cons pflag_Right aQevent_set
theorem wevent_part (x : DenL [tEvent, .int .u8]) : Owes Tryd.prog (cfgOf Qflag_Right) (Levent_part x.1 x.2) 35 (argVs [tEvent, .int .u8] x) [] (devent_part x.1 x.2) = vcevent_part x.1 x.2 := by kernel_rfl
theorem qevent_part : Pok 35 [tEvent, .int .u8] (fun x => devent_part x.1 x.2) := by
  refine pk (L := fun x => Levent_part x.1 x.2) (l := Qflag_Right) aQflag_Right (fun _ => rfl) ?_
  intro x hv hp
  rw [wevent_part]
  exact okevent_part x.1 x.2 (hp (List.length (U.eBox x.1) ≤ 1000000000000) (by simp [devent_part])) (hp (List.length (U.eTo x.1) ≤ 1000000000000) (by simp [devent_part]))
theorem pevent_part : SumOk Tryd.prog gl 35 sevent_part := qevent_part
theorem aQevent_part : AllOk Qevent_part := .cons pevent_part aQflag_Right
theorem wevent_Right (x : DenL [tEvent]) : Owes Tryd.prog (cfgOf Qevent_part) (Levent_Right x) 15 (argVs [tEvent] x) [] (devent_Right x) = vcevent_Right x := by kernel_rfl
theorem qevent_Right : Pok 15 [tEvent] (fun x => devent_Right x) := by
  refine pk (L := fun x => Levent_Right x) (l := Qevent_part) aQevent_part (fun _ => rfl) ?_
  intro x hv hp
  rw [wevent_Right]
  exact okevent_Right x (hp (List.length (U.eBox x) ≤ 1000000000000) (by simp [devent_Right])) (hp (List.length (U.eTo x) ≤ 1000000000000) (by simp [devent_Right]))
theorem pevent_Right : SumOk Tryd.prog gl 15 sevent_Right := qevent_Right
theorem aQevent_Right : AllOk Qevent_Right := .cons pevent_Right aQevent_part
theorem wevent_lay (x : DenL [tBytes, tEvent, .int .u8]) : Owes Tryd.prog (cfgOf Qevent_Right) (Levent_lay x.1 x.2.1 x.2.2) 30 (argVs [tBytes, tEvent, .int .u8] x) [] (devent_lay x.1 x.2.1 x.2.2) = vcevent_lay x.1 x.2.1 x.2.2 := by kernel_rfl
theorem qevent_lay : Pok 30 [tBytes, tEvent, .int .u8] (fun x => devent_lay x.1 x.2.1 x.2.2) := by
  refine pk (L := fun x => Levent_lay x.1 x.2.1 x.2.2) (l := Qevent_Right) aQevent_Right (fun _ => rfl) ?_
  intro x hv hp
  rw [wevent_lay]
  exact okevent_lay x.1 x.2.1 x.2.2 (hp (List.length x.1 ≤ 100000000000) (by simp [devent_lay])) (hp (List.length (U.eIDs x.2.1) ≤ 1000000000) (by simp [devent_lay])) (hp (List.length (U.eSet x.2.1) ≤ 1000000000) (by simp [devent_lay]))
theorem pevent_lay : SumOk Tryd.prog gl 30 sevent_lay := qevent_lay
theorem aQevent_lay : AllOk Qevent_lay := .cons pevent_lay aQevent_Right
theorem wevent_Encode (x : DenL [tEvent]) : Owes Tryd.prog (cfgOf Qevent_lay) (Levent_Encode x) 12 (argVs [tEvent] x) [] (devent_Encode x) = vcevent_Encode x := by kernel_rfl
theorem qevent_Encode : Pok 12 [tEvent] (fun x => devent_Encode x) := by
  refine pk (L := fun x => Levent_Encode x) (l := Qevent_lay) aQevent_lay (fun _ => rfl) ?_
  intro x hv hp
  rw [wevent_Encode]
  exact okevent_Encode x (hp (List.length (U.eBox x) ≤ 1000000000000) (by simp [devent_Encode])) (hp (List.length (U.eTo x) ≤ 1000000000000) (by simp [devent_Encode]))
theorem pevent_Encode : SumOk Tryd.prog gl 12 sevent_Encode := qevent_Encode
theorem aQevent_Encode : AllOk Qevent_Encode := .cons pevent_Encode aQevent_lay
theorem wevent_Decode (x : DenL [tBytes]) : Owes Tryd.prog (cfgOf Qevent_Encode) (Levent_Decode x) 8 (argVs [tBytes] x) [] (devent_Decode x) = vcevent_Decode x := by kernel_rfl
theorem qevent_Decode : Pok 8 [tBytes] (fun x => devent_Decode x) := by
  refine pk (L := fun x => Levent_Decode x) (l := Qevent_Encode) aQevent_Encode (fun _ => rfl) ?_
  intro x hv hp
  rw [wevent_Decode]
  exact okevent_Decode x hv.1 (hp (List.length x ≤ 1000000000) (by simp [devent_Decode]))
theorem pevent_Decode : SumOk Tryd.prog gl 8 sevent_Decode := qevent_Decode
theorem aQevent_Decode : AllOk Qevent_Decode := .cons pevent_Decode aQevent_Encode
theorem wevent_Same (x : DenL [tEvent, tEvent]) : Owes Tryd.prog (cfgOf Qevent_Decode) (Levent_Same x.1 x.2) 19 (argVs [tEvent, tEvent] x) [] (devent_Same x.1 x.2) = vcevent_Same x.1 x.2 := by kernel_rfl
theorem qevent_Same : Pok 19 [tEvent, tEvent] (fun x => devent_Same x.1 x.2) := by
  refine pk (L := fun x => Levent_Same x.1 x.2) (l := Qevent_Decode) aQevent_Decode (fun _ => rfl) ?_
  intro x hv hp
  rw [wevent_Same]
  exact okevent_Same x.1 x.2
theorem pevent_Same : SumOk Tryd.prog gl 19 sevent_Same := qevent_Same
theorem aQevent_Same : AllOk Qevent_Same := .cons pevent_Same aQevent_Decode
theorem wref08_Right (x : DenL [.int .i64]) : Owes Tryd.prog (cfgOf Qevent_Same) (Lref08_Right x) 41 (argVs [.int .i64] x) [] (dref08_Right x) = vcref08_Right x := by kernel_rfl
theorem qref08_Right : Pok 41 [.int .i64] (fun x => dref08_Right x) := by
  refine pk (L := fun x => Lref08_Right x) (l := Qevent_Same) aQevent_Same (fun _ => rfl) ?_
  intro x hv hp
  rw [wref08_Right]
  exact okref08_Right x
theorem pref08_Right : SumOk Tryd.prog gl 41 sref08_Right := qref08_Right
theorem aQref08_Right : AllOk Qref08_Right := .cons pref08_Right aQevent_Same
theorem wref09_Rising (x : DenL [tInts]) : Owes Tryd.prog (cfgOf Qref08_Right) (Lref09_Rising x) 38 (argVs [tInts] x) [] (dref09_Rising x) = vcref09_Rising x := by kernel_rfl
theorem qref09_Rising : Pok 38 [tInts] (fun x => dref09_Rising x) := by
  refine pk (L := fun x => Lref09_Rising x) (l := Qref08_Right) aQref08_Right (fun _ => rfl) ?_
  intro x hv hp
  rw [wref09_Rising]
  exact okref09_Rising x hv.2
theorem pref09_Rising : SumOk Tryd.prog gl 38 sref09_Rising := qref09_Rising
theorem aQref09_Rising : AllOk Qref09_Rising := .cons pref09_Rising aQref08_Right
theorem wref09_Right (x : DenL [tRanges]) : Owes Tryd.prog (cfgOf Qref09_Rising) (Lref09_Right x) 64 (argVs [tRanges] x) [] (dref09_Right x) = vcref09_Right x := by kernel_rfl
theorem qref09_Right : Pok 64 [tRanges] (fun x => dref09_Right x) := by
  refine pk (L := fun x => Lref09_Right x) (l := Qref09_Rising) aQref09_Rising (fun _ => rfl) ?_
  intro x hv hp
  rw [wref09_Right]
  exact okref09_Right x hv.2
theorem pref09_Right : SumOk Tryd.prog gl 64 sref09_Right := qref09_Right
theorem aQref09_Right : AllOk Qref09_Right := .cons pref09_Right aQref09_Rising
theorem wref12_Parts (x : DenL [.int .i64]) : Owes Tryd.prog (cfgOf Qref09_Right) (Lref12_Parts x) 18 (argVs [.int .i64] x) [] (dref12_Parts x) = vcref12_Parts x := by kernel_rfl
theorem qref12_Parts : Pok 18 [.int .i64] (fun x => dref12_Parts x) := by
  refine pk (L := fun x => Lref12_Parts x) (l := Qref09_Right) aQref09_Right (fun _ => rfl) ?_
  intro x hv hp
  rw [wref12_Parts]
  exact okref12_Parts x
theorem pref12_Parts : SumOk Tryd.prog gl 18 sref12_Parts := qref12_Parts
theorem aQref12_Parts : AllOk Qref12_Parts := .cons pref12_Parts aQref09_Right
theorem wref12_time (x : DenL [.int .i64]) : Owes Tryd.prog (cfgOf Qref12_Parts) (Lref12_time x) 37 (argVs [.int .i64] x) [] (dref12_time x) = vcref12_time x := by kernel_rfl
theorem qref12_time : Pok 37 [.int .i64] (fun x => dref12_time x) := by
  refine pk (L := fun x => Lref12_time x) (l := Qref12_Parts) aQref12_Parts (fun _ => rfl) ?_
  intro x hv hp
  rw [wref12_time]
  exact okref12_time x
theorem pref12_time : SumOk Tryd.prog gl 37 sref12_time := qref12_time
theorem aQref12_time : AllOk Qref12_time := .cons pref12_time aQref12_Parts
theorem wref12_set (x : DenL [tRanges]) : Owes Tryd.prog (cfgOf Qref12_time) (Lref12_set x) 40 (argVs [tRanges] x) [] (dref12_set x) = vcref12_set x := by kernel_rfl
theorem qref12_set : Pok 40 [tRanges] (fun x => dref12_set x) := by
  refine pk (L := fun x => Lref12_set x) (l := Qref12_time) aQref12_time (fun _ => rfl) ?_
  intro x hv hp
  rw [wref12_set]
  exact okref12_set x
theorem pref12_set : SumOk Tryd.prog gl 40 sref12_set := qref12_set
theorem aQref12_set : AllOk Qref12_set := .cons pref12_set aQref12_time
theorem wref12_has (x : DenL [.str, .int .u8]) : Owes Tryd.prog (cfgOf Qref12_set) (Lref12_has x.1 x.2) 32 (argVs [.str, .int .u8] x) [] (dref12_has x.1 x.2) = vcref12_has x.1 x.2 := by kernel_rfl
theorem qref12_has : Pok 32 [.str, .int .u8] (fun x => dref12_has x.1 x.2) := by
  refine pk (L := fun x => Lref12_has x.1 x.2) (l := Qref12_set) aQref12_set (fun _ => rfl) ?_
  intro x hv hp
  rw [wref12_has]
  exact okref12_has x.1 x.2 hv.1.2
theorem pref12_has : SumOk Tryd.prog gl 32 sref12_has := qref12_has
theorem aQref12_has : AllOk Qref12_has := .cons pref12_has aQref12_set
theorem wref12_Right (x : DenL [tEvent]) : Owes Tryd.prog (cfgOf Qref12_has) (Lref12_Right x) 16 (argVs [tEvent] x) [] (dref12_Right x) = vcref12_Right x := by kernel_rfl
theorem qref12_Right : Pok 16 [tEvent] (fun x => dref12_Right x) := by
  refine pk (L := fun x => Lref12_Right x) (l := Qref12_has) aQref12_has (fun _ => rfl) ?_
  intro x hv hp
  rw [wref12_Right]
  exact okref12_Right x (hp (List.length (U.eBox x) ≤ 1000000000000) (by simp [dref12_Right])) (hp (List.length (U.eTo x) ≤ 1000000000000) (by simp [dref12_Right]))
theorem pref12_Right : SumOk Tryd.prog gl 16 sref12_Right := qref12_Right
theorem aQref12_Right : AllOk Qref12_Right := .cons pref12_Right aQref12_has
theorem wref12_Encode (x : DenL [tEvent]) : Owes Tryd.prog (cfgOf Qref12_Right) (Lref12_Encode x) 14 (argVs [tEvent] x) [] (dref12_Encode x) = vcref12_Encode x := by kernel_rfl
theorem qref12_Encode : Pok 14 [tEvent] (fun x => dref12_Encode x) := by
  refine pk (L := fun x => Lref12_Encode x) (l := Qref12_Right) aQref12_Right (fun _ => rfl) ?_
  intro x hv hp
  rw [wref12_Encode]
  exact okref12_Encode x (hp (List.length (U.eBox x) ≤ 1000000000000) (by simp [dref12_Encode])) (hp (List.length (U.eTo x) ≤ 1000000000000) (by simp [dref12_Encode]))
theorem pref12_Encode : SumOk Tryd.prog gl 14 sref12_Encode := qref12_Encode
theorem aQref12_Encode : AllOk Qref12_Encode := .cons pref12_Encode aQref12_Right
theorem wref12_ReadR (l : List Int) (e : Int) : Owes Tryd.prog (cfgOf Qref12_Encode) (Lref12_ReadR l e) 25 (arref12_ReadR l e) (esref12_ReadR l e) (dref12_ReadR l e) = vcref12_ReadR l e := by kernel_rfl
theorem qref12_Read : GenOk Tryd.prog gl 25 Fref12_Read := by
  refine pkg (l := Qref12_Encode) aQref12_Encode (fun args es d h => ?_) (fun args es d h hv he hp => ?_)
  · unfold Fref12_Read at h
    rcases orE_some h with h | h
    · obtain ⟨l, e, rfl, rfl, rfl⟩ := alref12_ReadR_eq h
      rfl
    cases h
  · unfold Fref12_Read at h
    rcases orE_some h with h | h
    · obtain ⟨l, e, rfl, rfl, rfl⟩ := alref12_ReadR_eq h
      refine ⟨Lref12_ReadR l e, ?_⟩
      rw [wref12_ReadR]
      exact okref12_ReadR l e (he _ (.head _)) (hp (e = 0) (by simp [dref12_ReadR])) (hp (List.length l ≤ 1000000000) (by simp [dref12_ReadR]))
    cases h
theorem pref12_Read : SumOk Tryd.prog gl 25 sref12_Read := qref12_Read
theorem aQref12_Read : AllOk Qref12_Read := .cons pref12_Read aQref12_Encode
theorem wref12_Decode (x : DenL [tBytes]) : Owes Tryd.prog (cfgOf Qref12_Read) (Lref12_Decode x) 9 (argVs [tBytes] x) [] (dref12_Decode x) = vcref12_Decode x := by kernel_rfl
theorem qref12_Decode : Pok 9 [tBytes] (fun x => dref12_Decode x) := by
  refine pk (L := fun x => Lref12_Decode x) (l := Qref12_Read) aQref12_Read (fun _ => rfl) ?_
  intro x hv hp
  rw [wref12_Decode]
  exact okref12_Decode x hv.1 (hp (List.length x ≤ 1000000000) (by simp [dref12_Decode]))
theorem pref12_Decode : SumOk Tryd.prog gl 9 sref12_Decode := qref12_Decode
theorem aQref12_Decode : AllOk Qref12_Decode := .cons pref12_Decode aQref12_Read
theorem wref12_Same (x : DenL [tEvent, tEvent]) : Owes Tryd.prog (cfgOf Qref12_Decode) (Lref12_Same x.1 x.2) 10 (argVs [tEvent, tEvent] x) [] (dref12_Same x.1 x.2) = vcref12_Same x.1 x.2 := by kernel_rfl
theorem qref12_Same : Pok 10 [tEvent, tEvent] (fun x => dref12_Same x.1 x.2) := by
  refine pk (L := fun x => Lref12_Same x.1 x.2) (l := Qref12_Decode) aQref12_Decode (fun _ => rfl) ?_
  intro x hv hp
  rw [wref12_Same]
  exact okref12_Same x.1 x.2
theorem pref12_Same : SumOk Tryd.prog gl 10 sref12_Same := qref12_Same
theorem aQref12_Same : AllOk Qref12_Same := .cons pref12_Same aQref12_Decode
theorem wref12_Great (x : DenL [tEvent]) : Owes Tryd.prog (cfgOf Qref12_Same) (Lref12_Great x) 11 (argVs [tEvent] x) [] (dref12_Great x) = vcref12_Great x := by kernel_rfl
theorem qref12_Great : Pok 11 [tEvent] (fun x => dref12_Great x) := by
  refine pk (L := fun x => Lref12_Great x) (l := Qref12_Same) aQref12_Same (fun _ => rfl) ?_
  intro x hv hp
  rw [wref12_Great]
  exact okref12_Great x
theorem pref12_Great : SumOk Tryd.prog gl 11 sref12_Great := qref12_Great
theorem aQref12_Great : AllOk Qref12_Great := .cons pref12_Great aQref12_Same
end Go.Proofs.YtllmhikoaklpbaaDoor
