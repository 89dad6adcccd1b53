/- What is owed of the small functions, proved in plain Lean. -/
import Derived.Test.YtddakledpipanaaV1
set_option linter.unusedSimpArgs false
set_option linter.unusedVariables false
namespace Go.Proofs.Ytddakledpipanaa
open Go.Vc
theorem wrap_small {x : Int} (h1 : -9223372036854775808 ≤ x) (h2 : x ≤ 9223372036854775807) : IntKind.wrap .i64 x = x := by
  simp only [IntKind.wrap, IntKind.signed, IntKind.bits]
  simp
  omega
theorem getD_at {α : Type} {l : List α} {k : Nat} {d : α} (h : k < l.length) : l.getD k d = l[k] := by
  rw [List.getD_eq_getElem?_getD, List.getElem?_eq_getElem h]; rfl
theorem idx1_none {α : Type} (p : α → Bool) : ∀ (l : List α) (i : Int), 0 ≤ i → (U.idx1 p l i = -1 ∨ 0 ≤ U.idx1 p l i) ∧ (decide (U.idx1 p l i ≥ 0) = l.any p) ∧ U.idx1 p l i ≤ i + l.length
  | [], i, h => by simp [U.idx1]; omega
  | x :: r, i, h => by
    unfold U.idx1
    obtain ⟨h1, h2, h3⟩ := idx1_none p r (i + 1) (by omega)
    cases hp : p x with
    | true => simp only [cond_true, List.any_cons, hp, List.length_cons]; refine ⟨by omega, by simp; omega, by omega⟩
    | false => simp only [cond_false, List.any_cons, hp, Bool.false_or, List.length_cons]; exact ⟨h1, h2, by omega⟩

theorem wrap_succ {k n : Nat} (h : k < n) (hn : n ≤ 9223372036854775807) : IntKind.wrap .i64 (Int.add (k : Int) 1) = ((k + 1 : Nat) : Int) := by
  rw [wrap_small] <;> simp only [Int.add_def] <;> omega
theorem idx1_cons {α : Type} (p : α → Bool) (x : α) (r : List α) (i : Int) : U.idx1 p (x :: r) i = cond (p x) i (U.idx1 p r (i + 1)) := rfl
theorem greatGo_cons (m : Msg) (r : List Msg) (n : Int) : U.greatGo (m :: r) n = cond (decide (n ≤ 5000)) (U.greatGo r (IntKind.wrap .i64 (n + m.2.2.2.length))) n := rfl
theorem rightGo_cons (t : Int) (m : Msg) (r : List Msg) (n : Int) : U.rightGo t (m :: r) n = cond (decide (m.1 ≤ n) || decide (m.1 ≥ t) || !U.may m) false (U.rightGo t r m.1) := rfl
theorem ok36 (x : Int) : vc36 x := by
  unfold vc36 U.numbered
  exact ⟨by by_cases h : 1 ≤ x <;> simp [h], trivial⟩
theorem ok49 (x : Int) : vc49 x := ⟨rfl, trivial⟩
theorem ok50 (l : List Int) (h : l.length ≤ 5000) : vc50 l := by
  intro nb h1 _
  cases nb with
  | true => exact ⟨(List.length_eq_zero_iff.1 (h1 rfl)).symm, trivial⟩
  | false => exact ⟨by simp; omega, by simp [maxLen]; omega, rfl, trivial⟩
theorem ok41 (a b : List Int) : vc41 a b := ⟨rfl, trivial⟩
theorem ok35 (m : Msg) : vc35 m := by
  unfold vc35 U.may
  refine ⟨?_, trivial⟩
  cases U.flagRight m.2.1 <;> by_cases h1 : 0 ≤ m.2.2.1 <;> by_cases h2 : m.2.2.1 ≤ 1099511627776 <;> by_cases h3 : m.2.2.2.length ≤ 2000 <;> simp [h1, h2, h3] <;> omega
theorem ok37 (m : Msg) (h : m.2.2.2.length ≤ 5000) : vc37 m := ⟨h, rfl, rfl, rfl, rfl, trivial⟩
theorem eqM_iff (a b : Msg) : U.eqM a b = true ↔ a = b := by unfold U.eqM; exact beq_iff_eq
theorem ok18 (a b : Msg) : vc18 a b := by
  unfold vc18
  refine ⟨?_, trivial⟩
  obtain ⟨a1, a2, a3, a4⟩ := a
  obtain ⟨b1, b2, b3, b4⟩ := b
  rw [Bool.eq_iff_iff, eqM_iff]
  by_cases h1 : a1 = b1 <;> by_cases h2 : a2 = b2 <;> by_cases h3 : a3 = b3 <;> simp [h1, h2, h3, U.eqB]
theorem eqMs_iff (a b : List Msg) : U.eqMs a b = true ↔ a = b := by unfold U.eqMs; exact beq_iff_eq
theorem eqBox_iff (a b : Box) : U.eqBox a b = true ↔ a = b := by unfold U.eqBox; exact beq_iff_eq
theorem ok14 (a b : Box) : vc14 a b := by
  unfold vc14
  refine ⟨?_, trivial⟩
  obtain ⟨a1, a2, a3, a4⟩ := a
  obtain ⟨b1, b2, b3, b4⟩ := b
  rw [Bool.eq_iff_iff, eqBox_iff]
  have hb : List.beq a1 b1 = (a1 == b1) := rfl
  have hr : ∀ l : List Int, l.beq l = true := fun l => (by show (l == l) = true; simp)
  by_cases h1 : a1 = b1 <;> by_cases h2 : a2 = b2 <;> by_cases h3 : a3 = b3 <;> simp [h1, h2, h3, hb, hr, U.eqMs]
theorem ok40 (l : List Int) (v : Int) : vc40 l v := ⟨(idx1_none _ l 0 (by omega)).2.1, trivial⟩
theorem ok54 (l : List Int) (v : Int) (hl : l.length ≤ 9223372036854775807) : vc54 l v := by
  unfold vc54
  refine ⟨0, ⟨rfl, ⟨by omega, by omega⟩, rfl⟩, fun x ⟨⟨h0, h1⟩, hI⟩ => ?_⟩
  obtain ⟨k, rfl⟩ : ∃ k : Nat, x = k := ⟨x.toNat, by omega⟩
  simp only [Int.toNat_natCast] at hI ⊢
  by_cases hx : (k : Int) < l.length
  · have hk : k < l.length := by omega
    simp only [decide_eq_true hx, cond_true, getD_at hk]
    rw [List.drop_eq_getElem_cons hk, idx1_cons] at hI
    refine ⟨h0, hx, ?_⟩
    cases hc : decide (v = l[k]) with
    | true => rw [hc] at hI; exact ⟨hI, trivial⟩
    | false =>
      rw [hc] at hI
      have hw := wrap_succ hk hl
      exact ⟨((k + 1 : Nat) : Int), by rw [hw], ⟨⟨by omega, by omega⟩, hI⟩, by simp; omega⟩
  · rw [decide_eq_false hx, cond_false]
    rw [List.drop_eq_nil_of_le (by omega)] at hI
    exact ⟨hI, trivial⟩
theorem ok28 (b : Box) (u : Int) (hl : b.2.2.2.length ≤ 9223372036854775807) : vc28 b u := by
  unfold vc28
  refine ⟨0, ⟨rfl, ⟨by omega, by omega⟩, rfl⟩, fun x ⟨⟨h0, h1⟩, hI⟩ => ?_⟩
  obtain ⟨k, rfl⟩ : ∃ k : Nat, x = k := ⟨x.toNat, by omega⟩
  simp only [Int.toNat_natCast] at hI ⊢
  by_cases hx : (k : Int) < b.2.2.2.length
  · have hk : k < b.2.2.2.length := by omega
    simp only [decide_eq_true hx, cond_true, getD_at hk]
    rw [List.drop_eq_getElem_cons hk, idx1_cons] at hI
    refine ⟨h0, hx, ?_⟩
    cases hc : decide ((b.2.2.2[k]).1 = u) with
    | true =>
      rw [hc] at hI
      refine ⟨?_, trivial⟩
      unfold U.place
      rw [← hI, wrap_small] <;> simp only [Int.add_def, cond_true] <;> omega
    | false =>
      rw [hc] at hI
      exact ⟨((k + 1 : Nat) : Int), by rw [wrap_succ hk hl], ⟨⟨by omega, by omega⟩, hI⟩, by simp; omega⟩
  · rw [decide_eq_false hx, cond_false]
    rw [List.drop_eq_nil_of_le (by omega)] at hI
    refine ⟨?_, trivial⟩
    unfold U.place
    rw [← hI]
    rfl
theorem ok39 (b : Box) (l : List Int) (hl : l.length ≤ 9223372036854775807) : vc39 b l := by
  unfold vc39
  have hm : ∀ r : Int, r = U.idx1 (fun u => decide (U.place b.2.2.2 u = 0)) l 0 → decide (r ≥ 0) = U.missing b.2.2.2 l := fun r hr => by rw [hr]; exact (idx1_none _ l 0 (by omega)).2.1
  refine ⟨0, ⟨rfl, ⟨by omega, by omega⟩, rfl⟩, fun x ⟨⟨h0, h1⟩, hI⟩ => ?_⟩
  obtain ⟨k, rfl⟩ : ∃ k : Nat, x = k := ⟨x.toNat, by omega⟩
  simp only [Int.toNat_natCast] at hI ⊢
  by_cases hx : (k : Int) < l.length
  · have hk : k < l.length := by omega
    simp only [decide_eq_true hx, cond_true, getD_at hk]
    rw [List.drop_eq_getElem_cons hk, idx1_cons] at hI
    refine ⟨h0, hx, ?_⟩
    cases hc : decide (U.place b.2.2.2 (l[k]) = 0) with
    | true => simp only [hc] at hI; exact ⟨hm _ hI, trivial⟩
    | false =>
      simp only [hc] at hI
      exact ⟨((k + 1 : Nat) : Int), by rw [wrap_succ hk hl], ⟨⟨by omega, by omega⟩, hI⟩, by simp; omega⟩
  · rw [decide_eq_false hx, cond_false]
    rw [List.drop_eq_nil_of_le (by omega)] at hI
    exact ⟨hm _ hI, trivial⟩
theorem ok10 (b : Box) (hl : b.2.2.2.length ≤ 9223372036854775807) : vc10 b := by
  unfold vc10
  refine ⟨(b.2.2.2.length, 0), ⟨rfl, ⟨by omega, by simp⟩, rfl⟩, fun ⟨c, x⟩ ⟨⟨h0, h1⟩, hI⟩ => ?_⟩
  obtain ⟨k, rfl⟩ : ∃ k : Nat, x = k := ⟨x.toNat, by omega⟩
  simp only [Int.toNat_natCast] at hI ⊢
  unfold U.great
  by_cases hx : (k : Int) < b.2.2.2.length
  · have hk : k < b.2.2.2.length := by omega
    simp only [decide_eq_true hx, cond_true, getD_at hk]
    rw [List.drop_eq_getElem_cons hk, greatGo_cons] at hI
    cases hc : decide (c ≤ 5000) with
    | true =>
      rw [hc] at hI
      simp only [cond_true]
      exact ⟨h0, hx, (IntKind.wrap .i64 (c + (b.2.2.2[k]).2.2.2.length), ((k + 1 : Nat) : Int)), by rw [wrap_succ hk hl]; rfl, ⟨⟨by omega, by simp; omega⟩, hI⟩, by simp; omega⟩
    | false =>
      rw [hc] at hI
      simp only [cond_false]
      exact ⟨by rw [← hI]; rfl, trivial⟩
  · simp only [decide_eq_false hx, cond_false]
    rw [List.drop_eq_nil_of_le (by omega)] at hI
    exact ⟨by rw [← hI]; rfl, trivial⟩
theorem ok15 (b : Box) (hl : b.2.2.2.length ≤ 9223372036854775807) : vc15 b := by
  unfold vc15
  have hr : U.right b = (!(cond (cond (!U.numbered b.2.1) true (cond (!U.numbered b.2.2.1) (b.2.2.1 != 4294967296) false)) true (decide ((b.2.2.2.length : Int) > 40))) && U.rightGo b.2.2.1 b.2.2.2 0) := by
    unfold U.right
    cases U.numbered b.2.1 <;> cases U.numbered b.2.2.1 <;> by_cases h1 : b.2.2.1 = 4294967296 <;> by_cases h2 : b.2.2.2.length ≤ 40 <;> simp [h1, h2] <;> omega
  cases hc : (cond (cond (!U.numbered b.2.1) true (cond (!U.numbered b.2.2.1) (b.2.2.1 != 4294967296) false)) true (decide ((b.2.2.2.length : Int) > 40))) with
  | true => rw [hc] at hr; exact ⟨hr.symm, trivial⟩
  | false =>
    rw [hc] at hr
    simp only [Bool.not_false, Bool.true_and] at hr
    refine ⟨(0, 0), ⟨rfl, ⟨by omega, by simp⟩, rfl⟩, fun ⟨c, x⟩ ⟨⟨h0, h1⟩, hI⟩ => ?_⟩
    obtain ⟨k, rfl⟩ : ∃ k : Nat, x = k := ⟨x.toNat, by omega⟩
    simp only [Int.toNat_natCast] at hI ⊢
    rw [← hr] at hI
    by_cases hx : (k : Int) < b.2.2.2.length
    · have hk : k < b.2.2.2.length := by omega
      simp only [decide_eq_true hx, cond_true, getD_at hk]
      rw [List.drop_eq_getElem_cons hk, rightGo_cons] at hI
      refine ⟨h0, hx, ?_⟩
      have e : (cond (cond (decide ((b.2.2.2[k]).1 ≤ c)) true (decide ((b.2.2.2[k]).1 ≥ b.2.2.1))) true (!U.may ((b.2.2.2[k]).1, (b.2.2.2[k]).2.1, (b.2.2.2[k]).2.2.1, (b.2.2.2[k]).2.2.2))) = (decide ((b.2.2.2[k]).1 ≤ c) || decide ((b.2.2.2[k]).1 ≥ b.2.2.1) || !U.may (b.2.2.2[k])) := by
        cases decide ((b.2.2.2[k]).1 ≤ c) <;> cases decide ((b.2.2.2[k]).1 ≥ b.2.2.1) <;> rfl
      rw [e]
      cases hc2 : (decide ((b.2.2.2[k]).1 ≤ c) || decide ((b.2.2.2[k]).1 ≥ b.2.2.1) || !U.may (b.2.2.2[k])) with
      | true => rw [hc2] at hI; exact ⟨hI, trivial⟩
      | false =>
        rw [hc2] at hI
        exact ⟨(_, ((k + 1 : Nat) : Int)), by rw [wrap_succ hk hl], ⟨⟨by omega, by simp; omega⟩, by rw [← hr]; exact hI⟩, by simp; omega⟩
    · simp only [decide_eq_false hx, cond_false]
      rw [List.drop_eq_nil_of_le (by omega)] at hI
      exact ⟨hI, trivial⟩
theorem ok27 (b : Box) (hs : U.small b.2.2.2) : vc27 b := by
  obtain ⟨hs1, hs2⟩ := hs
  unfold vc27
  refine ⟨by omega, by omega, by simp; omega, by omega, (_, 0), ⟨rfl, ⟨by omega, by simp⟩, by simp, by simp⟩, fun ⟨l, x⟩ ⟨⟨h0, h1⟩, hlen, hI⟩ => ?_⟩
  obtain ⟨k, rfl⟩ : ∃ k : Nat, x = k := ⟨x.toNat, by omega⟩
  simp only [Int.toNat_natCast] at hI hlen ⊢
  by_cases hx : (k : Int) < b.2.2.2.length
  · have hk : k < b.2.2.2.length := by omega
    simp only [decide_eq_true hx, cond_true, getD_at hk]
    refine ⟨h0, hx, hs2 _ (List.getElem_mem hk), h0, by omega, by omega, (_, ((k + 1 : Nat) : Int)), by rw [wrap_succ hk (by omega)], ⟨⟨by omega, by simp; omega⟩, by simp [hlen], ?_⟩, by simp; omega⟩
    simp only [Int.toNat_natCast]
    rw [List.take_succ_eq_append_getElem hk, ← hI, List.take_succ_eq_append_getElem (by rw [List.length_set]; omega), List.take_set_of_le (by omega)]
    simp
  · simp only [decide_eq_false hx, cond_false]
    refine ⟨trivial, trivial, trivial, ?_, trivial⟩
    rw [List.take_of_length_le (by omega), List.take_of_length_le (by omega)] at hI
    exact hI
end Go.Proofs.Ytddakledpipanaa
