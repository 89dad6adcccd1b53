/- What is owed of the law BoxRise, proved in plain Lean. -/
import Derived.Test.YtddakledpipanaaP7
set_option linter.unusedSimpArgs false
set_option linter.unusedVariables false
set_option maxRecDepth 100000
namespace Go.Proofs.Ytddakledpipanaa
open Go.Vc
open Go.Vc.T
theorem rightGo_add (t : Int) (y : Int × Int × List Int) (hm : U.may (t, y) = true) : ∀ (l : List Msg) (c : Int), c < t → U.rightGo t l c = true → U.rightGo (t + 1) (l ++ [(t, y)]) c = true
  | [], c, hc, _ => by
    have e : U.rightGo (t + 1) [] t = true := rfl
    rw [List.nil_append, rightGo_cons', if_neg (by simp [hm]; omega)]; exact e
  | m :: r, c, hc, h => by
    rw [rightGo_cons'] at h
    by_cases hh : m.1 ≤ c ∨ t ≤ m.1 ∨ U.may m = false
    · rw [if_pos hh] at h; cases h
    · rw [if_neg hh] at h
      rw [List.cons_append, rightGo_cons', if_neg (by grind)]
      exact rightGo_add t y hm r m.1 (by omega) h
theorem rightGo_take (t : Int) : ∀ (l : List Msg) (c : Int) (k : Nat), U.rightGo t l c = true → U.rightGo t (l.take k) c = true
  | [], c, k, _ => by rw [List.take_nil]; rfl
  | m :: r, c, 0, h => rfl
  | m :: r, c, k + 1, h => by
    rw [rightGo_cons'] at h
    by_cases hh : m.1 ≤ c ∨ t ≤ m.1 ∨ U.may m = false
    · rw [if_pos hh] at h; cases h
    · rw [if_neg hh] at h
      rw [List.take_succ_cons, rightGo_cons', if_neg hh]
      exact rightGo_take t r m.1 k h
theorem rightGo_low (t : Int) : ∀ (l : List Msg) (c : Int), U.rightGo t l c = true → ∀ m ∈ l, c < m.1
  | [], c, _ => fun m hm => by cases hm
  | x :: r, c, h => by
    rw [rightGo_cons'] at h
    by_cases hh : x.1 ≤ c ∨ t ≤ x.1 ∨ U.may x = false
    · rw [if_pos hh] at h; cases h
    · rw [if_neg hh] at h
      intro m hm
      rcases List.mem_cons.1 hm with rfl | hm
      · omega
      · have := rightGo_low t r x.1 h m hm; omega
theorem rightGo_apart (t : Int) : ∀ (l : List Msg) (c : Int), U.rightGo t l c = true → l.Pairwise (fun a b => a.1 < b.1)
  | [], c, _ => List.Pairwise.nil
  | x :: r, c, h => by
    rw [rightGo_cons'] at h
    by_cases hh : x.1 ≤ c ∨ t ≤ x.1 ∨ U.may x = false
    · rw [if_pos hh] at h; cases h
    · rw [if_neg hh] at h
      exact List.pairwise_cons.2 ⟨rightGo_low t r x.1 h, rightGo_apart t r x.1 h⟩
theorem right_iff (b : Box) : U.right b = true ↔ ((1 ≤ b.2.1 ∧ b.2.1 ≤ 4294967295) ∧ (1 ≤ b.2.2.1 ∧ b.2.2.1 ≤ 4294967296) ∧ b.2.2.2.length ≤ 40 ∧ U.rightGo b.2.2.1 b.2.2.2 0 = true) := by
  simp only [U.right, U.numbered]
  grind
theorem contains_iff (ids : List Int) (v : Int) : U.contains ids v = true ↔ v ∈ ids := by
  unfold U.contains; simp
theorem filter_drop {l : List Msg} (h : l.Pairwise (fun a b => a.1 < b.1)) (k : Nat) :
    l.filter (fun m => U.contains (U.uids (l.drop k)) m.1) = l.drop k ∧ l.filter (fun m => !U.contains (U.uids (l.drop k)) m.1) = l.take k := by
  have hin : ∀ m ∈ l.drop k, U.contains (U.uids (l.drop k)) m.1 = true := fun m hm => (contains_iff _ _).2 (List.mem_map.2 ⟨m, hm, rfl⟩)
  have hout : ∀ m ∈ l.take k, U.contains (U.uids (l.drop k)) m.1 = false := by
    intro m hm
    rw [← Bool.not_eq_true, contains_iff]
    intro hh
    obtain ⟨x, hx, e⟩ := List.mem_map.1 hh
    rw [← List.take_append_drop k l, List.pairwise_append] at h
    have := h.2.2 m hm x hx
    omega
  constructor
  · conv => lhs; arg 2; rw [← List.take_append_drop k l]
    rw [List.filter_append, List.filter_eq_nil_iff.2 (fun m hm => by simp [hout m hm]), List.nil_append, List.filter_eq_self.2 hin]
  · conv => lhs; arg 2; rw [← List.take_append_drop k l]
    rw [List.filter_append, List.filter_eq_self.2 (fun m hm => by simp [hout m hm]), List.filter_eq_nil_iff.2 (fun m hm => by simp [hin m hm]), List.append_nil]
theorem there (l : List Msg) (u : Int) (h : u ∈ U.uids l) : U.place l u ≠ 0 := by
  have e := (idx1_none (fun m : Msg => decide (m.1 = u)) l 0 (by omega)).2.1
  obtain ⟨m, hm, rfl⟩ := List.mem_map.1 h
  have : l.any (fun x : Msg => decide (x.1 = m.1)) = true := List.any_eq_true.2 ⟨m, hm, by simp⟩
  rw [this] at e
  unfold U.place
  have := of_decide_eq_true e
  omega
theorem take_rest {b : Box} (h : U.right b = true) (k : Nat) : U.take b ((U.uids b.2.2.2).drop k) = ((b.1, b.2.1, b.2.2.1, b.2.2.2.take k), b.2.2.2.drop k, 0) := by
  have hR := (right_iff b).1 h
  have hm : U.missing b.2.2.2 ((U.uids b.2.2.2).drop k) = false := by
    unfold U.missing
    rw [List.any_eq_false]
    intro u hu
    have := there _ _ (List.mem_of_mem_drop hu)
    simpa using this
  have e : (U.uids b.2.2.2).drop k = U.uids (b.2.2.2.drop k) := by unfold U.uids; rw [List.map_drop]
  obtain ⟨f1, f2⟩ := filter_drop (rightGo_apart _ _ _ hR.2.2.2) k
  rw [take_eq, if_pos h, if_neg (by rw [hm]; simp), e, f1, f2]
theorem right_take {b : Box} (h : U.right b = true) (k : Nat) : U.right (b.1, b.2.1, b.2.2.1, b.2.2.2.take k) = true := by
  have hR := (right_iff b).1 h
  refine (right_iff _).2 ⟨hR.1, hR.2.1, ?_, rightGo_take _ _ _ k hR.2.2.2⟩
  show (b.2.2.2.take k).length ≤ 40
  rw [List.length_take]; omega
theorem add_right {b : Box} (h : U.right b = true) (m : Msg) : ((U.add b m).2.2 ≠ 0 ∧ (U.add b m).1 = b) ∨
    (b.2.2.1 ≤ 4294967295 ∧ U.add b m = ((b.1, b.2.1, b.2.2.1 + 1, b.2.2.2 ++ [(b.2.2.1, m.2)]), b.2.2.1, 0) ∧ U.right (b.1, b.2.1, b.2.2.1 + 1, b.2.2.2 ++ [(b.2.2.1, m.2)]) = true) := by
  have hR := (right_iff b).1 h
  unfold U.add
  cases hm : U.may m with
  | false => rw [h]; exact .inl ⟨by simp, rfl⟩
  | true =>
    rw [h]
    cases hn : U.numbered b.2.2.1 with
    | false => exact .inl ⟨by simp, rfl⟩
    | true =>
      have hn := (numbered_iff _).1 hn
      cases hf : decide ((b.2.2.2.length : Int) = 40) with
      | true => exact .inl ⟨by simp, rfl⟩
      | false =>
        have hf : (b.2.2.2.length : Int) ≠ 40 := by simpa using hf
        refine .inr ⟨hn.2, rfl, (right_iff _).2 ⟨hR.1, by dsimp only; omega, ?_, rightGo_add b.2.2.1 m.2 (show U.may (b.2.2.1, m.2) = true from hm) _ 0 (by omega) hR.2.2.2⟩⟩
        show (b.2.2.2 ++ _).length ≤ 40
        simp; omega
theorem ok5 (l : List Turn) (k : Int) (hk : 0 ≤ k ∧ k ≤ 4294967295) (hv : ∀ x ∈ l, 0 ≤ x.2.2 ∧ x.2.2 ≤ 255) : vc5 l k := by
  unfold vc5
  rw [cond_prop]
  refine ⟨fun _ => ⟨rfl, trivial⟩, fun hlen => ?_⟩
  have hlen : (l.length : Int) ≤ 80 := by simpa using hlen
  have hwk : IntKind.i64.wrap k = k := wrap_i (by omega) (by omega)
  have hwk1 : IntKind.i64.wrap (Int.add 1 k) = 1 + k := wrap_i (by show _ ≤ 1 + k; omega) (by show 1 + k ≤ _; omega)
  rw [hwk, hwk1]
  refine ⟨(([97], 7, 1 + k, []), k, 0), ⟨rfl, ⟨by simp, by simp⟩, (right_iff _).2 ⟨by simp, by dsimp only; omega, by simp, rfl⟩, by dsimp only; omega, rfl, rfl⟩, ?_⟩
  rintro ⟨b, last, i⟩ ⟨⟨h0, h1⟩, hR, hnext, hval, hname⟩
  dsimp only at h0 h1 hR hnext hval hname ⊢
  have hR' := (right_iff b).1 hR
  have hw : i < l.length → IntKind.i64.wrap (i.add 1) = i + 1 := fun h => wrap_i (by show _ ≤ i + 1; omega) (by show i + 1 ≤ _; omega)
  rw [cond_prop]
  refine ⟨fun hi => ?_, fun hi => ?_⟩
  · have hi : i < l.length := by simpa using hi
    have hu : (U.uids b.2.2.2).length = b.2.2.2.length := by unfold U.uids; simp
    have hg : l.getD i.toNat ((0, 0, 0, []), false, 0) = l[i.toNat] := getD_at (by omega)
    have hpick := hv _ (List.getElem_mem (l := l) (n := i.toNat) (by omega))
    have hmu : l.length.sub (i + 1).toNat < l.length.sub i.toNat := by simp only [nat_sub]; omega
    have hat : U.at_ l (i + 1) := ⟨by omega, by omega⟩
    rw [hw hi, hg]
    generalize l[i.toNat] = t at hpick ⊢
    refine ⟨by omega, h0, hi, ?_⟩
    rw [cond_prop]
    refine ⟨fun ht => ?_, fun ht => ?_⟩
    · rw [cond_prop]
      refine ⟨fun hz => Exists.intro (b, last, i + 1) (And.intro rfl ⟨⟨hat, hR, hnext, hval, hname⟩, hmu⟩), fun hz => ?_⟩
      have hz : ((U.uids b.2.2.2).length : Int) ≠ 0 := by simpa using hz
      have hwp : IntKind.i64.wrap t.2.2 = t.2.2 := wrap_i (by omega) (by omega)
      rw [hwp]
      have hk0 : t.2.2.tmod ((U.uids b.2.2.2).length : Int) = t.2.2 % (U.uids b.2.2.2).length := Int.tmod_eq_emod_of_nonneg hpick.1
      have hk1 : 0 ≤ t.2.2 % ((U.uids b.2.2.2).length : Int) := Int.emod_nonneg _ hz
      have hk2 : t.2.2 % ((U.uids b.2.2.2).length : Int) < (U.uids b.2.2.2).length := Int.emod_lt_of_pos _ (by omega)
      rw [hk0]
      generalize t.2.2 % ((U.uids b.2.2.2).length : Int) = q at hk1 hk2 ⊢
      have e : List.take (((U.uids b.2.2.2).length : Int).toNat.sub q.toNat) (List.drop q.toNat (U.uids b.2.2.2)) = (U.uids b.2.2.2).drop q.toNat := by
        rw [List.take_of_length_le]; simp only [List.length_drop, nat_sub]; omega
      rw [e, take_rest hR]
      have hwl : IntKind.i64.wrap (((U.uids b.2.2.2).length : Int).sub q) = (U.uids b.2.2.2).length - q := wrap_i (by show _ ≤ ((U.uids b.2.2.2).length : Int) - q; omega) (by show ((U.uids b.2.2.2).length : Int) - q ≤ _; omega)
      rw [hwl]
      refine ⟨h0, hi, hz, hk1, by omega, by omega, ?_⟩
      simp only [cond_prop, cond_or, List.length_drop, List.length_take, hu]
      rw [hu] at hk2
      refine ⟨fun hh => ?_, fun _ => Exists.intro ((b.1, b.2.1, b.2.2.1, b.2.2.2.take q.toNat), last, i + 1) (And.intro rfl ⟨⟨hat, right_take hR _, hnext, hval, hname⟩, hmu⟩)⟩
      exfalso
      simp only [Bool.or_eq_true, bne_iff_ne, ne_eq, not_true_eq_false, false_or, or_false] at hh
      rcases hh with hh | hh <;> apply hh <;> omega
    · refine ⟨h0, hi, ?_⟩
      rcases add_right hR t.1 with ⟨h1, h2⟩ | ⟨h1, h2, h3⟩
      · rw [cond_prop, h2, eqBox_self]
        refine ⟨fun _ => Exists.intro (b, last, i + 1) (And.intro rfl ⟨⟨hat, hR, hnext, hval, hname⟩, hmu⟩), fun hh => ?_⟩
        exact absurd (by simpa using hh) h1
      · rw [h2]
        have hw1 : IntKind.i64.wrap (last.add 1) = last + 1 := wrap_i (by show _ ≤ last + 1; omega) (by show last + 1 ≤ _; omega)
        have hw2 : IntKind.i64.wrap (b.2.2.1.add 1) = b.2.2.1 + 1 := wrap_i (by show _ ≤ b.2.2.1 + 1; omega) (by show b.2.2.1 + 1 ≤ _; omega)
        rw [hw1, cond_prop]
        refine ⟨fun hh => by simp at hh, fun _ => ?_⟩
        rw [hw2, h3]
        simp only [cond_prop, cond_or]
        refine ⟨fun hh => ?_, fun _ => Exists.intro ((b.1, b.2.1, b.2.2.1 + 1, b.2.2.2 ++ [(b.2.2.1, t.1.2)]), b.2.2.1, i + 1) (And.intro rfl ⟨⟨hat, h3, rfl, hval, hname⟩, hmu⟩)⟩
        exfalso
        simp only [Bool.or_eq_true, bne_iff_ne, ne_eq, not_true_eq_false, false_or, or_false] at hh
        simp [hnext] at hh
  · rw [hval, hname]
    exact ⟨by decide, trivial⟩
end Go.Proofs.Ytddakledpipanaa
