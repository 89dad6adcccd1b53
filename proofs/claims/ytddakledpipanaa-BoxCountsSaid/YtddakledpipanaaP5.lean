/- What is owed of the references' functions, proved in plain Lean. -/
import Derived.Test.YtddakledpipanaaP2
import Derived.Test.YtddakledpipanaaV2
import Derived.Test.YtddakledpipanaaVcT
set_option linter.unusedSimpArgs false
set_option linter.unusedVariables false
set_option maxRecDepth 100000
namespace Go.Proofs.Ytddakledpipanaa
open Go.Vc
open Go.Vc.T
theorem ok51 (x : Int) : vc51 x := by
  unfold vc51 U.five
  simp only [cond_and]
  grind
theorem ok55 (a b : List Int) : vc55 a b := ⟨rfl, trivial⟩
theorem eqI_iff (a b : List Int) : U.eqI a b = true ↔ a = b := by unfold U.eqI; exact beq_iff_eq
theorem take_succ_iff' {α : Type} {a b : List α} {i : Int} (h0 : 0 ≤ i) (ha : i < a.length) (hb : i < b.length) (h : a.take i.toNat = b.take i.toNat) : a.take (i + 1).toNat = b.take (i + 1).toNat ↔ a[i.toNat] = b[i.toNat] := by
  rw [take_at h0 ha, take_at h0 hb, h, List.append_cancel_left_eq]
  simp only [List.cons.injEq, and_true]
theorem ok31 (a b : List Int) (hl : a.length ≤ 9223372036854775807) : vc31 a b := by
  unfold vc31
  have he := eqI_iff a b
  simp only [cond_prop, int_add, nat_sub]
  refine ⟨?_, fun hlen => ⟨_, ⟨rfl, ?_⟩, ?_⟩⟩
  · grind
  · grind [U.at_]
  · rintro x ⟨⟨h0, h1⟩, h2, h3⟩
    simp only [U.at_, wrap_i64]
    have := @take_succ_iff' Int a b x h0
    have := @take_end Int a x
    have := @take_end Int b x
    repeat' (first | apply And.intro | intro _ | refine Exists.intro _ (And.intro rfl ?_))
    all_goals grind
theorem ok34 (m : Msg) (h : m.2.2.2.length ≤ 5000) : vc34 m := by
  unfold vc34
  simp only [nat_add, nat_mul, maxLen_eq]
  grind
theorem testBit_31 (i : Nat) : Nat.testBit 31 i = decide (i < 5) := Nat.testBit_two_pow_sub_one 5 i
theorem andNot31 (v : BitVec 64) : (v &&& ~~~ 31#64) = 0#64 ↔ v.toNat < 32 := by
  constructor
  · intro h
    refine Nat.lt_pow_two_of_testBit (n := 5) _ fun i hi => ?_
    have := congrArg (fun w => BitVec.getLsbD w i) h
    simp only [BitVec.getLsbD_and, BitVec.getLsbD_not, BitVec.getLsbD_ofNat, testBit_31] at this
    rw [← BitVec.getLsbD]
    by_cases h64 : i < 64
    · simpa [h64, show ¬ i < 5 by omega] using this
    · exact BitVec.getLsbD_of_ge _ _ (by omega)
  · intro h
    apply BitVec.eq_of_getLsbD_eq
    intro i hi
    simp only [BitVec.getLsbD_and, BitVec.getLsbD_not, BitVec.getLsbD_ofNat, testBit_31]
    by_cases h5 : i < 5
    · simp [h5, hi]
    · have : v.getLsbD i = false := by
        rw [BitVec.getLsbD, Nat.testBit_lt_two_pow]
        exact Nat.lt_of_lt_of_le (show v.toNat < 2 ^ 5 from h) (Nat.pow_le_pow_right (by omega) (by omega))
      simp [this]
theorem flagRight_five (x : Int) (h1 : -9223372036854775808 ≤ x) (h2 : x ≤ 9223372036854775807) : U.flagRight x = U.five x := by
  unfold U.flagRight U.five
  have h := andNot31 (BitVec.ofInt 64 x)
  rw [BitVec.toNat_ofInt] at h
  have hl := (BitVec.ofInt 64 x &&& ~~~ (BitVec.ofInt 64 31)).isLt
  have e : BitVec.ofInt 64 31 = 31#64 := rfl
  rw [e]
  rw [e] at hl
  have hz : (BitVec.ofInt 64 x &&& ~~~ 31#64) = 0#64 ↔ (BitVec.ofInt 64 x &&& ~~~ 31#64).toNat = 0 := by
    rw [← BitVec.toNat_inj]; rfl
  rw [hz] at h
  generalize (BitVec.ofInt 64 x &&& ~~~ 31#64).toNat = n at *
  rw [wrap_i64, Bool.eq_iff_iff]
  simp only [Bool.and_eq_true, decide_eq_true_eq]
  simp at h
  omega
theorem ok42 (x m y : Int) (hx : -9223372036854775808 ≤ x ∧ x ≤ 9223372036854775807) (hy : -9223372036854775808 ≤ y ∧ y ≤ 9223372036854775807) : vc42 x m y := by
  unfold vc42
  have e1 : IntKind.i64.wrap (↑((BitVec.ofInt IntKind.i64.bits x).or (BitVec.ofInt IntKind.i64.bits y)).toNat : Int) = U.orI x y := rfl
  have e2 : IntKind.i64.wrap (↑((BitVec.ofInt IntKind.i64.bits x).and (BitVec.ofInt IntKind.i64.bits y).not).toNat : Int) = U.notI x y := rfl
  rw [e1, e2, flagRight_five x hx.1 hx.2, flagRight_five y hy.1 hy.2]
  simp only [cond_prop, cond_or, U.apply, Bool.cond_eq_ite]
  grind
theorem ok43 (x m y : Int) : vc43 x m y := by
  unfold vc43
  have e1 : IntKind.i64.wrap (↑((BitVec.ofInt IntKind.i64.bits x).or (BitVec.ofInt IntKind.i64.bits y)).toNat : Int) = U.orI x y := rfl
  have e2 : IntKind.i64.wrap (↑((BitVec.ofInt IntKind.i64.bits x).and (BitVec.ofInt IntKind.i64.bits y).not).toNat : Int) = U.notI x y := rfl
  rw [e1, e2]
  simp only [cond_prop, cond_or, U.apply, Bool.cond_eq_ite]
  grind
theorem ok38 (m : Msg) (h : -9223372036854775808 ≤ m.2.1 ∧ m.2.1 ≤ 9223372036854775807) : vc38 m := by
  unfold vc38 U.mayN U.may
  rw [flagRight_five _ h.1 h.2]
  simp only [cond_and]
  grind
theorem ok48 (a b : Msg) : vc48 a b := by
  unfold vc48
  obtain ⟨a1, a2, a3, a4⟩ := a
  obtain ⟨b1, b2, b3, b4⟩ := b
  simp only [cond_and, U.eqB, U.eqM]
  grind
theorem place_at (l : List Msg) (u : Int) : U.place l u = 0 ∨ (1 ≤ U.place l u ∧ U.place l u ≤ l.length) := by
  obtain ⟨h1, h2, h3⟩ := idx1_none (fun m : Msg => decide (m.1 = u)) l 0 (by omega)
  have : ∀ (l : List Msg) (i : Int), 0 ≤ i → U.idx1 (fun m : Msg => decide (m.1 = u)) l i < i + l.length ∨ U.idx1 (fun m : Msg => decide (m.1 = u)) l i = -1 := by
    intro l
    induction l with
    | nil => intro i h; exact .inr rfl
    | cons x r ih => intro i h; have := ih (i + 1) (by omega); rw [idx1_cons]; simp only [Bool.cond_eq_ite]; grind
  have := this l 0 (by omega)
  unfold U.place
  omega
theorem find_eq (b : Box) (u : Int) : U.find b u = if U.place b.2.2.2 u = 0 then ((0, 0, 0, []), false) else (b.2.2.2.getD (U.place b.2.2.2 u - 1).toNat (0, 0, 0, []), true) := by
  unfold U.find; simp only [Bool.cond_eq_ite, decide_eq_true_eq]
theorem ok25 (b : Box) (u : Int) (hl : b.2.2.2.length ≤ 9223372036854775807) (h : U.small b.2.2.2) : vc25 b u := by
  unfold vc25
  have hp := place_at b.2.2.2 u
  have hf := find_eq b u
  rw [cond_prop]
  refine ⟨fun h0 => ?_, fun h0 => ?_⟩
  · rw [if_pos (by simpa using h0)] at hf
    rw [hf]; exact ⟨rfl, rfl, rfl, rfl, rfl, trivial⟩
  · have h0 : U.place b.2.2.2 u ≠ 0 := by simpa using h0
    rw [if_neg h0] at hf
    have hw : IntKind.i64.wrap ((U.place b.2.2.2 u).sub 1) = U.place b.2.2.2 u - 1 := wrap_i (by show _ ≤ U.place b.2.2.2 u - 1; omega) (by show U.place b.2.2.2 u - 1 ≤ _; omega)
    rw [hf, hw]
    have h1 : (U.place b.2.2.2 u - 1).toNat < b.2.2.2.length := by omega
    refine ⟨by omega, by omega, ?_, rfl, rfl, rfl, rfl, rfl, trivial⟩
    rw [getD_at h1]
    exact h.2 _ (List.getElem_mem h1)
theorem ok26 (b : Box) (u : Int) (hl : b.2.2.2.length ≤ 9223372036854775807) (h : U.small b.2.2.2) : vc26 b u := ok25 b u hl h
theorem ok11 (b : Box) (h : U.small b.2.2.2) : vc11 b := by
  unfold vc11
  simp only [cond_prop, int_add, nat_sub, nat_add, nat_mul, list_append, maxLen_eq]
  obtain ⟨h5, h6⟩ := h
  refine ⟨(_, _), ⟨rfl, ?_⟩, ?_⟩
  · grind [U.at_]
  · rintro ⟨c, x⟩ ⟨⟨h0, h1⟩, h2⟩
    simp only [U.at_, wrap_i64]
    have := @take_at _ b.2.2.2 x h0
    have := @take_end _ b.2.2.2 x
    repeat' (first | apply And.intro | intro _ | refine Exists.intro (_, _) (And.intro rfl ?_))
    all_goals grind
theorem ok44 (b : Box) (l : List Int) (hl : l.length ≤ 9223372036854775807) : vc44 b l := by
  unfold vc44
  simp only [cond_prop, int_add, nat_sub]
  refine ⟨_, ⟨rfl, ?_⟩, ?_⟩
  · grind [U.at_]
  · rintro x ⟨⟨h0, h1⟩, h2⟩
    simp only [U.at_, wrap_i64]
    have := @drop_at _ l x h0
    have := @drop_end _ l x
    repeat' (first | apply And.intro | intro _ | refine Exists.intro _ (And.intro rfl ?_))
    all_goals grind [U.missing]
theorem ok29 (b : Box) (u : Int) (hl : b.2.2.2.length ≤ 9223372036854775807) : vc29 b u := by
  unfold vc29
  simp only [cond_prop, int_add, nat_sub]
  refine ⟨_, ⟨rfl, ?_⟩, ?_⟩
  · grind [U.at_]
  · rintro x ⟨⟨h0, h1⟩, h2⟩
    simp only [U.at_, wrap_i64, U.place]
    have := @drop_at _ b.2.2.2 x h0
    have := @drop_end _ b.2.2.2 x
    repeat' (first | apply And.intro | intro _ | refine Exists.intro _ (And.intro rfl ?_))
    all_goals grind [U.idx1]
theorem countGo_cons' (f : Int) (m : Msg) (r : List Msg) (n : Int) : U.countGo f (m :: r) n = U.countGo f r (if andK .i64 m.2.1 f = f then n + 1 else n) := by
  rw [countGo_cons, Bool.cond_eq_ite]; simp only [decide_eq_true_eq]; rfl
theorem ok30 (b : Box) (u : Int) (hl : b.2.2.2.length ≤ 9223372036854775807) : vc30 b u := by
  unfold vc30
  simp only [cond_prop, int_add, nat_sub, andK_eq]
  refine ⟨(_, _), ⟨rfl, ?_⟩, ?_⟩
  · grind [U.at_]
  · rintro ⟨c, x⟩ ⟨⟨h0, h1⟩, h2, h3⟩
    simp only [U.at_, wrap_i64]
    have := @drop_at _ b.2.2.2 x h0
    have := @drop_end _ b.2.2.2 x
    repeat' (first | apply And.intro | intro _ | refine Exists.intro (_, _) (And.intro rfl ?_))
    all_goals grind [countGo_cons', U.countGo.eq_1]
theorem ok19 (b : Box) (hl : b.2.2.2.length ≤ 5000) : vc19 b := by
  unfold vc19
  simp only [cond_prop, int_add, nat_sub, nat_add, nat_mul, list_append, maxLen_eq]
  refine ⟨(_, _), ⟨rfl, ?_⟩, ?_⟩
  · grind [U.at_, U.uids]
  · rintro ⟨c, x⟩ ⟨⟨h0, h1⟩, h2⟩
    simp only [U.at_, wrap_i64]
    have := @take_at _ b.2.2.2 x h0
    have := @take_end _ b.2.2.2 x
    repeat' (first | apply And.intro | intro _ | refine Exists.intro (_, _) (And.intro rfl ?_))
    all_goals grind [U.uids]
theorem ok32 (b : Box) (hl : b.2.2.2.length ≤ 5000) : vc32 b := by
  unfold vc32
  simp only [cond_prop, int_add, nat_sub, nat_add, nat_mul, list_append, maxLen_eq]
  refine ⟨(_, _), ⟨rfl, ?_⟩, ?_⟩
  · grind [U.at_, U.uids]
  · rintro ⟨c, x⟩ ⟨⟨h0, h1⟩, h2⟩
    simp only [U.at_, wrap_i64]
    have := @take_at _ b.2.2.2 x h0
    have := @take_end _ b.2.2.2 x
    repeat' (first | apply And.intro | intro _ | refine Exists.intro (_, _) (And.intro rfl ?_))
    all_goals grind [U.uids]
end Go.Proofs.Ytddakledpipanaa
