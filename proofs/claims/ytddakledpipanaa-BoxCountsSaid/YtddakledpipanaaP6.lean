/- What is owed of the references' greater functions, proved in plain Lean. -/
import Derived.Test.YtddakledpipanaaP5
set_option linter.unusedSimpArgs false
set_option linter.unusedVariables false
set_option maxRecDepth 100000
namespace Go.Proofs.Ytddakledpipanaa
open Go.Vc
open Go.Vc.T
theorem lastU_eq (l : List Msg) (i : Nat) : U.lastU l i = if i = 0 then 0 else (l.getD (i - 1) (0, 0, 0, [])).1 := by
  cases i <;> rfl
theorem rightGo_cons' (t : Int) (m : Msg) (r : List Msg) (n : Int) : U.rightGo t (m :: r) n = if m.1 ≤ n ∨ t ≤ m.1 ∨ U.may m = false then false else U.rightGo t r m.1 := by
  rw [rightGo_cons, Bool.cond_eq_ite]; simp [or_assoc]
theorem ok16 (b : Box) : vc16 b := by
  unfold vc16
  simp only [cond_prop, cond_or, cond_and, int_add, int_sub, nat_sub]
  refine ⟨?_, fun hh => ⟨_, ⟨rfl, ?_⟩, ?_⟩⟩
  · simp only [U.right, U.numbered]; grind
  · simp only [U.at_, lastU_eq]; grind
  · rintro x ⟨⟨h0, h1⟩, h2, h3⟩
    have hR : U.right b = U.rightGo b.2.2.1 b.2.2.2 0 := by simp only [U.right, U.numbered]; grind
    have hn : b.2.2.1 ≤ 4294967296 ∧ (b.2.2.2.length : Int) ≤ 40 := by grind
    clear hh
    obtain ⟨hn1, hn2⟩ := hn
    have hw1 : IntKind.i64.wrap (x - 1) = x - 1 := wrap_i (by omega) (by omega)
    have hw2 : IntKind.i64.wrap (x + 1) = x + 1 := wrap_i (by omega) (by omega)
    simp only [hw1, hw2, hR, U.at_]
    clear hw1 hw2 hR
    by_cases hx : x < b.2.2.2.length
    · have hd := drop_at h0 hx
      have hl2 : U.lastU b.2.2.2 (x + 1).toNat = (b.2.2.2.getD x.toNat (0, 0, 0, [])).1 := by
        rw [lastU_eq, if_neg (by omega)]; congr 2; omega
      have hl : U.lastU b.2.2.2 x.toNat = if x = 0 then 0 else (b.2.2.2.getD (x - 1).toNat (0, 0, 0, [])).1 := by
        rw [lastU_eq]; by_cases h : x = 0
        · subst h; rfl
        · rw [if_neg (by omega), if_neg h]; congr 2; omega
      have hm : ∀ m, U.mayN m = (decide (1 ≤ m.1) && decide (m.1 ≤ 4294967295) && U.may m) := fun _ => rfl
      have hg : b.2.2.2.getD x.toNat (0, 0, 0, []) = b.2.2.2[x.toNat] := getD_at (by omega)
      rw [hd, rightGo_cons', ← hg] at h3
      rw [hm]
      rw [hl] at h2 h3
      generalize b.2.2.2.getD x.toNat (0, 0, 0, []) = m at *
      generalize b.2.2.2.getD (x - 1).toNat (0, 0, 0, []) = m' at *
      generalize U.rightGo b.2.2.1 b.2.2.2 0 = r at *
      clear hd hl hg hm
      refine ⟨fun _ => ⟨h0, hx, fun _ => h0, fun _ => hx, fun _ _ => ?_, fun _ _ => ?_, fun _ _ => h0, fun _ _ => hx, fun _ => ⟨?_, trivial⟩, fun _ => Exists.intro _ (And.intro rfl ⟨⟨⟨?_, ?_⟩, ?_, ?_⟩, ?_⟩)⟩, fun _ => ⟨?_, trivial⟩⟩
      all_goals grind
    · rw [drop_end (by omega)] at h3
      simp [hx]
      rw [← h3]; rfl
theorem ok33 (a b : Box) (hl : a.2.2.2.length ≤ 9223372036854775807) : vc33 a b := by
  unfold vc33
  have he := eqBox_iff a b
  obtain ⟨a1, a2, a3, a4⟩ := a
  obtain ⟨b1, b2, b3, b4⟩ := b
  simp only [cond_prop, cond_and, int_add, nat_sub, list_beq]
  simp only [Prod.mk.injEq] at he
  refine ⟨fun h1 => ⟨?_, fun hlen => ⟨_, ⟨rfl, ?_⟩, ?_⟩⟩, ?_⟩
  · grind
  · grind [U.at_]
  · rintro x ⟨⟨h0, h1⟩, h2, h3⟩
    have := @take_succ_iff' _ a4 b4 x h0
    have := @take_end _ a4 x
    have := @take_end _ b4 x
    simp only [U.at_, wrap_i64]
    repeat' (first | apply And.intro | intro _ | refine Exists.intro _ (And.intro rfl ?_))
    all_goals grind [eqM_iff]
  · grind
theorem ok13 (b : Box) (m : Msg) : vc13 b m := by
  unfold vc13
  have h1 := @right_parts b
  have h2 := @right_small b
  have h3 := @may_len m
  have hm : U.mayN (1, m.2) = U.may m := by simp [U.mayN, U.may]
  have hr : U.right b = true → 1 ≤ b.2.2.1 ∧ b.2.2.1 ≤ 4294967296 := by simp only [U.right, U.numbered]; grind
  rw [hm]
  simp only [cond_prop, cond_or, int_add, nat_add, nat_mul, list_append, maxLen_eq, U.add, U.numbered, Bool.cond_eq_ite]
  have hw := @wrap_i (b.2.2.1 + 1)
  grind
theorem idx1_map {α β : Type} (p : β → Bool) (f : α → β) : ∀ (l : List α) (i : Int), U.idx1 p (l.map f) i = U.idx1 (fun x => p (f x)) l i
  | [], _ => rfl
  | x :: r, i => by rw [List.map_cons, idx1_cons, idx1_cons, idx1_map p f r]
theorem place_uids (l : List Msg) (u : Int) : U.place l u = 1 + U.idx1 (fun v => decide (v = u)) (U.uids l) 0 := by
  unfold U.place U.uids; rw [idx1_map]
theorem place_same {l l' : List Msg} (h : U.uids l = U.uids l') (u : Int) : U.place l u = U.place l' u := by rw [place_uids, place_uids, h]
theorem uids_set (l : List Msg) (k : Nat) (y : Int × Int × List Int) : U.uids (l.set k ((l.getD k (0, 0, 0, [])).1, y)) = U.uids l := by
  unfold U.uids
  rw [List.map_set]
  apply List.ext_getElem?
  intro i
  rw [List.getElem?_set]
  split
  · rename_i h; subst h
    split
    · rename_i h; rw [List.length_map] at h; simp [h]
    · rename_i h; rw [List.getElem?_eq_none (by omega)]
  · rfl
theorem uids_step1 (m f u : Int) (l : List Msg) : U.uids (U.step1 m f u l) = U.uids l := uids_set _ _ _
theorem len_step1 (m f u : Int) (l : List Msg) : (U.step1 m f u l).length = l.length := List.length_set
theorem stepAll_cons (m f u : Int) (r : List Int) (l : List Msg) : U.stepAll m f (u :: r) l = U.stepAll m f r (U.step1 m f u l) := rfl
theorem missing_mem {l : List Msg} {ids : List Int} (h : U.missing l ids = false) {u : Int} (hu : u ∈ ids) : U.place l u ≠ 0 := by
  unfold U.missing at h
  have := List.any_eq_false.1 h u hu
  simpa using this
theorem store_eq (b : Box) (l : List Int) (m f : Int) : U.store b l m f = if U.right b = true ∧ (U.apply 0 m f).2 = 0 then (if U.missing b.2.2.2 l = true then (b, 6) else ((b.1, b.2.1, b.2.2.1, U.stepAll m f l b.2.2.2), 0)) else (b, 1) := by
  unfold U.store; simp only [Bool.cond_eq_ite, Bool.and_eq_true, decide_eq_true_eq]
theorem ok20 (b : Box) (l : List Int) (m f : Int) (hl : l.length ≤ 9223372036854775807) : vc20 b l m f := by
  unfold vc20
  have hs := store_eq b l m f
  rw [cond_prop]
  refine ⟨fun h => ?_, fun h => ?_⟩
  · rw [if_neg (by simp only [cond_or] at h; grind)] at hs
    rw [hs]; exact ⟨rfl, rfl, rfl, rfl, rfl, trivial⟩
  · have hr : U.right b = true ∧ (U.apply 0 m f).2 = 0 := by simp only [cond_or] at h; grind
    rw [if_pos hr] at hs
    have hsm := right_small hr.1
    rw [cond_prop]
    refine ⟨fun h2 => ?_, fun h2 => ⟨hsm, ⟨(_, _), ⟨rfl, ?_⟩, ?_⟩⟩⟩
    · rw [if_pos h2] at hs
      rw [hs]; exact ⟨rfl, rfl, rfl, rfl, rfl, trivial⟩
    · exact ⟨⟨by omega, by omega⟩, rfl, rfl, rfl⟩
    · rintro ⟨y, x⟩ ⟨⟨h0, h1⟩, h3, h4, h5⟩
      rw [if_neg (by simp [h2])] at hs
      rw [hs, cond_prop]
      simp only at h0 h1 h3 h4 h5 ⊢
      refine ⟨fun hx => ?_, fun hx => ?_⟩
      · have hx : x < l.length := by simpa using hx
        have hg : l.getD x.toNat 0 = l[x.toNat] := getD_at (by omega)
        have hp := place_at y (l[x.toNat])
        have hp0 : U.place y l[x.toNat] ≠ 0 := by rw [place_same h4]; exact missing_mem h2 (List.getElem_mem _)
        have hlen := hsm.1
        have hw : IntKind.i64.wrap ((U.place y l[x.toNat]).sub 1) = U.place y l[x.toNat] - 1 := wrap_i (by show _ ≤ U.place y l[x.toNat] - 1; omega) (by show U.place y l[x.toNat] - 1 ≤ _; omega)
        have hw2 : IntKind.i64.wrap (x.add 1) = x + 1 := wrap_i (by show _ ≤ x + 1; omega) (by show x + 1 ≤ _; omega)
        rw [hg, hw, hw2]
        rw [drop_at h0 hx, stepAll_cons] at h5
        refine ⟨h0, hx, by omega, by omega, by omega, by omega, Exists.intro (U.step1 m f l[x.toNat] y, x + 1) (And.intro rfl ⟨⟨⟨by show 0 ≤ x + 1; omega, by show x + 1 ≤ _; omega⟩, ?_, ?_, h5⟩, ?_⟩)⟩
        · rw [len_step1]; exact h3
        · rw [uids_step1]; exact h4
        · show l.length - (x + 1).toNat < l.length - x.toNat
          omega
      · have hx : ¬ x < l.length := by simpa using hx
        rw [drop_end (by omega)] at h5
        (repeat' apply And.intro) <;> first | exact h5 | trivial
theorem ok21 (b : Box) (l : List Int) (m f : Int) (hl : l.length ≤ 9223372036854775807) : vc21 b l m f := by
  unfold vc21
  have hs := store_eq b l m f
  rw [cond_prop]
  refine ⟨fun h => ?_, fun h => ?_⟩
  · rw [if_neg (by simp only [cond_or] at h; grind)] at hs
    rw [hs]; exact ⟨rfl, rfl, rfl, rfl, rfl, trivial⟩
  · have hr : U.right b = true ∧ (U.apply 0 m f).2 = 0 := by simp only [cond_or] at h; grind
    rw [if_pos hr] at hs
    have hsm := right_small hr.1
    rw [cond_prop]
    rw [Bool.not_not]
    refine ⟨fun h2 => ?_, fun h2 => ⟨hsm, ⟨(_, _), ⟨rfl, ?_⟩, ?_⟩⟩⟩
    · rw [if_pos h2] at hs
      rw [hs]; exact ⟨rfl, rfl, rfl, rfl, rfl, trivial⟩
    · exact ⟨⟨by omega, by omega⟩, rfl, rfl, rfl⟩
    · rintro ⟨y, x⟩ ⟨⟨h0, h1⟩, h3, h4, h5⟩
      rw [if_neg (by simp [h2])] at hs
      rw [hs, cond_prop]
      simp only at h0 h1 h3 h4 h5 ⊢
      refine ⟨fun hx => ?_, fun hx => ?_⟩
      · have hx : x < l.length := by simpa using hx
        have hg : l.getD x.toNat 0 = l[x.toNat] := getD_at (by omega)
        have hp := place_at y (l[x.toNat])
        have hp0 : U.place y l[x.toNat] ≠ 0 := by rw [place_same h4]; exact missing_mem h2 (List.getElem_mem _)
        have hlen := hsm.1
        have hw : IntKind.i64.wrap ((U.place y l[x.toNat]).sub 1) = U.place y l[x.toNat] - 1 := wrap_i (by show _ ≤ U.place y l[x.toNat] - 1; omega) (by show U.place y l[x.toNat] - 1 ≤ _; omega)
        have hw2 : IntKind.i64.wrap (x.add 1) = x + 1 := wrap_i (by show _ ≤ x + 1; omega) (by show x + 1 ≤ _; omega)
        rw [hg, hw, hw2]
        rw [drop_at h0 hx, stepAll_cons] at h5
        refine ⟨h0, hx, by omega, by omega, by omega, by omega, by omega, by omega, Exists.intro (U.step1 m f l[x.toNat] y, x + 1) (And.intro rfl ⟨⟨⟨by show 0 ≤ x + 1; omega, by show x + 1 ≤ _; omega⟩, ?_, ?_, h5⟩, ?_⟩)⟩
        · rw [len_step1]; exact h3
        · rw [uids_step1]; exact h4
        · show l.length - (x + 1).toNat < l.length - x.toNat
          omega
      · have hx : ¬ x < l.length := by simpa using hx
        rw [drop_end (by omega)] at h5
        (repeat' apply And.intro) <;> first | exact h5 | trivial
theorem take_eq (b : Box) (l : List Int) : U.take b l = if U.right b = true then (if U.missing b.2.2.2 l = true then (b, [], 6) else ((b.1, b.2.1, b.2.2.1, b.2.2.2.filter fun m => !U.contains l m.1), b.2.2.2.filter fun m => U.contains l m.1, 0)) else (b, [], 1) := by
  unfold U.take; simp only [Bool.cond_eq_ite]
theorem contains_take {l : List Int} {k : Int} (h0 : 0 ≤ k) (h : k < l.length) (v : Int) : U.contains (l.take (k + 1).toNat) v = (U.contains (l.take k.toNat) v || decide (l[k.toNat] = v)) := by
  rw [take_at h0 h]; unfold U.contains; rw [List.any_append]; simp [eq_comm]
theorem filter_succ' {p : Msg → Bool} {l : List Msg} {i : Int} (h0 : 0 ≤ i) (h : i < l.length) : (l.take (i + 1).toNat).filter p = if p l[i.toNat] then (l.take i.toNat).filter p ++ [l[i.toNat]] else (l.take i.toNat).filter p := by
  rw [take_at h0 h, List.filter_append]; cases hp : p l[i.toNat] <;> simp [hp]
theorem ok22 (b : Box) (l : List Int) (hl : l.length ≤ 9223372036854775807) : vc22 b l := by
  unfold vc22
  have hs := take_eq b l
  rw [cond_prop]
  refine ⟨fun h => ?_, fun h => ?_⟩
  · rw [if_neg (by simpa using h)] at hs
    rw [hs]; exact ⟨rfl, rfl, rfl, rfl, rfl, rfl, trivial⟩
  · have hr : U.right b = true := by simpa using h
    rw [if_pos hr] at hs
    have hsm := right_small hr
    have hlen := hsm.1
    rw [cond_prop, Bool.not_not]
    refine ⟨fun h2 => ?_, fun h2 => ⟨hsm, ⟨(_, _, _), ⟨rfl, ?_⟩, ?_⟩⟩⟩
    · rw [if_pos h2] at hs
      rw [hs]; exact ⟨rfl, rfl, rfl, rfl, rfl, rfl, trivial⟩
    · exact ⟨⟨by dsimp only; omega, by dsimp only; omega⟩, rfl, rfl⟩
    · rw [if_neg (by simp [h2])] at hs
      rintro ⟨left, gone, x⟩ ⟨⟨h0, h1⟩, h3, h4⟩
      dsimp only at h0 h1 h3 h4 ⊢
      rw [hs, cond_prop]
      refine ⟨fun hx => ?_, fun hx => ?_⟩
      · have hx : x < b.2.2.2.length := by simpa using hx
        have hg : b.2.2.2.getD x.toNat (0, 0, 0, []) = b.2.2.2[x.toNat] := getD_at (by omega)
        refine ⟨(_, _, _, _, _), ⟨rfl, ⟨⟨h0, h1⟩, h3, h4⟩, rfl, hx, ⟨by dsimp only; omega, by dsimp only; omega⟩, rfl⟩, ?_⟩
        rintro ⟨left', gone', i', is, k⟩ ⟨⟨_, h3', h4'⟩, hi, _, ⟨hk0, hk1⟩, his⟩
        dsimp only at hi
        subst hi
        dsimp only at *
        rw [hg] at his ⊢
        have e1 : left'.length ≤ i' := by have := @filter_le (fun m => !U.contains l m.1) b.2.2.2 i'.toNat; rw [← h4'] at this; omega
        have e2 : gone'.length ≤ i' := by have := @filter_le (fun m => U.contains l m.1) b.2.2.2 i'.toNat; rw [← h3'] at this; omega
        have hw2 : IntKind.i64.wrap (i'.add 1) = i' + 1 := wrap_i (by show _ ≤ i' + 1; omega) (by show i' + 1 ≤ _; omega)
        rw [cond_prop]
        refine ⟨fun hk => ?_, fun hk => ?_⟩
        · have hk : k < l.length := by simpa using hk
          have hw : IntKind.i64.wrap (k.add 1) = k + 1 := wrap_i (by show _ ≤ k + 1; omega) (by show k + 1 ≤ _; omega)
          rw [hw]
          refine ⟨fun _ => hk0, fun _ => hk, fun _ => h0, fun _ => hx, fun _ => by omega, Exists.intro (_, _, _, _, _) (And.intro rfl ⟨⟨⟨⟨h0, h1⟩, h3', h4'⟩, rfl, hx, ⟨by show 0 ≤ k + 1; omega, by show k + 1 ≤ _; omega⟩, ?_⟩, ?_⟩)⟩
          · show _ = U.contains (l.take (k + 1).toNat) (b.2.2.2.getD i'.toNat (0, 0, 0, [])).1
            rw [hg, contains_take hk0 hk, ← his, getD_at (by omega)]; cases is <;> rfl
          · show l.length - (k + 1).toNat < l.length - k.toNat
            omega
        · have hk : ¬ k < l.length := by simpa using hk
          rw [take_end (by omega)] at his
          rw [cond_prop, hw2]
          have f1 := @filter_succ' (fun m => U.contains l m.1) b.2.2.2 i' h0 hx
          have f2 := @filter_succ' (fun m => !U.contains l m.1) b.2.2.2 i' h0 hx
          rw [← his] at f1 f2
          refine ⟨fun hc => ?_, fun hc => ?_⟩ <;> subst hc
          · refine ⟨h0, hx, by omega, by simp only [nat_add, nat_mul]; omega, by simp only [nat_add, maxLen_eq]; omega, Exists.intro (_, _, _) (And.intro rfl ⟨⟨⟨?_, ?_⟩, ?_, ?_⟩, ?_⟩)⟩
            all_goals (try dsimp only)
            · omega
            · omega
            · rw [f1, h3']; rfl
            · rw [f2, h4']; rfl
            · simp only [nat_sub]; omega
          · refine ⟨h0, hx, by omega, by simp only [nat_add, nat_mul]; omega, by simp only [nat_add, maxLen_eq]; omega, Exists.intro (_, _, _) (And.intro rfl ⟨⟨⟨?_, ?_⟩, ?_, ?_⟩, ?_⟩)⟩
            all_goals (try dsimp only)
            · omega
            · omega
            · rw [f1, h3']; rfl
            · rw [f2, h4']; rfl
            · simp only [nat_sub]; omega
      · have hx : ¬ x < b.2.2.2.length := by simpa using hx
        rw [take_end (by omega)] at h3 h4
        (repeat' apply And.intro) <;> first | exact h3 | exact h4 | trivial
end Go.Proofs.Ytddakledpipanaa
