/- What is owed of the greater functions of BoxTakes, proved in plain Lean. -/
import Derived.Test.YtddakledpipanaaP1
set_option linter.unusedSimpArgs false
set_option linter.unusedVariables false
namespace Go.Proofs.Ytddakledpipanaa
open Go.Vc
theorem take_succ_iff {a b : List Msg} {k : Nat} (ha : k < a.length) (hb : k < b.length) (h : a.take k = b.take k) : a.take (k + 1) = b.take (k + 1) ↔ a[k] = b[k] := by
  rw [List.take_succ_eq_append_getElem ha, List.take_succ_eq_append_getElem hb, h, List.append_cancel_left_eq]
  simp only [List.cons.injEq, and_true]
theorem ok23 (a b : List Msg) (hl : a.length ≤ 9223372036854775807) : vc23 a b := by
  unfold vc23
  by_cases hlen : a.length = b.length
  · have h0 : ((a.length : Int) != (b.length : Int)) = false := by simp [hlen]
    rw [h0, cond_false]
    refine ⟨0, ⟨rfl, ⟨by omega, by omega⟩, hlen, by simp⟩, fun x ⟨⟨h0, h1⟩, _, hI⟩ => ?_⟩
    obtain ⟨k, rfl⟩ : ∃ k : Nat, x = k := ⟨x.toNat, by omega⟩
    simp only [Int.toNat_natCast] at hI ⊢
    by_cases hx : (k : Int) < a.length
    · have hk : k < a.length := by omega
      have hk' : k < b.length := by omega
      simp only [decide_eq_true hx, cond_true, getD_at hk, getD_at hk']
      refine ⟨h0, hx, h0, by omega, ?_⟩
      cases hc : U.eqM a[k] b[k] with
      | true =>
        have he := (eqM_iff _ _).1 hc
        simp only [Bool.not_true, cond_false]
        exact ⟨((k + 1 : Nat) : Int), by rw [wrap_succ hk hl], ⟨⟨by omega, by omega⟩, hlen, (take_succ_iff hk hk' hI).2 he⟩, by simp; omega⟩
      | false =>
        simp only [Bool.not_false, cond_true]
        refine ⟨?_, trivial⟩
        symm
        rw [← Bool.not_eq_true, eqMs_iff]
        intro hh
        subst hh
        rw [(eqM_iff a[k] a[k]).2 rfl] at hc; cases hc
    · simp only [decide_eq_false hx, cond_false]
      refine ⟨?_, trivial⟩
      symm
      rw [eqMs_iff]
      rw [List.take_of_length_le (by omega), List.take_of_length_le (by omega)] at hI
      exact hI
  · have h0 : ((a.length : Int) != (b.length : Int)) = true := by simp; omega
    rw [h0, cond_true]
    refine ⟨?_, trivial⟩
    symm
    rw [← Bool.not_eq_true, eqMs_iff]
    intro hh; rw [hh] at hlen; exact hlen rfl
theorem countGo_cons (f : Int) (m : Msg) (r : List Msg) (n : Int) : U.countGo f (m :: r) n = U.countGo f r (cond (decide (IntKind.wrap .i64 (BitVec.toNat (BitVec.ofInt 64 m.2.1 &&& BitVec.ofInt 64 f)) = f)) (n + 1) n) := rfl
theorem ok24 (b : Box) (f : Int) (hl : b.2.2.2.length ≤ 9223372036854775807) : vc24 b f := by
  unfold vc24
  refine ⟨(0, 0), ⟨rfl, ⟨by omega, by simp⟩, ⟨by omega, by simp⟩, rfl⟩, fun ⟨c, x⟩ ⟨⟨h0, h1⟩, ⟨h2, h3⟩, hI⟩ => ?_⟩
  obtain ⟨k, rfl⟩ : ∃ k : Nat, x = k := ⟨x.toNat, by omega⟩
  simp only [Int.toNat_natCast] at hI h2 h3 ⊢
  by_cases hx : (k : Int) < b.2.2.2.length
  · have hk : k < b.2.2.2.length := by omega
    simp only [decide_eq_true hx, cond_true, getD_at hk]
    rw [List.drop_eq_getElem_cons hk, countGo_cons] at hI
    refine ⟨h0, hx, ?_⟩
    have hb : IntKind.bits .i64 = 64 := rfl
    cases hc : decide (IntKind.wrap .i64 (((BitVec.ofInt (IntKind.bits .i64) (b.2.2.2[k]).2.1).and (BitVec.ofInt (IntKind.bits .i64) f)).toNat : Int) = f) with
    | true =>
      have hc' : decide (IntKind.wrap .i64 (BitVec.toNat (BitVec.ofInt 64 (b.2.2.2[k]).2.1 &&& BitVec.ofInt 64 f)) = f) = true := hc
      rw [hc'] at hI
      have hw : IntKind.wrap .i64 (Int.add c 1) = c + 1 := by rw [wrap_small] <;> simp only [Int.add_def] <;> omega
      exact ⟨(c + 1, ((k + 1 : Nat) : Int)), by rw [wrap_succ hk hl, hw], ⟨⟨by omega, by simp; omega⟩, ⟨by simp; omega, by simp; omega⟩, hI⟩, by simp; omega⟩
    | false =>
      have hc' : decide (IntKind.wrap .i64 (BitVec.toNat (BitVec.ofInt 64 (b.2.2.2[k]).2.1 &&& BitVec.ofInt 64 f)) = f) = false := hc
      rw [hc'] at hI
      exact ⟨(c, ((k + 1 : Nat) : Int)), by rw [wrap_succ hk hl], ⟨⟨by omega, by simp; omega⟩, ⟨h2, by simp; omega⟩, hI⟩, by simp; omega⟩
  · simp only [decide_eq_false hx, cond_false]
    rw [List.drop_eq_nil_of_le (by omega)] at hI
    exact ⟨hI, trivial⟩

theorem rightGo_may : ∀ (next : Int) (l : List Msg) (c : Int), U.rightGo next l c = true → ∀ m ∈ l, U.may m = true
  | _, [], _, _ => fun m hm => by cases hm
  | next, x :: r, c, h => by
    rw [rightGo_cons] at h
    cases hc : (decide (x.1 ≤ c) || decide (x.1 ≥ next) || !U.may x) with
    | true => rw [hc] at h; cases h
    | false =>
      rw [hc] at h
      simp only [Bool.or_eq_false_iff, Bool.not_eq_false'] at hc
      intro m hm
      rcases List.mem_cons.1 hm with rfl | hm
      · exact hc.2
      · exact rightGo_may next r _ h m hm
theorem may_len {m : Msg} (h : U.may m = true) : m.2.2.2.length ≤ 2000 := by
  unfold U.may at h
  simp only [Bool.and_eq_true, decide_eq_true_eq] at h
  exact h.2.2.2
theorem right_parts {b : Box} (h : U.right b = true) : b.2.2.2.length ≤ 40 ∧ ∀ m ∈ b.2.2.2, U.may m = true := by
  unfold U.right at h
  simp only [Bool.and_eq_true, decide_eq_true_eq] at h
  exact ⟨h.1.2, rightGo_may _ _ _ h.2⟩
theorem right_small {b : Box} (h : U.right b = true) : U.small b.2.2.2 := by
  obtain ⟨h1, h2⟩ := right_parts h
  exact ⟨by omega, fun m hm => by have := may_len (h2 m hm); omega⟩
theorem numbered_iff (x : Int) : U.numbered x = true ↔ 1 ≤ x ∧ x ≤ 4294967295 := by
  unfold U.numbered; simp
theorem ok12 (b : Box) (m : Msg) : vc12 b m := by
  unfold vc12
  have e : (b.1, b.2.1, b.2.2.1, b.2.2.2) = b := rfl
  have e2 : (m.1, m.2.1, m.2.2.1, m.2.2.2) = m := rfl
  rw [e, e2]
  unfold U.add
  cases hr : U.right b with
  | false => exact ⟨rfl, rfl, rfl, rfl, rfl, rfl, trivial⟩
  | true =>
    cases hm : U.may m with
    | false => exact ⟨rfl, rfl, rfl, rfl, rfl, rfl, trivial⟩
    | true =>
      simp only [Bool.not_true, cond_false, Bool.and_self, cond_true]
      cases hn : U.numbered b.2.2.1 with
      | false => exact ⟨rfl, rfl, rfl, rfl, rfl, rfl, trivial⟩
      | true =>
        simp only [Bool.not_true, cond_false, cond_true]
        obtain ⟨h1, h2⟩ := right_parts hr
        cases hd : decide ((b.2.2.2.length : Int) = 40) with
        | true => exact ⟨rfl, rfl, rfl, rfl, rfl, rfl, trivial⟩
        | false =>
          have hml := may_len hm
          have hnn := (numbered_iff _).1 hn
          refine ⟨right_small hr, by omega, by simp; omega, by simp [maxLen]; omega, rfl, rfl, ?_, rfl, rfl, rfl, trivial⟩
          show IntKind.wrap .i64 (Int.add b.2.2.1 1) = b.2.2.1 + 1
          rw [wrap_small] <;> simp only [Int.add_def] <;> omega
theorem filter_succ {p : Msg → Bool} {l : List Msg} {k : Nat} (h : k < l.length) : (l.take (k + 1)).filter p = (l.take k).filter p ++ (if p l[k] then [l[k]] else []) := by
  rw [List.take_succ_eq_append_getElem h, List.filter_append]
  simp [List.filter_cons]
theorem filter_le {p : Msg → Bool} {l : List Msg} {k : Nat} : ((l.take k).filter p).length ≤ k := Nat.le_trans (List.length_filter_le _ _) (by rw [List.length_take]; omega)
theorem ok17 (b : Box) (ids : List Int) : vc17 b ids := by
  unfold vc17
  have e : (b.1, b.2.1, b.2.2.1, b.2.2.2) = b := rfl
  rw [e]
  cases hr : U.right b with
  | false => simp only [Bool.not_false, cond_true, U.take, hr, cond_false]; exact ⟨trivial, trivial, trivial, trivial, trivial, trivial, trivial⟩
  | true =>
    cases hm : U.missing b.2.2.2 ids with
    | true => simp only [Bool.not_true, cond_true, U.take, hr, hm, cond_false]; exact ⟨trivial, trivial, trivial, trivial, trivial, trivial, trivial⟩
    | false =>
      simp only [Bool.not_true, cond_false]
      obtain ⟨h40, _⟩ := right_parts hr
      refine ⟨right_small hr, ([], [], 0), ⟨rfl, ⟨by simp, by simp⟩, by simp, by simp⟩, fun ⟨gone, left, x⟩ ⟨⟨h0, h1⟩, hg, hlf⟩ => ?_⟩
      have h0 : 0 ≤ x := h0
      obtain ⟨k, rfl⟩ : ∃ k : Nat, x = k := ⟨x.toNat, by omega⟩
      simp only [Int.toNat_natCast] at hg hlf ⊢
      by_cases hx : (k : Int) < b.2.2.2.length
      · have hk : k < b.2.2.2.length := by omega
        simp only [decide_eq_true hx, cond_true, getD_at hk]
        refine ⟨h0, hx, hk, ?_⟩
        have hgl : gone.length ≤ k := by rw [hg]; exact filter_le
        have hll : left.length ≤ k := by rw [hlf]; exact filter_le
        cases hc : U.contains ids (b.2.2.2[k]).1 with
        | true =>
          refine ⟨by simp; omega, by simp [maxLen]; omega, (gone ++ [b.2.2.2[k]], left, ((k + 1 : Nat) : Int)), by rw [wrap_succ hk (by omega)]; rfl, ⟨⟨by simp; omega, by simp; omega⟩, ?_, ?_⟩, by simp; omega⟩
          · simp only [Int.toNat_natCast]; rw [filter_succ hk, hc, ← hg]; rfl
          · simp only [Int.toNat_natCast]; rw [filter_succ hk, hc, ← hlf]; simp
        | false =>
          refine ⟨by simp; omega, by simp [maxLen]; omega, (gone, left ++ [b.2.2.2[k]], ((k + 1 : Nat) : Int)), by rw [wrap_succ hk (by omega)]; rfl, ⟨⟨by simp; omega, by simp; omega⟩, ?_, ?_⟩, by simp; omega⟩
          · simp only [Int.toNat_natCast]; rw [filter_succ hk, hc, ← hg]; simp
          · simp only [Int.toNat_natCast]; rw [filter_succ hk, hc, ← hlf]; rfl
      · simp only [decide_eq_false hx, cond_false]
        rw [List.take_of_length_le (by omega)] at hg hlf
        simp only [U.take, hr, hm, cond_true, cond_false]
        exact ⟨trivial, trivial, trivial, hlf, hg, trivial, trivial⟩
theorem filter_at {p : Msg → Bool} {l : List Msg} {k : Nat} (h : k < l.length) (hp : p l[k] = true) : (l.filter p)[((l.take k).filter p).length]? = some l[k] := by
  have e : l.filter p = (l.take k).filter p ++ (l[k] :: (l.drop (k + 1)).filter p) := by
    conv => lhs; rw [← List.take_append_drop k l, List.drop_eq_getElem_cons h, List.filter_append, List.filter_cons, if_pos hp]
  rw [e]; simp
theorem getD_of {l : List Msg} {i : Nat} {m d : Msg} (h : l[i]? = some m) : l.getD i d = m := by rw [List.getD_eq_getElem?_getD, h]; rfl
theorem take_cases (b : Box) (ids : List Int) : ((U.take b ids).2.2 ≠ 0 ∧ (U.take b ids).1 = b ∧ (U.take b ids).2.1 = []) ∨
    (b.2.2.2.length ≤ 40 ∧ U.take b ids = ((b.1, b.2.1, b.2.2.1, b.2.2.2.filter fun m => !U.contains ids m.1), b.2.2.2.filter fun m => U.contains ids m.1, 0)) := by
  unfold U.take
  cases hr : U.right b with
  | false => exact .inl ⟨by simp, rfl, rfl⟩
  | true =>
    cases hm : U.missing b.2.2.2 ids with
    | true => exact .inl ⟨by simp, rfl, rfl⟩
    | false => exact .inr ⟨(right_parts hr).1, rfl⟩
theorem ok4 (b : Box) (ids : List Int) : vc4 b ids := by
  unfold vc4
  have e : (b.1, b.2.1, b.2.2.1, b.2.2.2) = b := rfl
  simp only [e]
  cases hg : U.great b with
  | true => simp
  | false =>
  cases hi : decide ((ids.length : Int) > 100) with
  | true => simp
  | false =>
  simp only [cond_false]
  rcases take_cases b ids with ⟨h1, h2, h3⟩ | ⟨h40, hT⟩
  · have h1' : ((U.take b ids).2.2 != 0) = true := by simp [h1]
    rw [h1', cond_true, h2, h3]
    have : U.eqBox (b.1, b.2.1, b.2.2.1, b.2.2.2) b = true := (eqBox_iff _ _).2 rfl
    rw [this]
    exact ⟨by simp, trivial⟩
  · simp only [hT]
    have h0 : ((0 : Int) != 0) = false := rfl
    rw [h0, cond_false]
    refine ⟨(0, 0, 0), ⟨rfl, ⟨by simp, by simp⟩, by simp, by simp⟩, fun ⟨i, k, n⟩ ⟨⟨hn0, hn1⟩, hii, hkk⟩ => ?_⟩
    have hn0 : 0 ≤ n := hn0
    obtain ⟨c, rfl⟩ : ∃ c : Nat, n = c := ⟨n.toNat, by omega⟩
    simp only [Int.toNat_natCast] at hii hkk hn1 ⊢
    subst hii hkk
    simp only [Int.toNat_natCast]
    by_cases hx : (c : Int) < b.2.2.2.length
    · have hc : c < b.2.2.2.length := by omega
      have hle1 : ((b.2.2.2.take c).filter fun m => U.contains ids m.1).length ≤ c := filter_le
      have hle2 : ((b.2.2.2.take c).filter fun m => !U.contains ids m.1).length ≤ c := filter_le
      simp only [decide_eq_true hx, cond_true, getD_at hc]
      refine ⟨hn0, hx, fun _ => by omega, fun h => by simpa using h, ?_⟩
      have em : ((b.2.2.2[c]).1, (b.2.2.2[c]).2.1, (b.2.2.2[c]).2.2.1, (b.2.2.2[c]).2.2.2) = b.2.2.2[c] := rfl
      cases hm : U.contains ids (b.2.2.2[c]).1 with
      | true =>
        have hat := filter_at (p := fun m => U.contains ids m.1) hc hm
        have hlt := (List.getElem?_eq_some_iff.1 hat).1
        have hq : U.eqM (b.2.2.2[c]) (b.2.2.2[c]) = true := (eqM_iff _ _).2 rfl
        simp only [getD_of hat, em, hq, decide_eq_true (show ((((b.2.2.2.take c).filter fun m => U.contains ids m.1).length : Nat) : Int) < ((b.2.2.2.filter fun m => U.contains ids m.1).length : Int) by omega), cond_true]
        refine ⟨(((((b.2.2.2.take c).filter fun m => U.contains ids m.1).length + 1 : Nat) : Int), (((b.2.2.2.take c).filter fun m => !U.contains ids m.1).length : Int), ((c + 1 : Nat) : Int)), ?_, ⟨⟨by simp; omega, by simp; omega⟩, ?_, ?_⟩, by simp; omega⟩
        · rw [wrap_succ hc (by omega), wrap_succ hlt (by have := List.length_filter_le (fun m : Msg => U.contains ids m.1) b.2.2.2; omega)]
        · simp only [Int.toNat_natCast]; rw [filter_succ hc, hm]; simp
        · simp only [Int.toNat_natCast]; rw [filter_succ hc, hm]; simp
      | false =>
        have hat := filter_at (p := fun m => !U.contains ids m.1) hc (by rw [hm]; rfl)
        have hlt := (List.getElem?_eq_some_iff.1 hat).1
        have hq : U.eqM (b.2.2.2[c]) (b.2.2.2[c]) = true := (eqM_iff _ _).2 rfl
        have hno : (cond (decide ((((b.2.2.2.take c).filter fun m => U.contains ids m.1).length : Int) < ((b.2.2.2.filter fun m => U.contains ids m.1).length : Int))) (U.eqM ((b.2.2.2.filter fun m => U.contains ids m.1).getD ((b.2.2.2.take c).filter fun m => U.contains ids m.1).length (0, 0, 0, [])) (b.2.2.2[c])) false) = false := by
          by_cases hh : ((b.2.2.2.take c).filter fun m => U.contains ids m.1).length < (b.2.2.2.filter fun m => U.contains ids m.1).length
          · rw [decide_eq_true (by omega), cond_true, getD_at hh]
            cases hqq : U.eqM ((b.2.2.2.filter fun m => U.contains ids m.1)[((b.2.2.2.take c).filter fun m => U.contains ids m.1).length]) (b.2.2.2[c]) with
            | false => rfl
            | true =>
              have he := (eqM_iff _ _).1 hqq
              have hmem := List.getElem_mem hh
              rw [he] at hmem
              have := (List.mem_filter.1 hmem).2
              simp only [hm] at this
              cases this
          · rw [decide_eq_false (by omega), cond_false]
        have e2 : ∀ y : Msg, (y.1, y.2.1, y.2.2.1, y.2.2.2) = y := fun _ => rfl
        simp only [e2, hno, cond_false]
        refine ⟨fun _ => by omega, fun h => by simpa using h, ?_⟩
        simp only [getD_of hat, hq, decide_eq_true (show ((((b.2.2.2.take c).filter fun m => !U.contains ids m.1).length : Nat) : Int) < ((b.2.2.2.filter fun m => !U.contains ids m.1).length : Int) by omega), cond_true]
        refine ⟨((((b.2.2.2.take c).filter fun m => U.contains ids m.1).length : Int), ((((b.2.2.2.take c).filter fun m => !U.contains ids m.1).length + 1 : Nat) : Int), ((c + 1 : Nat) : Int)), ?_, ⟨⟨by simp; omega, by simp; omega⟩, ?_, ?_⟩, by simp; omega⟩
        · rw [wrap_succ hc (by omega), wrap_succ hlt (by have := List.length_filter_le (fun m : Msg => !U.contains ids m.1) b.2.2.2; omega)]
        · simp only [Int.toNat_natCast]; rw [filter_succ hc, hm]; simp
        · simp only [Int.toNat_natCast]; rw [filter_succ hc, hm]; simp
    · simp only [decide_eq_false hx, cond_false]
      rw [List.take_of_length_le (by omega)]
      refine ⟨?_, trivial⟩
      have hr : ∀ l : List Int, l.beq l = true := fun l => (by show (l == l) = true; simp)
      simp [hr]
theorem ok9 : vc9 := ⟨by decide, rfl, trivial⟩
end Go.Proofs.Ytddakledpipanaa
