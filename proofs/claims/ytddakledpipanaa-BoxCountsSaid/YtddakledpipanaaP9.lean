/- What is owed of the law BoxCounts, proved in plain Lean. -/
import Derived.Test.YtddakledpipanaaP8
set_option linter.unusedSimpArgs false
set_option linter.unusedVariables false
set_option maxRecDepth 100000
namespace Go.Proofs.Ytddakledpipanaa
open Go.Vc
open Go.Vc.T
theorem fives : ∀ a f : Fin 32, U.five (U.orI (a.val : Int) (f.val : Int)) = true ∧ U.orI (U.orI (a.val : Int) (f.val : Int)) (f.val : Int) = U.orI (a.val : Int) (f.val : Int) ∧ andK .i64 (U.orI (a.val : Int) (f.val : Int)) (f.val : Int) = (f.val : Int) := by decide +kernel
theorem five_iff (a : Int) : U.five a = true ↔ 0 ≤ a ∧ a ≤ 31 := by simp [U.five]
theorem or_facts {a f : Int} (ha : U.five a = true) (hf : U.five f = true) : U.five (U.orI a f) = true ∧ U.orI (U.orI a f) f = U.orI a f ∧ andK .i64 (U.orI a f) f = f := by
  rw [five_iff] at ha hf
  have h := fives ⟨a.toNat, by omega⟩ ⟨f.toNat, by omega⟩
  simp only [Int.toNat_of_nonneg ha.1, Int.toNat_of_nonneg hf.1] at h
  exact h
theorem and_zero (a : Int) : andK .i64 a 0 = 0 := by
  unfold andK
  have : BitVec.ofInt (IntKind.bits .i64) 0 = 0#(IntKind.bits .i64) := rfl
  rw [this, BitVec.and_zero]; rfl
theorem apply_or {a f : Int} (ha : U.five a = true) (hf : U.five f = true) : U.apply a 1 f = (U.orI a f, 0) := by
  unfold U.apply; rw [ha, hf]; rfl
theorem idx1_first {α : Type} (p : α → Bool) : ∀ (l : List α) (j : Nat) (s : Int) (h : j < l.length), p l[j] = true → (∀ i, (hi : i < j) → p (l[i]'(by omega)) = false) → U.idx1 p l s = s + j
  | [], j, s, h, _, _ => by simp at h
  | x :: r, 0, s, h, hp, _ => by rw [idx1_cons]; simp at hp; rw [hp]; simp
  | x :: r, j + 1, s, h, hp, hn => by
    have h0 := hn 0 (by omega)
    simp at h0
    rw [idx1_cons, h0, cond_false, idx1_first p r j (s + 1) (by simpa using h) (by simpa using hp) (fun i hi => by simpa using hn (i + 1) (by omega))]
    omega
theorem place_eq {l : List Msg} (hp : l.Pairwise (fun a b => a.1 < b.1)) {j : Nat} (h : j < l.length) : U.place l l[j].1 = j + 1 := by
  unfold U.place
  rw [idx1_first _ l j 0 h (by simp) (fun i hi => by have := List.pairwise_iff_getElem.1 hp i j (by omega) h hi; simp; omega)]
  omega
theorem pair_step1 {m f u : Int} {l : List Msg} (hp : l.Pairwise (fun a b => a.1 < b.1)) : (U.step1 m f u l).Pairwise (fun a b => a.1 < b.1) := by
  have e : (U.uids l).Pairwise (· < ·) := by unfold U.uids; rw [List.pairwise_map]; exact hp
  rw [← uids_step1 m f u] at e
  unfold U.uids at e; rw [List.pairwise_map] at e; exact e
theorem step1_at {f u : Int} {l : List Msg} (hp : l.Pairwise (fun a b => a.1 < b.1)) (hfv : ∀ m ∈ l, U.five m.2.1 = true) (hf : U.five f = true) (hu : u ∈ U.uids l) (j : Nat) (h : j < l.length) :
    (U.step1 1 f u l)[j]'(by rw [len_step1]; exact h) = if l[j].1 = u then (l[j].1, U.orI l[j].2.1 f, l[j].2.2) else l[j] := by
  obtain ⟨x, hx, rfl⟩ := List.mem_map.1 hu
  obtain ⟨i, hi, rfl⟩ := List.getElem_of_mem hx
  have e : (U.place l l[i].1 - 1).toNat = i := by rw [place_eq hp hi]; omega
  have e2 : U.step1 1 f l[i].1 l = l.set i ((l.getD i (0, 0, 0, [])).1, (U.apply (l.getD i (0, 0, 0, [])).2.1 1 f).1, (l.getD i (0, 0, 0, [])).2.2) := by
    unfold U.step1; rw [e]
  simp only [e2, List.getElem_set, getD_at hi, apply_or (hfv _ (List.getElem_mem hi)) hf]
  by_cases hij : i = j
  · subst hij; simp
  · rw [if_neg hij, if_neg]
    intro hh
    rcases Nat.lt_or_gt_of_ne hij with h1 | h1
    · have := List.pairwise_iff_getElem.1 hp i j hi h h1; omega
    · have := List.pairwise_iff_getElem.1 hp j i h hi h1; omega
theorem len_stepAll (m f : Int) : ∀ (ids : List Int) (l : List Msg), (U.stepAll m f ids l).length = l.length
  | [], _ => rfl
  | u :: r, l => by rw [stepAll_cons, len_stepAll m f r, len_step1]
theorem stepAll_at {f : Int} (hf : U.five f = true) : ∀ (ids : List Int) (l : List Msg), l.Pairwise (fun a b => a.1 < b.1) → (∀ m ∈ l, U.five m.2.1 = true) → (∀ u ∈ ids, u ∈ U.uids l) → ∀ (j : Nat) (h : j < l.length),
    (U.stepAll 1 f ids l)[j]'(by rw [len_stepAll]; exact h) = if U.contains ids l[j].1 then (l[j].1, U.orI l[j].2.1 f, l[j].2.2) else l[j]
  | [], l, _, _, _, j, h => by simp [U.stepAll, U.contains]
  | u :: r, l, hp, hfv, hu, j, h => by
    have e := step1_at hp hfv hf (hu u (by simp))
    have hfv' : ∀ m ∈ U.step1 1 f u l, U.five m.2.1 = true := by
      intro m hm
      obtain ⟨i, hi, rfl⟩ := List.getElem_of_mem hm
      rw [len_step1] at hi
      rw [e i hi]
      split
      · exact (or_facts (hfv _ (List.getElem_mem hi)) hf).1
      · exact hfv _ (List.getElem_mem hi)
    have ih := stepAll_at hf r (U.step1 1 f u l) (pair_step1 hp) hfv' (fun v hv => by rw [uids_step1]; exact hu v (by simp [hv])) j (by rw [len_step1]; exact h)
    have ho := or_facts (hfv _ (List.getElem_mem h)) hf
    have hc : U.contains (u :: r) l[j].1 = (decide (l[j].1 = u) || U.contains r l[j].1) := rfl
    simp only [stepAll_cons, ih, e j h, hc]
    by_cases h1 : l[j].1 = u
    · simp only [h1, if_true, decide_true, Bool.true_or]
      split
      · simp only [ho.2.1]
      · rfl
    · simp only [h1, if_false, decide_false, Bool.false_or]
theorem count_le {f : Int} : ∀ (l L : List Msg) (n n' : Int), l.length = L.length → (∀ (j : Nat) (h : j < l.length) (h' : j < L.length), andK .i64 l[j].2.1 f = f → andK .i64 L[j].2.1 f = f) → n ≤ n' → U.countGo f l n ≤ U.countGo f L n'
  | [], [], n, n', _, _, h => h
  | [], _ :: _, _, _, h, _, _ => by simp at h
  | _ :: _, [], _, _, h, _, _ => by simp at h
  | x :: r, y :: s, n, n', hl, hj, h => by
    rw [countGo_cons', countGo_cons']
    have h0 := hj 0 (by simp) (by simp)
    simp only [List.getElem_cons_zero] at h0
    refine count_le r s _ _ (by simpa using hl) (fun j h1 h2 => hj (j + 1) (by simpa using h1) (by simpa using h2)) ?_
    split <;> split <;> first | omega | (exfalso; rename_i a b; exact b (h0 a))
theorem count_all : ∀ (l : List Msg) (n : Int), U.countGo 0 l n = n + l.length
  | [], n => by simp [U.countGo]
  | m :: r, n => by rw [countGo_cons', if_pos (and_zero _), count_all r]; simp; omega
theorem store_cases (b : Box) (ids : List Int) (f : Int) : ((U.store b ids 1 f).2 ≠ 0 ∧ (U.store b ids 1 f).1 = b) ∨
    (U.right b = true ∧ U.missing b.2.2.2 ids = false ∧ U.store b ids 1 f = ((b.1, b.2.1, b.2.2.1, U.stepAll 1 f ids b.2.2.2), 0)) := by
  rw [store_eq]
  by_cases h : U.right b = true ∧ (U.apply 0 1 f).2 = 0
  · rw [if_pos h]
    cases hm : U.missing b.2.2.2 ids with
    | true => exact .inl ⟨by simp, rfl⟩
    | false => exact .inr ⟨h.1, rfl, rfl⟩
  · rw [if_neg h]; exact .inl ⟨by simp, rfl⟩
theorem not_missing {l : List Msg} {ids : List Int} (h : U.missing l ids = false) : ∀ u ∈ ids, u ∈ U.uids l := by
  intro u hu
  have h1 := missing_mem h hu
  have e := (idx1_none (fun m : Msg => decide (m.1 = u)) l 0 (by omega))
  have : l.any (fun x : Msg => decide (x.1 = u)) = true := by
    rw [← e.2.1]
    unfold U.place at h1
    have := e.1
    simp; omega
  obtain ⟨m, hm, he⟩ := List.any_eq_true.1 this
  exact List.mem_map.2 ⟨m, hm, by simpa using he⟩
theorem ok7 (b : Box) (l : List Int) (k : Int) (hk : 0 ≤ k ∧ k ≤ 255) (hv : ∀ m ∈ b.2.2.2, -9223372036854775808 ≤ m.2.1 ∧ m.2.1 ≤ 9223372036854775807) : vc7 b l k := by
  unfold vc7
  rw [cond_prop]
  refine ⟨fun _ => ⟨rfl, trivial⟩, fun hbig => ⟨by omega, ?_⟩⟩
  have hl : (l.length : Int) ≤ 100 := by simp only [cond_or] at hbig; grind
  have hwk : IntKind.i64.wrap k = k := wrap_i (by omega) (by omega)
  have hf : U.five ((IntKind.i64.wrap k).tmod 32) = true := by
    rw [hwk, Int.tmod_eq_emod_of_nonneg hk.1, five_iff]; omega
  generalize (IntKind.i64.wrap k).tmod 32 = f at hf ⊢
  have hz : ∀ r : Int, (r != 0) = true ↔ r ≠ 0 := fun r => by simp
  rw [cond_prop]
  rcases store_cases b l f with ⟨h1, h2⟩ | ⟨hR, hmis, hS⟩
  · rw [h2, eqBox_self]
    exact ⟨fun _ => ⟨rfl, trivial⟩, fun hh => absurd ((hz _).2 h1) (by rw [hh]; simp)⟩
  · rw [hS]
    have hR' := (right_iff b).1 hR
    have hpw := rightGo_apart _ _ _ hR'.2.2.2
    have hfv : ∀ m ∈ b.2.2.2, U.five m.2.1 = true := fun m hm => by
      have := (right_parts hR).2 m hm
      rw [← flagRight_five _ (hv m hm).1 (hv m hm).2]
      unfold U.may at this; grind
    have hat := stepAll_at hf l b.2.2.2 hpw hfv (not_missing hmis)
    have hlen := len_stepAll 1 f l b.2.2.2
    dsimp only
    refine ⟨fun hh => by simp at hh, fun _ => ?_⟩
    rw [cond_prop]
    refine ⟨fun hh => by simp [hlen] at hh, fun _ => ⟨0, ⟨rfl, ⟨by omega, by omega⟩, hlen⟩, ?_⟩⟩
    rintro x ⟨⟨h0, h1⟩, _⟩
    rw [cond_prop]
    refine ⟨fun hx => ?_, fun hx => ?_⟩
    · have hx : x < b.2.2.2.length := by simpa using hx
      refine ⟨h0, hx, h0, by rw [hlen]; exact hx, ⟨(x, false, 0), ⟨rfl, rfl, h0, hx, hlen, ⟨by dsimp only; omega, by dsimp only; omega⟩, by simp [U.contains]⟩, ?_⟩⟩
      rintro ⟨i, is, q⟩ ⟨hi, _, _, _, ⟨hq0, hq1⟩, his⟩
      dsimp only at hi
      subst hi
      dsimp only at hq0 hq1 his ⊢
      have hg : b.2.2.2.getD i.toNat (0, 0, 0, []) = b.2.2.2[i.toNat] := getD_at (by omega)
      have hn : U.nth b.2.2.2 i = b.2.2.2[i.toNat] := hg
      have hG : (U.stepAll 1 f l b.2.2.2).getD i.toNat (0, 0, 0, []) = if U.contains l b.2.2.2[i.toNat].1 then (b.2.2.2[i.toNat].1, U.orI b.2.2.2[i.toNat].2.1 f, b.2.2.2[i.toNat].2.2) else b.2.2.2[i.toNat] := by
        rw [getD_at (by rw [hlen]; omega)]; exact hat _ _
      rw [hn] at his
      rw [cond_prop]
      refine ⟨fun hq => ?_, fun hq => ?_⟩
      · have hq : q < l.length := by simpa using hq
        have hw : IntKind.i64.wrap (q.add 1) = q + 1 := wrap_i (by show _ ≤ q + 1; omega) (by show q + 1 ≤ _; omega)
        rw [hw]
        refine ⟨fun _ => hq0, fun _ => hq, Exists.intro (_, _, _) (And.intro rfl ⟨⟨rfl, h0, hx, hlen, ⟨by show 0 ≤ q + 1; omega, by show q + 1 ≤ _; omega⟩, ?_⟩, by simp only [nat_sub]; omega⟩)⟩
        show _ = U.contains (l.take (q + 1).toNat) (U.nth b.2.2.2 i).1
        rw [hn, contains_take hq0 hq, ← his, getD_at (by omega), hg]; cases is <;> rfl
      · have hq : ¬ q < l.length := by simpa using hq
        rw [take_end (by omega)] at his
        have hw : IntKind.i64.wrap (i.add 1) = i + 1 := wrap_i (by show _ ≤ i + 1; omega) (by show i + 1 ≤ _; omega)
        rw [hG, hg, ← his, hw]
        have horI : IntKind.i64.wrap (↑((BitVec.ofInt IntKind.i64.bits b.2.2.2[i.toNat].2.1).or (BitVec.ofInt IntKind.i64.bits f)).toNat : Int) = U.orI b.2.2.2[i.toNat].2.1 f := rfl
        rw [horI, cond_prop]
        refine ⟨fun hh => ?_, fun _ => Exists.intro (i + 1) (And.intro rfl ⟨⟨⟨by omega, by omega⟩, hlen⟩, by simp only [nat_sub]; omega⟩)⟩
        exfalso
        cases is <;> simp at hh
    · have hx : ¬ x < b.2.2.2.length := by simpa using hx
      have hc : U.countGo f b.2.2.2 0 ≤ U.countGo f (U.stepAll 1 f l b.2.2.2) 0 := by
        refine count_le _ _ _ _ hlen.symm (fun j h1 h2 hh => ?_) (Int.le_refl _)
        rw [hat j h1]
        split
        · exact (or_facts (hfv _ (List.getElem_mem h1)) hf).2.2
        · exact hh
      rw [count_all]
      simp [hc]
end Go.Proofs.Ytddakledpipanaa
