/- A region whose order is open: done in whatever order, it ends as it is reckoned. -/
import Derived.Test.YtddakledpipanaaVcMono
import Derived.Orders
set_option linter.unusedVariables false
set_option linter.unusedSimpArgs false
namespace Go.Vc

theorem mem1_mem {x : Nat} : ∀ {l : List Nat}, mem1 x l = true ↔ x ∈ l
  | [] => by simp [mem1]
  | y :: r => by
    unfold mem1
    by_cases h : x = y
    · subst h; simp
    · rw [beq_no h, cond_false, mem1_mem]; simp [h]
theorem bitB_test (m p : Nat) : bitB m p = m.testBit p := by
  unfold bitB Nat.testBit
  show Nat.beq (1 &&& (m >>> p)) 1 = _
  rw [Nat.one_and_eq_mod_two]
  rcases Nat.mod_two_eq_zero_or_one (m >>> p) with h | h <;> rw [h] <;> rfl
theorem bitB_or (m n p : Nat) : bitB (Nat.lor m n) p = (bitB m p || bitB n p) := by
  rw [bitB_test, bitB_test, bitB_test]; exact Nat.testBit_or m n p
theorem bitB_one (q p : Nat) : bitB (Nat.shiftLeft 1 q) p = decide (q = p) := by
  rw [bitB_test]
  show (1 <<< q).testBit p = _
  rw [Nat.one_shiftLeft, Nat.testBit_two_pow]
theorem bitB_all (n p : Nat) : bitB (2 ^ n - 1) p = decide (p < n) := by
  rw [bitB_test, Nat.testBit_two_pow_sub_one]

/-! ### the masks -/
theorem maskOf_ok {acc : List Nat} : ∀ {l : List Nat} {m : Nat}, maskOf acc l = some m →
    (∀ p ∈ l, p < acc.length ∧ bitB m p = true) ∧ ∀ p, bitB m p = true → p ∈ l ∨ ∃ q ∈ l, ∃ mq, acc[q]? = some mq ∧ bitB mq p = true
  | [], m, h => by
    cases h
    exact ⟨fun p hp => (by cases hp), fun p hp => by rw [bitB_test, Nat.zero_testBit] at hp; cases hp⟩
  | q :: r, m, h => by
    unfold maskOf at h
    split at h
    · rename_i mq n hq hn
      cases h
      obtain ⟨h1, h2⟩ := maskOf_ok hn
      refine ⟨fun p hp => ?_, fun p hp => ?_⟩
      · rcases List.mem_cons.1 hp with rfl | hp
        · refine ⟨(List.getElem?_eq_some_iff.1 hq).1, ?_⟩
          rw [bitB_or, bitB_or, bitB_one]; simp
        · refine ⟨(h1 p hp).1, ?_⟩
          rw [bitB_or, (h1 p hp).2]; simp
      · rw [bitB_or, bitB_or, bitB_one] at hp
        simp only [Bool.or_eq_true, decide_eq_true_eq] at hp
        rcases hp with (rfl | hp) | hp
        · exact .inl (by simp)
        · exact .inr ⟨q, by simp, mq, hq, hp⟩
        · rcases h2 p hp with h | ⟨q', hq', mq', k1, k2⟩
          · exact .inl (List.mem_cons_of_mem _ h)
          · exact .inr ⟨q', List.mem_cons_of_mem _ hq', mq', k1, k2⟩
    · cases h
/-- What the masks say. -/
def MaskOk (l : List Oper) (masks : List Nat) : Prop := ∀ k o, l[k]? = some o → ∃ m, masks[k]? = some m ∧ (∀ p ∈ dirOf o, p < k ∧ bitB m p = true) ∧
  ∀ p, bitB m p = true → p ∈ dirOf o ∨ ∃ q ∈ dirOf o, ∃ mq, masks[q]? = some mq ∧ bitB mq p = true
theorem masksOf_ok : ∀ {r : List Oper} {acc masks : List Nat} {d : List Oper}, masksOf r acc = some masks → acc.length = d.length → MaskOk d acc → masks.length = d.length + r.length ∧ MaskOk (d ++ r) masks
  | [], acc, masks, d, h, hl, ho => by
    cases h
    refine ⟨by simp [hl], by rw [List.append_nil]; exact ho⟩
  | o :: r, acc, masks, d, h, hl, ho => by
    unfold masksOf at h
    cases hm : maskOf acc (dirOf o) with
    | none => rw [hm] at h; cases h
    | some m =>
      rw [hm] at h
      obtain ⟨k1, k2⟩ := maskOf_ok hm
      have := masksOf_ok (d := d ++ [o]) h (by simp [hl]) (fun k o' hk => by
        by_cases hkd : k < d.length
        · rw [List.getElem?_append_left hkd] at hk
          obtain ⟨m', q1, q2, q3⟩ := ho k o' hk
          refine ⟨m', by rw [List.getElem?_append_left (by omega)]; exact q1, q2, fun p hp => ?_⟩
          rcases q3 p hp with h | ⟨q, hq, mq, e1, e2⟩
          · exact .inl h
          · exact .inr ⟨q, hq, mq, by rw [List.getElem?_append_left (List.getElem?_eq_some_iff.1 e1).1]; exact e1, e2⟩
        · have hlt := (List.getElem?_eq_some_iff.1 hk).1
          have hke : k = d.length := by simp at hlt; omega
          subst hke
          simp at hk
          subst hk
          refine ⟨m, by rw [← hl]; simp, fun p hp => ⟨by rw [← hl]; exact (k1 p hp).1, (k1 p hp).2⟩, fun p hp => ?_⟩
          rcases k2 p hp with h | ⟨q, hq, mq, e1, e2⟩
          · exact .inl h
          · exact .inr ⟨q, hq, mq, by rw [List.getElem?_append_left (List.getElem?_eq_some_iff.1 e1).1]; exact e1, e2⟩)
      rw [List.append_assoc] at this
      refine ⟨by rw [this.1]; simp; omega, this.2⟩
/-- What is closed downwards holds all that lies behind what it holds. -/
theorem mask_closed {l : List Oper} {masks : List Nat} (hm : MaskOk l masks) {D : Nat → Prop} (hD : ∀ k o, D k → l[k]? = some o → ∀ p ∈ dirOf o, D p) :
    ∀ (k : Nat) (o : Oper) (m : Nat), l[k]? = some o → masks[k]? = some m → (∀ p ∈ dirOf o, D p) → ∀ p, bitB m p = true → D p := by
  intro k
  induction k using Nat.strongRecOn with
  | _ k ih =>
    intro o m ho hmk hd p hp
    obtain ⟨m', k1, k2, k3⟩ := hm k o ho
    rw [hmk] at k1; cases k1
    rcases k3 p hp with h | ⟨q, hq, mq, e1, e2⟩
    · exact hd p h
    · have hqk := (k2 q hq).1
      have hlt := (List.getElem?_eq_some_iff.1 ho).1
      have hoq : l[q]? = some (l[q]'(by omega)) := List.getElem?_eq_getElem (by omega)
      exact ih q hqk _ mq hoq e1 (fun p' hp' => hD q _ (hd q hq) hoq p' hp') p e2
theorem mask_lt {l : List Oper} {masks : List Nat} (hm : MaskOk l masks) {k : Nat} {o : Oper} {m : Nat} (ho : l[k]? = some o) (hmk : masks[k]? = some m) : ∀ p, bitB m p = true → p < k := by
  refine mask_closed (D := fun p => p < k) hm (fun j o' hj ho' p hp => ?_) k o m ho hmk (fun p hp => ?_)
  · obtain ⟨_, _, k2, _⟩ := hm j o' ho'
    have := (k2 p hp).1; omega
  · obtain ⟨_, _, k2, _⟩ := hm k o ho
    exact (k2 p hp).1

/-! ### entries -/
def updGet : List (Nat × Entry) → Nat → Option Entry → Option Entry
  | [], _, x => x
  | (i, e) :: r, id, x => updGet r id (if i = id then some e else x)
theorem upds_get : ∀ (u : List (Nat × Entry)) (M : Store) (id : Nat), (M.upds u).get id = updGet u id (M.get id)
  | [], _, _ => rfl
  | (i, e) :: r, M, id => by
    rw [Store.upds, upds_get r, Store.get_set]
    simp only [updGet]
    by_cases h : i = id
    · rw [if_pos h, if_pos h.symm]
    · rw [if_neg h, if_neg (fun hh => h hh.symm)]
theorem updGet_no {u : List (Nat × Entry)} {id : Nat} : ∀ {x : Option Entry}, (∀ p ∈ u, p.1 ≠ id) → updGet u id x = x := by
  induction u with
  | nil => intro x _; rfl
  | cons p r ih =>
    intro x h
    obtain ⟨i, e⟩ := p
    simp only [updGet]
    rw [if_neg (h (i, e) (by simp)), ih (fun q hq => h q (List.mem_cons_of_mem _ hq))]
theorem updGet_yes {u : List (Nat × Entry)} {id : Nat} : ∀ {x y : Option Entry}, (∃ p ∈ u, p.1 = id) → updGet u id x = updGet u id y := by
  induction u with
  | nil => intro x y ⟨p, hp, _⟩; cases hp
  | cons p r ih =>
    intro x y ⟨q, hq, hqi⟩
    obtain ⟨i, e⟩ := p
    simp only [updGet]
    by_cases h : i = id
    · rw [if_pos h, if_pos h]
    · rw [if_neg h, if_neg h]
      rcases List.mem_cons.1 hq with rfl | hq
      · exact absurd hqi h
      · exact ih ⟨q, hq, hqi⟩
def gAt (D : Nat → Bool) : Nat → List Rec → (Nat → Option Entry) → Nat → Option Entry
  | _, [], f => f
  | j, r :: l, f => gAt D (j + 1) l (if D j = true then fun id => updGet r.e.upd id (f id) else f)
theorem gAt_append (D : Nat → Bool) : ∀ (a b : List Rec) (j : Nat) (f : Nat → Option Entry), gAt D j (a ++ b) f = gAt D (j + a.length) b (gAt D j a f)
  | [], b, j, f => rfl
  | r :: a, b, j, f => by
    rw [List.cons_append, gAt, gAt_append D a b]
    simp only [gAt, List.length_cons]
    rw [show j + 1 + a.length = j + (a.length + 1) by omega]
theorem gAt_congr {D D' : Nat → Bool} {id : Nat} : ∀ (l : List Rec) (j : Nat) (f f' : Nat → Option Entry), f id = f' id → (∀ i r, l[i]? = some r → D (j + i) ≠ D' (j + i) → ∀ p ∈ r.e.upd, p.1 ≠ id) → gAt D j l f id = gAt D' j l f' id
  | [], _, f, f', hf, _ => hf
  | r :: l, j, f, f', hf, h => by
    simp only [gAt]
    refine gAt_congr l (j + 1) _ _ ?_ (fun i r' hi hne => h (i + 1) r' (by simpa using hi) (by rw [show j + (i + 1) = j + 1 + i by omega]; exact hne))
    have h0 := h 0 r (by simp)
    simp only [Nat.add_zero] at h0
    by_cases hd : D j = D' j
    · rw [hd]
      split
      · show updGet r.e.upd id (f id) = updGet r.e.upd id (f' id)
        rw [hf]
      · exact hf
    · have hno := h0 hd
      split <;> split
      · rename_i h1 h2; exact absurd (h1.trans h2.symm) hd
      · show updGet r.e.upd id (f id) = f' id
        rw [updGet_no hno]; exact hf
      · show f id = updGet r.e.upd id (f' id)
        rw [updGet_no hno]; exact hf
      · exact hf
/-- Those behind leave an entry alone. -/
theorem gAt_skip {D : Nat → Bool} {id : Nat} (l : List Rec) (j : Nat) (f : Nat → Option Entry) (h : ∀ i r, l[i]? = some r → D (j + i) = true → ∀ p ∈ r.e.upd, p.1 ≠ id) : gAt D j l f id = f id := by
  rw [gAt_congr (D' := fun _ => false) l j f f rfl (fun i r hi hne => h i r hi (by simpa using hne))]
  clear h
  induction l generalizing j f with
  | nil => rfl
  | cons r l ih => simp only [gAt]; rw [ih]; simp
theorem gAt_set {D D' : Nat → Bool} {k : Nat} {recs : List Rec} {r : Rec} {f : Nat → Option Entry} (hr : recs[k]? = some r) (hk : D k = false) (hk' : D' k = true) (hD : ∀ j, j ≠ k → D' j = D j)
    (hlate : ∀ j rj, k < j → recs[j]? = some rj → D j = true → ∀ p ∈ rj.e.upd, ∀ q ∈ r.e.upd, p.1 ≠ q.1) (id : Nat) : gAt D' 0 recs f id = updGet r.e.upd id (gAt D 0 recs f id) := by
  obtain ⟨hlt, hrk⟩ := List.getElem?_eq_some_iff.1 hr
  have hsplit : recs = recs.take k ++ (r :: recs.drop (k + 1)) := by
    conv => lhs; rw [← List.take_append_drop k recs, List.drop_eq_getElem_cons hlt, hrk]
  have hlen : (recs.take k).length = k := by rw [List.length_take]; omega
  by_cases hin : ∃ q ∈ r.e.upd, q.1 = id
  · obtain ⟨q, hq, hqi⟩ := hin
    have hpost : ∀ (E : Nat → Bool), (∀ j, j ≠ k → E j = D j) → ∀ g, gAt E (k + 1) (recs.drop (k + 1)) g id = g id := by
      intro E hE g
      refine gAt_skip _ _ _ fun i ri hi hd p hp => ?_
      rw [List.getElem?_drop] at hi
      rw [hE _ (by omega)] at hd
      have := hlate (k + 1 + i) ri (by omega) hi hd p hp q hq
      rw [hqi] at this; exact this
    rw [hsplit, gAt_append, gAt_append, hlen, Nat.zero_add]
    simp only [gAt]
    rw [hpost D' hD, hpost D (fun _ _ => rfl), if_pos hk', if_neg (by rw [hk]; simp)]
    exact updGet_yes ⟨q, hq, hqi⟩
  · have hno : ∀ p ∈ r.e.upd, p.1 ≠ id := fun p hp he => hin ⟨p, hp, he⟩
    rw [updGet_no hno]
    refine gAt_congr recs 0 f f rfl fun i ri hi hne => ?_
    rw [Nat.zero_add] at hne
    by_cases hik : i = k
    · subst hik; rw [hr] at hi; cases hi; exact hno
    · exact absurd (hD i hik) hne
theorem foldRecs_M (m : Nat) : ∀ (l : List Rec) (j : Nat) (s : St) (id : Nat), (foldRecs m j l s).M.get id = gAt (bitB m) j l s.M.get id
  | [], _, _, _ => rfl
  | r :: l, j, s, id => by
    simp only [foldRecs, gAt]
    rw [foldRecs_M m l]
    refine gAt_congr l (j + 1) _ _ ?_ (fun _ _ _ h => absurd rfl h)
    cases hb : bitB m j with
    | false => rfl
    | true =>
      simp only [cond_true, if_true]
      rw [← upds_get]
      unfold addRec
      split
      · rfl
      · split <;> rfl
theorem del_get {ids : List Nat} {id : Nat} {e : Entry} : ∀ {M : Store}, (M.del ids).get id = some e → mem1 id ids = false ∧ M.get id = some e
  | [], h => by cases h
  | (i, x) :: r, h => by
    simp only [Store.del] at h
    cases hm : mem1 i ids with
    | true =>
      rw [hm] at h
      simp only [cond_true] at h
      obtain ⟨h1, h2⟩ := del_get h
      refine ⟨h1, ?_⟩
      simp only [Store.get]
      cases hb : Nat.beq i id with
      | true => rw [Nat.eq_of_beq_eq_true hb] at hm; rw [h1] at hm; cases hm
      | false => exact h2
    | false =>
      rw [hm] at h
      simp only [cond_false, Store.get] at h ⊢
      cases hb : Nat.beq i id with
      | true => rw [hb] at h; rw [← Nat.eq_of_beq_eq_true hb]; exact ⟨hm, h⟩
      | false => rw [hb] at h; exact del_get h
theorem unord_mem {masks : List Nat} {m k : Nat} : ∀ {U : List (List Nat)} {j i id : Nat} {u : List Nat}, U[i]? = some u → id ∈ u → j + i ≠ k → bitB m (j + i) = false → (∀ mj, masks[j + i]? = some mj → bitB mj k = false) → id ∈ unordIds masks m k j U
  | [], j, i, id, u, h, _, _, _, _ => by simp at h
  | v :: U, j, i, id, u, h, hid, hne, hb, hm => by
    unfold unordIds
    cases i with
    | zero =>
      simp at h; subst h
      simp only [Nat.add_zero] at hne hb hm
      rw [beq_no hne, hb]
      cases hmj : masks[j]? with
      | none => simp [hid]
      | some mj => simp [hm mj hmj, hid]
    | succ i =>
      have := unord_mem (masks := masks) (m := m) (k := k) (U := U) (j := j + 1) (i := i) (by simpa using h) hid (by omega) (by rw [show j + 1 + i = j + (i + 1) by omega]; exact hb) (by rw [show j + 1 + i = j + (i + 1) by omega]; exact hm)
      cases hc : (Nat.beq j k || bitB m j || (match masks[j]? with | some mj => bitB mj k | none => false)) with
      | true => exact this
      | false => exact List.mem_append.2 (.inr this)

/-! ### variables -/
theorem addRec_cases {s : St} {r : Rec} : (r.dst = none ∧ (addRec s r).env = s.env ∧ (addRec s r).cenv = s.cenv) ∨
    (∃ d, r.dst = some d ∧ (r.cs = none ∨ r.cs = some []) ∧ (addRec s r).env = eset s.env d (some r.e.sv) ∧ (addRec s r).cenv = s.cenv) ∨
    ∃ d cs, r.dst = some d ∧ r.cs = some cs ∧ (addRec s r).env = eset s.env d none ∧ (addRec s r).cenv = (d, cs, r.e.sv) :: s.cenv := by
  unfold addRec
  cases hd : r.dst with
  | none => exact .inl ⟨rfl, rfl, rfl⟩
  | some d =>
    cases hc : r.cs with
    | none => exact .inr (.inl ⟨d, rfl, .inl rfl, rfl, rfl⟩)
    | some cs =>
      cases cs with
      | nil => exact .inr (.inl ⟨d, rfl, .inr rfl, rfl, rfl⟩)
      | cons x cs => exact .inr (.inr ⟨d, _, rfl, rfl, rfl, rfl⟩)
theorem addRec_len (s : St) (r : Rec) : (addRec s r).env.length = s.env.length := by
  rcases addRec_cases (s := s) (r := r) with ⟨_, h, _⟩ | ⟨d, _, _, h, _⟩ | ⟨d, _, _, _, h, _⟩ <;> rw [h] <;> first | rfl | exact eset_length _ _ _
theorem foldRecs_len (m : Nat) : ∀ (l : List Rec) (j : Nat) (s : St), (foldRecs m j l s).env.length = s.env.length
  | [], _, _ => rfl
  | r :: l, j, s => by
    simp only [foldRecs]
    rw [foldRecs_len m l]
    cases bitB m j with
    | false => rfl
    | true => exact addRec_len s r
theorem foldRecs_env {m : Nat} : ∀ {l : List Rec} {j : Nat} {s : St} {x : Nat} {v : SV}, eget (foldRecs m j l s).env x = some v → eget s.env x = some v ∨ ∃ i r, l[i]? = some r ∧ bitB m (j + i) = true ∧ r.dst = some x ∧ v = r.e.sv ∧ (r.cs = none ∨ r.cs = some [])
  | [], _, _, _, _, h => .inl h
  | r :: l, j, s, x, v, h => by
    simp only [foldRecs] at h
    rcases foldRecs_env h with h | ⟨i, r', h1, h2, h3⟩
    · cases hb : bitB m j with
      | false => rw [hb] at h; exact .inl h
      | true =>
        rw [hb] at h
        simp only [cond_true] at h
        rcases addRec_cases (s := s) (r := r) with ⟨_, e, _⟩ | ⟨d, hd, hc, e, _⟩ | ⟨d, _, hd, _, e, _⟩
        · rw [e] at h; exact .inl h
        · rw [e, eget_eset] at h
          by_cases hx : x = d
          · rw [if_pos hx] at h
            split at h
            · cases h
              exact .inr ⟨0, r, by simp, hb, by rw [hx]; exact hd, rfl, hc⟩
            · cases h
          · rw [if_neg hx] at h; exact .inl h
        · rw [e, eget_eset] at h
          by_cases hx : x = d
          · rw [if_pos hx] at h; split at h <;> cases h
          · rw [if_neg hx] at h; exact .inl h
    · exact .inr ⟨i + 1, r', by simpa using h1, by rw [show j + (i + 1) = j + 1 + i by omega]; exact h2, h3⟩
theorem foldRecs_cenv {m : Nat} : ∀ {l : List Rec} {j : Nat} {s : St} {y}, y ∈ (foldRecs m j l s).cenv → y ∈ s.cenv ∨ ∃ i r, l[i]? = some r ∧ bitB m (j + i) = true ∧ r.dst = some y.1 ∧ r.cs = some y.2.1 ∧ y.2.2 = r.e.sv
  | [], _, _, _, h => .inl h
  | r :: l, j, s, y, h => by
    simp only [foldRecs] at h
    rcases foldRecs_cenv h with h | ⟨i, r', h1, h2, h3⟩
    · cases hb : bitB m j with
      | false => rw [hb] at h; exact .inl h
      | true =>
        rw [hb] at h
        simp only [cond_true] at h
        rcases addRec_cases (s := s) (r := r) with ⟨_, _, e⟩ | ⟨d, hd, hc, _, e⟩ | ⟨d, cs, hd, hc, _, e⟩
        · rw [e] at h; exact .inl h
        · rw [e] at h; exact .inl h
        · rw [e] at h
          rcases List.mem_cons.1 h with rfl | h
          · exact .inr ⟨0, r, by simp, hb, hd, hc, rfl⟩
          · exact .inl h
    · exact .inr ⟨i + 1, r', by simpa using h1, by rw [show j + (i + 1) = j + 1 + i by omega]; exact h2, h3⟩
theorem noEnv_get : ∀ {ds : List Nat} {env : List (Option SV)} {x : Nat} {v : SV}, eget (noEnv ds env) x = some v → eget env x = some v ∧ x ∉ ds
  | [], env, x, v, h => ⟨h, by simp⟩
  | d :: r, env, x, v, h => by
    simp only [noEnv] at h
    obtain ⟨h1, h2⟩ := noEnv_get h
    rw [eget_eset] at h1
    by_cases hx : x = d
    · rw [if_pos hx] at h1; split at h1 <;> cases h1
    · rw [if_neg hx] at h1
      exact ⟨h1, by simp [hx, h2]⟩
theorem noEnv_len : ∀ (ds : List Nat) (env : List (Option SV)), (noEnv ds env).length = env.length
  | [], _ => rfl
  | d :: r, env => by simp only [noEnv]; rw [noEnv_len, eset_length]
theorem dstIn_ok {m d : Nat} : ∀ {l : List Rec} {j : Nat}, dstIn m d j l = true → ∃ i r, l[i]? = some r ∧ bitB m (j + i) = true ∧ r.dst = some d
  | [], j, h => by cases h
  | r :: l, j, h => by
    unfold dstIn at h
    cases hc : (bitB m j && dstB d r.dst) with
    | true =>
      simp only [Bool.and_eq_true] at hc
      refine ⟨0, r, by simp, hc.1, ?_⟩
      cases hd : r.dst with
      | none => rw [hd] at hc; cases hc.2
      | some x => rw [hd] at hc; rw [Nat.eq_of_beq_eq_true hc.2]
    | false =>
      rw [hc] at h
      obtain ⟨i, r', h1, h2, h3⟩ := dstIn_ok h
      exact ⟨i + 1, r', by simpa using h1, by rw [show j + (i + 1) = j + 1 + i by omega]; exact h2, h3⟩
theorem csIn_ok {m : Nat} {acc : List Rec} : ∀ {cs : List (Nat × Bool)}, csIn m acc cs = true → ∀ x ∈ cs, ∃ i r, acc[i]? = some r ∧ bitB m i = true ∧ r.dst = some x.1
  | [], _, x, hx => by cases hx
  | y :: cs, h, x, hx => by
    unfold csIn at h
    cases hd : dstIn m y.1 0 acc with
    | false => rw [hd] at h; cases h
    | true =>
      rw [hd] at h
      rcases List.mem_cons.1 hx with rfl | hx
      · obtain ⟨i, r, h1, h2, h3⟩ := dstIn_ok hd
        exact ⟨i, r, h1, by rw [Nat.zero_add] at h2; exact h2, h3⟩
      · exact csIn_ok h x hx
theorem pass2_ok {c : Cfg} {ops : List Oper} {base : St} {masks : List Nat} {U : List (List Nat)} {nid : Nat} : ∀ {l : List Oper} {k : Nat} {acc recs : List Rec}, pass2 c ops base masks U nid l k acc = some recs → acc.length = k →
    recs.length = k + l.length ∧ recs.take k = acc ∧ ∀ i o, l[i]? = some o → ∃ m u r, masks[k + i]? = some m ∧ U[k + i]? = some u ∧ recs[k + i]? = some r ∧ evRec c ops (stAt (wipe ops masks (k + i) base) masks U (recs.take (k + i)) m (k + i)) (nid + 8 * (k + i)) o = some r ∧
      (∀ p ∈ r.e.upd, p.1 ∈ u) ∧ (∀ cs, r.cs = some cs → csIn m (recs.take (k + i)) cs = true) ∧ ∀ p ∈ r.e.upd, p.1 < nid ∨ nid + 8 * (k + i) ≤ p.1 ∨ bitB m ((p.1 - nid) / 8) = true
  | [], k, acc, recs, h, hl => by
    cases h
    exact ⟨by simp [hl], by rw [← hl]; simp, fun i o hi => by simp at hi⟩
  | o :: r, k, acc, recs, h, hl => by
    unfold pass2 at h
    split at h
    · rename_i m u hm hu
      split at h
      · rename_i rc hrc
        cases hb : (allIn u (rc.e.upd.map (·.1)) && (csIn1 m acc rc.cs && rangeB m nid (nid + 8 * k) (rc.e.upd.map (·.1)))) with
        | false => rw [hb] at h; cases h
        | true =>
          rw [hb] at h
          simp only [Bool.and_eq_true] at hb
          obtain ⟨h1, h2, h3⟩ := pass2_ok (l := r) h (by simp [hl])
          have hk : recs[k]? = some rc := by
            have : (recs.take (k + 1))[k]? = some rc := by rw [h2, ← hl]; simp
            rw [List.getElem?_take] at this
            simpa using this
          have htk : recs.take k = acc := by
            have := congrArg (List.take k) h2
            rw [List.take_take, Nat.min_eq_left (by omega)] at this
            rw [this, ← hl]; simp
          refine ⟨by rw [h1]; simp; omega, htk, fun i o' hi => ?_⟩
          cases i with
          | zero =>
            simp at hi; subst hi
            refine ⟨m, u, rc, hm, hu, hk, by rw [Nat.add_zero, htk]; exact hrc, fun p hp => ?_, fun cs hcs => ?_, fun p hp => range_ok hb.2.2 _ (List.mem_map.2 ⟨p, hp, rfl⟩)⟩
            · exact allIn_mem hb.1 _ (List.mem_map.2 ⟨p, hp, rfl⟩)
            · rw [Nat.add_zero, htk]
              have := hb.2.1
              rw [hcs] at this; exact this
          | succ i =>
            have := h3 i o' (by simpa using hi)
            rw [show k + 1 + i = k + (i + 1) by omega] at this
            exact this
      · cases h
    · cases h
where
  range_ok {m n0 n : Nat} : ∀ {l : List Nat}, rangeB m n0 n l = true → ∀ x ∈ l, x < n0 ∨ n ≤ x ∨ bitB m ((x - n0) / 8) = true
    | [], _, x, hx => by cases hx
    | y :: l, h, x, hx => by
      unfold rangeB at h
      cases hm : (Nat.blt y n0 || Nat.ble n y || bitB m (Nat.div (Nat.sub y n0) 8)) with
      | false => rw [hm] at h; cases h
      | true =>
        rw [hm] at h
        rcases List.mem_cons.1 hx with rfl | hx
        · simp only [Bool.or_eq_true, Nat.blt_eq, Nat.ble_eq] at hm
          exact or_assoc.1 hm
        · exact range_ok h x hx
  allIn_mem {ids : List Nat} : ∀ {l : List Nat}, allIn ids l = true → ∀ x ∈ l, x ∈ ids
    | [], _, x, hx => by cases hx
    | y :: l, h, x, hx => by
      unfold allIn at h
      cases hm : mem1 y ids with
      | false => rw [hm] at h; cases h
      | true =>
        rw [hm] at h
        rcases List.mem_cons.1 hx with rfl | hx
        · exact mem1_mem.1 hm
        · exact allIn_mem h x hx
theorem dstsK_mem {k : Nat} : ∀ {l : List Oper} {masks : List Nat} {q : Nat} {o : Oper} {d : Nat}, l[q]? = some o → o.dst = some d → d ∉ dstsK k l masks → ∃ m, masks[q]? = some m ∧ bitB m k = true
  | [], _, q, o, d, h, _, _ => by simp at h
  | x :: r, [], 0, o, d, h, hd, hn => by
    simp at h; subst h
    exact absurd (by simp [dstsK, hd]) hn
  | x :: r, [], q + 1, o, d, h, hd, hn => by
    have h : r[q]? = some o := by simpa using h
    obtain ⟨m, h1, _⟩ := dstsK_mem (k := k) (masks := []) h hd (fun hh => hn (by simp only [dstsK]; exact List.mem_append.2 (.inr hh)))
    simp at h1
  | x :: r, m :: ms, 0, o, d, h, hd, hn => by
    simp at h; subst h
    refine ⟨m, rfl, ?_⟩
    cases hb : bitB m k with
    | true => rfl
    | false => exact absurd (by simp [dstsK, hb, hd]) hn
  | x :: r, m :: ms, q + 1, o, d, h, hd, hn => by
    have h : r[q]? = some o := by simpa using h
    have hn' : d ∉ dstsK k r ms := fun hh => hn (by
      simp only [dstsK]
      cases bitB m k with
      | true => exact hh
      | false => exact List.mem_append.2 (.inr hh))
    simpa using dstsK_mem (masks := ms) h hd hn'
end Go.Vc
