/- What a function hands back. -/
import Derived.Test.YtddakledpipanaaVcCanon
set_option linter.unusedVariables false
set_option linter.unusedSimpArgs false
namespace Go.Vc
section
variable {c : Ctx} {ι ι' : Gh} {w : World} {M M' : Store}

/-- Where an expected entry's rows, objects lie; what has become stable. -/
structure Meets (c : Ctx) (ι : Gh) (w : World) (M : Store) (ι' : Gh) (M' : Store) (mt : Mt) : Prop where
  ps : ∀ p ∈ mt.ps, p
  bind : ∀ x ∈ mt.bind, ι'.base x.1 = ι.base x.2 ∧ ι'.cap x.1 = ι.cap x.2 ∧ ∃ e, M'.get x.1 = some e ∧ (e = .dead ∨ ∃ a, M.get x.2 = some a ∧ ((∃ e0 t fr ap l fr', e = .row e0 t fr ap l ∧ a = .row e0 t fr' ap l) ∨ (∃ ls ls', e = .obj ls ∧ a = .obj ls') ∨ ∃ t fr l fr', e = .frz t fr l ∧ a = .frz t fr' l))
  S : ∀ b, ι.S b → ι'.S b
  gone : ∀ id ∈ mt.gone, ∀ e k, M.get id = some e → e.live = true → ι.blk id = some k → ι'.S k

theorem SF.sub {fr fr' : Bool} (hS : ∀ b, ι.S b → ι'.S b) (h : (!fr' || fr) = true) : ∀ b, SF c ι fr b → SF c ι' fr' b := by
  intro b hb
  refine ⟨hS b hb.1, fun hf => hb.2 ?_⟩
  subst hf
  simpa using h
theorem matchL_rep (I : Inv c ι w M) {a l : Leaf} {mt : Mt} (h : matchL M a l = some mt) (H : Meets c ι w M ι' M' mt) {cs : List Value} (hr : LRep c ι w M a cs) : LRep c ι' w M' l cs := by
  have low : ∀ {fr fr' : Bool} {t : Ty} {y : t.den} {ds : List Value}, (!fr' || fr) = true → PRep (SF c ι fr) w t y ds → PRep (SF c ι' fr') w t y ds := fun hf hp => PRep.mono (SF.sub H.S hf) (fun _ _ => rfl) _ _ _ hp
  have low' : ∀ {fr fr' : Bool} {t : Ty} {y : t.den} {ds : List Value}, (!fr' || fr) = true → PRep (SF c ι' fr) w t y ds → PRep (SF c ι' fr') w t y ds := fun hf hp => PRep.mono (SF.sub (fun _ h => h) hf) (fun _ _ => rfl) _ _ _ hp
  cases a <;> cases l <;> simp only [matchL] at h <;> first | (cases h; done) | skip
  case int.int k x k' y =>
    split at h
    · rename_i hk; subst hk; cases h
      have : x = y := H.ps _ (by simp)
      subst this; exact hr
    · cases h
  case bool.bool x y =>
    cases h
    have : x = y := H.ps _ (by simp)
    subst this; exact hr
  case kb.bool x y =>
    cases h
    have : x = y := H.ps _ (by simp)
    subst this; exact hr
  case str.str x y =>
    cases h
    have : x = y := H.ps _ (by simp)
    subst this; exact hr
  case psl.psl fr t l fr' t' l' =>
    split at h
    · rename_i ht; subst ht
      cases hf : (!fr' || fr) with
      | false => rw [hf] at h; cases h
      | true =>
        rw [hf] at h; cases h
        have : l = l' := H.ps _ (by simp)
        subst this
        exact ⟨low hf hr.1, hr.2⟩
    · cases h
  case arr.arr n fr t l n' fr' t' l' =>
    split at h
    · rename_i ht; subst ht
      split at h
      · rename_i hn; subst hn
        cases hf : (!fr' || fr) with
        | false => rw [hf] at h; cases h
        | true =>
          rw [hf] at h; cases h
          have : l = l' := H.ps _ (by simp)
          subst this
          exact ⟨low hf hr.1, hr.2⟩
      · cases h
    · cases h
  case nils.psl fr' t' l' =>
    cases h
    have : [] = l' := H.ps _ (by simp)
    subst this
    rw [show cs = _ from hr]
    exact ⟨PRep.nil_slice _ _ _, Valid.nil _⟩
  case own.psl id fr' t' l' =>
    simp only [LRep] at hr
    cases hm : M.get id with
    | none => rw [hm] at h; cases h
    | some en =>
      rw [hm] at h hr
      cases en <;> simp only at h hr <;> first | (cases h; done) | skip
      · rename_i e0 t fr ap l
        split at h
        · rename_i ht; subst ht
          cases hf : (!fr' || fr) with
          | false => rw [hf] at h; cases h
          | true =>
            rw [hf] at h; cases h
            have : l = l' := H.ps _ (by simp)
            subst this
            have hE := (I.ents id _ hm).slice H.S (fun k hk => H.gone id (by simp) _ k hm rfl hk)
            rw [hr]
            exact ⟨low' hf hE.1, hE.2⟩
        · cases h
      · rename_i t fr l
        split at h
        · rename_i ht; subst ht
          cases hf : (!fr' || fr) with
          | false => rw [hf] at h; cases h
          | true =>
            rw [hf] at h; cases h
            have : l = l' := H.ps _ (by simp)
            subst this
            have hE := I.ents id _ hm
            rw [hr]
            exact ⟨low hf hE.1, hE.2⟩
        · cases h
  case sl.psl id lo n fr' t' l' =>
    simp only [LRep] at hr
    cases hm : M.get id with
    | none => rw [hm] at h; cases h
    | some en =>
      rw [hm] at h hr
      cases en <;> simp only at h hr <;> first | (cases h; done) | skip
      · rename_i e0 t fr ap l
        split at h
        · rename_i ht; subst ht
          cases hf : (!fr' || fr) with
          | false => rw [hf] at h; cases h
          | true =>
            rw [hf] at h; cases h
            have : (l.drop lo).take n = l' := H.ps _ (by simp)
            subst this
            obtain ⟨a, e1, e2, e3⟩ := hr
            have hE := (I.ents id _ hm).slice H.S (fun k hk => H.gone id (by simp) _ k hm rfl hk)
            rw [e1]
            exact ⟨low' hf (PRep.part hE.1 e2 e3), hE.2.part _ _⟩
        · cases h
      · rename_i t fr l
        split at h
        · rename_i ht; subst ht
          cases hf : (!fr' || fr) with
          | false => rw [hf] at h; cases h
          | true =>
            rw [hf] at h; cases h
            have : (l.drop lo).take n = l' := H.ps _ (by simp)
            subst this
            obtain ⟨a, e1, e2, e3⟩ := hr
            have hE := I.ents id _ hm
            rw [e1]
            exact ⟨low hf (PRep.part hE.1 e2 e3), hE.2.part _ _⟩
        · cases h
  case own.own id j =>
    cases h
    obtain ⟨hb, hc, e, h1, h3⟩ := H.bind (j, id) (by simp)
    rcases h3 with rfl | ⟨a, h2, h3⟩
    · have h1' := hr.one
      have h2' := hr.len
      simp only [LRep, h1]
      obtain ⟨v, rfl⟩ := List.length_eq_one_iff.1 h2'
      exact ⟨v, rfl, h1' v (by simp)⟩
    · simp only [LRep, h1, h2] at hr ⊢
      rcases h3 with ⟨_, _, _, _, _, _, rfl, rfl⟩ | ⟨_, _, rfl, rfl⟩ | ⟨_, _, _, _, rfl, rfl⟩
      · rw [hb, hc]; exact hr
      · exact hr
      · rw [hb, hc]; exact hr
  case ptr.ptr id o j o' =>
    cases ho : Nat.beq o o' with
    | false => rw [ho] at h; cases h
    | true =>
      rw [ho] at h; cases h
      have ho := Nat.eq_of_beq_eq_true ho
      subst ho
      obtain ⟨hb, hc, e, h1, h3⟩ := H.bind (j, id) (by simp)
      rcases h3 with rfl | ⟨a, h2, h3⟩
      · have h1' := hr.one
        have h2' := hr.len
        simp only [LRep, h1]
        obtain ⟨v, rfl⟩ := List.length_eq_one_iff.1 h2'
        exact ⟨v, rfl, h1' v (by simp)⟩
      · simp only [LRep, h1, h2] at hr ⊢
        rcases h3 with ⟨_, _, _, _, _, _, rfl, rfl⟩ | ⟨_, _, rfl, rfl⟩ | ⟨_, _, _, _, rfl, rfl⟩
        · exact hr
        · rw [hb]; exact hr
        · exact hr
  case nils.nils => exact hr
  case nilp.nilp => exact hr
  case nilf.nilf => exact hr
  case nili.nili => exact hr

theorem Meets.part {m1 m2 : Mt} (H : Meets c ι w M ι' M' m1) (hp : ∀ p ∈ m2.ps, p ∈ m1.ps) (hb : ∀ x ∈ m2.bind, x ∈ m1.bind) (hg : ∀ x ∈ m2.gone, x ∈ m1.gone) : Meets c ι w M ι' M' m2 :=
  ⟨fun p h => H.ps p (hp p h), fun x h => H.bind x (hb x h), H.S, fun id h => H.gone id (hg id h)⟩
theorem join_some {a b : Option Mt} {m : Mt} (h : Mt.join a b = some m) : ∃ x y, a = some x ∧ b = some y ∧ m = ⟨x.ps ++ y.ps, x.bind ++ y.bind, x.gone ++ y.gone⟩ := by
  cases a <;> cases b <;> simp only [Mt.join] at h <;> first | (cases h; done) | skip
  cases h; exact ⟨_, _, rfl, rfl, rfl⟩
theorem matchLs_rep (I : Inv c ι w M) : ∀ {as ls : List Leaf} {mt : Mt}, matchLs M as ls = some mt → Meets c ι w M ι' M' mt → ∀ {cs : List Value}, LsRep c ι w M as cs → LsRep c ι' w M' ls cs
  | [], [], mt, _, _, cs, hr => hr
  | [], _ :: _, mt, h, _, cs, hr => by simp [matchLs] at h
  | _ :: _, [], mt, h, _, cs, hr => by simp [matchLs] at h
  | a :: r, l :: s, mt, h, H, cs, ⟨c1, c2, h1, h2, h3⟩ => by
    simp only [matchLs] at h
    obtain ⟨x, y, hx, hy, rfl⟩ := join_some h
    exact ⟨c1, c2, h1, matchL_rep I hx (H.part (by simp +contextual) (by simp +contextual) (by simp +contextual)) h2,
      matchLs_rep I hy (H.part (by simp +contextual) (by simp +contextual) (by simp +contextual)) h3⟩
theorem matchV_rep (I : Inv c ι w M) {a b : V} {mt : Mt} (h : matchV M a b = some mt) (H : Meets c ι w M ι' M' mt) {v : Value} (hr : VRep c ι w M a v) : VRep c ι' w M' b v := by
  unfold matchV at h
  cases hag : (a.agg == b.agg) with
  | false => rw [hag] at h; cases h
  | true =>
    rw [hag] at h
    have hag : a.agg = b.agg := by simpa using hag
    obtain ⟨cs, h1, h2⟩ := hr
    exact ⟨cs, matchLs_rep I h H h1, by rw [← hag]; exact h2⟩
theorem matchVs_rep (I : Inv c ι w M) : ∀ {as ls : List V} {mt : Mt}, matchVs M as ls = some mt → Meets c ι w M ι' M' mt → ∀ {vs : List Value}, VsRep c ι w M as vs → VsRep c ι' w M' ls vs
  | [], [], mt, _, _, vs, hr => hr
  | [], _ :: _, mt, h, _, vs, hr => by simp [matchVs] at h
  | _ :: _, [], mt, h, _, vs, hr => by simp [matchVs] at h
  | a :: r, l :: s, mt, h, H, vs, ⟨v, ws, h1, h2, h3⟩ => by
    simp only [matchVs] at h
    obtain ⟨x, y, hx, hy, rfl⟩ := join_some h
    exact ⟨v, ws, h1, matchV_rep I hx (H.part (by simp +contextual) (by simp +contextual) (by simp +contextual)) h2,
      matchVs_rep I hy (H.part (by simp +contextual) (by simp +contextual) (by simp +contextual)) h3⟩
theorem matchSV_rep (I : Inv c ι w M) {a b : SV} {mt : Mt} (h : matchSV M a b = some mt) (H : Meets c ι w M ι' M' mt) {v : Value} (hr : SVRep c ι w M a v) : SVRep c ι' w M' b v := by
  cases a <;> cases b <;> simp only [matchSV] at h <;> first | (cases h; done) | skip
  · exact matchV_rep I h H hr
  · obtain ⟨vs, h1, h2⟩ := hr
    exact ⟨vs, h1, matchVs_rep I h H h2⟩
/-- An entry as expected. -/
theorem matchE_rep (I : Inv c ι w M) {id j : Nat} {a e : Entry} {mt : Mt} (h : matchE M a e = some mt) (H : Meets c ι w M ι' M' mt) (ha : M.get id = some a) (hb : ι'.base j = ι.base id) (hc : ι'.cap j = ι.cap id) : ERep c ι' w M' j e := by
  have hE := I.ents id a ha
  have low : ∀ {fr fr' : Bool} {t : Ty} {y : t.den} {ds : List Value}, (!fr' || fr) = true → PRep (SF c ι fr) w t y ds → PRep (SF c ι' fr') w t y ds := fun hf hp => PRep.mono (SF.sub H.S hf) (fun _ _ => rfl) _ _ _ hp
  cases e with
  | dead => trivial
  | row e0 t fr ap l =>
    cases a <;> simp only [matchE] at h <;> first | (cases h; done) | skip
    rename_i e1 t1 fr1 ap1 l1
    split at h
    · rename_i ht; subst ht
      cases hf : (Nat.beq e1 e0 && (!fr || fr1) && (ap == ap1)) with
      | false => rw [hf] at h; cases h
      | true =>
        rw [hf] at h; cases h
        simp only [Bool.and_eq_true] at hf
        obtain ⟨⟨f1, f2⟩, f3⟩ := hf
        have f1 : e1 = e0 := Nat.eq_of_beq_eq_true f1
        have f3 : ap = ap1 := by simpa using f3
        subst f1 f3
        have : l1 = l := H.ps _ (by simp)
        subst this
        obtain ⟨xs, h1, h2, h3⟩ := hE
        refine ⟨xs, low f2 h1, h2, ?_⟩
        rw [hb, hc]
        refine ⟨h3.1, ?_⟩
        rcases h3.2 with hn | ⟨g, cur, fz, k1, k2, k3⟩
        · exact .inl hn
        · refine .inr ⟨g, cur, fz, k1, Nat.le_trans ?_ k2, k3⟩
          cases fr
          · exact Nat.zero_le _
          · simp at f2; subst f2; exact Nat.le_refl _
    · cases h
  | frz t fr l =>
    cases a <;> simp only [matchE] at h <;> first | (cases h; done) | skip
    rename_i t1 fr1 l1
    split at h
    · rename_i ht; subst ht
      cases hf : (!fr || fr1) with
      | false => rw [hf] at h; cases h
      | true =>
        rw [hf] at h; cases h
        have : l1 = l := H.ps _ (by simp)
        subst this
        obtain ⟨h1, h2⟩ := hE
        refine ⟨?_, h2⟩
        rw [hb, hc]; exact low hf h1
    · cases h
  | obj ls =>
    cases a <;> simp only [matchE] at h <;> first | (cases h; done) | skip
    obtain ⟨b, cs, T, h1, h2, h3⟩ := hE
    exact ⟨b, cs, T, by rw [hb]; exact h1, h2, matchLs_rep I h H h3⟩

/-! ### the entries that are expected, one by one -/
theorem lookup1_app {j x : Nat} : ∀ {l r : List (Nat × Nat)}, lookup1 j l = some x → lookup1 j (l ++ r) = some x
  | [], r, h => by cases h
  | (i, y) :: l, r, h => by
    simp only [List.cons_append, lookup1] at h ⊢
    cases hb : Nat.beq i j with
    | true => rw [hb] at h; exact h
    | false => rw [hb] at h; exact lookup1_app h
theorem lookup1_mem {j x : Nat} : ∀ {l : List (Nat × Nat)}, lookup1 j l = some x → (j, x) ∈ l
  | [], h => by cases h
  | (i, y) :: l, h => by
    simp only [lookup1] at h
    cases hb : Nat.beq i j with
    | true => rw [hb] at h; cases h; rw [Nat.eq_of_beq_eq_true hb]; simp
    | false => rw [hb] at h; exact List.mem_cons_of_mem _ (lookup1_mem h)
theorem matchEs_ok : ∀ {es : List Entry} {j : Nat} {m m' : Mt}, matchEs M j es m = some m' →
    (∀ p ∈ m.ps, p ∈ m'.ps) ∧ (∃ r, m'.bind = m.bind ++ r) ∧ (∀ g ∈ m.gone, g ∈ m'.gone) ∧
    ∀ (i : Nat) e, es[i]? = some e → e = .dead ∨ ∃ id a x, lookup1 (j + i) m'.bind = some id ∧ M.get id = some a ∧ matchE M a e = some x ∧ (∀ p ∈ x.ps, p ∈ m'.ps) ∧ (∀ y ∈ x.bind, y ∈ m'.bind) ∧ ∀ g ∈ x.gone, g ∈ m'.gone
  | [], j, m, m', h => by
    cases h
    exact ⟨fun _ h => h, ⟨[], by simp⟩, fun _ h => h, fun i e h => by simp at h⟩
  | e :: r, j, m, m', h => by
    unfold matchEs at h
    cases hl : lookup1 j m.bind with
    | some id =>
      rw [hl] at h
      simp only at h
      cases hm : M.get id with
      | none => rw [hm] at h; cases h
      | some a =>
        rw [hm] at h
        simp only at h
        cases hx : matchE M a e with
        | none => rw [hx] at h; cases h
        | some x =>
          rw [hx] at h
          simp only at h
          obtain ⟨h1, ⟨r', h2⟩, h3, h4⟩ := matchEs_ok h
          refine ⟨fun p hp => h1 p (by simp [hp]), ⟨x.bind ++ r', by rw [h2, List.append_assoc]⟩, fun g hg => h3 g (by simp [hg]), fun i e' he => ?_⟩
          cases i with
          | zero =>
            simp at he; subst he
            refine .inr ⟨id, a, x, ?_, hm, hx, fun p hp => h1 p (by simp [hp]), fun y hy => by rw [h2]; simp [hy], fun g hg => h3 g (by simp [hg])⟩
            rw [h2, List.append_assoc]; exact lookup1_app hl
          | succ i =>
            have := h4 i e' (by simpa using he)
            rw [show j + 1 + i = j + (i + 1) by omega] at this
            exact this
    | none =>
      rw [hl] at h
      simp only at h
      cases e <;> simp only at h <;> first | (cases h; done) | skip
      obtain ⟨h1, h2, h3, h4⟩ := matchEs_ok h
      refine ⟨h1, h2, h3, fun i e' he => ?_⟩
      cases i with
      | zero => simp at he; exact .inl he.symm
      | succ i =>
        have := h4 i e' (by simpa using he)
        rw [show j + 1 + i = j + (i + 1) by omega] at this
        exact this
theorem dedup_ok : ∀ {l acc b : List (Nat × Nat)}, dedup acc l = some b → (∃ r, b = acc ++ r) ∧ (∀ x ∈ l, lookup1 x.1 b = some x.2)
  | [], acc, b, h => by cases h; exact ⟨⟨[], by simp⟩, fun x hx => by cases hx⟩
  | (j, i) :: r, acc, b, h => by
    unfold dedup at h
    cases hl : lookup1 j acc with
    | some i' =>
      rw [hl] at h
      simp only at h
      cases hb : Nat.beq i i' with
      | false => rw [hb] at h; cases h
      | true =>
        rw [hb] at h
        have hb := Nat.eq_of_beq_eq_true hb
        subst hb
        obtain ⟨⟨r', h1⟩, h2⟩ := dedup_ok h
        refine ⟨⟨r', h1⟩, fun x hx => ?_⟩
        rcases List.mem_cons.1 hx with rfl | hx
        · rw [h1]; exact lookup1_app hl
        · exact h2 x hx
    | none =>
      rw [hl] at h
      simp only at h
      obtain ⟨⟨r', h1⟩, h2⟩ := dedup_ok h
      refine ⟨⟨(j, i) :: r', by rw [h1]; simp⟩, fun x hx => ?_⟩
      rcases List.mem_cons.1 hx with rfl | hx
      · have : ∀ (l r : List (Nat × Nat)), lookup1 j l = none → lookup1 j (l ++ (j, i) :: r) = some i := by
          intro l
          induction l with
          | nil => intro r _; simp [lookup1]
          | cons y l ih =>
            intro r hn
            simp only [lookup1, List.cons_append] at hn ⊢
            cases hb : Nat.beq y.1 j with
            | true => rw [hb] at hn; cases hn
            | false => rw [hb] at hn; exact ih r hn
        rw [h1, List.append_assoc]; exact this acc r' hl
      · exact h2 x hx
end
end Go.Vc
