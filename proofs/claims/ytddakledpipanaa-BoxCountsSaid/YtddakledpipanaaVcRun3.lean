/- Tests that are learned; operations that are no single step; a region. -/
import Derived.Test.YtddakledpipanaaVcRun2
set_option linter.unusedVariables false
set_option linter.unusedSimpArgs false
namespace Go.Vc
section
variable {P : Program} {c : Ctx} {ι ι' : Gh} {w w' : World} {a : Act} {o : Oper} {cfg : Cfg}

theorem delC_some {d : Nat} {b : Bool} (hd : a.eval (.tmp d) = .bool b) : ∀ {k k' : List (Nat × Bool)}, delC d b k = some k' → (Holds a k ↔ Holds a k')
  | [], k', h => by cases h; exact Iff.rfl
  | (i, x) :: r, k', h => by
    unfold delC at h
    cases hb : Nat.beq i d with
    | true =>
      rw [hb] at h
      simp only [cond_true] at h
      cases hx : (x == b) with
      | false => rw [hx] at h; cases h
      | true =>
        rw [hx] at h
        simp only [cond_true] at h
        have ih := delC_some hd h
        have hi : i = d := Nat.eq_of_beq_eq_true hb
        have hx : x = b := by simpa using hx
        subst hi hx
        constructor
        · intro hk; exact ih.1 fun y hy => hk y (by simp [hy])
        · intro hk y hy
          rcases List.mem_cons.1 hy with rfl | hy
          · exact hd
          · exact ih.2 hk y hy
    | false =>
      rw [hb] at h
      simp only [cond_false] at h
      cases hr : delC d b r with
      | none => rw [hr] at h; cases h
      | some l =>
        rw [hr] at h
        cases h
        have ih := delC_some hd hr
        constructor
        · intro hk y hy
          rcases List.mem_cons.1 hy with rfl | hy
          · exact hk _ (by simp)
          · exact ih.1 (fun z hz => hk z (by simp [hz])) y hy
        · intro hk y hy
          rcases List.mem_cons.1 hy with rfl | hy
          · exact hk _ (by simp)
          · exact ih.2 (fun z hz => hk z (by simp [hz])) y hy
theorem delC_none {d : Nat} {b : Bool} (hd : a.eval (.tmp d) = .bool b) : ∀ {k : List (Nat × Bool)}, delC d b k = none → ¬ Holds a k
  | [], h => by cases h
  | (i, x) :: r, h => by
    unfold delC at h
    intro hk
    cases hb : Nat.beq i d with
    | true =>
      rw [hb] at h
      simp only [cond_true] at h
      have hi : i = d := Nat.eq_of_beq_eq_true hb
      subst hi
      have hx := hk (i, x) (by simp)
      rw [hd] at hx
      have hx : b = x := by simpa using hx
      subst hx
      simp only [BEq.rfl, cond_true] at h
      exact delC_none hd h fun y hy => hk y (by simp [hy])
    | false =>
      rw [hb] at h
      simp only [cond_false] at h
      cases hr : delC d b r with
      | some l => rw [hr] at h; cases h
      | none => exact delC_none hd hr fun y hy => hk y (by simp [hy])

theorem learn_go {M : Store} {d : Nat} {b : Bool} (hd : a.eval (.tmp d) = .bool b) : ∀ (l : List (Nat × List (Nat × Bool) × SV)) (env : List (Option SV)), (∀ i v, eget env i = some v → SVRep c ι w M v (a.eval (.tmp i))) →
    (∀ x ∈ l, Holds a x.2.1 → SVRep c ι w M x.2.2 (a.eval (.tmp x.1))) → (∀ x ∈ l, ¬ Holds a x.2.1 → a.eval (.tmp x.1) = undef) →
    (learn.go d b l env).length = env.length ∧ ∀ i v, eget (learn.go d b l env) i = some v → SVRep c ι w M v (a.eval (.tmp i))
  | [], env, h1, _, _ => ⟨rfl, h1⟩
  | (j, k, u) :: r, env, h1, h2, h3 => by
    obtain ⟨ih1, ih2⟩ := learn_go hd r env h1 (fun x hx => h2 x (by simp [hx])) (fun x hx => h3 x (by simp [hx]))
    have put : ∀ x, (SVRep c ι w M x (a.eval (.tmp j))) → (cond (Nat.beq j d) (learn.go d b r env) (eset (learn.go d b r env) j (some x))).length = env.length ∧
        ∀ i v, eget (cond (Nat.beq j d) (learn.go d b r env) (eset (learn.go d b r env) j (some x))) i = some v → SVRep c ι w M v (a.eval (.tmp i)) := by
      intro x hx
      cases Nat.beq j d with
      | true => exact ⟨ih1, ih2⟩
      | false =>
        refine ⟨by rw [cond_false, eset_length]; exact ih1, fun i v hi => ?_⟩
        rw [cond_false, eget_eset] at hi
        by_cases hij : i = j
        · subst hij
          rw [if_pos rfl] at hi
          split at hi
          · cases hi; exact hx
          · cases hi
        · rw [if_neg hij] at hi; exact ih2 i v hi
    unfold learn.go
    cases hdel : delC d b k with
    | none =>
      have hn := delC_none hd hdel
      exact put _ (by rw [h3 (j, k, u) (by simp) hn]; exact ⟨[], rfl, rfl⟩)
    | some k' =>
      cases k' with
      | nil => exact put _ (h2 (j, k, u) (by simp) ((delC_some hd hdel).2 (fun x hx => by cases hx)))
      | cons _ _ => exact ⟨ih1, ih2⟩
theorem learn_keep {d : Nat} {b : Bool} (hd : a.eval (.tmp d) = .bool b) : ∀ (l : List (Nat × List (Nat × Bool) × SV)), ∀ x ∈ learn.keep d b l, ∃ k, (x.1, k, x.2.2) ∈ l ∧ (Holds a k ↔ Holds a x.2.1)
  | [] => fun x hx => by cases hx
  | (j, k, u) :: r => by
    intro x hx
    have ih := learn_keep hd r
    have up : x ∈ learn.keep d b r → ∃ k', (x.1, k', x.2.2) ∈ (j, k, u) :: r ∧ (Holds a k' ↔ Holds a x.2.1) := fun h => by
      obtain ⟨k', h1, h2⟩ := ih x h
      exact ⟨k', by simp [h1], h2⟩
    unfold learn.keep at hx
    cases hdel : delC d b k with
    | none => rw [hdel] at hx; exact up hx
    | some k' =>
      rw [hdel] at hx
      cases k' with
      | nil => exact up hx
      | cons y l =>
        simp only at hx
        cases hj : Nat.beq j d with
        | true => rw [hj] at hx; exact up hx
        | false =>
          rw [hj] at hx
          rcases List.mem_cons.1 hx with rfl | hx
          · exact ⟨k, by simp, delC_some hd hdel⟩
          · exact up hx
theorem learn_rep {s : St} (F : FRep c ι w s a) {d : Nat} {b : Bool} (hd : a.eval (.tmp d) = .bool b) : FRep c ι w (learn d b s) a := by
  have h0 : ∀ i v, eget (eset s.env d (some (.one (.kb b)))) i = some v → SVRep c ι w s.M v (a.eval (.tmp i)) := by
    intro i v hi
    rw [eget_eset] at hi
    by_cases hij : i = d
    · subst hij
      rw [if_pos rfl] at hi
      split at hi
      · cases hi; rw [hd]; exact SVRep.one rfl
      · cases hi
    · rw [if_neg hij] at hi; exact F.env i v hi
  obtain ⟨h1, h2⟩ := learn_go hd s.cenv _ h0 F.cenv F.cund
  refine ⟨?_, h2, fun x hx hk => ?_, fun x hx hk => ?_⟩
  · show (learn.go d b s.cenv _).length ≤ _
    rw [h1, eset_length]; exact F.len
  · obtain ⟨k, h3, h4⟩ := learn_keep hd s.cenv x hx
    exact F.cenv (x.1, k, x.2.2) h3 (h4.2 hk)
  · obtain ⟨k, h3, h4⟩ := learn_keep hd s.cenv x hx
    exact F.cund (x.1, k, x.2.2) h3 (fun hh => hk (h4.1 hh))

theorem split_sound {T : Prop} : ∀ {cs : List (Nat × Bool)} {s : St} {K : Bool → St → Prop}, split cs s K → FRep c ι w s a →
    (∀ ok s', K ok s' → s'.M = s.M → FRep c ι w s' a → (ok = true → Holds a cs) → (ok = false → ¬ Holds a cs) → T) → T
  | [], s, K, h, F, hT => hT true s h rfl F (fun _ x hx => by cases hx) (fun hh => by cases hh)
  | (d, b) :: r, s, K, h, F, hT => by
    unfold split at h
    refine split_sound h F fun ok s' hk hM F' h1 h2 => ?_
    cases ok with
    | false => exact hT false s' hk hM F' (fun hh => by cases hh) (fun _ hh => h2 rfl fun x hx => hh x (by simp [hx]))
    | true =>
      simp only at hk
      have hr := h1 rfl
      have cons : ∀ {x : Bool}, a.eval (.tmp d) = .bool x → (x = b → Holds a ((d, b) :: r)) ∧ (x ≠ b → ¬ Holds a ((d, b) :: r)) := fun {x} hx =>
        ⟨fun hxb y hy => (List.mem_cons.1 hy).elim (fun h => by rw [h, ← hxb]; exact hx) (hr y), fun hxb hh => by
          have := hh (d, b) (by simp)
          rw [hx] at this
          exact hxb (by simpa using this)⟩
      split at hk
      · rename_i x he
        have hx := bool_rep (F'.env d _ he)
        obtain ⟨c1, c2⟩ := cons hx
        cases x with
        | true =>
          simp only [cond_true] at hk
          refine hT b _ hk hM (learn_rep F' hx) (fun hb => c1 hb.symm) (fun hb => c2 (by rw [hb]; simp))
        | false =>
          simp only [cond_false] at hk
          refine hT (!b) _ hk hM (learn_rep F' hx) (fun hb => c1 (by cases b <;> simp_all)) (fun hb => c2 (by cases b <;> simp_all))
      · rename_i x he
        have hx := kb_rep (F'.env d _ he)
        obtain ⟨c1, c2⟩ := cons hx
        exact hT (x == b) s' hk hM F' (fun hb => c1 (by simpa using hb)) (fun hb => c2 (by simpa using hb))
      · exact hk.elim

/-- What is owed of a call that is walked into is enough. -/
def InlOk (P : Program) (cfg : Cfg) (inl : Inl) : Prop :=
  ∀ (f : Nat) (vs : List V) (s : St2) (K : SV → St2 → Prop) (c : Ctx) (ι : Gh) (w : World) (us : List Value), inl f vs s K → Inv c ι w s.s.M → (∀ j, s.next ≤ j → s.s.M.get j = none) → ConstOk P cfg c ι w → VsRep c ι w s.s.M vs us →
    Does P f us.toArray w fun v w' => ∃ ι' s' sv, Inv c ι' w' s'.s.M ∧ Ext ι w s.s.M ι' w' s'.s.M ∧ (∀ j, s'.next ≤ j → s'.s.M.get j = none) ∧ SVRep c ι' w' s'.s.M sv v ∧ K sv s'

theorem nilLen_ok {M : Store} {l : Leaf} {v : Value} {n : Nat} {k : Bool} (h : nilLen l = some (n, k)) (hr : LRep c ι w M l [v]) : ∃ a m cp, v = .slice a m cp ∧ (a = none → n = 0) ∧ (k = true → a = none) := by
  cases l <;> simp only [nilLen] at h <;> first | (cases h; done) | skip
  · rename_i fr t l
    cases h
    obtain ⟨⟨a, m, cp, h1, h2, h3, h4⟩, _⟩ := hr
    refine ⟨a, m, cp, by simpa using h1, fun ha => ?_, fun hk => by cases hk⟩
    rcases Nat.eq_zero_or_pos m with h0 | h0
    · rw [h2]; exact h0
    · obtain ⟨ad, h5, _⟩ := h4 h0
      rw [ha] at h5; cases h5
  · cases h
    have hr : [v] = [Value.slice none 0 0] := hr
    exact ⟨none, 0, 0, by simpa using hr, fun _ => rfl, fun _ => rfl⟩
theorem isSlT_sl (tab : TabOk P cfg) {T : Nat} (h : isSlT cfg T = true) : ∃ e, P.underlying T = some (.slice e) := by
  unfold isSlT at h
  split at h
  · rename_i e _ _ _ hT
    obtain ⟨d, i, h1, _, _, _, h2, _⟩ := (tab T _ hT).ex
    have h2 : d = .slice e := h2
    exact ⟨e, by rw [h1, h2]⟩
  · cases h
theorem run_equalIn_nil {T e : Nat} (hT : P.underlying T = some (.slice e)) (d : Nat) (ad : Option Addr) (m cp : Nat) : (Op.equalIn (d + 1) T (.slice ad m cp) (.slice none 0 0)).run P w = .ok ad.isNone w := by
  cases ad <;> simp only [Op.equalIn, Sem.run_bind, run_underlying hT, Result.andThen_ok] <;> rfl
theorem nilTest_ok {s : St} (tab : TabOk P cfg) (F : FRep c ι w s a) (G : ConstOk P cfg c ι w) {e : Bool} {n : Nat} {k : Bool} (h : nilTest cfg s o.op = some (e, n, k)) :
    ∃ v nb, (execOp a.eval o).run P w = .ok (.value v) w ∧ SVRep c ι w s.M (.one (.bool (cond e nb (!nb)))) v ∧ (nb = true → n = 0) ∧ (k = true → nb = true) := by
  have hkn : Holds a [] := fun x hx => by cases hx
  unfold nilTest at h
  split at h
  · rename_i T x T' ho
    cases hb : isSlT cfg T with
    | false => rw [hb] at h; cases h
    | true =>
      rw [hb] at h
      simp only [cond_true] at h
      obtain ⟨el, hT⟩ := isSlT_sl tab hb
      split at h
      · rename_i l hl
        split at h
        · rename_i n' k' hnl
          cases h
          obtain ⟨ad, m, cp, h1, h2, h3⟩ := nilLen_ok hnl (opl_rep F G hkn hl)
          refine ⟨.bool ad.isNone, ad.isNone, ?_, SVRep.one rfl, fun hh => h2 (by simpa using hh), fun hh => by simpa using h3 hh⟩
          refine exec_bin ho ?_ ?_
          · rw [h1]; rfl
          · rw [h1]
            show (binOp .eql T (.slice ad m cp) (.slice none 0 0)).run P w = _
            show (do pure (Value.bool (← Op.equalIn (9999 + 1) T (.slice ad m cp) (.slice none 0 0)))).run P w = _
            rw [Sem.run_bind, run_equalIn_nil hT, Result.andThen_ok]
            rfl
        · cases h
      · cases h
  · rename_i T x T' ho
    cases hb : isSlT cfg T with
    | false => rw [hb] at h; cases h
    | true =>
      rw [hb] at h
      simp only [cond_true] at h
      obtain ⟨el, hT⟩ := isSlT_sl tab hb
      split at h
      · rename_i l hl
        split at h
        · rename_i n' k' hnl
          cases h
          obtain ⟨ad, m, cp, h1, h2, h3⟩ := nilLen_ok hnl (opl_rep F G hkn hl)
          refine ⟨.bool (!ad.isNone), ad.isNone, ?_, SVRep.one rfl, fun hh => h2 (by simpa using hh), fun hh => by simpa using h3 hh⟩
          refine exec_bin ho ?_ ?_
          · rw [h1]; rfl
          · rw [h1]
            show (binOp .neq T (.slice ad m cp) (.slice none 0 0)).run P w = _
            show (do pure (Value.bool (!(← Op.equalIn (9999 + 1) T (.slice ad m cp) (.slice none 0 0))))).run P w = _
            rw [Sem.run_bind, run_equalIn_nil hT, Result.andThen_ok]
            rfl
        · cases h
      · cases h
  · cases h

theorem slow_sound {inl : Inl} (hinl : InlOk P cfg inl) {s : St2} (tab : TabOk P cfg) (sums : SumsOk P cfg) (R : Rel c ι w s a) (G : ConstOk P cfg c ι w) {ops : Array Oper} {K : St2 → Prop} (h : slow cfg inl ops.toList o s K)
    {next : Act → World → Prop} {Q : Exit → Act → World → Prop} (hn : Goes c ι w s.s.M a K next) :
    if Region.wanted o (yielded ops a.tmps) then o.wp P a w next Q else next (a.put o.dst undef) w := by
  obtain ⟨I, F, fr⟩ := R
  unfold slow at h
  cases hc : condsOf ops.toList s.s o.guard with
  | none => rw [hc] at h; exact h.elim
  | some r =>
    have hw := condsOf_ok F hc
    rw [hc] at h
    cases r with
    | none => exact h.elim
    | some cs =>
      simp only at h
      refine split_sound h F fun ok s' hk hM F' h1 h2 => ?_
      have I' : Inv c ι w s'.M := by rw [hM]; exact I
      have fr' : ∀ j, s.next ≤ j → s'.M.get j = none := fun j hj => by rw [hM]; exact fr j hj
      cases ok with
      | false =>
        have hnw : Region.wanted o (yielded ops a.tmps) = false := by
          cases hh : Region.wanted o (yielded ops a.tmps) with
          | false => rfl
          | true => obtain ⟨cs', hcs, hk'⟩ := hw.1 hh; cases hcs; exact absurd hk' (h2 rfl)
        rw [hnw, if_neg (by simp)]
        simp only at hk
        unfold goOn at hk
        split at hk
        · rename_i t ht
          obtain ⟨hM', F''⟩ := F'.put (u := undef) ht (fun _ => ⟨[], rfl, rfl⟩) (fun _ => rfl)
          refine hn _ _ _ ι hk ⟨by rw [hM']; exact I', F'', fun j hj => by rw [hM']; exact fr' j hj⟩ (by rw [hM', hM]; exact Ext.refl _ _ _) (put_defers ..)
        · exact hk.elim
      | true =>
        rw [hw.2 ⟨cs, rfl, h1 rfl⟩, if_pos rfl]
        have hkn : Holds a [] := fun x hx => by cases hx
        simp only at hk
        cases he : evEff cfg s' [] s.next o with
        | some e =>
          rw [he] at hk
          simp only at hk
          obtain ⟨hp, hk⟩ := conj_iff.1 hk
          unfold goOn at hk
          split at hk
          · rename_i t ht
            refine (evEff_sound tab sums I' F' G hkn (fun j h1 _ => fr' j h1) he hp).imp fun v w' ι' I'' x hv => ?_
            obtain ⟨hM', F''⟩ := (F'.ext x).put (u := v) ht (fun _ => hv) (fun hh => absurd hkn hh)
            have hb := below_ok (u := e.upd) fr'
            exact hn _ _ _ ι' hk ⟨by rw [hM']; exact I'', F'', fun j hj => by rw [hM']; exact hb j hj⟩ (by rw [hM', ← hM]; exact x) (put_defers ..)
          · exact hk.elim
        | none =>
          rw [he] at hk
          simp only at hk
          cases hnt : nilTest cfg s' o.op with
          | some q =>
            obtain ⟨eq, n, k⟩ := q
            rw [hnt] at hk
            simp only at hk
            obtain ⟨v, nb, g1, g2, g3, g4⟩ := nilTest_ok (P := P) (w := w) tab F' G hnt
            have hk := hk nb g3 g4
            unfold goOn at hk
            split at hk
            · rename_i t ht
              obtain ⟨hM', F''⟩ := F'.put (u := v) ht (fun _ => g2) (fun hh => absurd hkn hh)
              unfold Oper.wp
              rw [g1]
              exact hn _ _ _ ι hk ⟨by rw [hM']; exact I', F'', fun j hj => by rw [hM']; exact fr' j hj⟩ (by rw [hM', hM]; exact Ext.refl _ _ _) (put_defers ..)
            · exact hk.elim
          | none =>
          rw [hnt] at hk
          simp only at hk
          cases hwt : wantOf cfg s' [] o.op with
          | none => rw [hwt] at hk; exact hk.elim
          | some wt =>
            rw [hwt] at hk
            simp only at hk
            unfold wantOf at hwt
            split at hwt
            · rename_i f args ts ho
              split at hwt
              · rename_i g caps vs hf ha
                cases hwt
                obtain ⟨us, k1, k2⟩ := call_parts I' F' G hkn ho hf ha
                unfold Oper.wp
                rw [k2]
                refine hinl g _ _ _ c ι w us hk I' fr' G k1 o a next Q fun v w' hv => ?_
                obtain ⟨ι', s'', sv, i1, i2, i3, i4, hk'⟩ := hv
                unfold goOn at hk'
                split at hk'
                · rename_i t ht
                  obtain ⟨hM', F''⟩ := (F'.ext i2).put (u := v) ht (fun _ => i4) (fun hh => absurd hkn hh)
                  exact hn _ _ _ ι' hk' ⟨by rw [hM']; exact i1, F'', fun j hj => by rw [hM']; exact i3 j hj⟩ (by rw [hM', ← hM]; exact i2) (put_defers ..)
                · exact hk'.elim
              · cases hwt
            · cases hwt

theorem runOps_sound {inl : Inl} (hinl : InlOk P cfg inl) (tab : TabOk P cfg) (sums : SumsOk P cfg) {ops : Array Oper} {K : St2 → Prop} {Q : Exit → Act → World → Prop} :
    ∀ (l : List Oper) {ι : Gh} {w : World} {s : St2} {a : Act}, runOps cfg inl ops.toList l s K → Rel c ι w s a → ConstOk P cfg c ι w → Goes c ι w s.s.M a K (Q .normal) → wpList P ops Q l a w
  | [], ι, w, s, a, h, R, G, hn => by
    obtain ⟨I, F, fr⟩ := R
    exact hn _ a w ι h ⟨I, ⟨F.len, F.env, fun _ hx => (List.not_mem_nil hx).elim, fun _ hx => (List.not_mem_nil hx).elim⟩, fr⟩ (Ext.refl _ _ _) rfl
  | o :: r, ι, w, s, a, h, R, G, hn => by
    unfold runOps at h
    unfold wpList
    cases hs : stepOp cfg ops.toList s o with
    | some q =>
      obtain ⟨ps, s'⟩ := q
      rw [hs] at h
      simp only at h
      obtain ⟨hp, h⟩ := conj_iff.1 h
      have := stepOp_sound (Q := Q) (next := wpList P ops Q r) tab sums R G hs hp fun t a' w' ι' ht R' x hd => by
        subst ht
        exact runOps_sound hinl tab sums r h R' (G.mono x) (hn.trans x hd)
      split
      · rename_i hw; rw [if_pos hw] at this; exact .inl this
      · rename_i hw; rw [if_neg hw] at this; exact this
    | none =>
      rw [hs] at h
      simp only at h
      have := slow_sound (Q := Q) (next := wpList P ops Q r) hinl tab sums R G h fun t a' w' ι' ht R' x hd => 
        runOps_sound hinl tab sums r ht R' (G.mono x) (hn.trans x hd)
      split
      · rename_i hw; rw [if_pos hw] at this; exact .inl this
      · rename_i hw; rw [if_neg hw] at this; exact this
end
end Go.Vc
