/- A region's operations, one behind the other: what is owed of them is enough. -/
import Derived.Test.YtddakledpipanaaVcRun
set_option linter.unusedVariables false
set_option linter.unusedSimpArgs false
namespace Go.Vc

/-- The evaluator's state stands for the machine's. -/
structure Rel (c : Ctx) (ι : Gh) (w : World) (s : St2) (a : Act) : Prop where
  inv : Inv c ι w s.s.M
  rep : FRep c ι w s.s a
  fresh : ∀ j, s.next ≤ j → s.s.M.get j = none

section
variable {P : Program} {c : Ctx} {ι ι' : Gh} {w w' : World} {a : Act} {o : Oper} {cfg : Cfg}

theorem OpWp.imp {M : Store} {sv : SV} {u : List (Nat × Entry)} (h : OpWp P c ι w M a o sv u) {next Q} (hn : ∀ v w' ι', Inv c ι' w' (M.upds u) → Ext ι w M ι' w' (M.upds u) → SVRep c ι' w' (M.upds u) sv v → next (a.put o.dst v) w') : o.wp P a w next Q := h next Q hn

theorem evEff_sound {s : St} (tab : TabOk P cfg) (sums : SumsOk P cfg) (I : Inv c ι w s.M) (F : FRep c ι w s a) (G : ConstOk P cfg c ι w) {cs : List (Nat × Bool)} (hk : Holds a cs) {nid : Nat} (hid : ∀ j, nid ≤ j → j < nid + 8 → s.M.get j = none)
    {e : Eff} (h : evEff cfg s cs nid o = some e) (hp : ∀ p ∈ e.pre, p) : OpWp P c ι w s.M a o e.sv e.upd := by
  have key : ∀ e, evOp cfg s cs nid o.op o.type = some e → below (nid + 8) e.upd = true → (∀ p ∈ e.pre, p) → OpWp P c ι w s.M a o e.sv e.upd := by
    intro e h hbl hp
    cases hn : notCall o.op with
    | true => exact evOp_sound tab I F G hk (hid nid (Nat.le_refl _) (by omega)) hn h hp
    | false => exact evCallOp_sound sums I F G hk hid hn h hbl hp
  unfold evEff at h
  cases he : evEff0 cfg s cs nid o with
  | none => rw [he] at h; cases h
  | some e' =>
    rw [he] at h
    simp only at h
    cases hb : below (nid + 8) e'.upd with
    | false => rw [hb] at h; cases h
    | true =>
      rw [hb] at h; cases h
      unfold evEff0 at he
      split at he
      · rename_i x p q ho
        exact evPick_sound I F G hk ho he
      · exact key _ he hb hp
theorem evEff_below {s : St} {cs : List (Nat × Bool)} {nid : Nat} {e : Eff} (h : evEff cfg s cs nid o = some e) : below (nid + 8) e.upd = true := by
  unfold evEff at h
  cases he : evEff0 cfg s cs nid o with
  | none => rw [he] at h; cases h
  | some e' =>
    rw [he] at h
    simp only at h
    cases hb : below (nid + 8) e'.upd with
    | false => rw [hb] at h; cases h
    | true => rw [hb] at h; cases h; exact hb
theorem bump_ok : ∀ {u : List (Nat × Entry)} {n : Nat}, n ≤ bump n u ∧ ∀ p ∈ u, p.1 < bump n u
  | [], n => ⟨Nat.le_refl _, fun p hp => by cases hp⟩
  | x :: r, n => by
    unfold bump
    obtain ⟨h1, h2⟩ := bump_ok (u := r) (n := cond (Nat.ble n x.1) (x.1 + 1) n)
    have h3 : n ≤ cond (Nat.ble n x.1) (x.1 + 1) n ∧ x.1 < cond (Nat.ble n x.1) (x.1 + 1) n := by
      cases hb : Nat.ble n x.1 with
      | true => have := Nat.le_of_ble_eq_true hb; simp; omega
      | false =>
        have : ¬ n ≤ x.1 := fun h => by rw [Nat.ble_eq_true_of_le h] at hb; cases hb
        simp; omega
    refine ⟨by omega, fun p hp => ?_⟩
    rcases List.mem_cons.1 hp with rfl | hp
    · omega
    · exact h2 p hp
theorem upds_fresh {n : Nat} : ∀ {u : List (Nat × Entry)} {M : Store}, (∀ p ∈ u, p.1 < n) → (∀ j, n ≤ j → M.get j = none) → ∀ j, n ≤ j → (M.upds u).get j = none
  | [], M, _, h => h
  | x :: r, M, hb, h => by
    have hx := hb x (by simp)
    exact upds_fresh (M := M.set x.1 x.2) (fun p hp => hb p (List.mem_cons_of_mem _ hp)) fun j hj => by rw [Store.get_set_other _ _ _ _ (by omega)]; exact h j hj
theorem below_ok {n : Nat} {u : List (Nat × Entry)} {M : Store} (h : ∀ j, n ≤ j → M.get j = none) : ∀ j, bump n u ≤ j → (M.upds u).get j = none := by
  obtain ⟨h1, h2⟩ := bump_ok (u := u) (n := n)
  exact upds_fresh h2 fun j hj => h j (by omega)

theorem under_ok {s : St} (F : FRep c ι w s a) : ∀ {k : List (Nat × Bool)} {p q : Prop}, under s k p = some q → Holds a k → q → p
  | [], p, q, h, _, hq => by cases h; exact hq
  | (d, b) :: r, p, q, h, hk, hq => by
    unfold under at h
    split at h
    · rename_i k' x hs
      cases hu : under s r p with
      | none => rw [hu] at h; cases h
      | some q' =>
        rw [hu] at h
        cases h
        have hd := hk (d, b) (by simp)
        refine under_ok F hu (fun y hy => hk y (by simp [hy])) (hq ?_)
        by_cases hk' : Holds a k'
        · have := bool_rep (F.slot hs hk')
          rw [this] at hd
          simpa using hd
        · rw [F.slot_und hs hk'] at hd; exact absurd hd (und_bool _)
    · cases h
theorem underAll_ok {s : St} (F : FRep c ι w s a) {cs : List (Nat × Bool)} (hk : Holds a cs) : ∀ {ps qs : List Prop}, underAll s cs ps = some qs → (∀ q ∈ qs, q) → ∀ p ∈ ps, p
  | [], qs, _, _ => fun p hp => by cases hp
  | p :: r, qs, h, hq => by
    unfold underAll at h
    split at h
    · rename_i q l hu hr
      cases h
      intro x hx
      rcases List.mem_cons.1 hx with rfl | hx
      · exact under_ok F hu (fun y hy => hk y (by simpa using hy)) (hq q (by simp))
      · exact underAll_ok F hk hr (fun y hy => hq y (by simp [hy])) x hx
    · cases h

/-- Where an operation goes on. -/
def Goes (c : Ctx) (ι : Gh) (w : World) (M : Store) (a : Act) (K : St2 → Prop) (next : Act → World → Prop) : Prop :=
  ∀ s' a' w' ι', K s' → Rel c ι' w' s' a' → Ext ι w M ι' w' s'.s.M → a'.defers = a.defers → next a' w'
theorem Goes.trans {M M' : Store} {a' : Act} {K : St2 → Prop} {next : Act → World → Prop} (h : Goes c ι w M a K next) (x : Ext ι w M ι' w' M') (hd : a'.defers = a.defers) : Goes c ι' w' M' a' K next :=
  fun s a2 w2 ι2 hk hr hx hd2 => h s a2 w2 ι2 hk hr (x.trans hx) (hd2.trans hd)

theorem stepOp_sound {s s' : St2} (tab : TabOk P cfg) (sums : SumsOk P cfg) (R : Rel c ι w s a) (G : ConstOk P cfg c ι w) {ops : Array Oper} {ps : List Prop} (h : stepOp cfg ops.toList s o = some (ps, s')) (hp : ∀ p ∈ ps, p)
    {next : Act → World → Prop} {Q : Exit → Act → World → Prop} (hn : Goes c ι w s.s.M a (fun t => t = s') next) :
    if Region.wanted o (yielded ops a.tmps) then o.wp P a w next Q else next (a.put o.dst undef) w := by
  obtain ⟨I, F, fr⟩ := R
  unfold stepOp at h
  cases hc : condsOf ops.toList s.s o.guard with
  | none => rw [hc] at h; cases h
  | some r =>
    have hw := condsOf_ok F hc
    rw [hc] at h
    cases r with
    | none =>
      simp only at h
      cases ht : putSv s.s [] o.dst (.tup []) with
      | none => rw [ht] at h; cases h
      | some t =>
        rw [ht] at h
        cases h
        have hnw : Region.wanted o (yielded ops a.tmps) = false := by
          cases hh : Region.wanted o (yielded ops a.tmps) with
          | false => rfl
          | true => obtain ⟨cs, hcs, _⟩ := hw.1 hh; cases hcs
        rw [hnw, if_neg (by simp)]
        obtain ⟨hM, F'⟩ := F.put (u := undef) ht (fun _ => ⟨[], rfl, rfl⟩) (fun _ => rfl)
        refine hn _ _ _ ι rfl ⟨by rw [hM]; exact I, F', fun j hj => by rw [hM]; exact fr j hj⟩ (by rw [hM]; exact Ext.refl _ _ _) (put_defers ..)
    | some cs =>
      simp only at h
      cases he : evEff cfg s.s cs s.next o with
      | none => rw [he] at h; cases h
      | some e =>
        rw [he] at h
        simp only at h
        split at h
        · -- no tests
          cases ht : putSv { s.s with M := s.s.M.upds e.upd } [] o.dst e.sv with
          | none => rw [ht] at h; cases h
          | some t =>
            rw [ht] at h
            cases h
            have hkn : Holds a [] := fun x hx => by cases hx
            rw [hw.2 ⟨[], rfl, hkn⟩, if_pos rfl]
            refine (evEff_sound tab sums I F G hkn (fun j h1 _ => fr j h1) he hp).imp fun v w' ι' I' x hv => ?_
            obtain ⟨hM, F'⟩ := (F.ext x).put (u := v) ht (fun _ => hv) (fun hh => absurd hkn hh)
            have hb := below_ok (u := e.upd) fr
            exact hn _ _ _ ι' rfl ⟨by rw [hM]; exact I', F', fun j hj => by rw [hM]; exact hb j hj⟩ (by rw [hM]; exact x) (put_defers ..)
        · -- under tests
          rename_i k1 kr hup
          split at h
          · rename_i qs t hu ht
            cases h
            by_cases hk : Holds a (k1 :: kr)
            · rw [hw.2 ⟨_, rfl, hk⟩, if_pos rfl]
              refine (evEff_sound tab sums I F G hk (fun j h1 _ => fr j h1) he (underAll_ok F hk hu hp)).imp fun v w' ι' I' x hv => ?_
              rw [hup] at I' x hv
              obtain ⟨hM, F'⟩ := (F.ext x).put (u := v) ht (fun _ => hv) (fun hh => absurd hk hh)
              exact hn _ _ _ ι' rfl ⟨by rw [hM]; exact I', F', fun j hj => by rw [hM]; exact fr j hj⟩ (by rw [hM]; exact x) (put_defers ..)
            · have hnw : Region.wanted o (yielded ops a.tmps) = false := by
                cases hh : Region.wanted o (yielded ops a.tmps) with
                | false => rfl
                | true => obtain ⟨cs, hcs, hk'⟩ := hw.1 hh; cases hcs; exact absurd hk' hk
              rw [hnw, if_neg (by simp)]
              obtain ⟨hM, F'⟩ := F.put (u := undef) ht (fun hh => absurd hh hk) (fun _ => rfl)
              refine hn _ _ _ ι rfl ⟨by rw [hM]; exact I, F', fun j hj => by rw [hM]; exact fr j hj⟩ (by rw [hM]; exact Ext.refl _ _ _) (put_defers ..)
          · cases h
        · cases h
end
end Go.Vc
