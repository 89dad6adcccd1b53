/- Code: what is owed of it is enough. -/
import Derived.Test.YtddakledpipanaaVcDraw2
import Derived.LoopN
set_option linter.unusedVariables false
set_option linter.unusedSimpArgs false
namespace Go.Vc

/-- How a state goes on where entries may get other numbers. -/
structure Ext0 (ι : Gh) (w : World) (ι' : Gh) (w' : World) : Prop where
  S : ∀ b, ι.S b → ι'.S b
  heap : ∀ b, ι.S b → w'.heap[b]? = w.heap[b]?
theorem Ext.ext0 {ι ι' : Gh} {w w' : World} {M M' : Store} (x : Ext ι w M ι' w' M') : Ext0 ι w ι' w' := ⟨x.S, x.heap⟩
theorem Ext0.refl (ι : Gh) (w : World) : Ext0 ι w ι w := ⟨fun _ h => h, fun _ _ => rfl⟩
theorem Ext0.trans {ι ι' ι'' : Gh} {w w' w'' : World} (x : Ext0 ι w ι' w') (y : Ext0 ι' w' ι'' w'') : Ext0 ι w ι'' w'' :=
  ⟨fun b h => y.S b (x.S b h), fun b h => (y.heap b (x.S b h)).trans (x.heap b h)⟩
theorem ConstOk.mono0 {P : Program} {cfg : Cfg} {c : Ctx} {ι ι' : Gh} {w w' : World} (G : ConstOk P cfg c ι w) (x : Ext0 ι w ι' w') : ConstOk P cfg c ι' w' := by
  refine ⟨fun g t y h => ?_⟩
  obtain ⟨cs, h1, h2, h3⟩ := G.glob g t y h
  exact ⟨cs, h1.mono (SF.mono x.S) (fun b hb => x.heap b hb.1), PRep.mono (SF.mono x.S) (fun b hb => x.heap b hb.1) _ _ _ h2, h3⟩

/-- How a state goes on: entries below n keep their numbers. -/
structure XR (n : Nat) (ι : Gh) (w : World) (M : Store) (ι' : Gh) (w' : World) (M' : Store) : Prop where
  S : ∀ b, ι.S b → ι'.S b
  heap : ∀ b, ι.S b → w'.heap[b]? = w.heap[b]?
  low : ∀ id e, id < n → M.get id = some e → ι'.base id = ι.base id ∧ ι'.cap id = ι.cap id ∧ ∃ e', M'.get id = some e' ∧ Ev e e'
theorem XR.of_ext {n : Nat} {ι ι' : Gh} {w w' : World} {M M' : Store} (x : Ext ι w M ι' w' M') : XR n ι w M ι' w' M' :=
  ⟨x.S, x.heap, fun id e _ he => ⟨(x.base id e he).1, (x.base id e he).2, x.ev id e he⟩⟩
theorem XR.ext {n : Nat} {ι ι' : Gh} {w w' : World} {M M' : Store} (x : XR n ι w M ι' w' M') (h : ∀ id, n ≤ id → M.get id = none) : Ext ι w M ι' w' M' := by
  have lt : ∀ {id e}, M.get id = some e → id < n := fun {id e} he => Nat.lt_of_not_le fun hh => by rw [h id hh] at he; cases he
  exact ⟨x.S, x.heap, fun id e he => ⟨(x.low id e (lt he) he).1, (x.low id e (lt he) he).2.1⟩, fun id e he => (x.low id e (lt he) he).2.2⟩
theorem XR.ext0 {n : Nat} {ι ι' : Gh} {w w' : World} {M M' : Store} (x : XR n ι w M ι' w' M') : Ext0 ι w ι' w' := ⟨x.S, x.heap⟩
theorem XR.trans {n : Nat} {ι ι' ι'' : Gh} {w w' w'' : World} {M M' M'' : Store} (x : XR n ι w M ι' w' M') (y : XR n ι' w' M' ι'' w'' M'') : XR n ι w M ι'' w'' M'' := by
  refine ⟨fun b h => y.S b (x.S b h), fun b h => (y.heap b (x.S b h)).trans (x.heap b h), fun id e hn he => ?_⟩
  obtain ⟨h1, h2, e', h3, h4⟩ := x.low id e hn he
  obtain ⟨k1, k2, e'', k3, k4⟩ := y.low id e' hn h3
  exact ⟨k1.trans h1, k2.trans h2, e'', k3, h4.trans k4⟩

section
variable {P : Program} {c : Ctx} {cfg : Cfg}

def GoesE (lp : Nat) (c : Ctx) (ι : Gh) (w : World) (M : Store) (a : Act) (K : Exit → St2 → Prop) (Q : Exit → Act → World → Prop) : Prop :=
  ∀ e s' a' w' ι', K e s' → Rel c ι' w' s' a' → XR lp ι w M ι' w' s'.s.M → a'.defers = a.defers → Q e a' w'
theorem GoesE.trans {lp : Nat} {ι ι' : Gh} {w w' : World} {M M' : Store} {a a' : Act} {K : Exit → St2 → Prop} {Q : Exit → Act → World → Prop} (h : GoesE lp c ι w M a K Q) (x : XR lp ι w M ι' w' M') (hd : a'.defers = a.defers) : GoesE lp c ι' w' M' a' K Q :=
  fun e s a2 w2 ι2 hk hr hx hd2 => h e s a2 w2 ι2 hk hr (x.trans hx) (hd2.trans hd)

def CanonOk (cfg : Cfg) (n : Nat) (k : Keep) : Prop := ∀ {c : Ctx} {ι : Gh} {w : World} {s : St2} {a : Act}, Rel c ι w s a → ∃ ι', Rel c ι' w (canon cfg n k s) a ∧ XR n ι w s.s.M ι' w (canon cfg n k s).s.M

theorem loop_rounds {lp : Nat} {b : Code} {l : Loop} {x0 : l.X} {B : St2 → (Exit → St2 → Prop) → Prop} {K : Exit → St2 → Prop} {Q : Exit → Act → World → Prop}
    (hB : ∀ {ι w s a} {K' : Exit → St2 → Prop} {Q' : Exit → Act → World → Prop}, B s K' → Rel c ι w s a → ConstOk P cfg c ι w → GoesE lp c ι w s.s.M a K' Q' → b.wp P Q' a w)
    (hcn : CanonOk cfg lp l.k) (hs : ∀ x, l.I x0 x → B (l.st x) (roundK cfg lp l x0 x K)) : ∀ (n : Nat) {ι : Gh} {w : World} {x : l.X} {a : Act}, l.I x0 x → l.mu x < n → Rel c ι w (l.st x) a → ConstOk P cfg c ι w → GoesE lp c ι w (l.st x).s.M a K Q → Code.rounds P b Q n a w
  | 0, ι, w, x, a, _, h, _, _, _ => (Nat.not_lt_zero _ h).elim
  | n + 1, ι, w, x, a, hI, hmu, R, G, hn => by
    show b.wp P (Exit.then (Code.rounds P b Q n) Q) a w
    refine hB (hs x hI) R G fun e s' a' w' ι' hk R' xx hd => ?_
    cases e with
    | normal =>
      obtain ⟨y, hy, hyI, hymu⟩ := hk
      obtain ⟨ι'', R'', x'⟩ := hcn R'
      rw [hy] at R'' x'
      have x2 := xx.trans x'
      exact loop_rounds hB hcn hs n hyI (by omega) R'' (G.mono0 x2.ext0) (hn.trans (M' := (l.st y).s.M) x2 hd)
    | exit i => exact hn _ s' a' w' ι' hk R' xx hd
    | goto i => exact hn _ s' a' w' ι' hk R' xx hd
    | ret => exact hn _ s' a' w' ι' hk R' xx hd
    | panic ch => exact hn _ s' a' w' ι' hk R' xx hd
    | outgrown => exact hn _ s' a' w' ι' hk R' xx hd

theorem vc_sound {inl : Inl} (hinl : InlOk P cfg inl) (tab : TabOk P cfg) (sums : SumsOk P cfg) (hdr : P.follows .mixedOrders = true) (hcan : ∀ n k, CanonOk cfg n k) {keep : Nat → Option Loop} {lp : Nat} :
    ∀ (b : Code) {ι : Gh} {w : World} {s : St2} {a : Act} {K : Exit → St2 → Prop} {Q : Exit → Act → World → Prop}, vc cfg inl keep lp b s K → Rel c ι w s a → ConstOk P cfg c ι w → GoesE lp c ι w s.s.M a K Q → b.wp P Q a w := by
  intro b
  induction b with
  | skip => intro ι w s a K Q h R G hn; exact wp_skip (hn _ s a w ι h R (XR.of_ext (Ext.refl _ _ _)) rfl)
  | label l => intro ι w s a K Q h R G hn; exact wp_label (hn _ s a w ι h R (XR.of_ext (Ext.refl _ _ _)) rfl)
  | ret => intro ι w s a K Q h R G hn; exact wp_ret (hn _ s a w ι h R (XR.of_ext (Ext.refl _ _ _)) rfl)
  | exit i => intro ι w s a K Q h R G hn; exact wp_exit (hn _ s a w ι h R (XR.of_ext (Ext.refl _ _ _)) rfl)
  | region id ops draw =>
    intro ι w s a K Q h R G hn
    have goes : Goes c ι w s.s.M a (fun s' => K .normal s') (Q .normal) := fun s' a' w' ι' hk R' x hd => hn _ s' a' w' ι' hk R' (XR.of_ext x) hd
    cases draw with
    | false => exact wp_region_list (runOps_sound hinl tab sums _ h R G goes)
    | true =>
      simp only [vc] at h
      cases hs : drawn cfg ops.toList s with
      | none => rw [hs] at h; exact h.elim
      | some q =>
        obtain ⟨ps, s'⟩ := q
        rw [hs] at h
        obtain ⟨hp, hk⟩ := conj_iff.1 h
        exact drawn_sound hdr tab sums hs hp R G fun t a' w' ι' ht R' x hd => by subst ht; exact goes _ a' w' ι' hk R' x hd
  | seq x y ihx ihy =>
    intro ι w s a K Q h R G hn
    refine wp_seq (ihx h R G fun e s' a' w' ι' hk R' xx hd => ?_)
    cases e with
    | normal => exact ihy hk R' (G.mono0 xx.ext0) (hn.trans xx hd)
    | exit i => exact hn _ s' a' w' ι' hk R' xx hd
    | goto i => exact hn _ s' a' w' ι' hk R' xx hd
    | ret => exact hn _ s' a' w' ι' hk R' xx hd
    | panic ch => exact hn _ s' a' w' ι' hk R' xx hd
    | outgrown => exact hn _ s' a' w' ι' hk R' xx hd
  | cond x y z ihy ihz =>
    intro ι w s a K Q h R G hn
    simp only [vc] at h
    cases hx : opb cfg s.s [] x with
    | none => rw [hx] at h; exact h.elim
    | some t =>
      rw [hx] at h
      have hv := opb_rep R.rep G (fun y hy => (List.not_mem_nil hy).elim) hx
      cases t with
      | true => exact wp_cond hv (ihy h R G hn)
      | false => exact wp_cond hv (ihz h R G hn)
  | block id x ih =>
    intro ι w s a K Q h R G hn
    refine wp_block (ih h R G fun e s' a' w' ι' hk R' xx hd => ?_)
    cases e with
    | normal => exact hn _ s' a' w' ι' hk R' xx hd
    | exit i =>
      simp only [blockK] at hk
      show if i = id then Q .normal a' w' else Q (.exit i) a' w'
      cases hb : Nat.beq i id with
      | true =>
        rw [hb] at hk
        rw [if_pos (Nat.eq_of_beq_eq_true hb)]
        exact hn _ s' a' w' ι' hk R' xx hd
      | false =>
        rw [hb] at hk
        rw [if_neg (fun hh => by rw [hh] at hb; simp at hb)]
        exact hn _ s' a' w' ι' hk R' xx hd
    | goto i => exact hn _ s' a' w' ι' hk R' xx hd
    | ret => exact hn _ s' a' w' ι' hk R' xx hd
    | panic ch => exact hn _ s' a' w' ι' hk R' xx hd
    | outgrown => exact hn _ s' a' w' ι' hk R' xx hd
  | loop x ih =>
    intro ι w s a K Q h R G hn
    simp only [vc] at h
    cases hk : keep (firstReg x) with
    | none => rw [hk] at h; exact h.elim
    | some kp =>
      rw [hk] at h
      obtain ⟨y, ⟨hy, hyI⟩, hs⟩ := h
      obtain ⟨ι', R', x'⟩ := hcan lp kp.k R
      rw [hy] at R' x'
      exact wp_loop_rounds (kp.mu y + 1) (loop_rounds (cfg := cfg) (c := c) (l := kp) (B := fun s' K' => vc cfg inl keep lp x s' K') (fun hb R2 G2 hn2 => ih hb R2 G2 hn2) (hcan lp kp.k) hs _ hyI (Nat.lt_succ_self _) R' (G.mono0 x'.ext0) (hn.trans x' rfl))
  | _ => intro ι w s a K Q h R G hn; exact h.elim

/-! ### results; callees that are walked into -/
def resRun (a : Act) (r : ResultVar) : Sem Value := match r with
  | .tmp t => pure (a.tmps.getD t undef)
  | .cell t T => do loadVar T (← asAddr (a.tmps.getD t undef))
theorem resultV_rep {ι : Gh} {w : World} {s : St} {a : Act} (tab : TabOk P cfg) (I : Inv c ι w s.M) (F : FRep c ι w s a) {r : ResultVar} {v : V} (h : resultV cfg s r = some v) :
    ∃ u, VRep c ι w s.M v u ∧ (resRun a r).run P w = .ok u w := by
  cases r with
  | tmp t =>
    simp only [resultV] at h
    split at h
    · rename_i x he
      cases h
      exact ⟨_, F.env t _ he, rfl⟩
    · cases h
  | cell t T =>
    simp only [resultV] at h
    split at h
    · rename_i id off ti he hT
      cases hm : s.M.get id with
      | none => rw [hm] at h; cases h
      | some en =>
        rw [hm] at h
        cases en <;> simp only at h <;> first | (cases h; done) | skip
        rename_i ls
        cases hl : lget ls off ti.size with
        | none => rw [hl] at h; cases h
        | some r =>
          rw [hl] at h
          cases h
          have hv := VRep.leaf (x := ⟨false, [.ptr id off]⟩) (l := .ptr id off) rfl (F.env t _ he)
          simp only [LRep, hm] at hv
          obtain ⟨b, hb, hv⟩ := hv
          obtain ⟨b', cs, T', h1, h2, h3⟩ := I.ents id _ hm
          rw [hb] at h1; cases h1
          obtain ⟨k1, k2⟩ := lget_rep hl h3
          have hv : a.tmps.getD t undef = .pointer (some ⟨b, off, none⟩) := by simpa [Act.eval] using hv
          obtain ⟨u, r1, r2⟩ := run_loadVar_at (P := P) (w := w) (tab T ti hT) (a := ⟨b, off, none⟩) (ds := (cs.drop off).take ti.size) (fun i v hi => by
            rw [Addr.add_lit, cell_of_row w b _ cs.toArray _ (0, 0) h2]
            rw [List.getElem?_take] at hi
            split at hi
            · rw [List.getElem?_drop] at hi; simpa using hi
            · cases hi) (by rw [List.length_take, List.length_drop]; omega)
          refine ⟨u, VRep.of_load (ti := ti) k1 r2, ?_⟩
          show (do loadVar T (← asAddr (a.tmps.getD t undef))).run P w = _
          rw [hv]
          simp [asAddr, r1]
    · cases h
theorem resultsV_rep {ι : Gh} {w : World} {s : St} {a : Act} (tab : TabOk P cfg) (I : Inv c ι w s.M) (F : FRep c ι w s a) : ∀ {rs : List ResultVar} {vs : List V}, resultsV cfg s rs = some vs →
    ∃ us, VsRep c ι w s.M vs us ∧ (rs.mapM (resRun a)).run P w = .ok us w
  | [], vs, h => by cases h; exact ⟨[], rfl, by simp⟩
  | r :: l, vs, h => by
    unfold resultsV at h
    split at h
    · rename_i v vs' hv hvs
      cases h
      obtain ⟨u, k1, k2⟩ := resultV_rep tab I F hv
      obtain ⟨us, k3, k4⟩ := resultsV_rep tab I F hvs
      refine ⟨u :: us, ⟨u, us, rfl, k1, k3⟩, ?_⟩
      rw [List.mapM_cons, Sem.run_bind, k2, Result.andThen_ok, Sem.run_bind, k4, Result.andThen_ok]
      rfl
    · cases h
theorem VsRep.length {ι : Gh} {w : World} {M : Store} : ∀ {l : List V} {us : List Value}, VsRep c ι w M l us → us.length = l.length
  | [], us, h => by rw [show us = [] from h]; rfl
  | v :: r, us, ⟨u, us', h1, _, h3⟩ => by rw [h1]; simp [h3.length]
theorem results_rep {ι : Gh} {w : World} {s : St} {a : Act} (tab : TabOk P cfg) (I : Inv c ι w s.M) (F : FRep c ι w s a) {fn : Func} {sv : SV} (h : resultSV cfg s fn.results.toList = some sv) :
    ∃ v, (results fn a.tmps).run P w = .ok v w ∧ SVRep c ι w s.M sv v := by
  unfold resultSV at h
  cases hr : resultsV cfg s fn.results.toList with
  | none => rw [hr] at h; cases h
  | some vs =>
    obtain ⟨us, k1, k2⟩ := resultsV_rep tab I F hr
    rw [hr] at h
    have e : results fn a.tmps = (do { let vs ← fn.results.mapM (resRun a); pure (if h : vs.size = 1 then vs[0] else .tuple vs) }) := by
      unfold results
      congr 1
    have hrun : (results fn a.tmps).run P w = .ok (if h : us.toArray.size = 1 then us.toArray[0] else .tuple us.toArray) w := by
      rw [e, Array.mapM_eq_mapM_toList, Sem.run_bind]
      simp [k2]
    refine ⟨_, hrun, ?_⟩
    match vs, h, k1 with
    | [v], h, ⟨u, us', h1, h2, h3⟩ =>
      cases h
      have h3 : us' = [] := h3
      subst h3 h1
      rw [dif_pos (by simp)]
      exact h2
    | [], h, k1 =>
      cases h
      have k1 : us = [] := k1
      subst k1
      exact ⟨[], by simp, rfl⟩
    | v :: v' :: vs', h, k1 =>
      cases h
      have hl := k1.length
      have hne : ¬ us.toArray.size = 1 := by simp only [List.size_toArray]; rw [hl]; simp
      rw [dif_neg hne]
      exact ⟨us, rfl, k1⟩

/-! ### a function is entered -/
theorem eget_args {l : List V} : ∀ {k i : Nat} {v : SV}, eget ((l.map fun v => some (SV.v v)) ++ List.replicate k none) i = some v → ∃ x, l[i]? = some x ∧ v = .v x := by
  induction l with
  | nil =>
    intro k i v h
    exfalso
    induction k generalizing i with
    | zero => simp [eget] at h
    | succ k ih =>
      simp only [List.map_nil, List.nil_append, List.replicate_succ] at h ih
      cases i with
      | zero => simp [eget] at h
      | succ i => exact ih h
  | cons x r ih =>
    intro k i v h
    simp only [List.map_cons, List.cons_append] at h
    cases i with
    | zero => simp only [eget] at h; cases h; exact ⟨x, by simp, rfl⟩
    | succ i => obtain ⟨y, h1, h2⟩ := ih h; exact ⟨y, by simpa using h1, h2⟩
theorem start_rep {ι : Gh} {w : World} {M : Store} {args : List V} {us : List Value} (h : VsRep c ι w M args us) (n : Nat) :
    FRep c ι w { env := argsEnv n args, cenv := [], M := M } { tmps := us.toArray ++ Array.replicate (n - us.toArray.size) undef, defers := [] } := by
  have hl := h.length
  refine ⟨?_, fun i v hi => ?_, fun _ hx => (List.not_mem_nil hx).elim, fun _ hx => (List.not_mem_nil hx).elim⟩
  · simp [argsEnv, padTo, hl]
  · unfold argsEnv padTo at hi
    obtain ⟨x, h1, rfl⟩ := eget_args hi
    obtain ⟨u, h2, h3⟩ := h.get h1
    have hlt := (List.getElem?_eq_some_iff.1 h2).1
    have : Act.eval { tmps := us.toArray ++ Array.replicate (n - us.toArray.size) undef, defers := [] } (.tmp i) = u := by
      simp only [Act.eval, Array.getD_eq_getD_getElem?]
      rw [Array.getElem?_append_left (by simpa using hlt)]
      simp [h2]
    rw [this]; exact h3
theorem nameB {fn : Func} {b : Code} (h : cond (fn.name == "runtime.NumGoroutine") none fn.body = some b) : (fn.name == "runtime.NumGoroutine") = false ∧ fn.body = some b := by
  cases hb : (fn.name == "runtime.NumGoroutine") with
  | true => rw [hb] at h; cases h
  | false => rw [hb] at h; exact ⟨rfl, h⟩

theorem inlN_ok {L : Nat → Nat → Option Loop} (tab : TabOk P cfg) (sums : SumsOk P cfg) (hdr : P.follows .mixedOrders = true) (hcan : ∀ n k, CanonOk cfg n k) : ∀ d, InlOk P cfg (inlN P cfg L d)
  | 0 => fun f vs s K c ι w us h => h.elim
  | d + 1 => by
    intro f vs s K c ι w us h I fr G hv
    unfold inlN at h
    split at h
    · rename_i fn hf
      split at h
      · rename_i b hb
        obtain ⟨hname, hbody⟩ := nameB hb
        refine Does.of_calls hf hname hbody (calls_of_wp hf hbody ?_)
        have R : Rel c ι w { s with s := { s.s with env := argsEnv fn.ntmps vs, cenv := [] } } { tmps := us.toArray ++ Array.replicate (fn.ntmps - us.toArray.size) undef, defers := [] } := ⟨I, start_rep hv fn.ntmps, fr⟩
        refine vc_sound (lp := s.next) (inlN_ok tab sums hdr hcan d) tab sums hdr hcan b h R G fun e s' a' w' ι' hk R' x hd => ?_
        have x : Ext ι w s.s.M ι' w' s'.s.M := x.ext fr
        have fin : (match resultSV cfg s'.s fn.results.toList with | some v => K v s' | none => False) → ∃ v, (results fn a'.tmps).run P w' = .ok v w' ∧ ∃ ι' s' sv, Inv c ι' w' s'.s.M ∧ Ext ι w s.s.M ι' w' s'.s.M ∧ (∀ j, s'.next ≤ j → s'.s.M.get j = none) ∧ SVRep c ι' w' s'.s.M sv v ∧ K sv s' := by
          intro hk
          cases hr : resultSV cfg s'.s fn.results.toList with
          | none => rw [hr] at hk; exact hk.elim
          | some sv =>
            rw [hr] at hk
            obtain ⟨v, h1, h2⟩ := results_rep tab R'.inv R'.rep hr
            exact ⟨v, h1, ι', s', sv, R'.inv, x, R'.fresh, h2, hk⟩
        cases e with
        | normal => exact ⟨hd, fin hk⟩
        | ret => exact ⟨hd, fin hk⟩
        | exit _ => exact hk.elim
        | goto _ => exact hk.elim
        | panic _ => exact hk.elim
        | outgrown => exact hk.elim
      · exact h.elim
    · exact h.elim
end
end Go.Vc
