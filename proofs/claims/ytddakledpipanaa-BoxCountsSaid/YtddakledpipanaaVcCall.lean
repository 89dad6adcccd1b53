/- Calls of functions that have a summary. -/
import Derived.Test.YtddakledpipanaaVcRen
set_option linter.unusedVariables false
set_option linter.unusedSimpArgs false
namespace Go.Vc

/-- A datum as a value. -/
def ARep (S : Nat → Prop) (w : World) (t : Ty) (x : t.den) (v : Value) : Prop :=
  (∃ cs, PRep S w t x cs ∧ (match t.isAgg with | true => v = .agg cs.toArray | false => cs = [v])) ∧ Valid t x
def ArgsRep (S : Nat → Prop) (w : World) : (ts : List Ty) → DenL ts → List Value → Prop
  | [], _, vs => vs = []
  | [t], x, vs => ∃ v, vs = [v] ∧ ARep S w t x v
  | t :: u :: r, x, vs => ∃ v ws, vs = v :: ws ∧ ARep S w t x.1 v ∧ ArgsRep S w (u :: r) x.2 ws

/-- A call that comes back, with R. -/
def Does (P : Program) (f : Nat) (args : Array Value) (w : World) (R : Value → World → Prop) : Prop :=
  ∀ (o : Oper) (a : Act) (next : Act → World → Prop) (Q : Exit → Act → World → Prop), (∀ v w', R v w' → next (a.put o.dst v) w') → o.upon P a next Q ((callFunc f args).run P w)
theorem Does.mono {P : Program} {f : Nat} {args : Array Value} {w : World} {R R' : Value → World → Prop} (h : Does P f args w R) (hr : ∀ v w', R v w' → R' v w') : Does P f args w R' :=
  fun o a next Q hn => h o a next Q fun v w' hv => hn v w' (hr v w' hv)
theorem Does.of_calls {P : Program} {f : Nat} {fn : Func} {b : Code} {args : Array Value} {w : World} {R : Value → World → Prop} (hf : P.funcs[f]? = some fn) (hn : (fn.name == "runtime.NumGoroutine") = false) (hb : fn.body = some b)
    (h : Calls P f args w fun e w' => match e with | .returned v => R v w' | _ => False) : Does P f args w R := by
  intro o a next Q hk
  have hr : (callFunc f args).run P w = .ok (.enter f args) w := by
    have h1 : fn.name ≠ "runtime.NumGoroutine" := by simpa using hn
    simp [callFunc, run_program, hf, h1, hb]
  rw [hr, Oper.upon_enter]
  intro cs
  obtain ⟨e, w', fr, h1, h2⟩ := h cs
  refine ⟨e, w', fr, ?_, h2⟩
  cases e with
  | returned v => exact hk v w' h1
  | panicked _ => exact h1.elim
  | outgrown => exact h1.elim

/-- What a summary of plain data says. -/
def PureOk (P : Program) (f : Nat) (ts : List Ty) (F : DenL ts → Done) : Prop :=
  ∀ (x : DenL ts) (vs : List Value) (w : World) (S : Nat → Prop), (∀ b, S b → b < w.heap.size) → ArgsRep S w ts x vs → (∀ p ∈ (F x).pre, p) →
    Does P f vs.toArray w fun v w' => ∃ ι', Inv ⟨w, fun _ => False, S⟩ ι' w' (numFrom 0 (F x).made) ∧ SVRep ⟨w, fun _ => False, S⟩ ι' w' (numFrom 0 (F x).made) (F x).res v
def SumOk (P : Program) (f : Nat) : Sum → Prop
  | .pure ts _ F => PureOk P f ts F
  | .gen _ => False
def SumsOk (P : Program) (cfg : Cfg) : Prop := ∀ f s, cfg.sum f = some s → SumOk P f s

section
variable {P : Program} {c : Ctx} {ι : Gh} {w : World} {M : Store} {cfg : Cfg}

theorem VRep.arg (I : Inv c ι w M) {t : Ty} {v : V} {u : Value} (hag : (v.agg == t.isAgg) = true) (hv : VRep c ι w M v u) {im : Im t} (h : implode M t v.ls = some im) (hr : im.rest = []) :
    Frz M im.frz ∧ ∀ S' : Nat → Prop, (∀ b, ι.S b → S' b) → (∀ id e e0 k, (id, e) ∈ im.frz → M.get id = some e0 → e0.live = true → ι.blk id = some k → S' k) → ARep S' w t im.x u := by
  obtain ⟨cs, h1, h2⟩ := hv
  obtain ⟨f1, c1, c2, g1, g2, g3, g4⟩ := implode_rep I t h h1
  rw [hr] at g2
  have g2 : c2 = [] := g2
  subst g2
  rw [List.append_nil] at g1
  subst g1
  refine ⟨f1, fun S' hS hk => ⟨⟨cs, PRep.mono (fun b hb => hb.1) (fun _ _ => rfl) _ _ _ (g4 S' hS hk), ?_⟩, g3⟩⟩
  have hag : v.agg = t.isAgg := by simpa using hag
  rw [← hag]
  cases ha : v.agg with
  | true => rw [ha] at h2; exact h2
  | false => rw [ha] at h2; exact h2.1

theorem implodeL_rep (I : Inv c ι w M) : ∀ {ts : List Ty} {vs : List V} {us : List Value} {fr : Bool} {x : DenL ts} {z : List (Nat × Entry)}, implodeL M ts vs = some (fr, x, z) → VsRep c ι w M vs us →
    Frz M z ∧ ∀ S' : Nat → Prop, (∀ b, ι.S b → S' b) → (∀ id e e0 k, (id, e) ∈ z → M.get id = some e0 → e0.live = true → ι.blk id = some k → S' k) → ArgsRep S' w ts x us
  | [], [], us, fr, x, z, h, hv => by
    cases h
    exact ⟨fun _ _ h => (by cases h), fun _ _ _ => hv⟩
  | [t], [v], us, fr, x, z, h, ⟨u, us', h1, h2, h3⟩ => by
    simp only [implodeL] at h
    cases hag : (v.agg == t.isAgg) with
    | false => rw [hag] at h; cases h
    | true =>
      rw [hag] at h
      simp only [cond_true] at h
      cases him : implode M t v.ls with
      | none => rw [him] at h; cases h
      | some im =>
        rw [him] at h
        simp only at h
        cases hr : im.rest with
        | cons _ _ => rw [hr] at h; cases h
        | nil =>
          rw [hr] at h
          cases h
          obtain ⟨k1, k2⟩ := h2.arg I hag him hr
          exact ⟨k1, fun S' hS hk => ⟨u, by rw [h1, show us' = [] from h3], k2 S' hS hk⟩⟩
  | t :: t' :: r, v :: vs, us, fr, x, z, h, ⟨u, us', h1, h2, h3⟩ => by
    simp only [implodeL] at h
    cases hag : (v.agg == t.isAgg) with
    | false => rw [hag] at h; cases h
    | true =>
      rw [hag] at h
      simp only [cond_true] at h
      cases him : implode M t v.ls with
      | none => rw [him] at h; cases h
      | some im =>
        rw [him] at h
        simp only at h
        cases hr : im.rest with
        | cons _ _ => rw [hr] at h; cases h
        | nil =>
          rw [hr] at h
          cases hrec : implodeL M (t' :: r) vs with
          | none => rw [hrec] at h; cases h
          | some q =>
            obtain ⟨fr', x', z'⟩ := q
            rw [hrec] at h
            cases h
            obtain ⟨k1, k2⟩ := h2.arg I hag him hr
            obtain ⟨k3, k4⟩ := implodeL_rep I hrec h3
            refine ⟨fun id e hx => (List.mem_append.1 hx).elim (k1 id e) (k3 id e), fun S' hS hk => ⟨u, us', h1, ?_, ?_⟩⟩
            · exact k2 S' hS fun id e e0 k hx => hk id e e0 k (List.mem_append.2 (.inl hx))
            · exact k4 S' hS fun id e e0 k hx => hk id e e0 k (List.mem_append.2 (.inr hx))

theorem Frz.get {z : List (Nat × Entry)} (hz : Frz M z) {id : Nat} {e : Entry} (h : (id, e) ∈ z) : M.get id ≠ none := by
  obtain ⟨_, _, _, _, hk⟩ := hz id e h
  rcases hk with hk | ⟨_, _, hk⟩ <;> rw [hk] <;> simp
theorem Frz.fresh {z : List (Nat × Entry)} (hz : Frz M z) {nid m : Nat} (hid : ∀ j, nid ≤ j → j < m → M.get j = none) : ∀ j, nid ≤ j → j < m → (M.upds z).get j = none := by
  intro j hj hm
  rw [upds_get_other]
  · exact hid j hj hm
  · rw [List.all_eq_true]
    rintro ⟨id, e⟩ hx
    have hne : id ≠ j := fun hh => hz.get hx (by rw [hh]; exact hid j hj hm)
    rw [beq_no hne]; rfl

theorem made_below {n : Nat} {z : List (Nat × Entry)} {es : List Entry} {g : Entry → Entry} (h : below (n + 8) (z ++ numFrom n (es.map g)) = true) : es.length ≤ 8 := by
  have h2 : below (n + 8) (numFrom n (es.map g)) = true := by
    induction z with
    | nil => exact h
    | cons x r ih =>
      rw [List.cons_append] at h
      unfold below at h
      cases hx : Nat.blt x.1 (n + 8) with
      | false => rw [hx] at h; cases h
      | true => rw [hx] at h; exact ih h
  have key : ∀ (es : List Entry) (i : Nat), below (n + 8) (numFrom i (es.map g)) = true → i ≤ n + 8 → i + es.length ≤ n + 8 := by
    intro es
    induction es with
    | nil => intro i _ hi; simpa using hi
    | cons e r ih =>
      intro i h hi
      simp only [List.map_cons, numFrom] at h
      unfold below at h
      cases hx : Nat.blt i (n + 8) with
      | false => rw [hx] at h; cases h
      | true =>
        rw [hx] at h
        have hx : i < n + 8 := by simpa using hx
        have := ih (i + 1) h (by omega)
        rw [List.length_cons]; omega
  have := key es n h2 (by omega)
  omega
theorem evCall_sound (sums : SumsOk P cfg) (I : Inv c ι w M) {nid f : Nat} (hid : ∀ j, nid ≤ j → j < nid + 8 → M.get j = none) {vs : List V} {us : List Value} (hv : VsRep c ι w M vs us)
    {e : Eff} (h : evCall cfg M nid f vs = some e) (hbl : below (nid + 8) e.upd = true) (hp : ∀ p ∈ e.pre, p) :
    Does P f us.toArray w fun v w' => ∃ ι', Inv c ι' w' (M.upds e.upd) ∧ Ext ι w M ι' w' (M.upds e.upd) ∧ SVRep c ι' w' (M.upds e.upd) e.sv v := by
  unfold evCall at h
  cases hs : cfg.sum f with
  | none => rw [hs] at h; cases h
  | some sm =>
    have hok := sums f sm hs
    rw [hs] at h
    cases sm with
    | gen _ => exact hok.elim
    | pure ts al F =>
      simp only at h
      cases him : implodeL M ts vs with
      | none => rw [him] at h; cases h
      | some q =>
        obtain ⟨fr, x, z⟩ := q
        rw [him] at h
        simp only at h
        obtain ⟨hz, hargs⟩ := implodeL_rep I him hv
        cases al with
        | true =>
          simp only [Bool.true_or, cond_true] at h
          cases h
          obtain ⟨ι1, I1, x1, hS, hb, hc⟩ := Inv.freezeAll z I hz
          refine Does.mono (hok x us w ι1.S I1.stb (hargs ι1.S x1.S fun id e e0 k hm he hl hk => (hS k).2 (.inr ⟨id, e, e0, hm, he, hl, hk⟩)) hp) fun v w' hR => ?_
          obtain ⟨ι2, J, hres⟩ := hR
          obtain ⟨ι', I', x', rn⟩ := Inv.call I1 (al := true) (nid := nid) (fun _ b hb => hb) J (.inl rfl) (hz.fresh fun j h1 h2 => hid j h1 (by have := made_below hbl; omega))
          refine ⟨ι', ?_, ?_, ?_⟩
          · rw [Store.upds_append]; exact I'
          · rw [Store.upds_append]; exact x1.trans x'
          · rw [Store.upds_append]; exact hres.ren rn (.inl rfl) (fun _ _ => trivial)
        | false =>
          cases hfr : (freshSV (F x).res && (F x).made.all freshE) with
          | false => rw [hfr] at h; cases h
          | true =>
            rw [hfr] at h
            simp only [Bool.false_or, cond_true, cond_false, List.nil_append] at h
            cases h
            simp only [Bool.and_eq_true] at hfr
            refine Does.mono (hok x us w (fun b => ι.S b ∨ ∃ id e e0, (id, e) ∈ z ∧ M.get id = some e0 ∧ e0.live = true ∧ ι.blk id = some b) (fun b hb => ?_) (hargs _ (fun b hb => .inl hb) fun id e e0 k hm he hl hk => .inr ⟨id, e, e0, hm, he, hl, hk⟩) hp) fun v w' hR => ?_
            · rcases hb with hb | ⟨id, e, e0, hm, he, hl, hk⟩
              · exact I.stb b hb
              · exact (I.ents id e0 he).blk_lt hl b hk
            · obtain ⟨ι2, J, hres⟩ := hR
              obtain ⟨ι', I', x', rn⟩ := Inv.call I (al := false) (nid := nid) (fun h => by cases h) J (.inr hfr.2) (fun j h1 h2 => hid j h1 (by have := made_below (z := []) hbl; omega))
              exact ⟨ι', I', x', hres.ren rn (.inr hfr.1) (fun _ _ => trivial)⟩

theorem VsRep.append : ∀ {l m : List V} {us ws : List Value}, VsRep c ι w M l us → VsRep c ι w M m ws → VsRep c ι w M (l ++ m) (us ++ ws)
  | [], m, us, ws, h, k => by rw [show us = [] from h]; exact k
  | v :: r, m, us, ws, ⟨u, us', h1, h2, h3⟩, k => ⟨u, us' ++ ws, by rw [h1]; rfl, h2, h3.append k⟩
theorem caps_rep (I : Inv c ι w M) : ∀ {caps : List Nat}, (∀ id ∈ caps, ∃ e, M.get id = some e ∧ (e = .dead ∨ ∃ ls, e = .obj ls)) → VsRep c ι w M (caps.map fun i => one (.ptr i 0)) (caps.map fun id => Value.pointer (ι.base id))
  | [], _ => rfl
  | id :: r, h => by
    refine ⟨_, _, rfl, VRep.one ?_, caps_rep I fun i hi => h i (by simp [hi])⟩
    obtain ⟨e, he, hk⟩ := h id (by simp)
    simp only [LRep, he]
    rcases hk with rfl | ⟨ls, rfl⟩
    · exact ⟨_, rfl, rfl⟩
    · obtain ⟨b, cs, T, h1, _⟩ := I.ents id _ he
      exact ⟨b, h1, by rw [h1]⟩

/-- A call of a function that is known: who it is, and with what. -/
theorem call_parts {s : St} {a : Act} (I : Inv c ι w s.M) (F : FRep c ι w s a) (G : ConstOk P cfg c ι w) {cs : List (Nat × Bool)} (hk : Holds a cs) {f : Operand} {args : Array Operand} {ts : Array TypeId} {o : Oper} (ho : o.op = .call ⟨.value f, args, ts⟩)
    {g : Nat} {caps : List Nat} {vs : List V} (hf : opl cfg s cs f = some (.fn g caps)) (ha : evArgs cfg s cs args.toList = some vs) :
    ∃ us : List Value, VsRep c ι w s.M (vs ++ caps.map fun i => one (.ptr i 0)) us ∧ (execOp a.eval o).run P w = (callFunc g us.toArray).run P w := by
  obtain ⟨h1, h2⟩ := (opl_rep F G hk hf : LRep c ι w s.M (.fn g caps) _)
  have h1 : a.eval f = .func (.func g) #[] (caps.map fun id => Value.pointer (ι.base id)).toArray := by simpa using h1
  have h3 := vsRep_of (fun x v hv => opv_rep F G hk hv) ha
  refine ⟨args.toList.map a.eval ++ caps.map fun id => Value.pointer (ι.base id), h3.append (caps_rep I h2), ?_⟩
  have e1 : args.map a.eval ++ (caps.map fun id => Value.pointer (ι.base id)).toArray = (args.toList.map a.eval ++ caps.map fun id => Value.pointer (ι.base id)).toArray := by
    apply Array.ext'; simp
  rw [← e1]
  simp [execOp, ho, resolve, Deferred.ofValue, invoke, h1]
theorem evCallOp_sound {s : St} {a : Act} {o : Oper} (sums : SumsOk P cfg) (I : Inv c ι w s.M) (F : FRep c ι w s a) (G : ConstOk P cfg c ι w) {cs : List (Nat × Bool)} (hk : Holds a cs) {nid : Nat} (hid : ∀ j, nid ≤ j → j < nid + 8 → s.M.get j = none) {ty : Nat}
    (hn : notCall o.op = false) {e : Eff} (h : evOp cfg s cs nid o.op ty = some e) (hbl : below (nid + 8) e.upd = true) (hp : ∀ p ∈ e.pre, p) : OpWp P c ι w s.M a o e.sv e.upd := by
  generalize hoo : o.op = op at h hn
  cases op <;> simp only [notCall] at hn <;> first | (cases hn; done) | skip
  rename_i cl
  obtain ⟨ce, args, ts⟩ := cl
  cases ce <;> simp only [notCall] at hn <;> first | (cases hn; done) | skip
  rename_i f
  simp only [evOp] at h
  split at h
  · rename_i g caps vs hf ha
    obtain ⟨us, k1, k2⟩ := call_parts I F G hk hoo hf ha
    intro next Q hnx
    unfold Oper.wp
    rw [k2]
    exact evCall_sound sums I hid k1 h hbl hp o a next Q fun v w' ⟨ι', i1, i2, i3⟩ => hnx v w' ι' i1 i2 i3
  · cases h
end
end Go.Vc
