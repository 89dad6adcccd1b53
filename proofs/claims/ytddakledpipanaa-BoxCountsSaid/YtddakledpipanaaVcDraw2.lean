/- A region whose order is open: whatever order is drawn, what is reckoned holds. -/
import Derived.Test.YtddakledpipanaaVcDraw
set_option linter.unusedVariables false
set_option linter.unusedSimpArgs false
namespace Go.Vc

theorem Ext.congr {ι ι' : Gh} {w w' : World} {M M' N N' : Store} (x : Ext ι w M ι' w' M') (h : ∀ id, N.get id = M.get id) (h' : ∀ id, N'.get id = M'.get id) : Ext ι w N ι' w' N' :=
  ⟨x.S, x.heap, fun id e he => x.base id e (by rw [← h]; exact he), fun id e he => by
    obtain ⟨e', h1, h2⟩ := x.ev id e (by rw [← h]; exact he)
    exact ⟨e', by rw [h']; exact h1, h2⟩⟩
theorem Inv.turned {c : Ctx} {ι : Gh} {w w' : World} {M M' : Store} (I : Inv c ι w M) (h : ∀ id, M'.get id = M.get id) (ho : w'.os = w.os) (ht : w'.tape = w.tape) (hu : w'.output = w.output) (hh : w'.heap = w.heap) : Inv c ι w' M' := by
  have x : Ext ι w M ι w' M' := ⟨fun _ h => h, fun b _ => by rw [hh], fun _ _ _ => ⟨rfl, rfl⟩, fun id e he => ⟨e, by rw [h]; exact he, Ev.refl e⟩⟩
  refine ⟨⟨ho.trans I.kept.os, ht.trans I.kept.tape, hu.trans I.kept.output, by rw [hh]; exact I.kept.size, fun b hb hO => by rw [hh]; exact I.kept.block b hb hO⟩, fun id e he => ?_, fun i j ei ej k hi hj => ?_, fun i e k hi => ?_, fun b hb => by rw [hh]; exact I.stb b hb, I.src⟩
  · rw [h] at he
    exact ERep.mono x he (fun _ _ _ => by rw [hh]) (I.ents id e he)
  · rw [h] at hi hj; exact I.dis i j ei ej k hi hj
  · rw [h] at hi; exact I.own i e k hi
theorem Ext.turned {ι : Gh} {w w' : World} {M M' : Store} (h : ∀ id, M'.get id = M.get id) (hh : w'.heap = w.heap) : Ext ι w M ι w' M' :=
  ⟨fun _ h => h, fun b _ => by rw [hh], fun _ _ _ => ⟨rfl, rfl⟩, fun id e he => ⟨e, by rw [h]; exact he, Ev.refl e⟩⟩

theorem under_M {s : St} {M' : Store} : ∀ {k : List (Nat × Bool)} {p : Prop}, under { s with M := M' } k p = under s k p
  | [], _ => rfl
  | (d, b) :: r, p => by
    unfold under
    rw [under_M (k := r)]
    rfl
theorem underAll_M {s : St} {M' : Store} {cs : List (Nat × Bool)} : ∀ {ps : List Prop}, underAll { s with M := M' } cs ps = underAll s cs ps
  | [] => rfl
  | p :: r => by
    unfold underAll
    rw [under_M, underAll_M (ps := r)]
theorem evRec_ok {c : Cfg} {ops : List Oper} {s : St} {nid : Nat} {o : Oper} {r : Rec} (h : evRec c ops s nid o = some r) : r.dst = o.dst ∧
    ((∃ cs e, condsOf ops s o.guard = some (some cs) ∧ evEff c s cs nid o = some e ∧ r.cs = some cs ∧ r.e.sv = e.sv ∧ r.e.upd = e.upd ∧ (cs = [] ∧ r.e.pre = e.pre ∨ e.upd = [] ∧ underAll s cs e.pre = some r.e.pre)) ∨
      (condsOf ops s o.guard = some none ∧ r.cs = none ∧ r.e.sv = .tup [] ∧ r.e.upd = [])) := by
  unfold evRec at h
  split at h
  · rename_i cs hc
    split at h
    · rename_i e he
      split at h
      · cases h
        exact ⟨rfl, .inl ⟨[], e, hc, he, rfl, rfl, rfl, .inl ⟨rfl, rfl⟩⟩⟩
      · rename_i x l hu
        split at h
        · rename_i ps hps
          cases h
          exact ⟨rfl, .inl ⟨_, e, hc, he, rfl, rfl, hu.symm, .inr ⟨hu, hps⟩⟩⟩
        · cases h
      · cases h
    · cases h
  · rename_i hc
    cases h
    exact ⟨rfl, .inr ⟨hc, rfl, rfl, rfl⟩⟩
  · cases h

abbrev baseOf (ops : List Oper) (s : St2) : St := ⟨noEnv (dstsOf ops) s.s.env, [], s.s.M⟩
abbrev baseK (ops : List Oper) (masks : List Nat) (k : Nat) (s : St2) : St := wipe ops masks k ⟨s.s.env, [], s.s.M⟩
structure DrawnOk (cfg : Cfg) (ops : List Oper) (s : St2) (masks : List Nat) (U : List (List Nat)) (recs : List Rec) : Prop where
  cenv : s.s.cenv = []
  mask : MaskOk ops masks
  mlen : masks.length = ops.length
  rlen : recs.length = ops.length
  each : ∀ (i : Nat) (o : Oper), ops[i]? = some o → ∃ m u r, masks[i]? = some m ∧ U[i]? = some u ∧ recs[i]? = some r ∧ evRec cfg ops (stAt (baseK ops masks i s) masks U (recs.take i) m i) (s.next + 8 * i) o = some r ∧
    (∀ p ∈ r.e.upd, p.1 ∈ u) ∧ (∀ cs, r.cs = some cs → csIn m (recs.take i) cs = true) ∧ ∀ p ∈ r.e.upd, p.1 < s.next ∨ s.next + 8 * i ≤ p.1 ∨ bitB m ((p.1 - s.next) / 8) = true
  pairs : ∀ (j mj : Nat) (uj : List Nat) (k : Nat) (uk : List Nat), k < j → masks[j]? = some mj → U[j]? = some uj → U[k]? = some uk → bitB mj k = true ∨ ∀ x ∈ uk, x ∉ uj
  dst : ∀ (i j : Nat) (oi oj : Oper) (d : Nat), ops[i]? = some oi → ops[j]? = some oj → oi.dst = some d → oj.dst = some d → i = j
  inb : ∀ (i : Nat) (o : Oper) (d : Nat), ops[i]? = some o → o.dst = some d → d < s.s.env.length
  mem : ∀ (i : Nat) (o : Oper) (d : Nat), ops[i]? = some o → o.dst = some d → d ∈ dstsOf ops

section
variable {P : Program} {c : Ctx} {cfg : Cfg} {ops : Array Oper} {s : St2} {masks : List Nat} {U : List (List Nat)} {recs : List Rec}

abbrev Dl (listed : Array Bool) : Nat → Bool := fun j => listed.getD j false
structure J (P : Program) (c : Ctx) (cfg : Cfg) (ops : Array Oper) (s : St2) (recs : List Rec) (ι0 : Gh) (w0 : World) (a0 : Act) (listed : Array Bool) (ι : Gh) (w : World) (a : Act) (M : Store) : Prop where
  size : listed.size = ops.size
  ext : Ext ι0 w0 s.s.M ι w M
  inv : Inv c ι w M
  mem : ∀ id, M.get id = gAt (Dl listed) 0 recs s.s.M.get id
  recs : ∀ j r d, recs[j]? = some r → Dl listed j = true → r.dst = some d → (r.cs = none → a.eval (.tmp d) = undef) ∧ ∀ cs, r.cs = some cs → (Holds a cs → SVRep c ι w M r.e.sv (a.eval (.tmp d))) ∧ (¬ Holds a cs → a.eval (.tmp d) = undef)
  base : ∀ i v, eget s.s.env i = some v → (∀ (q : Nat) (o : Oper), ops.toList[q]? = some o → o.dst = some i → Dl listed q = false) → SVRep c ι w M v (a.eval (.tmp i))
  closed : ∀ j o, Dl listed j = true → ops.toList[j]? = some o → ∀ p ∈ dirOf o, Dl listed p = true
  len : s.s.env.length ≤ a.tmps.size
  defers : a.defers = a0.defers
  const : ConstOk P cfg c ι w

variable {ι0 : Gh} {w0 : World} {a0 : Act} {listed : Array Bool} {ι : Gh} {w : World} {a : Act} {M : Store}

theorem J.rep (K : DrawnOk cfg ops.toList s masks U recs) (j : J P c cfg ops s recs ι0 w0 a0 listed ι w a M) {m k i : Nat} {E : List (Option SV)} (hE : ∀ x v, eget E x = some v → SVRep c ι w M v (a.eval (.tmp x))) (hl : E.length = s.s.env.length) (hm : ∀ p, bitB m p = true → Dl listed p = true) :
    FRep c ι w { (stAt ⟨E, [], s.s.M⟩ masks U (recs.take k) m i) with M := M } a := by
  refine ⟨?_, fun x v hx => ?_, fun y hy hk => ?_, fun y hy hk => ?_⟩
  · show (foldRecs m 0 (recs.take k) ⟨E, [], s.s.M⟩).env.length ≤ _
    rw [foldRecs_len]
    show E.length ≤ _
    rw [hl]; exact j.len
  · rcases foldRecs_env (show eget (foldRecs m 0 (recs.take k) ⟨E, [], s.s.M⟩).env x = some v from hx) with h | ⟨q, r, h1, h2, h3, h4, h5⟩
    · exact hE x v h
    · rw [Nat.zero_add] at h2
      have hr : recs[q]? = some r := by rw [List.getElem?_take] at h1; exact (by split at h1 <;> first | exact h1 | cases h1)
      obtain ⟨k1, k2⟩ := j.recs q r x hr (hm q h2) h3
      rcases h5 with h5 | h5
      · have ho := (List.getElem?_eq_some_iff.1 hr).1
        have hq : ops.toList[q]? = some (ops.toList[q]'(by rw [← K.rlen]; exact ho)) := List.getElem?_eq_getElem _
        obtain ⟨m', u', r', _, _, e3, e4, _⟩ := K.each q _ hq
        rw [hr] at e3; cases e3
        rcases (evRec_ok e4).2 with ⟨cs, e, _, _, g, _⟩ | ⟨_, _, g, _⟩
        · rw [h5] at g; cases g
        · rw [h4, g, k1 h5]; exact ⟨[], rfl, rfl⟩
      · rw [h4]; exact (k2 [] h5).1 (fun _ hx => by cases hx)
  · rcases foldRecs_cenv (show y ∈ (foldRecs m 0 (recs.take k) ⟨E, [], s.s.M⟩).cenv from hy) with h | ⟨q, r, h1, h2, h3, h4, h5⟩
    · cases h
    · rw [Nat.zero_add] at h2
      have hr : recs[q]? = some r := by rw [List.getElem?_take] at h1; exact (by split at h1 <;> first | exact h1 | cases h1)
      rw [h5]; exact ((j.recs q r _ hr (hm q h2) h3).2 _ h4).1 hk
  · rcases foldRecs_cenv (show y ∈ (foldRecs m 0 (recs.take k) ⟨E, [], s.s.M⟩).cenv from hy) with h | ⟨q, r, h1, h2, h3, h4, h5⟩
    · cases h
    · rw [Nat.zero_add] at h2
      have hr : recs[q]? = some r := by rw [List.getElem?_take] at h1; exact (by split at h1 <;> first | exact h1 | cases h1)
      exact ((j.recs q r _ hr (hm q h2) h3).2 _ h4).2 hk

theorem J.step (tab : TabOk P cfg) (sums : SumsOk P cfg) (K : DrawnOk cfg ops.toList s masks U recs) (hfr : ∀ q, s.next ≤ q → s.s.M.get q = none) (hp : ∀ r ∈ recs, ∀ p ∈ r.e.pre, p) (j : J P c cfg ops s recs ι0 w0 a0 listed ι w a M)
    {i : Nat} (hi : i ∈ Region.ready .any ops listed) {Q : Exit → Act → World → Prop} {next : Act → World → Prop} (hn : ∀ ι' w' a' M', J P c cfg ops s recs ι0 w0 a0 (listed.setIfInBounds i true) ι' w' a' M' → next a' w') : wpOp P ops Q i next a w := by
  obtain ⟨hun, o, ho, hall⟩ := mem_ready.1 hi
  have hol : ops.toList[i]? = some o := by simpa using ho
  have hlt : i < ops.size := (Array.getElem?_eq_some_iff.1 ho).1
  have hil : i < listed.size := by rw [j.size]; exact hlt
  have hDi : Dl listed i = false := by
    have := hun
    simp only [Dl, Array.getD_eq_getD_getElem?, Array.getElem?_eq_getElem hil] at this ⊢
    exact this
  obtain ⟨m, u, r, e1, e2, e3, e4, e5, e6, e7⟩ := K.each i o hol
  have hdir : ∀ p ∈ dirOf o, Dl listed p = true := by
    intro p hp
    obtain ⟨e, he, rfl⟩ := List.mem_map.1 hp
    obtain ⟨he1, he2⟩ := List.mem_filter.1 he
    exact hall e (by simpa using he1) he2
  have hclosed : ∀ k ok mk, ops.toList[k]? = some ok → masks[k]? = some mk → (∀ p ∈ dirOf ok, Dl listed p = true) → ∀ p, bitB mk p = true → Dl listed p = true :=
    mask_closed (D := fun p => Dl listed p = true) K.mask j.closed
  have hbits := hclosed i o m hol e1 hdir
  have F := j.rep K (k := i) (i := i) (E := noEnv (dstsK i ops.toList masks) s.s.env) (fun x v hx => by
    obtain ⟨g1, g2⟩ := noEnv_get hx
    refine j.base x v g1 fun q oq hq hd => ?_
    obtain ⟨mq, k1, k2⟩ := dstsK_mem hq hd g2
    cases hDq : Dl listed q with
    | false => rfl
    | true =>
      have := hclosed q oq mq hq k1 (j.closed q _ hDq hq) i k2
      rw [hDi] at this; cases this) (noEnv_len _ _) hbits
  -- the entries
  have hle : MLe (stAt (baseK ops.toList masks i s) masks U (recs.take i) m i).M M := by
    intro id e he
    obtain ⟨d1, d2⟩ := del_get (show (Store.del (foldRecs m 0 (recs.take i) (baseK ops.toList masks i s)).M (unordIds masks m i 0 U)).get id = some e from he)
    rw [foldRecs_M] at d2
    rw [j.mem, ← d2]
    have hsp : recs = recs.take i ++ recs.drop i := (List.take_append_drop i recs).symm
    have hlen : (recs.take i).length = i := by rw [List.length_take, K.rlen]; simp; omega
    have s1 : gAt (bitB m) 0 (recs.take i) (baseK ops.toList masks i s).M.get id = gAt (bitB m) 0 recs s.s.M.get id := by
      have happ := gAt_append (bitB m) (recs.take i) (recs.drop i) 0 s.s.M.get
      rw [← hsp] at happ
      rw [happ]
      refine (gAt_skip _ _ _ fun q rq hq hb => ?_).symm
      have := mask_lt K.mask hol e1 _ hb
      rw [hlen] at this; omega
    rw [s1]
    refine gAt_congr recs 0 _ _ rfl fun q rq hq hne => ?_
    rw [Nat.zero_add] at hne
    intro p hpq hpi
    have hqlt := (List.getElem?_eq_some_iff.1 hq).1
    have hoq : ops.toList[q]? = some (ops.toList[q]'(by rw [← K.rlen]; exact hqlt)) := List.getElem?_eq_getElem _
    obtain ⟨mq, uq, rq', q1, q2, q3, _, q5, _⟩ := K.each q _ hoq
    rw [hq] at q3; cases q3
    have hbq : bitB m q = false := by
      cases hb : bitB m q with
      | false => rfl
      | true => rw [hb, hbits q hb] at hne; exact absurd rfl hne
    have hDq : Dl listed q = true := by
      cases hd : Dl listed q with
      | true => rfl
      | false => rw [hd, hbq] at hne; exact absurd rfl hne
    have hqi : q ≠ i := fun hh => by rw [hh, hDi] at hDq; cases hDq
    have hmem : id ∈ unordIds masks m i 0 U := by
      refine unord_mem (i := q) q2 (by rw [← hpi]; exact q5 p hpq) (by omega) (by rw [Nat.zero_add]; exact hbq) fun mj hmj => ?_
      rw [Nat.zero_add, q1] at hmj; cases hmj
      cases hb : bitB mq i with
      | false => rfl
      | true =>
        have := hclosed q _ mq hoq q1 (j.closed q _ hDq hoq) i hb
        rw [hDi] at this; cases this
    rw [mem1_mem.2 hmem] at d1; cases d1
  have hbel : below (s.next + 8 * i + 8) r.e.upd = true := by
    rcases (evRec_ok e4).2 with ⟨cs, e, _, he, _, _, hu, _⟩ | ⟨_, _, _, hu⟩
    · rw [hu]; exact evEff_below he
    · rw [hu]; rfl
  have hidlt : ∀ q rq, recs[q]? = some rq → ∀ p ∈ rq.e.upd, p.1 < s.next + 8 * q + 8 ∧ (p.1 < s.next ∨ s.next + 8 * q ≤ p.1 ∨ (Dl listed q = true → Dl listed ((p.1 - s.next) / 8) = true)) := by
    intro q rq hq p hpq
    have hqlt := (List.getElem?_eq_some_iff.1 hq).1
    have hoq : ops.toList[q]? = some (ops.toList[q]'(by rw [← K.rlen]; exact hqlt)) := List.getElem?_eq_getElem _
    obtain ⟨mq, uq, rq', q1, q2, q3, q4, q5, _, q7⟩ := K.each q _ hoq
    rw [hq] at q3; cases q3
    refine ⟨?_, (q7 p hpq).imp_right fun h => h.imp_right fun h hDq => hclosed q _ mq hoq q1 (j.closed q _ hDq hoq) _ h⟩
    have hb : below (s.next + 8 * q + 8) rq.e.upd = true := by
      rcases (evRec_ok q4).2 with ⟨cs, e, _, he, _, _, hu, _⟩ | ⟨_, _, _, hu⟩
      · rw [hu]; exact evEff_below he
      · rw [hu]; rfl
    exact below_mem hb p hpq
  have hfree : ∀ q, s.next + 8 * i ≤ q → q < s.next + 8 * i + 8 → M.get q = none := by
    intro q h1 h2
    rw [j.mem, gAt_skip]
    · exact hfr q (by omega)
    · intro t rt ht hd p hpt hpq
      rw [Nat.zero_add] at hd
      have hti : t ≠ i := fun hh => by rw [hh, hDi] at hd; cases hd
      obtain ⟨g1, g2⟩ := hidlt t rt ht p hpt
      rcases g2 with g2 | g2 | g2
      · omega
      · omega
      · have g3 := g2 hd
        have : (p.1 - s.next) / 8 = i := by omega
        rw [this, hDi] at g3; cases g3
  -- what is behind it
  have hsvd : ∀ {d}, o.dst = some d → ∀ q rq d', recs[q]? = some rq → Dl listed q = true → rq.dst = some d' → d' ≠ d := by
    intro d hd q rq d' hq hDq hd' hdd
    have hqlt := (List.getElem?_eq_some_iff.1 hq).1
    have hoq : ops.toList[q]? = some (ops.toList[q]'(by rw [← K.rlen]; exact hqlt)) := List.getElem?_eq_getElem _
    obtain ⟨mq, uq, rq', q1, q2, q3, q4, _⟩ := K.each q _ hoq
    rw [hq] at q3; cases q3
    have hqi : q ≠ i := fun hh => by rw [hh, hDi] at hDq; cases hDq
    exact hqi (K.dst q i _ o d hoq hol ((evRec_ok q4).1 ▸ (by rw [hd', hdd])) hd)
  have hholds : ∀ {v : Value} {q rq cs}, recs[q]? = some rq → Dl listed q = true → rq.cs = some cs → (Holds (a.put o.dst v) cs ↔ Holds a cs) := by
    intro v q rq cs hq hDq hcs
    cases hd : o.dst with
    | none => exact Iff.rfl
    | some d =>
      refine holds_put fun x hx => ?_
      have hqlt := (List.getElem?_eq_some_iff.1 hq).1
      have hoq : ops.toList[q]? = some (ops.toList[q]'(by rw [← K.rlen]; exact hqlt)) := List.getElem?_eq_getElem _
      obtain ⟨mq, uq, rq', q1, q2, q3, q4, _, q6, _⟩ := K.each q _ hoq
      rw [hq] at q3; cases q3
      obtain ⟨t, rt, t1, t2, t3⟩ := csIn_ok (q6 cs hcs) x hx
      have ht : recs[t]? = some rt := by rw [List.getElem?_take] at t1; exact (by split at t1 <;> first | exact t1 | cases t1)
      exact hsvd hd t rt _ ht (hclosed q _ mq hoq q1 (j.closed q _ hDq hoq) t t2) t3
  have hput : ∀ {v : Value} {d' : Nat}, (∀ d, o.dst = some d → d' ≠ d) → (a.put o.dst v).eval (.tmp d') = a.eval (.tmp d') := by
    intro v d' h
    cases hd : o.dst with
    | none => rfl
    | some d => rw [eval_put, if_neg (fun hh => h d hd hh.1)]
  have hset : ∀ q, Dl (listed.setIfInBounds i true) q = (if q = i then true else Dl listed q) := by
    intro q
    by_cases hq : q = i
    · subst hq
      rw [if_pos rfl]
      simp [Dl, hil]
    · rw [if_neg hq]
      exact getD_set_ne false (fun hh => hq hh.symm)
  have finish : ∀ (ι' : Gh) (w' : World) (v : Value), Inv c ι' w' (M.upds r.e.upd) → Ext ι w M ι' w' (M.upds r.e.upd) →
      (∀ d, o.dst = some d → (r.cs = none → v = undef) ∧ ∀ cs, r.cs = some cs → (Holds a cs → SVRep c ι' w' (M.upds r.e.upd) r.e.sv v) ∧ (¬ Holds a cs → v = undef)) → next (a.put o.dst v) w' := by
    intro ι' w' v I' x hv
    refine hn ι' w' _ (M.upds r.e.upd) ⟨by rw [Array.size_setIfInBounds]; exact j.size, j.ext.trans x, I', fun id => ?_, fun q rq d hq hDq hd => ?_, fun q u hq hnd => ?_, fun q oq hDq hoq p hpq => ?_, by rw [put_size]; exact j.len, by rw [put_defers]; exact j.defers, j.const.mono x⟩
    · rw [upds_get, j.mem]
      refine (gAt_set (k := i) e3 hDi (by rw [hset, if_pos rfl]) (fun q hq => by rw [hset, if_neg hq]) (fun q rq hiq hq hDq p hpq t ht => ?_) id).symm
      have hqlt := (List.getElem?_eq_some_iff.1 hq).1
      have hoq : ops.toList[q]? = some (ops.toList[q]'(by rw [← K.rlen]; exact hqlt)) := List.getElem?_eq_getElem _
      obtain ⟨mq, uq, rq', q1, q2, q3, q4, q5, _⟩ := K.each q _ hoq
      rw [hq] at q3; cases q3
      rcases K.pairs q mq uq i u hiq q1 q2 e2 with hb | hb
      · have := hclosed q _ mq hoq q1 (j.closed q _ hDq hoq) i hb
        rw [hDi] at this; cases this
      · intro hh
        exact hb t.1 (e5 t ht) (by rw [← hh]; exact q5 p hpq)
    · rw [hset] at hDq
      by_cases hqi : q = i
      · subst hqi
        rw [e3] at hq; cases hq
        have hod : o.dst = some d := by rw [← (evRec_ok e4).1]; exact hd
        have hsz : d < a.tmps.size := Nat.lt_of_lt_of_le (K.inb q o d hol hod) j.len
        have hev : (a.put o.dst v).eval (.tmp d) = v := by rw [hod, eval_put, if_pos ⟨rfl, hsz⟩]
        rw [hev]
        obtain ⟨h1, h2⟩ := hv d hod
        refine ⟨h1, fun cs hcs => ?_⟩
        have hh : Holds (a.put o.dst v) cs ↔ Holds a cs := by
          rw [hod]
          refine holds_put fun y hy => ?_
          obtain ⟨t, rt, t1, t2, t3⟩ := csIn_ok (e6 cs hcs) y hy
          have ht : recs[t]? = some rt := by rw [List.getElem?_take] at t1; exact (by split at t1 <;> first | exact t1 | cases t1)
          exact hsvd hod t rt _ ht (hbits t t2) t3
        exact ⟨fun hk => (h2 cs hcs).1 (hh.1 hk), fun hk => (h2 cs hcs).2 (fun hh' => hk (hh.2 hh'))⟩
      · rw [if_neg hqi] at hDq
        obtain ⟨h1, h2⟩ := j.recs q rq d hq hDq hd
        rw [hput (fun d' hd' => hsvd hd' q rq d hq hDq hd)]
        refine ⟨h1, fun cs hcs => ?_⟩
        have hh := hholds (v := v) hq hDq hcs
        exact ⟨fun hk => ((h2 cs hcs).1 (hh.1 hk)).mono x, fun hk => (h2 cs hcs).2 (fun hh' => hk (hh.2 hh'))⟩
    · rw [hput (fun d hd hqd => ?_)]
      · refine (j.base q u hq fun q' o' ho' hd' => ?_).mono x
        have := hnd q' o' ho' hd'
        rw [hset] at this
        by_cases hh : q' = i
        · rw [if_pos hh] at this; cases this
        · rw [if_neg hh] at this; exact this
      · have := hnd i o hol (by rw [hqd]; exact hd)
        rw [hset, if_pos rfl] at this; cases this
    · rw [hset] at hDq ⊢
      by_cases hpi : p = i
      · rw [if_pos hpi]
      · rw [if_neg hpi]
        by_cases hqi : q = i
        · subst hqi
          rw [hol] at hoq; cases hoq
          exact hdir p hpq
        · rw [if_neg hqi] at hDq
          exact j.closed q oq hDq hoq p hpq
  unfold wpOp
  simp only [ho]
  rcases (evRec_ok e4).2 with ⟨cs, e, hc, he, hrc, hsv, hu, hpre⟩ | ⟨hc, hrc, hsv, hu⟩
  · have hw := condsOf_ok F (show condsOf ops.toList _ o.guard = some (some cs) from hc)
    by_cases hk : Holds a cs
    · rw [if_pos (hw.2 ⟨cs, rfl, hk⟩)]
      left
      have he' := evEff_mono (M' := M) hle (fun f G hs => by have := sums f _ hs; exact this) he
      have hpe : ∀ p ∈ e.pre, p := by
        have hpr := hp r (List.mem_of_getElem? e3)
        rcases hpre with ⟨_, hh⟩ | ⟨_, hh⟩
        · rw [hh] at hpr; exact hpr
        · exact underAll_ok F hk (by rw [underAll_M]; exact hh) hpr
      refine (evEff_sound tab sums (show Inv c ι w ({ (stAt (baseK ops.toList masks i s) masks U (recs.take i) m i) with M := M } : St).M from j.inv) F j.const hk hfree he' hpe).imp fun v w' ι' I' x hv => ?_
      rw [← hu] at I' x hv
      rw [← hsv] at hv
      refine finish ι' w' v I' x fun d _ => ⟨fun hh => (by rw [hrc] at hh; cases hh), fun cs' hcs' => ?_⟩
      rw [hrc] at hcs'; cases hcs'
      exact ⟨fun _ => hv, fun hh => absurd hk hh⟩
    · have hnw : Region.wanted o (yielded ops a.tmps) = false := by
        cases hh : Region.wanted o (yielded ops a.tmps) with
        | false => rfl
        | true => obtain ⟨cs', h1, h2⟩ := hw.1 hh; cases h1; exact absurd h2 hk
      rw [hnw, if_neg (by simp)]
      have hue : r.e.upd = [] := by
        rcases hpre with ⟨hh, _⟩ | ⟨hh, _⟩
        · exact absurd (by rw [hh]; exact fun x hx => (List.not_mem_nil hx).elim) hk
        · rw [hu]; exact hh
      refine finish ι w undef (by rw [hue]; exact j.inv) (by rw [hue]; exact Ext.refl _ _ _) fun d _ => ⟨fun _ => rfl, fun cs' hcs' => ?_⟩
      rw [hrc] at hcs'; cases hcs'
      exact ⟨fun hh => absurd hh hk, fun _ => rfl⟩
  · have hw := condsOf_ok F (show condsOf ops.toList _ o.guard = some none from hc)
    have hnw : Region.wanted o (yielded ops a.tmps) = false := by
      cases hh : Region.wanted o (yielded ops a.tmps) with
      | false => rfl
      | true => obtain ⟨cs', h1, h2⟩ := hw.1 hh; cases h1
    rw [hnw, if_neg (by simp)]
    refine finish ι w undef (by rw [hu]; exact j.inv) (by rw [hu]; exact Ext.refl _ _ _) fun d _ => ⟨fun _ => rfl, fun cs' hcs' => ?_⟩
    rw [hrc] at hcs'; cases hcs'
where
  below_mem {n : Nat} : ∀ {u : List (Nat × Entry)}, below n u = true → ∀ p ∈ u, p.1 < n
    | [], _, p, hp => by cases hp
    | x :: u, h, p, hp => by
      unfold below at h
      cases hx : Nat.blt x.1 n with
      | false => rw [hx] at h; cases h
      | true =>
        rw [hx] at h
        rcases List.mem_cons.1 hp with rfl | hp
        · simpa using hx
        · exact below_mem h p hp

/-- Whatever order is drawn, all is done in the end. -/
theorem J.any (tab : TabOk P cfg) (sums : SumsOk P cfg) (K : DrawnOk cfg ops.toList s masks U recs) (hfr : ∀ q, s.next ≤ q → s.s.M.get q = none) (hp : ∀ r ∈ recs, ∀ p ∈ r.e.pre, p) {Q : Exit → Act → World → Prop}
    (hn : ∀ (listed : Array Bool) ι w a M, J P c cfg ops s recs ι0 w0 a0 listed ι w a M → (∀ q, q < ops.size → Dl listed q = true) → Q .normal a w) :
    ∀ (fuel : Nat) (listed : Array Bool) (ι : Gh) (w : World) (a : Act) (M : Store), J P c cfg ops s recs ι0 w0 a0 listed ι w a M → ((List.range ops.size).filter fun q => !Dl listed q).length ≤ fuel → wpAny P .any ops Q fuel listed a w := by
  have none : ∀ (listed : Array Bool) ι w a M, J P c cfg ops s recs ι0 w0 a0 listed ι w a M → Region.ready .any ops listed = [] → ∀ q, q < ops.size → Dl listed q = true := by
    intro listed ι w a M j hr q
    induction q using Nat.strongRecOn with
    | _ q ih =>
      intro hq
      cases hd : Dl listed q with
      | true => rfl
      | false =>
        exfalso
        have hql : q < listed.size := by rw [j.size]; exact hq
        have : q ∈ Region.ready .any ops listed := by
          refine mem_ready.2 ⟨?_, ops[q], Array.getElem?_eq_getElem hq, fun e he hb => ?_⟩
          · simp only [Dl, Array.getD_eq_getD_getElem?, Array.getElem?_eq_getElem hql] at hd ⊢; exact hd
          · obtain ⟨m, _, k2, _⟩ := K.mask q ops[q] (by simp [hq])
            have hmem : e.on ∈ dirOf ops[q] := List.mem_map.2 ⟨e, List.mem_filter.2 ⟨by simpa using he, hb⟩, rfl⟩
            have hlt := (k2 e.on hmem).1
            exact ih e.on hlt (by omega)
        rw [hr] at this; cases this
  intro fuel
  induction fuel with
  | zero =>
    intro listed ι w a M j hc
    have hall : ∀ q, q < ops.size → Dl listed q = true := by
      intro q hq
      cases hd : Dl listed q with
      | true => rfl
      | false =>
        have : q ∈ (List.range ops.size).filter fun q => !Dl listed q := List.mem_filter.2 ⟨List.mem_range.2 hq, by rw [hd]; rfl⟩
        rw [List.length_eq_zero_iff.1 (Nat.le_zero.1 hc)] at this; cases this
    refine ⟨?_, hn listed ι w a M j hall⟩
    cases hr : Region.ready .any ops listed with
    | nil => rfl
    | cons q l =>
      obtain ⟨hun, o, ho, _⟩ := mem_ready.1 (show q ∈ Region.ready .any ops listed by rw [hr]; simp)
      have hlt := (Array.getElem?_eq_some_iff.1 ho).1
      have hql : q < listed.size := by rw [j.size]; exact hlt
      have := hall q hlt
      simp only [Dl, Array.getD_eq_getD_getElem?, Array.getElem?_eq_getElem hql, Option.getD_some] at this hun
      rw [this] at hun; cases hun
  | succ fuel ih =>
    intro listed ι w a M j hc
    refine ⟨fun hr => hn listed ι w a M j (none listed ι w a M j hr), fun i hi => ?_⟩
    refine j.step tab sums K hfr hp hi fun ι' w' a' M' j' => ih _ ι' w' a' M' j' ?_
    obtain ⟨hun, o, ho, _⟩ := mem_ready.1 hi
    have hlt := (Array.getElem?_eq_some_iff.1 ho).1
    have hil : i < listed.size := by rw [j.size]; exact hlt
    have hDi : Dl listed i = false := by
      have := hun
      simp only [Dl, Array.getD_eq_getD_getElem?, Array.getElem?_eq_getElem hil] at this ⊢
      exact this
    have hlen : ∀ (l : List Nat), i ∈ l → (l.filter fun q => !Dl (listed.setIfInBounds i true) q).length + 1 ≤ (l.filter fun q => !Dl listed q).length := by
      have hle : ∀ (l : List Nat), (l.filter fun q => !Dl (listed.setIfInBounds i true) q).length ≤ (l.filter fun q => !Dl listed q).length := by
        intro l
        induction l with
        | nil => simp
        | cons q l ihl =>
          by_cases hq : q = i
          · subst hq
            have h1 : Dl (listed.setIfInBounds q true) q = true := by simp [Dl, hil]
            rw [List.filter_cons_of_neg (by rw [h1]; simp), List.filter_cons_of_pos (by rw [hDi]; rfl), List.length_cons]
            omega
          · have h1 : Dl (listed.setIfInBounds i true) q = Dl listed q := getD_set_ne false (fun hh => hq hh.symm)
            rw [List.filter_cons, List.filter_cons, h1]
            split
            · rw [List.length_cons, List.length_cons]; omega
            · exact ihl
      intro l hl
      induction l with
      | nil => cases hl
      | cons q l ihl =>
        by_cases hq : q = i
        · subst hq
          have h1 : Dl (listed.setIfInBounds q true) q = true := by simp [Dl, hil]
          rw [List.filter_cons_of_neg (by rw [h1]; simp), List.filter_cons_of_pos (by rw [hDi]; rfl), List.length_cons]
          have := hle l
          omega
        · have h1 : Dl (listed.setIfInBounds i true) q = Dl listed q := getD_set_ne false (fun hh => hq hh.symm)
          have := ihl ((List.mem_cons.1 hl).resolve_left (fun hh => hq hh.symm))
          rw [List.filter_cons, List.filter_cons, h1]
          split
          · rw [List.length_cons, List.length_cons]; omega
          · exact this
    have := hlen (List.range ops.size) (List.mem_range.2 hlt)
    omega

theorem pairs1_ok {m : Nat} {u : List Nat} : ∀ {l : List (List Nat)} {k : Nat}, pairsB1 m u k l = true → ∀ i v, l[i]? = some v → bitB m (k + i) = true ∨ ∀ x ∈ v, x ∉ u
  | [], _, _, i, v, h => by simp at h
  | v0 :: l, k, h, i, v, hi => by
    unfold pairsB1 at h
    cases hb : (bitB m k || apartIds u v0) with
    | false => rw [hb] at h; cases h
    | true =>
      rw [hb] at h
      cases i with
      | zero =>
        simp at hi; subst hi
        rw [Bool.or_eq_true] at hb
        exact hb.imp id fun h => apart_ok h
      | succ i =>
        have := pairs1_ok (k := k + 1) h i v (by simpa using hi)
        rw [show k + 1 + i = k + (i + 1) by omega] at this; exact this
where
  apart_ok {u : List Nat} : ∀ {v : List Nat}, apartIds u v = true → ∀ x ∈ v, x ∉ u
    | [], _, x, hx => by cases hx
    | y :: v, h, x, hx => by
      unfold apartIds at h
      cases hm : mem1 y u with
      | true => rw [hm] at h; cases h
      | false =>
        rw [hm] at h
        rcases List.mem_cons.1 hx with rfl | hx
        · intro hu; rw [mem1_mem.2 hu] at hm; cases hm
        · exact apart_ok h x hx
theorem pairs_ok {masks : List Nat} {U : List (List Nat)} : ∀ {l : List (List Nat)} {j : Nat}, pairsB masks U j l = true → ∀ i u, l[i]? = some u → ∃ m, masks[j + i]? = some m ∧ pairsB1 m u 0 (U.take (j + i)) = true
  | [], _, _, i, u, h => by simp at h
  | u0 :: l, j, h, i, u, hi => by
    unfold pairsB at h
    cases hm : masks[j]? with
    | none => rw [hm] at h; cases h
    | some m =>
      rw [hm] at h
      simp only at h
      cases hb : pairsB1 m u0 0 (U.take j) with
      | false => rw [hb] at h; cases h
      | true =>
        rw [hb] at h
        cases i with
        | zero =>
          simp at hi; subst hi
          exact ⟨m, hm, hb⟩
        | succ i =>
          have := pairs_ok (j := j + 1) h i u (by simpa using hi)
          rw [show j + 1 + i = j + (i + 1) by omega] at this; exact this
theorem dsts_mem : ∀ {l : List Oper} {i : Nat} {o : Oper} {d : Nat}, l[i]? = some o → o.dst = some d → d ∈ dstsOf l
  | [], i, o, d, h, _ => by simp at h
  | o0 :: l, i, o, d, h, hd => by
    cases i with
    | zero =>
      simp at h; subst h
      unfold dstsOf; rw [hd]; simp
    | succ i =>
      have := dsts_mem (l := l) (i := i) (by simpa using h) hd
      unfold dstsOf
      split
      · exact List.mem_cons_of_mem _ this
      · exact this
theorem dsts_inj : ∀ {l : List Oper}, (dstsOf l).Nodup → ∀ (i j : Nat) (oi oj : Oper) (d : Nat), l[i]? = some oi → l[j]? = some oj → oi.dst = some d → oj.dst = some d → i = j
  | [], _, i, j, oi, oj, d, h, _, _, _ => by simp at h
  | o0 :: l, hn, i, j, oi, oj, d, hi, hj, hdi, hdj => by
    have hn' : (dstsOf l).Nodup := by
      unfold dstsOf at hn
      split at hn
      · exact (List.nodup_cons.1 hn).2
      · exact hn
    have hno : o0.dst = some d → d ∉ dstsOf l := by
      intro h0
      unfold dstsOf at hn
      rw [h0] at hn
      exact (List.nodup_cons.1 hn).1
    cases i with
    | zero =>
      simp at hi; subst hi
      cases j with
      | zero => rfl
      | succ j => exact absurd (dsts_mem (l := l) (i := j) (by simpa using hj) hdj) (hno hdi)
    | succ i =>
      cases j with
      | zero =>
        simp at hj; subst hj
        exact absurd (dsts_mem (l := l) (i := i) (by simpa using hi) hdi) (hno hdj)
      | succ j =>
        have := dsts_inj hn' i j oi oj d (by simpa using hi) (by simpa using hj) hdi hdj
        omega
theorem allInB_ok {env : List (Option SV)} : ∀ {l : List Nat}, allInB env l = true → ∀ d ∈ l, d < env.length
  | [], _, d, h => by cases h
  | x :: l, h, d, hd => by
    unfold allInB at h
    cases hb : inB env x with
    | false => rw [hb] at h; cases h
    | true =>
      rw [hb] at h
      rcases List.mem_cons.1 hd with rfl | hd
      · exact inB_lt hb
      · exact allInB_ok h d hd
theorem nodup1_nodup : ∀ {l : List Nat}, nodup1 l = true → l.Nodup
  | [], _ => List.nodup_nil
  | x :: l, h => by
    simp only [nodup1, Bool.and_eq_true, Bool.not_eq_true'] at h
    exact List.nodup_cons.2 ⟨fun hx => (by rw [mem1_mem.2 hx] at h; cases h.1), nodup1_nodup h.2⟩

/-- A region whose order is open: what is owed of it is enough. -/
theorem drawn_sound (hm : P.follows .mixedOrders = true) (tab : TabOk P cfg) (sums : SumsOk P cfg) {s' : St2} {id : Nat} {ps : List Prop} {Q : Exit → Act → World → Prop} (h : drawn cfg ops.toList s = some (ps, s')) (hp : ∀ p ∈ ps, p)
    (R : Rel c ι w s a) (G : ConstOk P cfg c ι w) (hn : Goes c ι w s.s.M a (fun t => t = s') (Q .normal)) : (Code.region id ops true).wp P Q a w := by
  unfold drawn at h
  split at h
  · cases h
  rename_i hcenv
  split at h
  · rename_i masks U hma hU
    cases hb : (pairsB masks U 0 U && nodup1 (dstsOf ops.toList) && allInB s.s.env (dstsOf ops.toList)) with
    | false => rw [hb] at h; cases h
    | true =>
      rw [hb] at h
      simp only [cond_true] at h
      simp only [Bool.and_eq_true] at hb
      obtain ⟨⟨b1, b2⟩, b3⟩ := hb
      split at h
      · rename_i recs hrecs
        obtain ⟨hpre, hs'⟩ : recs.flatMap (·.e.pre) = ps ∧ _ = s' := by simpa using h
        obtain ⟨ml, mo⟩ := masksOf_ok (d := []) hma rfl (fun k o hk => by simp at hk)
        obtain ⟨rl, _, re⟩ := pass2_ok hrecs rfl
        have K : DrawnOk cfg ops.toList s masks U recs := {
          cenv := hcenv
          mask := by simpa using mo
          mlen := by simpa using ml
          rlen := by simpa using rl
          each := fun i o hi => by
            obtain ⟨m, u, r, h1, h2, h3, h4, h5, h6, h7⟩ := re i o hi
            simp only [Nat.zero_add] at h1 h2 h3 h4 h6 h7
            exact ⟨m, u, r, h1, h2, h3, h4, h5, h6, h7⟩
          pairs := fun j mj uj k uk hkj hmj huj huk => by
            obtain ⟨m, h1, h2⟩ := pairs_ok b1 j uj huj
            rw [Nat.zero_add] at h1 h2
            rw [hmj] at h1; cases h1
            have := pairs1_ok h2 k uk (by rw [List.getElem?_take, if_pos hkj]; exact huk)
            rw [Nat.zero_add] at this; exact this
          dst := dsts_inj (nodup1_nodup b2)
          inb := fun i o d hi hd => allInB_ok b3 d (dsts_mem hi hd)
          mem := fun i o d hi hd => dsts_mem hi hd }
        have hps : ∀ r ∈ recs, ∀ p ∈ r.e.pre, p := fun r hr p hpr => hp p (by rw [← hpre]; exact List.mem_flatMap.2 ⟨r, hr, hpr⟩)
        obtain ⟨I, F, fr⟩ := R
        have hw1 : Ext ι w s.s.M ι { w with drawn := w.drawn + 1 } s.s.M := Ext.turned (fun _ => rfl) rfl
        have hD0 : ∀ q, Dl (Array.replicate ops.size false) q = false := fun q => by
          simp only [Dl, Array.getD_eq_getD_getElem?, Array.getElem?_replicate]
          split <;> rfl
        have j0 : J P c cfg ops s recs ι w a (Array.replicate ops.size false) ι { w with drawn := w.drawn + 1 } a s.s.M := {
          size := by simp
          ext := hw1
          inv := I.turned (fun _ => rfl) rfl rfl rfl rfl
          mem := fun id => (gAt_skip recs 0 _ (fun q r _ hd => by rw [hD0] at hd; cases hd)).symm
          recs := fun q r d _ hd => by rw [hD0] at hd; cases hd
          base := fun i v hv _ => (F.env i v hv).mono hw1
          closed := fun q o hd => by rw [hD0] at hd; cases hd
          len := F.len
          defers := rfl
          const := G.mono hw1 }
        refine wp_region_any hm (J.any (ops := ops) tab sums K fr hps (fun listed ι' w' a' M j hall => ?_) ops.size (Array.replicate ops.size false) ι _ a s.s.M j0 ?_)
        · have hbm : ∀ q, bitB (2 ^ ops.toList.length - 1) q = true → Dl listed q = true := fun q hq => by
            rw [bitB_all] at hq
            exact hall q (by simpa using hq)
          have hrlen : recs.length = ops.size := by rw [K.rlen]; simp
          have hM : ∀ id, (foldRecs (2 ^ ops.toList.length - 1) 0 recs (baseOf ops.toList s)).M.get id = M.get id := by
            intro id
            rw [foldRecs_M, j.mem]
            refine gAt_congr recs 0 _ _ rfl fun q r hq hne => ?_
            have hql := (List.getElem?_eq_some_iff.1 hq).1
            rw [Nat.zero_add, bitB_all] at hne
            rw [hall q (by omega)] at hne
            exact absurd (by simp; omega) hne
          have F' := j.rep (k := recs.length) (i := 0) K (E := noEnv (dstsOf ops.toList) s.s.env) (fun x v hx => by
            obtain ⟨g1, g2⟩ := noEnv_get hx
            exact j.base x v g1 fun q oq hq hd => absurd (K.mem q oq x hq hd) g2) (noEnv_len _ _) hbm
          refine hn s' a' w' ι' rfl ?_ ?_ j.defers
          · subst hs'
            refine ⟨j.inv.turned hM rfl rfl rfl rfl, ⟨?_, fun x v hx => ?_, fun y hy => (List.not_mem_nil hy).elim, fun y hy => (List.not_mem_nil hy).elim⟩, fun q hq => ?_⟩
            · show (foldRecs _ 0 recs _).env.length ≤ _
              rw [foldRecs_len]
              show (noEnv _ _).length ≤ _
              rw [noEnv_len]; exact j.len
            · refine (F'.env x v ?_).mono (Ext.turned hM rfl)
              show eget (foldRecs _ 0 (recs.take recs.length) _).env x = some v
              rw [List.take_length]; exact hx
            · refine (hM q).trans ?_
              rw [j.mem, gAt_skip]
              · exact fr q (Nat.le_trans bump_ok.1 hq)
              · intro t r ht _ p hpr hpq
                have hq : bump s.next (recs.flatMap (·.e.upd)) ≤ q := hq
                have := (bump_ok (u := recs.flatMap (·.e.upd)) (n := s.next)).2 p (List.mem_flatMap.2 ⟨r, List.mem_of_getElem? ht, hpr⟩)
                omega
          · subst hs'
            exact j.ext.congr (fun _ => rfl) hM
        · have := List.length_filter_le (fun q => !Dl (Array.replicate ops.size false) q) (List.range ops.size)
          simpa using this
      · cases h
  · cases h
end
end Go.Vc
