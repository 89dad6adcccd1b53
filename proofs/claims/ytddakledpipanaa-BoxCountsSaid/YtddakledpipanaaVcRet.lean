/- A function of plain data: what is owed of it is enough for its summary. -/
import Derived.Test.YtddakledpipanaaVcFn
set_option linter.unusedVariables false
set_option linter.unusedSimpArgs false
namespace Go.Vc
section
variable {P : Program} {c : Ctx} {cfg : Cfg} {ι : Gh} {w : World} {a : Act}

theorem lookup1_inj {b : List (Nat × Nat)} (hn : (b.map (·.2)).Nodup) {i j x : Nat} (h1 : lookup1 i b = some x) (h2 : lookup1 j b = some x) : i = j := by
  have m1 := lookup1_mem h1
  have m2 := lookup1_mem h2
  clear h1 h2
  induction b with
  | nil => cases m1
  | cons y r ih =>
    rw [List.map_cons, List.nodup_cons] at hn
    rcases List.mem_cons.1 m1 with e1 | m1 <;> rcases List.mem_cons.1 m2 with e2 | m2
    · rw [← e1] at e2; cases e2; rfl
    · exfalso; refine hn.1 (List.mem_map.2 ⟨_, m2, ?_⟩); rw [← e1]
    · exfalso; refine hn.1 (List.mem_map.2 ⟨_, m1, ?_⟩); rw [← e2]
    · exact ih hn.2 m1 m2
theorem matchE_live {M : Store} {a e : Entry} {x : Mt} (h : matchE M a e = some x) (hl : e.live = true) : a.live = true := by
  cases e <;> cases a <;> simp only [matchE] at h <;> first | rfl | (cases h; done) | (cases hl; done)
theorem matchE_like {M : Store} {a e : Entry} {x : Mt} (h : matchE M a e = some x) : e = .dead ∨ ((∃ e0 t fr ap l fr', e = .row e0 t fr ap l ∧ a = .row e0 t fr' ap l) ∨ (∃ ls ls', e = .obj ls ∧ a = .obj ls') ∨ ∃ t fr l fr', e = .frz t fr l ∧ a = .frz t fr' l) ∨ ∃ p ∈ x.ps, ¬ p := by
  cases e with
  | dead => exact .inl rfl
  | row e0 t fr ap l =>
    cases a <;> simp only [matchE] at h <;> first | (cases h; done) | skip
    rename_i e1 t1 fr1 ap1 l1
    split at h
    · rename_i ht; subst ht
      cases hf : (Nat.beq e1 e0 && (!fr || fr1) && (ap == ap1)) with
      | false => rw [hf] at h; cases h
      | true =>
        rw [hf] at h; cases h
        simp only [Bool.and_eq_true] at hf
        obtain ⟨⟨f1, f2⟩, f3⟩ := hf
        have f1 : e1 = e0 := Nat.eq_of_beq_eq_true f1
        have f3 : ap = ap1 := by simpa using f3
        subst f1 f3
        by_cases hl : l1 = l
        · subst hl; exact .inr (.inl (.inl ⟨_, _, _, _, _, _, rfl, rfl⟩))
        · exact .inr (.inr ⟨_, List.mem_singleton.2 rfl, hl⟩)
    · cases h
  | frz t fr l =>
    cases a <;> simp only [matchE] at h <;> first | (cases h; done) | skip
    rename_i t1 fr1 l1
    split at h
    · rename_i ht; subst ht
      cases hf : (!fr || fr1) with
      | false => rw [hf] at h; cases h
      | true =>
        rw [hf] at h; cases h
        by_cases hl : l1 = l
        · subst hl; exact .inr (.inl (.inr (.inr ⟨_, _, _, _, rfl, rfl⟩)))
        · exact .inr (.inr ⟨_, List.mem_singleton.2 rfl, hl⟩)
    · cases h
  | obj ls =>
    cases a <;> simp only [matchE] at h <;> first | (cases h; done) | skip
    exact .inr (.inl (.inr (.inl ⟨_, _, rfl, rfl⟩)))

theorem retOk_pure {s : St2} {sv : SV} {v : Value} {d : Done} (R : Rel c ι w s a) (hback : d.back = []) (hv : SVRep c ι w s.s.M sv v) (h : retOk s sv d) :
    ∃ ι', Inv c ι' w (numFrom 0 d.made) ∧ SVRep c ι' w (numFrom 0 d.made) d.res v := by
  have hins : s.ins = [] := by
    unfold retOk noIns at h
    rw [hback] at h
    cases hi : s.ins with
    | nil => rfl
    | cons _ _ => rw [hi] at h; exact h.elim
  have h : retOk0 s sv d := by
    unfold retOk at h
    cases hn : noIns s d with
    | true => rw [hn] at h; exact h
    | false => rw [hn] at h; exact h.elim
  unfold retOk0 at h
  cases hm0 : matchSV s.s.M sv d.res with
  | none => rw [hm0] at h; exact h.elim
  | some m0 =>
    rw [hm0] at h
    simp only at h
    cases hm : matchEs s.s.M 0 (d.back ++ d.made) ⟨m0.ps, zipI (List.range s.ins.length) s.ins ++ m0.bind, m0.gone⟩ with
    | none => rw [hm] at h; exact h.elim
    | some m =>
      rw [hm] at h
      simp only at h
      cases hb : dedup [] m.bind with
      | none => rw [hb] at h; exact h.elim
      | some b =>
        rw [hb] at h
        simp only at h
        cases hk : (nodup1 (b.map (·.2)) && ((m.gone.all fun i => !(mem1 i (b.map (·.2)))) && b.all fun p => Nat.blt p.1 (d.back.length + d.made.length))) with
        | false => rw [hk] at h; exact h.elim
        | true =>
          rw [hk] at h
          obtain ⟨hps, _⟩ := conj_iff.1 (show conj m.ps True from h)
          simp only [Bool.and_eq_true] at hk
          obtain ⟨k1, k2, k3⟩ := hk
          have hnd := nodup1_ok k1
          rw [hback, List.nil_append] at hm
          obtain ⟨e1, e2, e3, e4⟩ := matchEs_ok hm
          obtain ⟨_, hded⟩ := dedup_ok hb
          have I := R.inv
          let ι' : Gh := { S := fun k => ι.S k ∨ ∃ id ∈ m.gone, ∃ e, s.s.M.get id = some e ∧ e.live = true ∧ ι.blk id = some k, base := fun j => match lookup1 j b with | some id => ι.base id | none => none, cap := fun j => match lookup1 j b with | some id => ι.cap id | none => 0 }
          have hbase : ∀ {j id}, lookup1 j b = some id → ι'.base j = ι.base id ∧ ι'.cap j = ι.cap id := fun {j id} hl => by simp only [ι', hl]; exact ⟨trivial, trivial⟩
          have hblk : ∀ {j id}, lookup1 j b = some id → ι'.blk j = ι.blk id := fun {j id} hl => by simp only [Gh.blk, (hbase hl).1]
          have hmget : ∀ j, Store.get (numFrom 0 d.made) j = d.made[j]? := fun j => by rw [numFrom_get, if_pos (Nat.zero_le _), Nat.sub_zero]
          have known : ∀ {j e}, d.made[j]? = some e → e = .dead ∨ ∃ id a x, lookup1 j b = some id ∧ s.s.M.get id = some a ∧ matchE s.s.M a e = some x ∧ (∀ p ∈ x.ps, p ∈ m.ps) ∧ (∀ y ∈ x.bind, y ∈ m.bind) ∧ ∀ g ∈ x.gone, g ∈ m.gone := by
            intro j e he
            rcases e4 j e he with h | ⟨id, a, x, q1, q2, q3⟩
            · exact .inl h
            · rw [Nat.zero_add] at q1
              exact .inr ⟨id, a, x, hded _ (lookup1_mem q1), q2, q3⟩
          have H : Meets c ι w s.s.M ι' (numFrom 0 d.made) m := by
            refine ⟨hps, fun x hx => ?_, fun k hk => .inl hk, fun id hg e k he hl hk => .inr ⟨id, hg, e, he, hl, hk⟩⟩
            have hl := hded x hx
            have hin : x.1 < d.made.length := by
              have := List.all_eq_true.1 k3 _ (lookup1_mem hl)
              rw [hback] at this
              simpa using this
            obtain ⟨g1, g2⟩ := hbase hl
            refine ⟨g1, g2, d.made[x.1], by rw [hmget, List.getElem?_eq_getElem hin], ?_⟩
            rcases known (List.getElem?_eq_getElem hin) with hd | ⟨id, a', y, q1, q2, q3, q4, _⟩
            · exact .inl hd
            · rw [hl] at q1; cases q1
              rcases matchE_like q3 with hd | hlike | ⟨p, hp, hnp⟩
              · exact .inl hd
              · exact .inr ⟨a', q2, hlike⟩
              · exact absurd (hps p (q4 p hp)) hnp
          have live : ∀ {j e}, Store.get (numFrom 0 d.made) j = some e → e.live = true → ∃ id a', lookup1 j b = some id ∧ s.s.M.get id = some a' ∧ a'.live = true := by
            intro j e he hl
            rw [hmget] at he
            rcases known he with rfl | ⟨id, a', x, q1, q2, q3, _⟩
            · cases hl
            · exact ⟨id, a', q1, q2, matchE_live q3 hl⟩
          refine ⟨ι', ⟨I.kept, fun j e he => ?_, fun i j ei ej k hi hj li lj bi bj => ?_, fun i e k hi li bi => ?_, fun k hk => ?_, fun k hk => ?_⟩, matchSV_rep I hm0 (H.part e1 (fun x hx => ?_) e3) hv⟩
          · rw [hmget] at he
            rcases known he with rfl | ⟨id, a', x, q1, q2, q3, q4, q5, q6⟩
            · trivial
            · exact matchE_rep I q3 (H.part q4 q5 q6) q2 (hbase q1).1 (hbase q1).2
          · obtain ⟨x, a1, q1, q2, q3⟩ := live hi li
            obtain ⟨y, a2, r1, r2, r3⟩ := live hj lj
            rw [hblk q1] at bi; rw [hblk r1] at bj
            have := I.dis x y a1 a2 k q2 r2 q3 r3 bi bj
            subst this
            exact lookup1_inj hnd q1 r1
          · obtain ⟨x, a1, q1, q2, q3⟩ := live hi li
            rw [hblk q1] at bi
            obtain ⟨o1, o2⟩ := I.own x a1 k q2 q3 bi
            refine ⟨fun hS => ?_, o2⟩
            rcases hS with hS | ⟨id, hg, e', he', hl', hk'⟩
            · exact o1 hS
            · have := I.dis x id a1 e' k q2 he' q3 hl' bi hk'
              subst this
              have h1 := List.all_eq_true.1 k2 x hg
              have h2 : mem1 x (b.map (·.2)) = true := mem1_mem.2 (List.mem_map.2 ⟨_, lookup1_mem q1, rfl⟩)
              rw [h2] at h1; cases h1
          · rcases hk with hk | ⟨id, hg, e', he', hl', hk'⟩
            · exact I.stb k hk
            · exact (I.ents id e' he').blk_lt hl' k hk'
          · rcases hk with hk | ⟨id, hg, e', he', hl', hk'⟩
            · exact I.src k hk
            · exact .inr (I.own id e' k he' hl' hk').2
          · obtain ⟨r, hr⟩ := e2
            rw [hr, hins]; simp [zipI, hx]

/-! ### a function's summary -/
/-- The arguments of a summary, as values. -/
def argVs : (ts : List Ty) → DenL ts → List V
  | [], _ => []
  | [t], x => [.of false t x]
  | t :: u :: r, x => .of false t x.1 :: argVs (u :: r) x.2
theorem argVs_rep {M : Store} {S : Nat → Prop} (hS : ∀ b, S b → ι.S b) : ∀ {ts : List Ty} {x : DenL ts} {vs : List Value}, ArgsRep S w ts x vs → VsRep c ι w M (argVs ts x) vs
  | [], x, vs, h => h
  | [t], x, vs, ⟨v, h1, h2⟩ => ⟨v, [], h1, arg h2, rfl⟩
  | t :: u :: r, x, vs, ⟨v, ws, h1, h2, h3⟩ => ⟨v, ws, h1, arg h2, argVs_rep hS h3⟩
where
  arg {t : Ty} {x : t.den} {v : Value} (h : ARep S w t x v) : VRep c ι w M (.of false t x) v := by
    obtain ⟨⟨cs, h1, h2⟩, h3⟩ := h
    have hp : PRep (SF c ι false) w t x cs := PRep.mono (fun b hb => ⟨hS b hb, fun hh => by cases hh⟩) (fun _ _ => rfl) _ _ _ h1
    refine ⟨cs, explode_rep (fr := false) t x cs hp h3, ?_⟩
    show match t.isAgg with | true => v = .agg cs.toArray | false => cs = [v] ∧ v.oneCell' = true
    cases ha : t.isAgg with
    | true => rw [ha] at h2; exact h2
    | false =>
      rw [ha] at h2
      have h2 : cs = [v] := h2
      exact ⟨h2, PRep.one _ _ _ h1 v (by rw [h2]; simp)⟩

def ValidL : (ts : List Ty) → DenL ts → Prop
  | [], _ => True
  | [t], x => Valid t x
  | t :: u :: r, x => Valid t x.1 ∧ ValidL (u :: r) x.2
theorem ArgsRep.valid {S : Nat → Prop} : ∀ {ts : List Ty} {x : DenL ts} {vs : List Value}, ArgsRep S w ts x vs → ValidL ts x
  | [], _, _, _ => trivial
  | [_], _, _, ⟨_, _, h⟩ => h.2
  | _ :: _ :: _, _, _, ⟨_, _, _, h, h'⟩ => ⟨h.2, ArgsRep.valid h'⟩
/-- What is owed of a function, of all arguments, gives its summary. -/
theorem pureOk_of {f : Nat} {ts : List Ty} {F : DenL ts → Done} {keep : DenL ts → Nat → Nat → Option Loop} (tab : TabOk P cfg) (sums : SumsOk P cfg) (hdr : P.follows .mixedOrders = true)
    (hG : ∀ (w : World) (S : Nat → Prop), ConstOk P cfg ⟨w, fun _ => False, S⟩ ⟨S, fun _ => none, fun _ => 0⟩ w) (hback : ∀ x, (F x).back = [])
    (h : ∀ x, ValidL ts x → (∀ p ∈ (F x).pre, p) → Owes P cfg (keep x) f (argVs ts x) [] (F x)) : PureOk P f ts F := by
  intro x vs w S hSb hargs hp
  have ho := h x hargs.valid hp
  unfold Owes at ho
  split at ho
  · rename_i fn hf
    split at ho
    · rename_i b hb
      obtain ⟨hname, hbody⟩ := nameB hb
      refine Does.of_calls hf hname hbody (calls_of_wp hf hbody ?_)
      have no : ∀ {j e}, ¬ (Store.get ([] : Store) j = some e) := fun h => by cases h
      have I : Inv ⟨w, fun _ => False, S⟩ ⟨S, fun _ => none, fun _ => 0⟩ w ([] : Store) :=
        ⟨⟨rfl, rfl, rfl, Nat.le_refl _, fun _ _ _ => rfl⟩, fun _ _ h => (no h).elim, fun _ _ _ _ _ h => (no h).elim, fun _ _ _ h => (no h).elim, hSb, fun _ h => .inl h⟩
      have R : Rel ⟨w, fun _ => False, S⟩ ⟨S, fun _ => none, fun _ => 0⟩ w (startSt fn.ntmps (argVs ts x) []) { tmps := vs.toArray ++ Array.replicate (fn.ntmps - vs.toArray.size) undef, defers := [] } :=
        ⟨I, start_rep (argVs_rep (fun _ h => h) hargs) fn.ntmps, fun _ _ => rfl⟩
      refine vc_sound (lp := 0) (inlN_ok tab sums hdr (canon_ok cfg) 6) tab sums hdr (canon_ok cfg) b ho R (hG w S) fun e s' a' w' ι' hk R' _ hd => ?_
      have fin : (match resultSV cfg s'.s fn.results.toList with | some v => retOk s' v (F x) | none => False) → ∃ v, (results fn a'.tmps).run P w' = .ok v w' ∧ ∃ ι', Inv ⟨w, fun _ => False, S⟩ ι' w' (numFrom 0 (F x).made) ∧ SVRep ⟨w, fun _ => False, S⟩ ι' w' (numFrom 0 (F x).made) (F x).res v := by
        intro hk
        cases hr : resultSV cfg s'.s fn.results.toList with
        | none => rw [hr] at hk; exact hk.elim
        | some sv =>
          rw [hr] at hk
          obtain ⟨v, h1, h2⟩ := results_rep tab R'.inv R'.rep hr
          exact ⟨v, h1, retOk_pure R' (hback x) h2 hk⟩
      cases e with
      | normal => exact ⟨hd, fin hk⟩
      | ret => exact ⟨hd, fin hk⟩
      | exit _ => exact hk.elim
      | goto _ => exact hk.elim
      | panic _ => exact hk.elim
      | outgrown => exact hk.elim
    · exact ho.elim
  · exact ho.elim
end
end Go.Vc
