/- A loop's head: rows that begin, entries that are numbered anew. -/
import Derived.Test.YtddakledpipanaaVcCode
set_option linter.unusedVariables false
set_option linter.unusedSimpArgs false
namespace Go.Vc
section
variable {P : Program} {c : Ctx} {cfg : Cfg} {ι : Gh} {w : World} {s : St2} {a : Act}

theorem FRep.setEnv {s : St} (F : FRep c ι w s a) {d : Nat} {v : SV} (h : SVRep c ι w s.M v (a.eval (.tmp d))) : FRep c ι w { s with env := eset s.env d (some v) } a := by
  refine ⟨by rw [eset_length]; exact F.len, fun i u hi => ?_, F.cenv, F.cund⟩
  rw [eget_eset] at hi
  by_cases hid : i = d
  · subst hid
    rw [if_pos rfl] at hi
    split at hi
    · cases hi; exact h
    · cases hi
  · rw [if_neg hid] at hi; exact F.env i u hi
theorem Inv.nilRow {M : Store} (I : Inv c ι w M) {nid e : Nat} {t : Ty} (hid : M.get nid = none) :
    ∃ ι', Inv c ι' w (M.set nid (.row e t true true [])) ∧ Ext ι w M ι' w (M.set nid (.row e t true true [])) ∧ ι'.base nid = none ∧ ι'.cap nid = 0 := by
  have x := Ext.adopt I hid (f := fun _ => False) (Turn.refl w (fun _ => False)) (fun _ (h : False) => h.elim) none 0 (.row e t true true [])
  refine ⟨ι.put nid none 0, Inv.adopt I hid (f := fun _ => False) (Turn.refl w _) (fun _ (h : False) => h.elim) none 0 _ (fun a ha => by cases ha) ?_, x, by simp [Gh.put], by simp [Gh.put]⟩
  exact ⟨[], PRep.arr_nil, Valid.nil t, by simp, .inl ⟨by simp [Gh.put], by simp [Gh.put], rfl, rfl⟩⟩
theorem wake1_ok (R : Rel c ι w s a) (x : Nat × Nat) : ∃ ι', Rel c ι' w (wake1 cfg s x) a ∧ Ext ι w s.s.M ι' w (wake1 cfg s x).s.M := by
  unfold wake1
  split
  · rename_i t he ht
    obtain ⟨ι', I', x', hb, hc⟩ := R.inv.nilRow (e := x.2) (t := t) (R.fresh s.next (Nat.le_refl _))
    refine ⟨ι', ⟨I', ?_, fun j hj => ?_⟩, x'⟩
    · refine (R.rep.ext x').setEnv (SVRep.one ?_)
      have hv := VRep.leaf (x := ⟨false, [.nils]⟩) (l := .nils) rfl (R.rep.env x.1 _ he)
      simp only [LRep, Store.get_set_same, hb, hc]
      exact hv
    · show ((s.s.M.set s.next _).get j) = none
      rw [Store.get_set_other _ _ _ _ (by have : s.next + 1 ≤ j := hj; omega)]
      exact R.fresh j (by have : s.next + 1 ≤ j := hj; omega)
  · exact ⟨ι, R, Ext.refl _ _ _⟩
theorem splice_self {α : Type} (xs : List α) (o n : Nat) (h : o + n ≤ xs.length) : splice xs o ((xs.drop o).take n) = xs := by
  apply List.ext_getElem?
  intro j
  have hl : ((xs.drop o).take n).length = n := by rw [List.length_take, List.length_drop]; omega
  rw [splice_get _ _ _ (by omega), hl]
  by_cases h1 : j < o
  · rw [if_pos h1]
  · rw [if_neg h1]
    by_cases h2 : j < o + n
    · rw [if_pos h2, List.getElem?_take, if_pos (by omega), List.getElem?_drop]; congr 1; omega
    · rw [if_neg h2]
theorem wakeO1_ok (R : Rel c ι w s a) (x : Nat × Nat × Nat) : ∃ ι', Rel c ι' w (wakeO1 cfg s x) a ∧ Ext ι w s.s.M ι' w (wakeO1 cfg s x).s.M := by
  unfold wakeO1
  split
  · rename_i id off _ _ _ t he ht
    cases hm : s.s.M.get id with
    | none => exact ⟨ι, R, Ext.refl _ _ _⟩
    | some en =>
      cases en <;> simp only <;> first | exact ⟨ι, R, Ext.refl _ _ _⟩ | skip
      rename_i ls
      split
      · rename_i ls' hl1 hl2
        cases hsh : shapeB ls ls' with
        | false => exact ⟨ι, R, Ext.refl _ _ _⟩
        | true =>
          obtain ⟨ι', I', x', hb, hc⟩ := R.inv.nilRow (e := x.2.2) (t := t) (R.fresh s.next (Nat.le_refl _))
          have hne : id ≠ s.next := fun hh => by rw [hh, R.fresh s.next (Nat.le_refl _)] at hm; cases hm
          have hm1 : (s.s.M.set s.next (.row x.2.2 t true true [])).get id = some (.obj ls) := by rw [Store.get_set_other _ _ _ _ hne]; exact hm
          have hev : Ev (.obj ls) (.obj ls') := shapeB_ok hsh
          have tt : Turn w w (fun k => ι'.blk id = some k) := Turn.refl w _
          have xc := Ext.change I' hm1 rfl hev tt
          have hrow : ((s.s.M.set s.next (.row x.2.2 t true true [])).set id (.obj ls')).get s.next = some (.row x.2.2 t true true []) := by
            rw [Store.get_set_other _ _ _ _ (Ne.symm hne), Store.get_set_same]
          have I2 := Inv.change I' hm1 rfl hev tt (by
            obtain ⟨b, cs, T, h1, h2, h3⟩ := I'.ents id _ hm1
            have h3' := h3.mono xc
            obtain ⟨k1, k2⟩ := lget_rep hl1 h3'
            obtain ⟨c1, c2, e1, e2, e3⟩ := k1
            have e2 : c1 = [.slice none 0 0] := e2
            have e3 : c2 = [] := e3
            subst e2 e3
            have hown : LsRep c ι' w ((s.s.M.set s.next (.row x.2.2 t true true [])).set id (.obj ls')) [.own s.next] [.slice none 0 0] := by
              refine ⟨[.slice none 0 0], [], rfl, ?_, rfl⟩
              simp only [LRep, hrow, hb, hc]; rfl
            obtain ⟨q1, _⟩ := lset_splice hown hl2 h3' rfl
            rw [← List.append_nil [Value.slice none 0 0], ← e1, splice_self cs x.2.1 1 k2] at q1
            exact ⟨b, cs, T, h1, h2, q1⟩)
          refine ⟨ι', ⟨I2, (R.rep.ext x').ext xc, fun j hj => ?_⟩, x'.trans xc⟩
          have hj' : s.next + 1 ≤ j := hj
          have hji : j ≠ id := fun hh => by rw [← hh, R.fresh j (by omega)] at hm; cases hm
          show (((s.s.M.set s.next _).set id _).get j) = none
          rw [Store.get_set_other _ _ _ _ hji, Store.get_set_other _ _ _ _ (by omega)]
          exact R.fresh j (by omega)
      · exact ⟨ι, R, Ext.refl _ _ _⟩
  · exact ⟨ι, R, Ext.refl _ _ _⟩

theorem Frz.fresh2 {M : Store} {z : List (Nat × Entry)} (hz : Frz M z) {n j : Nat} (hid : ∀ j, n ≤ j → M.get j = none) (hj : n ≤ j) : (M.upds z).get j = none :=
  hz.fresh (nid := n) (m := j + 1) (fun i hi _ => hid i hi) j hj (Nat.lt_succ_self j)
theorem calm1_ok (R : Rel c ι w s a) (x : Nat × Nat) : ∃ ι', Rel c ι' w (calm1 cfg s x) a ∧ Ext ι w s.s.M ι' w (calm1 cfg s x).s.M := by
  unfold calm1
  split
  · rename_i v _ _ _ t he ht
    cases him : implode s.s.M t v.ls with
    | none => exact ⟨ι, R, Ext.refl _ _ _⟩
    | some im =>
      simp only
      cases hrest : im.rest with
      | cons _ _ => exact ⟨ι, R, Ext.refl _ _ _⟩
      | nil =>
        simp only
        cases hagg : (v.agg == t.isAgg) with
        | false => exact ⟨ι, R, Ext.refl _ _ _⟩
        | true =>
          have hagg : v.agg = t.isAgg := by simpa using hagg
          obtain ⟨cs, k1, k2⟩ := R.rep.env x.1 _ he
          have hok := implode_rep R.inv t him k1
          have hz := hok.1
          obtain ⟨ι1, I1, x1, hb1, hc1, c1, c2, e1, e2, e3, e4⟩ := ImOk.frozen R.inv hok
          rw [hrest] at e2
          rw [show c2 = [] from e2, List.append_nil] at e1
          subst e1
          refine ⟨ι1, ⟨I1, (R.rep.ext x1).setEnv ⟨cs, explode_rep (fr := false) t im.x cs (PRep.mono (SF.weak (fun h => by cases h)) (fun _ _ => rfl) _ _ _ e4) e3, ?_⟩, fun j hj => ?_⟩, x1⟩
          · show match t.isAgg with | true => _ | false => _
            rw [← hagg]; exact k2
          · exact hz.fresh2 R.fresh hj
  · exact ⟨ι, R, Ext.refl _ _ _⟩
theorem calmO1_ok (R : Rel c ι w s a) (x : Nat × Nat × Nat) : ∃ ι', Rel c ι' w (calmO1 cfg s x) a ∧ Ext ι w s.s.M ι' w (calmO1 cfg s x).s.M := by
  unfold calmO1
  split
  · rename_i id off _ _ _ t he ht
    cases hm : s.s.M.get id with
    | none => exact ⟨ι, R, Ext.refl _ _ _⟩
    | some en =>
      cases en <;> simp only <;> first | exact ⟨ι, R, Ext.refl _ _ _⟩ | skip
      rename_i ls
      cases hg : lget ls x.2.1 t.sz with
      | none => exact ⟨ι, R, Ext.refl _ _ _⟩
      | some r =>
        simp only
        cases him : implode s.s.M t r with
        | none => exact ⟨ι, R, Ext.refl _ _ _⟩
        | some im =>
          simp only
          split
          · rename_i ls' hrest hls
            cases hb : (shapeB ls ls' && im.frz.all fun p => !(Nat.beq p.1 id)) with
            | false => exact ⟨ι, R, Ext.refl _ _ _⟩
            | true =>
              simp only [Bool.and_eq_true] at hb
              obtain ⟨hsh, hall⟩ := hb
              obtain ⟨b, cs, T, h1, h2, h3⟩ := R.inv.ents id _ hm
              obtain ⟨k1, k2⟩ := lget_rep hg h3
              have hok := implode_rep R.inv t him k1
              have hz := hok.1
              obtain ⟨ι1, I1, x1, hb1, hc1, c1, c2, e1, e2, e3, e4⟩ := ImOk.frozen R.inv hok
              rw [hrest] at e2
              rw [show c2 = [] from e2, List.append_nil] at e1
              have hm1 : (s.s.M.upds im.frz).get id = some (.obj ls) := by rw [upds_get_other _ _ _ hall]; exact hm
              have hev : Ev (.obj ls) (.obj ls') := shapeB_ok hsh
              have tt : Turn w w (fun k => ι1.blk id = some k) := Turn.refl w _
              have xc := Ext.change I1 hm1 rfl hev tt
              have hc1l : c1.length = t.sz := PRep.len _ _ _ e4
              have hnew : LsRep c ι1 w (s.s.M.upds im.frz) (explode false t im.x) c1 := explode_rep (fr := false) t im.x c1 (PRep.mono (SF.weak (fun h => by cases h)) (fun _ _ => rfl) _ _ _ e4) e3
              obtain ⟨q1, _⟩ := lset_splice hnew hls (h3.mono x1) hc1l
              rw [← e1, splice_self cs x.2.1 t.sz k2] at q1
              refine ⟨ι1, ⟨Inv.change I1 hm1 rfl hev tt ⟨b, cs, T, by rw [hb1]; exact h1, h2, q1.mono xc⟩, (R.rep.ext x1).ext xc, fun j hj => ?_⟩, x1.trans xc⟩
              have hji : j ≠ id := fun hh => by rw [← hh, R.fresh j hj] at hm; cases hm
              show (((s.s.M.upds im.frz).set id _).get j) = none
              rw [Store.get_set_other _ _ _ _ hji]
              exact hz.fresh2 R.fresh hj
          · exact ⟨ι, R, Ext.refl _ _ _⟩
  · exact ⟨ι, R, Ext.refl _ _ _⟩

/-! ### numbers anew -/
theorem nodup1_ok : ∀ {l : List Nat}, nodup1 l = true → l.Nodup
  | [], _ => List.nodup_nil
  | x :: r, h => by
    simp only [nodup1, Bool.and_eq_true, Bool.not_eq_true'] at h
    refine List.nodup_cons.2 ⟨fun hx => ?_, nodup1_ok h.2⟩
    rw [mem1_mem.2 hx] at h; cases h.1
theorem allIn_ok {ids : List Nat} : ∀ {l : List Nat}, allIn ids l = true → ∀ x ∈ l, x ∈ ids
  | [], _ => fun x hx => by cases hx
  | y :: r, h => by
    unfold allIn at h
    cases hm : mem1 y ids with
    | false => rw [hm] at h; cases h
    | true =>
      rw [hm] at h
      intro x hx
      rcases List.mem_cons.1 hx with rfl | hx
      · exact mem1_mem.1 hm
      · exact allIn_ok h x hx
theorem closedB_ok {M : Store} {ids : List Nat} : ∀ {l : List Nat}, closedB M ids l = true → ∀ x ∈ l, ∀ e, M.get x = some e → ∀ y ∈ refsE e, y ∈ ids
  | [], _ => fun x hx => by cases hx
  | z :: r, h => by
    unfold closedB at h
    intro x hx e he
    cases hz : okAt M ids z with
    | false => rw [hz] at h; cases h
    | true =>
      rw [hz] at h
      rcases List.mem_cons.1 hx with rfl | hx
      · unfold okAt at hz; rw [he] at hz; exact allIn_ok hz
      · exact closedB_ok h x hx e he
theorem posOf_get {x : Nat} : ∀ {ids : List Nat}, x ∈ ids → ids[posOf x ids]? = some x
  | [], h => by cases h
  | y :: r, h => by
    unfold posOf
    by_cases hx : x = y
    · subst hx; simp
    · rw [beq_no hx, cond_false, List.getElem?_cons_succ]
      exact posOf_get ((List.mem_cons.1 h).resolve_left hx)
theorem posOf_at : ∀ {ids : List Nat} (_ : ids.Nodup) {j x : Nat} (_ : ids[j]? = some x), posOf x ids = j
  | [], _, j, x, h => by simp at h
  | y :: r, hn, 0, x, h => by simp at h; subst h; simp [posOf]
  | y :: r, hn, j + 1, x, h => by
    have h' : r[j]? = some x := by simpa using h
    have hx : x ∈ r := List.mem_of_getElem? h'
    have hne : x ≠ y := fun hh => (List.nodup_cons.1 hn).1 (hh ▸ hx)
    unfold posOf
    rw [beq_no hne, cond_false, posOf_at (List.nodup_cons.1 hn).2 h']
theorem mask_get {keep : List Nat} {f : Nat → Nat} : ∀ {env : List (Option SV)} {n i : Nat} {v : SV}, eget (maskFrom keep f n env) i = some v → ∃ u, mem1 (n + i) keep = true ∧ eget env i = some u ∧ v = renSV f u
  | [], n, i, v, h => by simp [maskFrom, eget] at h
  | x :: r, n, 0, v, h => by
    simp only [maskFrom, eget] at h
    cases hm : mem1 n keep with
    | false => rw [hm] at h; cases h
    | true =>
      rw [hm] at h
      simp only [cond_true] at h
      cases x with
      | none => cases h
      | some u => cases h; exact ⟨u, rfl, rfl, rfl⟩
  | x :: r, n, i + 1, v, h => by
    simp only [maskFrom, eget] at h
    obtain ⟨u, h1, h2, h3⟩ := mask_get h
    exact ⟨u, by rw [show n + (i + 1) = n + 1 + i by omega]; exact h1, h2, h3⟩
theorem mask_length {keep : List Nat} {f : Nat → Nat} : ∀ {env : List (Option SV)} {n : Nat}, (maskFrom keep f n env).length = env.length
  | [], n => rfl
  | x :: r, n => by simp [maskFrom, mask_length]
theorem refsKeep_mem {env : List (Option SV)} : ∀ {keep : List Nat} {i : Nat} {v : SV}, i ∈ keep → eget env i = some v → ∀ x ∈ refsSV v, x ∈ refsKeep env keep
  | [], i, v, h, _ => by cases h
  | j :: r, i, v, h, he => by
    intro x hx
    unfold refsKeep
    rcases List.mem_cons.1 h with rfl | h
    · rw [he]; exact List.mem_append.2 (.inl hx)
    · exact List.mem_append.2 (.inr (refsKeep_mem h he x hx))

theorem renum_ok (R : Rel c ι w s a) {keep ids : List Nat} (hn : ids.Nodup) (hk : ∀ x ∈ refsKeep s.s.env keep, x ∈ ids) (hc : ∀ x ∈ ids, ∀ e, s.s.M.get x = some e → ∀ y ∈ refsE e, y ∈ ids) :
    ∃ ι', Rel c ι' w (renum keep ids s) a ∧ ∀ n, (∀ i, i < n → ids[i]? = some i) → XR n ι w s.s.M ι' w (renum keep ids s).s.M := by
  let ι' : Gh := { S := ι.S, base := fun j => ι.base (ids.getD j 0), cap := fun j => ι.cap (ids.getD j 0) }
  have hget : ∀ j, Store.get (numFrom 0 (ids.map fun i => match s.s.M.get i with | some e => renE (fun i => posOf i ids) e | none => .dead)) j = (ids[j]?).map fun i => match s.s.M.get i with | some e => renE (fun i => posOf i ids) e | none => .dead := by
    intro j
    rw [numFrom_get, if_pos (Nat.zero_le _), Nat.sub_zero, List.getElem?_map]
  have hgd : ∀ j x, ids[j]? = some x → ids.getD j 0 = x := fun j x h => by rw [List.getD_eq_getElem?_getD, h]; rfl
  have rn : Ren true (fun i => posOf i ids) (fun i => i ∈ ids) c ι w s.s.M c ι' w (numFrom 0 (ids.map fun i => match s.s.M.get i with | some e => renE (fun i => posOf i ids) e | none => .dead)) := by
    refine ⟨Nat.le_refl _, fun b hb _ => hb, fun _ _ => rfl, fun id e hid he => ?_⟩
    have hp := posOf_get hid
    refine ⟨?_, ?_, ?_⟩
    · rw [hget, hp]; simp only [Option.map_some, he]
    · show ι.base (ids.getD (posOf id ids) 0) = _; rw [hgd _ _ hp]
    · show ι.cap (ids.getD (posOf id ids) 0) = _; rw [hgd _ _ hp]
  have back : ∀ {j ej}, Store.get (numFrom 0 (ids.map fun i => match s.s.M.get i with | some e => renE (fun i => posOf i ids) e | none => .dead)) j = some ej → ∃ x, ids[j]? = some x ∧ ((∃ e, s.s.M.get x = some e ∧ ej = renE (fun i => posOf i ids) e) ∨ ej = .dead) := by
    intro j ej h
    rw [hget] at h
    cases hx : ids[j]? with
    | none => rw [hx] at h; cases h
    | some x =>
      rw [hx] at h
      simp only [Option.map_some, Option.some.injEq] at h
      refine ⟨x, rfl, ?_⟩
      cases he : s.s.M.get x with
      | none => rw [he] at h; exact .inr h.symm
      | some e => rw [he] at h; exact .inl ⟨e, rfl, h.symm⟩
  have live : ∀ {j ej}, Store.get (numFrom 0 (ids.map fun i => match s.s.M.get i with | some e => renE (fun i => posOf i ids) e | none => .dead)) j = some ej → ej.live = true → ∃ x e, ids[j]? = some x ∧ s.s.M.get x = some e ∧ e.live = true ∧ ι'.blk j = ι.blk x := by
    intro j ej h hl
    obtain ⟨x, h1, h2⟩ := back h
    rcases h2 with ⟨e, h2, rfl⟩ | rfl
    · exact ⟨x, e, h1, h2, by rw [renE_live] at hl; exact hl, by simp only [Gh.blk, ι']; rw [hgd _ _ h1]⟩
    · cases hl
  refine ⟨ι', ⟨⟨R.inv.kept, fun j ej hj => ?_, fun i j ei ej k hi hj li lj bi bj => ?_, fun i ei k hi li bi => ?_, R.inv.stb, R.inv.src⟩, ?_, fun j hj => ?_⟩, fun n hlow => ⟨fun _ h => h, fun _ _ => rfl, fun id e hid he => ?_⟩⟩
  · obtain ⟨x, h1, h2⟩ := back hj
    rcases h2 with ⟨e, h2, rfl⟩ | rfl
    · have hx : x ∈ ids := List.mem_of_getElem? h1
      have := ERep.ren rn h2 hx (.inl rfl) (hc x hx e h2) (fun _ _ _ => rfl) (R.inv.ents x e h2)
      rw [posOf_at hn h1] at this
      exact this
    · trivial
  · obtain ⟨x, e, h1, h2, h3, h4⟩ := live hi li
    obtain ⟨y, e', k1, k2, k3, k4⟩ := live hj lj
    rw [h4] at bi; rw [k4] at bj
    have := R.inv.dis x y e e' k h2 k2 h3 k3 bi bj
    subst this
    rw [← posOf_at hn h1, ← posOf_at hn k1]
  · obtain ⟨x, e, h1, h2, h3, h4⟩ := live hi li
    rw [h4] at bi
    exact R.inv.own x e k h2 h3 bi
  · refine ⟨by show (maskFrom _ _ _ _).length ≤ _; rw [mask_length]; exact R.rep.len, fun i v hi => ?_, fun _ hx => (List.not_mem_nil hx).elim, fun _ hx => (List.not_mem_nil hx).elim⟩
    obtain ⟨u, h1, h2, rfl⟩ := mask_get hi
    rw [Nat.zero_add] at h1
    exact (R.rep.env i u h2).ren rn (.inl rfl) fun y hy => hk y (refsKeep_mem (mem1_mem.1 h1) h2 y hy)
  · show Store.get (numFrom 0 _) j = none
    rw [numFrom_get, if_pos (Nat.zero_le _), Nat.sub_zero, List.getElem?_eq_none (by rw [List.length_map]; exact hj)]
  · have hat := hlow id hid
    have hp := posOf_at hn hat
    obtain ⟨h1, h2, h3⟩ := rn.ent id e (List.mem_of_getElem? hat) he
    simp only [hp] at h1 h2 h3
    refine ⟨h2, h3, _, h1, ?_⟩
    cases e with
    | obj ls => exact fun off N fr t l h => ⟨fr, l, by rw [lat_ren, h]; rfl⟩
    | _ => exact Ev.refl _

theorem reach_prefix (M : Store) : ∀ (k : Nat) (acc l : List Nat), ∃ r, reach M k acc l = acc ++ r
  | 0, acc, l => ⟨[], by simp [reach]⟩
  | k + 1, acc, [] => ⟨[], by simp [reach]⟩
  | k + 1, acc, i :: l => by
    unfold reach
    cases mem1 i acc with
    | true => exact reach_prefix M k acc l
    | false =>
      simp only [cond_false]
      split
      · obtain ⟨r, hr⟩ := reach_prefix M k (acc ++ [i]) (l ++ refsE _)
        exact ⟨[i] ++ r, by rw [hr, List.append_assoc]⟩
      · obtain ⟨r, hr⟩ := reach_prefix M k (acc ++ [i]) l
        exact ⟨[i] ++ r, by rw [hr, List.append_assoc]⟩
theorem canon1_ok (R : Rel c ι w s a) (n : Nat) (keep : List Nat) : ∃ ι', Rel c ι' w (canon1 n keep s) a ∧ XR n ι w s.s.M ι' w (canon1 n keep s).s.M := by
  unfold canon1
  simp only
  obtain ⟨r, hr⟩ := reach_prefix s.s.M 400 (List.range n) (refsLow s.s.M (List.range n) ++ refsKeep s.s.env keep)
  have hlow : ∀ i, i < n → (reach s.s.M 400 (List.range n) (refsLow s.s.M (List.range n) ++ refsKeep s.s.env keep))[i]? = some i := fun i hi => by
    rw [hr, List.getElem?_append_left (by simpa using hi), List.getElem?_range hi]
  generalize reach s.s.M 400 (List.range n) (refsLow s.s.M (List.range n) ++ refsKeep s.s.env keep) = ids at hlow
  cases hb : (nodup1 ids && (allIn ids (refsKeep s.s.env keep) && closedB s.s.M ids ids)) with
  | false =>
    refine ⟨ι, ⟨R.inv, ⟨Nat.zero_le _, fun i v hi => by simp [eget] at hi, fun _ hx => (List.not_mem_nil hx).elim, fun _ hx => (List.not_mem_nil hx).elim⟩, R.fresh⟩, XR.of_ext (Ext.refl _ _ _)⟩
  | true =>
    simp only [Bool.and_eq_true] at hb
    obtain ⟨ι', R', x⟩ := renum_ok R (nodup1_ok hb.1) (allIn_ok hb.2.1) (closedB_ok hb.2.2)
    exact ⟨ι', R', x n hlow⟩
/-! ### known bools -/
theorem softL_width (l : Leaf) : (softL l).width = l.width := by cases l <;> rfl
theorem lat_soft : ∀ (ls : List Leaf) (off : Nat), lat (ls.map softL) off = (lat ls off).map softL
  | [], off => by simp [lat]
  | l :: r, 0 => by simp [lat]
  | l :: r, off + 1 => by
    simp only [List.map_cons, lat, softL_width]
    cases Nat.ble l.width (off + 1) with
    | true => exact lat_soft r _
    | false => rfl
theorem LRep.soft {M : Store} {l : Leaf} {cs : List Value} (h : LRep c ι w M l cs) : LRep c ι w M (softL l) cs := by
  cases l <;> exact h
theorem LsRep.soft {M : Store} : ∀ {ls : List Leaf} {cs : List Value}, LsRep c ι w M ls cs → LsRep c ι w M (ls.map softL) cs
  | [], _, h => h
  | l :: r, cs, ⟨c1, c2, h1, h2, h3⟩ => ⟨c1, c2, h1, h2.soft, LsRep.soft h3⟩
theorem VRep.soft {M : Store} {x : V} {v : Value} (h : VRep c ι w M x v) : VRep c ι w M (softV x) v := by
  obtain ⟨cs, h1, h2⟩ := h
  exact ⟨cs, h1.soft, h2⟩
theorem VsRep.soft {M : Store} : ∀ {l : List V} {vs : List Value}, VsRep c ι w M l vs → VsRep c ι w M (l.map softV) vs
  | [], _, h => h
  | x :: r, vs, ⟨v, ws, h1, h2, h3⟩ => ⟨v, ws, h1, h2.soft, VsRep.soft h3⟩
theorem SVRep.soft {M : Store} {x : SV} {v : Value} (h : SVRep c ι w M x v) : SVRep c ι w M (softSV x) v := by
  cases x with
  | v x => exact VRep.soft h
  | tup l =>
    obtain ⟨vs, h1, h2⟩ := h
    exact ⟨vs, h1, h2.soft⟩
theorem softM_get : ∀ (M : Store) (id : Nat), (softM M).get id = (M.get id).map softE
  | [], _ => rfl
  | (i, e) :: r, id => by
    simp only [softM, Store.get]
    cases Nat.beq i id with
    | true => rfl
    | false => exact softM_get r id
theorem softE_live (e : Entry) : (softE e).live = e.live := by cases e <;> rfl
theorem softO_get : ∀ (l : List (Option SV)) (i : Nat), eget (l.map softO) i = softO (eget l i)
  | [], i => rfl
  | x :: r, 0 => rfl
  | x :: r, i + 1 => softO_get r i
theorem soft_ok (R : Rel c ι w s a) : Rel c ι w (soft s) a ∧ Ext ι w s.s.M ι w (soft s).s.M := by
  have x : Ext ι w s.s.M ι w (softM s.s.M) := ⟨fun _ h => h, fun _ _ => rfl, fun _ _ _ => ⟨rfl, rfl⟩, fun id e he => ⟨softE e, by rw [softM_get, he]; rfl, by
    cases e with
    | obj ls => exact fun off N fr t l h => ⟨fr, l, by rw [lat_soft, h]; rfl⟩
    | _ => exact Ev.refl _⟩⟩
  have old : ∀ {id e}, (softM s.s.M).get id = some e → ∃ e0, s.s.M.get id = some e0 ∧ e = softE e0 := by
    intro id e he
    rw [softM_get] at he
    cases h : s.s.M.get id with
    | none => rw [h] at he; cases he
    | some e0 => rw [h] at he; cases he; exact ⟨e0, rfl, rfl⟩
  refine ⟨⟨⟨R.inv.kept, fun id e he => ?_, fun i j ei ej k hi hj li lj bi bj => ?_, fun i e k hi li bi => ?_, R.inv.stb, R.inv.src⟩, ⟨by show (List.map softO s.s.env).length ≤ _; rw [List.length_map]; exact R.rep.len, fun i v hi => ?_, fun _ hx => (List.not_mem_nil hx).elim, fun _ hx => (List.not_mem_nil hx).elim⟩, fun j hj => ?_⟩, x⟩
  · obtain ⟨e0, h1, rfl⟩ := old he
    have := ERep.mono x h1 (fun _ _ _ => rfl) (R.inv.ents id e0 h1)
    cases e0 with
    | obj ls =>
      obtain ⟨b, cs, T, k1, k2, k3⟩ := this
      exact ⟨b, cs, T, k1, k2, k3.soft⟩
    | _ => exact this
  · obtain ⟨e0, h1, rfl⟩ := old hi
    obtain ⟨e1, h2, rfl⟩ := old hj
    rw [softE_live] at li lj
    exact R.inv.dis i j e0 e1 k h1 h2 li lj bi bj
  · obtain ⟨e0, h1, rfl⟩ := old hi
    rw [softE_live] at li
    exact R.inv.own i e0 k h1 li bi
  · have hi : eget (List.map softO s.s.env) i = some v := hi
    rw [softO_get] at hi
    cases h : eget s.s.env i with
    | none => rw [h] at hi; cases hi
    | some u =>
      rw [h] at hi; cases hi
      exact ((R.rep.env i u h).mono x).soft
  · show (softM s.s.M).get j = none
    rw [softM_get, R.fresh j hj]; rfl
theorem canon_ok (cfg : Cfg) (n : Nat) (k : Keep) : CanonOk cfg n k := by
  intro c ι w s a R
  have w1 : ∀ (l : List (Nat × Nat)) {ι : Gh} {s : St2}, Rel c ι w s a → ∃ ι', Rel c ι' w (l.foldl (wake1 cfg) s) a ∧ Ext ι w s.s.M ι' w (l.foldl (wake1 cfg) s).s.M := by
    intro l
    induction l with
    | nil => intro ι s R; exact ⟨ι, R, Ext.refl _ _ _⟩
    | cons x r ih =>
      intro ι s R
      obtain ⟨ι1, R1, x1⟩ := wake1_ok (cfg := cfg) R x
      obtain ⟨ι2, R2, x2⟩ := ih R1
      exact ⟨ι2, R2, x1.trans x2⟩
  have w2 : ∀ (l : List (Nat × Nat × Nat)) {ι : Gh} {s : St2}, Rel c ι w s a → ∃ ι', Rel c ι' w (l.foldl (wakeO1 cfg) s) a ∧ Ext ι w s.s.M ι' w (l.foldl (wakeO1 cfg) s).s.M := by
    intro l
    induction l with
    | nil => intro ι s R; exact ⟨ι, R, Ext.refl _ _ _⟩
    | cons x r ih =>
      intro ι s R
      obtain ⟨ι1, R1, x1⟩ := wakeO1_ok (cfg := cfg) R x
      obtain ⟨ι2, R2, x2⟩ := ih R1
      exact ⟨ι2, R2, x1.trans x2⟩
  have w3 : ∀ (l : List (Nat × Nat)) {ι : Gh} {s : St2}, Rel c ι w s a → ∃ ι', Rel c ι' w (l.foldl (calm1 cfg) s) a ∧ Ext ι w s.s.M ι' w (l.foldl (calm1 cfg) s).s.M := by
    intro l
    induction l with
    | nil => intro ι s R; exact ⟨ι, R, Ext.refl _ _ _⟩
    | cons x r ih =>
      intro ι s R
      obtain ⟨ι1, R1, x1⟩ := calm1_ok (cfg := cfg) R x
      obtain ⟨ι2, R2, x2⟩ := ih R1
      exact ⟨ι2, R2, x1.trans x2⟩
  have w4 : ∀ (l : List (Nat × Nat × Nat)) {ι : Gh} {s : St2}, Rel c ι w s a → ∃ ι', Rel c ι' w (l.foldl (calmO1 cfg) s) a ∧ Ext ι w s.s.M ι' w (l.foldl (calmO1 cfg) s).s.M := by
    intro l
    induction l with
    | nil => intro ι s R; exact ⟨ι, R, Ext.refl _ _ _⟩
    | cons x r ih =>
      intro ι s R
      obtain ⟨ι1, R1, x1⟩ := calmO1_ok (cfg := cfg) R x
      obtain ⟨ι2, R2, x2⟩ := ih R1
      exact ⟨ι2, R2, x1.trans x2⟩
  obtain ⟨ι1, R1, x1⟩ := w1 k.wake R
  obtain ⟨ι2, R2, x2⟩ := w2 k.wakeO R1
  obtain ⟨ι3, R3, x3⟩ := w3 k.calm R2
  obtain ⟨ι4, R4, x4⟩ := w4 k.calmO R3
  obtain ⟨ι5, R5, x5⟩ := canon1_ok R4 n k.keep
  obtain ⟨R6, x6⟩ := soft_ok R5
  exact ⟨ι5, R6, ((XR.of_ext (((x1.trans x2).trans x3).trans x4)).trans x5).trans (XR.of_ext x6)⟩
end
end Go.Vc
