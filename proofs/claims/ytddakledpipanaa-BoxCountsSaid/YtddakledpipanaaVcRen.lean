/- Entries under other numbers; what a callee hands back. -/
import Derived.Test.YtddakledpipanaaVcOpAll
set_option linter.unusedVariables false
set_option linter.unusedSimpArgs false
namespace Go.Vc

structure Ren (al : Bool) (f : Nat → Nat) (R : Nat → Prop) (c : Ctx) (ι : Gh) (w : World) (M : Store) (c' : Ctx) (ι' : Gh) (w' : World) (M' : Store) : Prop where
  fr : c'.w0.heap.size ≤ c.w0.heap.size
  S : ∀ b, ι.S b → (al = true ∨ c.w0.heap.size ≤ b) → ι'.S b
  heap : ∀ b, ι.S b → w'.heap[b]? = w.heap[b]?
  ent : ∀ id e, R id → M.get id = some e → M'.get (f id) = some (renE f e) ∧ ι'.base (f id) = ι.base id ∧ ι'.cap (f id) = ι.cap id

section
variable {al : Bool} {f : Nat → Nat} {R : Nat → Prop} {c c' : Ctx} {ι ι' : Gh} {w w' : World} {M M' : Store}

theorem renL_width (l : Leaf) : (renL f l).width = l.width := by cases l <;> rfl
theorem lat_ren : ∀ (ls : List Leaf) (off : Nat), lat (ls.map (renL f)) off = (lat ls off).map (renL f)
  | [], off => by simp [lat]
  | l :: r, 0 => by simp [lat]
  | l :: r, off + 1 => by
    simp only [List.map_cons, lat, renL_width]
    cases Nat.ble l.width (off + 1) with
    | true => exact lat_ren r _
    | false => rfl

theorem Ren.sf (x : Ren al f R c ι w M c' ι' w' M') {fr : Bool} (h : al = true ∨ fr = true) : ∀ b, SF c ι fr b → SF c' ι' fr b := by
  intro b hb
  refine ⟨x.S b hb.1 (h.elim .inl fun hf => .inr (hb.2 hf)), fun hf => Nat.le_trans x.fr (hb.2 hf)⟩
theorem Ren.prep (x : Ren al f R c ι w M c' ι' w' M') {fr : Bool} (h : al = true ∨ fr = true) {t : Ty} {y : t.den} {cs : List Value} (hp : PRep (SF c ι fr) w t y cs) : PRep (SF c' ι' fr) w' t y cs :=
  PRep.mono (x.sf h) (fun b hb => x.heap b hb.1) _ _ _ hp

theorem LRep.ren (x : Ren al f R c ι w M c' ι' w' M') {l : Leaf} {cs : List Value} (hf : al = true ∨ freshL l = true) (hR : ∀ id ∈ refsL l, R id) (h : LRep c ι w M l cs) : LRep c' ι' w' M' (renL f l) cs := by
  have one : ∀ {cs : List Value} {v : Value}, cs = [v] → (∀ u ∈ cs, u.oneCell' = true) → ∃ v, cs = [v] ∧ v.oneCell' = true := fun {cs v} h1 h2 => ⟨v, h1, h2 v (by rw [h1]; simp)⟩
  cases l with
  | int k n => exact h
  | bool b => exact h
  | kb b => exact h
  | str l => exact h
  | psl fr t l => exact ⟨x.prep hf h.1, h.2⟩
  | arr n fr t l => exact ⟨x.prep hf h.1, h.2⟩
  | nils => exact h
  | nilp => exact h
  | nilf => exact h
  | nili => exact h
  | own id =>
    simp only [LRep, renL] at h ⊢
    cases he : M.get id with
    | none => rw [he] at h; exact h.elim
    | some e =>
      obtain ⟨h1, h2, h3⟩ := x.ent id e (hR id (by simp [refsL])) he
      rw [he] at h; rw [h1, h2, h3]
      cases e <;> simp only [renE] at h ⊢ <;> exact h
  | sl id lo n =>
    simp only [LRep, renL] at h ⊢
    cases he : M.get id with
    | none => rw [he] at h; exact h.elim
    | some e =>
      obtain ⟨h1, h2, h3⟩ := x.ent id e (hR id (by simp [refsL])) he
      rw [he] at h; rw [h1, h2, h3]
      cases e <;> simp only [renE] at h ⊢ <;> exact h
  | asl id off lo n =>
    simp only [LRep, renL] at h ⊢
    cases he : M.get id with
    | none => rw [he] at h; exact h.elim
    | some e =>
      obtain ⟨h1, h2, h3⟩ := x.ent id e (hR id (by simp [refsL])) he
      rw [he] at h; rw [h1, h2]
      cases e <;> simp only [renE] at h ⊢ <;> first | exact h | skip
      rename_i ls
      rw [lat_ren]
      cases hl : lat ls off with
      | none => rw [hl] at h; exact h.elim
      | some q => rw [hl] at h; cases q <;> simp only [Option.map_some, renL] at h ⊢ <;> exact h
  | ptr id off =>
    simp only [LRep, renL] at h ⊢
    cases he : M.get id with
    | none => rw [he] at h; exact h.elim
    | some e =>
      obtain ⟨h1, h2, h3⟩ := x.ent id e (hR id (by simp [refsL])) he
      rw [he] at h; rw [h1, h2]
      cases e <;> simp only [renE] at h ⊢ <;> exact h
  | eptr id i off =>
    simp only [LRep, renL] at h ⊢
    cases he : M.get id with
    | none => rw [he] at h; exact h.elim
    | some e =>
      obtain ⟨h1, h2, h3⟩ := x.ent id e (hR id (by simp [refsL])) he
      rw [he] at h; rw [h1, h2]
      cases e <;> simp only [renE] at h ⊢ <;> exact h
  | aptr id aoff i off =>
    simp only [LRep, renL] at h ⊢
    cases he : M.get id with
    | none => rw [he] at h; exact h.elim
    | some e =>
      obtain ⟨h1, h2, h3⟩ := x.ent id e (hR id (by simp [refsL])) he
      rw [he] at h; rw [h1, h2]
      cases e <;> simp only [renE] at h ⊢ <;> first | exact h | skip
      rename_i ls
      rw [lat_ren]
      cases hl : lat ls aoff with
      | none => rw [hl] at h; exact h.elim
      | some q => rw [hl] at h; cases q <;> simp only [Option.map_some, renL] at h ⊢ <;> exact h
  | cst fr t y =>
    obtain ⟨ad, pcs, h1, h2, h3, h4⟩ := h
    have hal : al = true ∨ fr = true := hf.elim .inl fun h => by simp [freshL] at h
    exact ⟨ad, pcs, h1, h2.mono (x.sf hal) (fun b hb => x.heap b hb.1), x.prep hal h3, h4⟩
  | fn g caps =>
    obtain ⟨h1, h2⟩ := h
    refine ⟨?_, fun id hid => ?_⟩
    · rw [h1, List.map_map]
      have e1 : caps.map ((fun id => Value.pointer (ι'.base id)) ∘ f) = caps.map (fun id => Value.pointer (ι.base id)) := by
        refine List.map_congr_left fun id hid => ?_
        obtain ⟨e, he, _⟩ := h2 id hid
        simp only [Function.comp]
        rw [(x.ent id e (hR id (by simpa [refsL] using hid)) he).2.1]
      rw [e1]
    · obtain ⟨i, hi, rfl⟩ := List.mem_map.1 hid
      obtain ⟨e, he, hk⟩ := h2 i hi
      refine ⟨_, (x.ent i e (hR i (by simpa [refsL] using hi)) he).1, ?_⟩
      rcases hk with rfl | ⟨ls, rfl⟩
      · exact .inl rfl
      · exact .inr ⟨_, rfl⟩

theorem LsRep.ren (x : Ren al f R c ι w M c' ι' w' M') : ∀ {ls : List Leaf} {cs : List Value}, (al = true ∨ freshLs ls = true) → (∀ id ∈ refsLs ls, R id) → LsRep c ι w M ls cs → LsRep c' ι' w' M' (ls.map (renL f)) cs
  | [], _, _, _, h => h
  | l :: r, cs, hf, hR, ⟨c1, c2, h1, h2, h3⟩ => by
    have h1f : al = true ∨ freshL l = true := hf.elim .inl fun h => by simp only [freshLs, Bool.and_eq_true] at h; exact .inr h.1
    have h2f : al = true ∨ freshLs r = true := hf.elim .inl fun h => by simp only [freshLs, Bool.and_eq_true] at h; exact .inr h.2
    exact ⟨c1, c2, h1, h2.ren x h1f (fun id hid => hR id (by simp [refsLs, hid])), LsRep.ren x h2f (fun id hid => hR id (by simp [refsLs, hid])) h3⟩
theorem VRep.ren (x : Ren al f R c ι w M c' ι' w' M') {y : V} {v : Value} (hf : al = true ∨ freshLs y.ls = true) (hR : ∀ id ∈ refsLs y.ls, R id) (h : VRep c ι w M y v) : VRep c' ι' w' M' (renV f y) v := by
  obtain ⟨cs, h1, h2⟩ := h
  exact ⟨cs, h1.ren x hf hR, h2⟩
theorem VsRep.ren (x : Ren al f R c ι w M c' ι' w' M') : ∀ {l : List V} {vs : List Value}, (al = true ∨ (l.all fun y => freshLs y.ls) = true) → (∀ id ∈ l.flatMap fun y => refsLs y.ls, R id) → VsRep c ι w M l vs → VsRep c' ι' w' M' (l.map (renV f)) vs
  | [], _, _, _, h => h
  | y :: r, vs, hf, hR, ⟨v, ws, h1, h2, h3⟩ => by
    have h1f : al = true ∨ freshLs y.ls = true := hf.elim .inl fun h => by simp only [List.all_cons, Bool.and_eq_true] at h; exact .inr h.1
    have h2f : al = true ∨ (r.all fun y => freshLs y.ls) = true := hf.elim .inl fun h => by simp only [List.all_cons, Bool.and_eq_true] at h; exact .inr h.2
    refine ⟨v, ws, h1, h2.ren x h1f (fun id hid => hR id ?_), VsRep.ren x h2f (fun id hid => hR id ?_) h3⟩
    · rw [List.flatMap_cons]; exact List.mem_append.2 (.inl hid)
    · rw [List.flatMap_cons]; exact List.mem_append.2 (.inr hid)
theorem SVRep.ren (x : Ren al f R c ι w M c' ι' w' M') {y : SV} {v : Value} (hf : al = true ∨ freshSV y = true) (hR : ∀ id ∈ refsSV y, R id) (h : SVRep c ι w M y v) : SVRep c' ι' w' M' (renSV f y) v := by
  cases y with
  | v y => exact VRep.ren x hf hR h
  | tup l =>
    obtain ⟨vs, h1, h2⟩ := h
    exact ⟨vs, h1, h2.ren x hf hR⟩

theorem ERep.ren (x : Ren al f R c ι w M c' ι' w' M') {id : Nat} {e : Entry} (he : M.get id = some e) (hid : R id) (hf : al = true ∨ freshE e = true) (hR : ∀ id ∈ refsE e, R id)
    (hw : e.live = true → ∀ k, ι.blk id = some k → w'.heap[k]? = w.heap[k]?) (h : ERep c ι w M id e) : ERep c' ι' w' M' (f id) (renE f e) := by
  obtain ⟨_, b1, b2⟩ := x.ent id e hid he
  cases e with
  | row e t fr ap l =>
    obtain ⟨xs, h1, h2, h3⟩ := h
    refine ⟨xs, x.prep hf h1, h2, ?_⟩
    rw [b1, b2]
    have h3' := h3.mono (fun k hk => hw rfl k hk)
    refine ⟨h3'.1, ?_⟩
    rcases h3'.2 with hn | ⟨g, cur, fz, k1, k2, k3⟩
    · exact .inl hn
    · refine .inr ⟨g, cur, fz, k1, Nat.le_trans ?_ k2, k3⟩
      cases fr
      · exact Nat.le_refl _
      · exact x.fr
  | frz t fr l =>
    obtain ⟨h1, h2⟩ := h
    refine ⟨?_, h2⟩
    rw [b1, b2]; exact x.prep hf h1
  | obj ls =>
    obtain ⟨b, cs, T, h1, h2, h3⟩ := h
    refine ⟨b, cs, T, by rw [b1]; exact h1, by rw [hw rfl b (by rw [Gh.blk, h1]; rfl)]; exact h2, h3.ren x hf hR⟩
  | dead => trivial
theorem renE_live (e : Entry) : (renE f e).live = e.live := by cases e <;> rfl
end

/-! ### what a callee hands back -/
theorem numFrom_get {es : List Entry} : ∀ {n j : Nat}, Store.get (numFrom n es) j = if n ≤ j then es[j - n]? else none := by
  induction es with
  | nil => intro n j; simp [numFrom, Store.get]
  | cons e r ih =>
    intro n j
    simp only [numFrom, Store.get]
    by_cases h : n = j
    · subst h; simp
    · rw [beq_no h, cond_false, ih]
      by_cases h1 : n ≤ j
      · rw [if_pos h1, if_pos (by omega), show j - n = (j - (n + 1)) + 1 by omega, List.getElem?_cons_succ]
      · rw [if_neg h1, if_neg (by omega)]
theorem upds_numFrom {es : List Entry} : ∀ {M : Store} {n j : Nat}, (∀ i, n ≤ i → i < n + es.length → M.get i = none) → (M.upds (numFrom n es)).get j = if n ≤ j ∧ j < n + es.length then es[j - n]? else M.get j := by
  induction es with
  | nil =>
    intro M n j h
    simp only [numFrom, Store.upds, List.length_nil]
    rw [if_neg (by omega)]
  | cons e r ih =>
    intro M n j h
    simp only [numFrom, Store.upds]
    rw [ih (fun i hi hi2 => by rw [Store.get_set_other _ _ _ _ (by omega)]; exact h i (by omega) (by rw [List.length_cons]; omega))]
    simp only [List.length_cons]
    by_cases h1 : n = j
    · subst h1
      rw [if_neg (by omega), Store.get_set_same, if_pos (by omega)]; simp
    · by_cases h2 : n ≤ j ∧ j < n + (r.length + 1)
      · rw [if_pos (by omega), if_pos h2, show j - n = (j - (n + 1)) + 1 by omega, List.getElem?_cons_succ]
      · rw [if_neg (by omega), if_neg h2, Store.get_set_other _ _ _ _ (by omega)]

section
variable {c : Ctx} {ι : Gh} {w : World} {M : Store}
theorem Inv.call (I : Inv c ι w M) {S : Nat → Prop} {w' : World} {es : List Entry} {ι1 : Gh} {al : Bool} {nid : Nat} (hSl : al = true → ∀ b, S b → ι.S b)
    (J : Inv ⟨w, fun _ => False, S⟩ ι1 w' (numFrom 0 es)) (hfr : al = true ∨ es.all freshE = true) (hid : ∀ j, nid ≤ j → j < nid + es.length → M.get j = none) :
    ∃ ι', Inv c ι' w' (M.upds (numFrom nid (es.map (renE fun i => nid + i)))) ∧ Ext ι w M ι' w' (M.upds (numFrom nid (es.map (renE fun i => nid + i)))) ∧
      Ren al (fun i => nid + i) (fun _ => True) ⟨w, fun _ => False, S⟩ ι1 w' (numFrom 0 es) c ι' w' (M.upds (numFrom nid (es.map (renE fun i => nid + i)))) := by
  let ι' : Gh := { S := fun b => ι.S b ∨ (ι1.S b ∧ (al = true ∨ w.heap.size ≤ b)), base := fun i => if nid ≤ i ∧ i < nid + es.length then ι1.base (i - nid) else ι.base i, cap := fun i => if nid ≤ i ∧ i < nid + es.length then ι1.cap (i - nid) else ι.cap i }
  have hsame : ∀ b, b < w.heap.size → w'.heap[b]? = w.heap[b]? := fun b hb => J.kept.block b hb (fun h => h)
  have hget : ∀ j, (M.upds (numFrom nid (es.map (renE fun i => nid + i)))).get j = if nid ≤ j ∧ j < nid + es.length then (es.map (renE fun i => nid + i))[j - nid]? else M.get j := fun j => by rw [upds_numFrom (by rw [List.length_map]; exact hid), List.length_map]
  have hlt : ∀ j e, M.get j = some e → ¬ (nid ≤ j ∧ j < nid + es.length) := fun j e he h => by rw [hid j h.1 h.2] at he; cases he
  have hbo : ∀ j, ¬ (nid ≤ j ∧ j < nid + es.length) → ι'.blk j = ι.blk j := fun j h => by simp [Gh.blk, ι', h]
  have hbn : ∀ j, (nid ≤ j ∧ j < nid + es.length) → ι'.blk j = ι1.blk (j - nid) := fun j h => by simp [Gh.blk, ι', h]
  have x : Ext ι w M ι' w' (M.upds (numFrom nid (es.map (renE fun i => nid + i)))) := by
    refine ⟨fun b hb => .inl hb, fun b hb => hsame b (I.stb b hb), fun id e he => ?_, fun id e he => ⟨e, ?_, Ev.refl e⟩⟩
    · simp [ι', hlt id e he]
    · rw [hget, if_neg (hlt id e he)]; exact he
  have rn : Ren al (fun i => nid + i) (fun _ => True) ⟨w, fun _ => False, S⟩ ι1 w' (numFrom 0 es) c ι' w' (M.upds (numFrom nid (es.map (renE fun i => nid + i)))) := by
    refine ⟨I.kept.size, fun b hb h => .inr ⟨hb, h⟩, fun _ _ => rfl, fun id e _ he => ?_⟩
    rw [numFrom_get, if_pos (Nat.zero_le _), Nat.sub_zero] at he
    have hlen := (List.getElem?_eq_some_iff.1 he).1
    refine ⟨?_, ?_, ?_⟩
    · rw [hget, if_pos (by omega), show nid + id - nid = id by omega, List.getElem?_map, he]; rfl
    · show (if nid ≤ nid + id ∧ nid + id < nid + es.length then ι1.base (nid + id - nid) else _) = _
      rw [if_pos (by omega), show nid + id - nid = id by omega]
    · show (if nid ≤ nid + id ∧ nid + id < nid + es.length then ι1.cap (nid + id - nid) else _) = _
      rw [if_pos (by omega), show nid + id - nid = id by omega]
  have new : ∀ {j ej}, (nid ≤ j ∧ j < nid + es.length) → (M.upds (numFrom nid (es.map (renE fun i => nid + i)))).get j = some ej → ∃ e, Store.get (numFrom 0 es) (j - nid) = some e ∧ ej = renE (fun i => nid + i) e := by
    intro j ej h hj
    rw [hget, if_pos h, List.getElem?_map] at hj
    cases he : es[j - nid]? with
    | none => rw [he] at hj; cases hj
    | some e => rw [he] at hj; cases hj; exact ⟨e, by rw [numFrom_get, if_pos (Nat.zero_le _), Nat.sub_zero]; exact he, rfl⟩
  have newblk : ∀ {j ej k}, (nid ≤ j ∧ j < nid + es.length) → (M.upds (numFrom nid (es.map (renE fun i => nid + i)))).get j = some ej → ej.live = true → ι'.blk j = some k → ¬ ι1.S k ∧ w.heap.size ≤ k := by
    intro j ej k h hj hl hk
    obtain ⟨e, he, rfl⟩ := new h hj
    rw [hbn j h] at hk
    rw [renE_live] at hl
    obtain ⟨h1, h2⟩ := J.own _ e k he hl hk
    exact ⟨h1, h2.elim id fun h => h.elim⟩
  have oldget : ∀ {j ej}, ¬ (nid ≤ j ∧ j < nid + es.length) → (M.upds (numFrom nid (es.map (renE fun i => nid + i)))).get j = some ej → M.get j = some ej := by
    intro j ej h hj
    rw [hget, if_neg h] at hj; exact hj
  refine ⟨ι', ⟨?_, fun j ej hj => ?_, fun i j ei ej k hi hj li lj bi bj => ?_, fun i ei k hi li bi => ?_, fun b hb => ?_, fun b hb => ?_⟩, x, rn⟩
  · exact ⟨J.kept.os.trans I.kept.os, J.kept.tape.trans I.kept.tape, J.kept.output.trans I.kept.output, Nat.le_trans I.kept.size J.kept.size, fun b hb hO =>
      (hsame b (Nat.lt_of_lt_of_le hb I.kept.size)).trans (I.kept.block b hb hO)⟩
  · by_cases h : nid ≤ j ∧ j < nid + es.length
    · obtain ⟨e, he, rfl⟩ := new h hj
      have := ERep.ren rn he trivial (hfr.elim .inl fun hh => .inr (by
        rw [numFrom_get, if_pos (Nat.zero_le _), Nat.sub_zero] at he
        exact List.all_eq_true.1 hh e (List.mem_of_getElem? he))) (fun _ _ => trivial) (fun _ _ _ => rfl) (J.ents _ e he)
      simpa [show nid + (j - nid) = j by omega] using this
    · have he := oldget h hj
      exact ERep.mono x he (fun hl k hk => hsame k ((I.ents j ej he).blk_lt hl k hk)) (I.ents j ej he)
  · by_cases h1 : nid ≤ i ∧ i < nid + es.length
    · obtain ⟨n1, n2⟩ := newblk h1 hi li bi
      by_cases h2 : nid ≤ j ∧ j < nid + es.length
      · obtain ⟨e1, g1, rfl⟩ := new h1 hi
        obtain ⟨e2, g2, rfl⟩ := new h2 hj
        rw [hbn i h1] at bi; rw [hbn j h2] at bj
        rw [renE_live] at li lj
        have := J.dis _ _ e1 e2 k g1 g2 li lj bi bj
        omega
      · have g := oldget h2 hj
        rw [hbo j h2] at bj
        have := (I.ents j ej g).blk_lt lj k bj
        omega
    · have g := oldget h1 hi
      rw [hbo i h1] at bi
      by_cases h2 : nid ≤ j ∧ j < nid + es.length
      · obtain ⟨n1, n2⟩ := newblk h2 hj lj bj
        have := (I.ents i ei g).blk_lt li k bi
        omega
      · have g' := oldget h2 hj
        rw [hbo j h2] at bj
        exact I.dis i j ei ej k g g' li lj bi bj
  · by_cases h1 : nid ≤ i ∧ i < nid + es.length
    · obtain ⟨n1, n2⟩ := newblk h1 hi li bi
      refine ⟨fun hS' => ?_, .inl (Nat.le_trans I.kept.size n2)⟩
      rcases hS' with hS' | hS'
      · have := I.stb k hS'; omega
      · exact n1 hS'.1
    · have g := oldget h1 hi
      rw [hbo i h1] at bi
      obtain ⟨o1, o2⟩ := I.own i ei k g li bi
      have hk := (I.ents i ei g).blk_lt li k bi
      refine ⟨fun hS' => ?_, o2⟩
      rcases hS' with hS' | ⟨hS', ha⟩
      · exact o1 hS'
      · rcases J.src k hS' with h | h | h
        · rcases ha with ha | ha
          · exact o1 (hSl ha k h)
          · omega
        · have : w.heap.size ≤ k := h; omega
        · exact h
  · rcases hb with hb | hb
    · exact Nat.lt_of_lt_of_le (I.stb b hb) J.kept.size
    · exact J.stb b hb.1
  · rcases hb with hb | ⟨hb, ha⟩
    · exact I.src b hb
    · rcases J.src b hb with h | h | h
      · rcases ha with ha | ha
        · exact I.src b (hSl ha b h)
        · exact .inr (.inl (Nat.le_trans I.kept.size ha))
      · exact .inr (.inl (Nat.le_trans I.kept.size h))
      · exact h.elim
end
end Go.Vc
