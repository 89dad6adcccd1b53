/- Stores. -/
import Derived.Test.YtddakledpipanaaVcOp1
set_option linter.unusedVariables false
set_option linter.unusedSimpArgs false
namespace Go.Vc

def splice {α : Type} (xs : List α) (o : Nat) (ds : List α) : List α := xs.take o ++ ds ++ xs.drop (o + ds.length)
theorem splice_length {α : Type} (xs : List α) (o : Nat) (ds : List α) (h : o + ds.length ≤ xs.length) : (splice xs o ds).length = xs.length := by
  simp only [splice, List.length_append, List.length_take, List.length_drop]; omega
theorem splice_get {α : Type} (xs : List α) (o : Nat) (ds : List α) (h : o + ds.length ≤ xs.length) (j : Nat) :
    (splice xs o ds)[j]? = if j < o then xs[j]? else if j < o + ds.length then ds[j - o]? else xs[j]? := by
  unfold splice
  have hto : (xs.take o).length = o := by rw [List.length_take]; omega
  by_cases h1 : j < o
  · rw [if_pos h1, List.append_assoc, List.getElem?_append_left (by omega), List.getElem?_take, if_pos h1]
  · rw [if_neg h1, List.append_assoc, List.getElem?_append_right (by omega), hto]
    by_cases h2 : j < o + ds.length
    · rw [if_pos h2, List.getElem?_append_left (by omega)]
    · rw [if_neg h2, List.getElem?_append_right (by omega), List.getElem?_drop]
      congr 1; omega
theorem splice_splice {α : Type} (xs : List α) (a m b : Nat) (ds : List α) (h1 : b + ds.length ≤ m) (h2 : a + m ≤ xs.length) :
    splice xs a (splice ((xs.drop a).take m) b ds) = splice xs (a + b) ds := by
  have hm : ((xs.drop a).take m).length = m := by rw [List.length_take, List.length_drop]; omega
  have hs : (splice ((xs.drop a).take m) b ds).length = m := by rw [splice_length _ _ _ (by omega), hm]
  apply List.ext_getElem?
  intro j
  rw [splice_get xs a _ (by omega), splice_get xs (a + b) ds (by omega), hs]
  by_cases c1 : j < a
  · rw [if_pos c1, if_pos (show j < a + b by omega)]
  · rw [if_neg c1]
    by_cases c2 : j < a + m
    · rw [if_pos c2, splice_get ((xs.drop a).take m) b ds (by omega)]
      by_cases c3 : j - a < b
      · rw [if_pos c3, if_pos (show j < a + b by omega), List.getElem?_take, if_pos (show j - a < m by omega), List.getElem?_drop]
        congr 1; omega
      · rw [if_neg c3, if_neg (show ¬ j < a + b by omega)]
        by_cases c4 : j - a < b + ds.length
        · rw [if_pos c4, if_pos (show j < a + b + ds.length by omega)]
          congr 1; omega
        · rw [if_neg c4, if_neg (show ¬ j < a + b + ds.length by omega), List.getElem?_take, if_pos (show j - a < m by omega), List.getElem?_drop]
          congr 1; omega
    · rw [if_neg c2, if_neg (show ¬ j < a + b by omega), if_neg (show ¬ j < a + b + ds.length by omega)]
theorem splice_take {α : Type} (xs : List α) (o n : Nat) (ds : List α) (h : o + ds.length ≤ n) (hn : n ≤ xs.length) : (splice xs o ds).take n = splice (xs.take n) o ds := by
  apply List.ext_getElem?
  intro j
  rw [List.getElem?_take, splice_get _ _ _ (by omega), splice_get _ _ _ (by rw [List.length_take]; omega)]
  by_cases c : j < n
  · rw [if_pos c, List.getElem?_take, if_pos c]
  · rw [if_neg c, if_neg (by omega), if_neg (by omega), List.getElem?_take, if_neg c]
theorem lset_splice {c : Ctx} {ι : Gh} {w : World} {M : Store} {new : List Leaf} {ds : List Value} (hn : LsRep c ι w M new ds) {ls : List Leaf} {off n : Nat} {r : List Leaf} {cs : List Value}
    (h : lset ls off n new = some r) (hr : LsRep c ι w M ls cs) (hl : ds.length = n) : LsRep c ι w M r (splice cs off ds) ∧ off + n ≤ cs.length := by
  obtain ⟨h1, h2⟩ := lset_rep hn h hr
  exact ⟨by unfold splice; rw [hl]; exact h1, h2⟩

theorem splice_append {α : Type} (a xs : List α) (o : Nat) (ds : List α) : splice (a ++ xs) (a.length + o) ds = a ++ splice xs o ds := by
  have h1 : (a ++ xs).take (a.length + o) = a ++ xs.take o := by
    rw [List.take_append, List.take_of_length_le (Nat.le_add_right _ _), Nat.add_sub_cancel_left]
  have h2 : (a ++ xs).drop (a.length + o + ds.length) = xs.drop (o + ds.length) := by
    rw [List.drop_append, List.drop_of_length_le (by omega), List.nil_append]
    congr 1; omega
  unfold splice
  rw [h1, h2]
  simp only [List.append_assoc]
theorem flatten_set {α : Type} (n : Nat) : ∀ (ess : List (List α)) (i : Nat) (ec : List α), (∀ e ∈ ess, e.length = n) → ec.length = n → i < ess.length → (ess.set i ec).flatten = splice ess.flatten (i * n) ec
  | [], i, ec, _, _, h => by simp at h
  | e :: r, 0, ec, hl, he, _ => by
    have hel := hl e (by simp)
    have h2 : (e ++ r.flatten).drop n = r.flatten := by rw [List.drop_append, List.drop_of_length_le (by omega), List.nil_append, hel, Nat.sub_self, List.drop_zero]
    simp only [List.set_cons_zero, List.flatten_cons, splice, Nat.zero_mul, List.take_zero, List.nil_append, Nat.zero_add, he, h2]
  | e :: r, i + 1, ec, hl, he, hi => by
    have hel := hl e (by simp)
    simp only [List.set_cons_succ, List.flatten_cons]
    rw [flatten_set n r i ec (fun x hx => hl x (by simp [hx])) he (by simpa using hi), Nat.succ_mul, Nat.add_comm (i * n) n, ← hel, splice_append, hel]
theorem PRep.set {S : Nat → Prop} {w : World} {n : Nat} {e : Ty} {l : List e.den} {xs : List Value} (h : PRep S w (.arr n e) l xs) (i : Nat) (hi : i < n) {x : e.den} {ec : List Value} (hx : PRep S w e x ec) :
    PRep S w (.arr n e) (l.set i x) (splice xs (i * e.sz) ec) := by
  obtain ⟨h1, ess, h2, rfl, h4⟩ := h
  have hl : ∀ ec ∈ ess, ec.length = e.sz := by
    intro ec hec
    obtain ⟨j, hj, rfl⟩ := List.getElem_of_mem hec
    exact PRep.len _ _ _ (h4 j (l[j]'(by omega)) ess[j] (by simp) (by simp))
  refine ⟨by rw [List.length_set]; exact h1, ess.set i ec, by rw [List.length_set]; exact h2, (flatten_set e.sz ess i ec hl (PRep.len _ _ _ hx) (by omega)).symm, fun j y yc hy hyc => ?_⟩
  rw [List.getElem?_set] at hy hyc
  by_cases hij : i = j
  · subst hij
    rw [if_pos rfl, if_pos (by omega)] at hy hyc
    cases hy; cases hyc; exact hx
  · rw [if_neg hij] at hy hyc
    exact h4 j y yc hy hyc
theorem PRep.arr_len {S : Nat → Prop} {w : World} {n : Nat} {e : Ty} {l : List e.den} {xs : List Value} (h : PRep S w (.arr n e) l xs) : PRep S w (.arr l.length e) l xs := by
  obtain ⟨h1, ess, h2, h3, h4⟩ := h
  exact ⟨rfl, ess, by omega, h3, h4⟩
theorem Valid.set {e : Ty} {l : List e.den} (h : ∀ y ∈ l, Valid e y) (i : Nat) {x : e.den} (hx : Valid e x) : ∀ y ∈ l.set i x, Valid e y := by
  intro y hy
  rcases List.mem_or_eq_of_mem_set hy with h1 | h1
  · exact h y h1
  · rw [h1]; exact hx

theorem shapeB_ok : ∀ {ls ls' : List Leaf}, shapeB ls ls' = true → Shape ls ls'
  | [], [], _ => fun off N fr t l h => by simp [lat] at h
  | [], x :: _, h => by cases x <;> simp [shapeB] at h
  | x :: _, [], h => by cases x <;> simp [shapeB] at h
  | a :: r, b :: s, h => by
    have key : a.width = b.width ∧ (∀ N fr t l, a = .arr N fr t l → ∃ fr' l', b = .arr N fr' t l') ∧ shapeB r s = true := by
      cases a <;> cases b <;> simp only [shapeB, Bool.and_eq_true, Bool.false_eq_true] at h <;> first
        | exact h.elim
        | exact ⟨rfl, fun _ _ _ _ hh => (by cases hh), h⟩
        | (obtain ⟨h1, h2⟩ := h
           split at h1
           · rename_i n fr t l n' fr' t' l' ht
             have hn := Nat.eq_of_beq_eq_true h1
             subst ht; subst hn
             exact ⟨rfl, fun _ _ _ _ hh => (by cases hh; exact ⟨_, _, rfl⟩), h2⟩
           · cases h1)
    obtain ⟨h1, h2, h3⟩ := key
    have ih := shapeB_ok h3
    intro off N fr t l hl
    cases off with
    | zero =>
      simp only [lat, Option.some.injEq] at hl
      obtain ⟨fr', l', hb⟩ := h2 N fr t l hl
      exact ⟨fr', l', by rw [hb]; rfl⟩
    | succ off =>
      unfold lat at hl ⊢
      cases hb : Nat.ble a.width (off + 1) with
      | false => rw [hb] at hl; cases hl
      | true =>
        rw [hb] at hl
        rw [← h1, hb]
        simp only [cond_true] at hl ⊢
        exact ih _ N fr t l hl

section
variable {P : Program} {c : Ctx} {ι : Gh} {w : World} {M : Store} {act : Act} {o : Oper}

theorem run_storeCells_fz (g o : Nat) (t : TypeId) (fz : Nat × Nat) : ∀ (vs : List Value) (i : Nat) (cur : Array Value) (w : World), w.heap[g]? = some (.cells cur t fz) → (∀ j, j < cur.size → ¬ (fz.1 ≤ j ∧ j < fz.2)) → o + i + vs.length ≤ cur.size → (∀ v ∈ vs, v.oneCell' = true) →
    (storeCells ⟨g, o, none⟩ vs i).run P w = .ok () (w.setRow g (cur.toList.take (o + i) ++ vs ++ cur.toList.drop (o + i + vs.length)).toArray)
  | [], i, cur, w, hg, _, _, _ => by
    simp only [storeCells, List.append_nil, List.length_nil, Nat.add_zero, List.take_append_drop, Array.toArray_toList]
    rw [setRow_self w g cur t fz hg]
    rfl
  | v :: rest, i, cur, w, hg, hf, hl, h1 => by
    have hi : o + i < cur.size := by simp at hl; omega
    have hadd : (⟨g, o, none⟩ : Addr).add i = ⟨g, o + i, none⟩ := by unfold Addr.add; split <;> simp_all
    have hcell : w.cell? ⟨g, o + i, none⟩ = some cur[o + i] := by simp [World.cell?, hg, hi]
    have hfro : w.frozen? ⟨g, o + i, none⟩ = false := by
      have := hf (o + i) hi
      obtain ⟨lo, hi'⟩ := fz
      simp only [World.frozen?, hg]
      simpa using this
    have hst : (store ((⟨g, o, none⟩ : Addr).add i) v).run P w = .ok () (w.setRow g (cur.setIfInBounds (o + i) v)) := by
      rw [hadd, run_store P w _ v _ (h1 v (by simp)), hcell]
      simp [hfro, setCell_eq_setRow w g (o + i) cur t fz v hg]
    have ih := run_storeCells_fz g o t fz rest (i + 1) (cur.setIfInBounds (o + i) v) (w.setRow g (cur.setIfInBounds (o + i) v)) (setRow_heap w g cur _ t _ hg) (by simpa using hf) (by simp at hl ⊢; omega) (fun x hx => h1 x (by simp [hx]))
    simp only [storeCells, Sem.run_bind, hst, Result.andThen_ok, ih, setRow_setRow]
    congr 3
    have e := list_seg_step cur.toList (o + i) v rest (by simp at hl ⊢; omega)
    simpa [Array.toList_setIfInBounds, Nat.add_assoc] using e

theorem VRep.cells {x : V} {v : Value} (h : VRep c ι w M x v) : ∃ ds, LsRep c ι w M x.ls ds ∧ v.cells.toList = ds := by
  obtain ⟨cs, h1, h2⟩ := h
  refine ⟨cs, h1, ?_⟩
  cases ha : x.agg with
  | true => rw [ha] at h2; rw [h2]; rfl
  | false =>
    rw [ha] at h2
    obtain ⟨h2, h3⟩ := h2
    rw [h2]
    cases v <;> first | rfl | cases h3
theorem exec_store {T : Nat} {x y : Operand} {ti : TI} (ht : TiOk P T ti) (ho : o.op = .store T x y) {g off : Nat} {ds : List Value} {cur : Array Value} {e : TypeId} {fz : Nat × Nat}
    (hx : act.eval x = .pointer (some ⟨g, off, none⟩)) (hy : (act.eval y).cells.toList = ds) (hl : ds.length = ti.size) (h1 : ∀ v ∈ ds, v.oneCell' = true)
    (hg : w.heap[g]? = some (.cells cur e fz)) (hf : ∀ j, j < cur.size → ¬ (fz.1 ≤ j ∧ j < fz.2)) (hfit : off + ds.length ≤ cur.size) :
    (execOp act.eval o).run P w = .ok .skip (w.setRow g (splice cur.toList off ds).toArray) := by
  have hs : (act.eval y).cells.size = ti.size := by rw [← hl, ← hy, Array.length_toList]
  have hst := run_storeCells_fz (P := P) g off e fz ds 0 cur w hg hf (by omega) h1
  simp only [Nat.add_zero] at hst
  simp [execOp, ho, hx, Instr.storeAt, Instr.sureAddr, storeVar, run_sizeOf_ti ht, hs, hy, hst, splice]
theorem Turn.setRow (w : World) (g : Nat) (cs : Array Value) : Turn w (w.setRow g cs) (fun k => k = g) :=
  ⟨rfl, rfl, rfl, by simp, fun k _ hk => setRow_other w g k cs hk⟩

/-- What is told of the leaves that implode took up, where all of it has been frozen. -/
theorem ImOk.frozen {t : Ty} {im : Im t} {cs : List Value} (I : Inv c ι w M) (h : ImOk c ι w M t im cs) : ∃ ι', Inv c ι' w (M.upds im.frz) ∧ Ext ι w M ι' w (M.upds im.frz) ∧ ι'.base = ι.base ∧ ι'.cap = ι.cap ∧
    ∃ c1 c2, cs = c1 ++ c2 ∧ LsRep c ι w M im.rest c2 ∧ Valid t im.x ∧ PRep (SF c ι' im.fr) w t im.x c1 := by
  obtain ⟨hz, c1, c2, h1, h2, h3, h4⟩ := h
  obtain ⟨ι', I', x, hS, hb, hc⟩ := Inv.freezeAll im.frz I hz
  refine ⟨ι', I', x, hb, hc, c1, c2, h1, h2, h3, ?_⟩
  exact h4 ι'.S x.S (fun id e e0 k hm he hl hk => (hS k).2 (.inr ⟨id, e, e0, hm, he, hl, hk⟩))
theorem upds_get_other : ∀ (z : List (Nat × Entry)) (M : Store) (id : Nat), (z.all fun p => !(Nat.beq p.1 id)) = true → (M.upds z).get id = M.get id
  | [], _, _, _ => rfl
  | (j, e) :: z, M, id, h => by
    simp only [List.all_cons, Bool.and_eq_true, Bool.not_eq_true'] at h
    have hne : id ≠ j := fun hh => by
      have := h.1; rw [hh] at this
      have e1 : Nat.beq j j = true := by simp
      rw [e1] at this; cases this
    show ((M.set j e).upds z).get id = _
    rw [upds_get_other z _ id h.2, Store.get_set_other _ _ _ _ hne]

theorem evStore_sound {cfg : Cfg} (tab : TabOk P cfg) (I : Inv c ι w M) {T : Nat} {x y : Operand} (ho : o.op = .store T x y) {l : Leaf} (hx : LRep c ι w M l [act.eval x])
    {v : V} (hy : VRep c ι w M v (act.eval y)) {ps : List Prop} {u : List (Nat × Entry)} (he : evStore cfg M T l v = some (ps, u)) (hp : ∀ p ∈ ps, p) : OpWp P c ι w M act o (.tup []) u := by
  unfold evStore at he
  cases hti : cfg.ti T with
  | none => rw [hti] at he; cases he
  | some ti =>
    rw [hti] at he
    simp only at he
    have ht := tab T ti hti
    cases hw : Nat.beq (widths v.ls) ti.size with
    | false => rw [hw] at he; cases he
    | true =>
      rw [hw] at he
      simp only [cond_true] at he
      have hw := Nat.eq_of_beq_eq_true hw
      obtain ⟨ds, hds, hyc⟩ := hy.cells
      have hdl : ds.length = ti.size := by rw [hds.len, hw]
      cases l with
      | ptr id off =>
        simp only [LRep] at hx
        simp only at he
        cases hm : M.get id with
        | none => rw [hm] at he; cases he
        | some e =>
          rw [hm] at he hx
          cases e <;> simp only at he hx <;> first | cases he | skip
          rename_i ls
          cases hg : lset ls off ti.size v.ls with
          | none => rw [hg] at he; cases he
          | some r =>
            rw [hg] at he
            simp only at he
            cases hsh : shapeB ls r with
            | false => rw [hsh] at he; cases he
            | true =>
              rw [hsh] at he; cases he
              obtain ⟨b, hb, hv⟩ := hx
              obtain ⟨b', cs, T', h1, h2, h3⟩ := I.ents id _ hm
              rw [hb] at h1; cases h1
              obtain ⟨k1, k2⟩ := lset_splice hds hg h3 hdl
              have hrun := exec_store (P := P) (act := act) (w := w) ht ho (by simpa using hv) hyc hdl hds.one h2 (by simp) (by rw [hdl]; simpa using k2)
              have tt : Turn w (w.setRow b (splice cs off ds).toArray) (fun k => ι.blk id = some k) :=
                (Turn.setRow w b _).mono (fun k hk => by rw [hk, Gh.blk, hb]; rfl)
              have hev : Ev (.obj ls) (.obj r) := shapeB_ok hsh
              have xx := Ext.change I hm rfl hev tt
              refine OpWp.of_skip (ι' := ι) hrun (Inv.change I hm rfl hev tt ?_) xx
              exact ⟨b, splice cs off ds, T', hb, setRow_heap w b _ _ _ _ h2, k1.mono xx⟩
      | eptr id i off =>
        simp only [LRep] at hx
        simp only at he
        cases hm : M.get id with
        | none => rw [hm] at he; cases he
        | some e =>
          rw [hm] at he hx
          cases e <;> simp only at he hx <;> first | cases he | skip
          rename_i e0 t fr ap l
          cases hg : lset (explode fr t (idx l i)) off ti.size v.ls with
          | none => rw [hg] at he; cases he
          | some r =>
            rw [hg] at he
            simp only at he
            cases him : implode M t r with
            | none => rw [him] at he; cases he
            | some im =>
              rw [him] at he
              simp only at he
              cases hrest : im.rest with
              | cons _ _ => rw [hrest] at he; cases he
              | nil =>
                rw [hrest] at he
                simp only at he
                cases hall : im.frz.all fun p => !(Nat.beq p.1 id) with
                | false => rw [hall] at he; cases he
                | true =>
                  rw [hall] at he; cases he
                  have hi : i < l.length := hp _ (by simp)
                  obtain ⟨ad, had, hv⟩ := hx
                  obtain ⟨xs, q1, q2, q3⟩ := I.ents id _ hm
                  obtain ⟨k1, k2⟩ := q1.elem i hi
                  obtain ⟨k3, k4⟩ := lset_splice hds hg (explode_rep (c := c) (ι := ι) (M := M) _ _ _ k1 (Valid.elem q2.1 i hi)) hdl
                  have hxl : xs.length = l.length * t.sz := by have := PRep.len _ _ _ q1; simpa [Ty.sz] using this
                  have hel : ((xs.drop (i * t.sz)).take t.sz).length = t.sz := PRep.len _ _ _ k1
                  rw [hel] at k4
                  obtain ⟨ι1, I1, x1, hb1, hc1, c1, c2, e1, e2, e3, e4⟩ := ImOk.frozen I (implode_rep I t him k3)
                  rw [hrest] at e2
                  rw [show c2 = [] from e2, List.append_nil] at e1
                  have hm1 : (M.upds im.frz).get id = some (.row e0 t fr ap l) := by rw [upds_get_other _ _ _ hall]; exact hm
                  -- the row's block
                  rcases q3.2 with ⟨hn, _⟩ | ⟨g, cur, fz, hb, hlb, hh, hap, hfz, hnc, hcm, hcs, htk⟩
                  · rw [hn] at had; cases had
                  rw [hb] at had; cases had
                  have hle : (i + 1) * t.sz ≤ l.length * t.sz := Nat.mul_le_mul_right _ hi
                  have hle2 : l.length * t.sz ≤ cur.size := by rw [hcs]; exact Nat.mul_le_mul_right _ hnc
                  rw [Nat.succ_mul] at hle
                  have hadd : (⟨g, 0, none⟩ : Addr).add (i * t.sz + off) = ⟨g, i * t.sz + off, none⟩ := by unfold Addr.add; split <;> simp_all
                  rw [hadd] at hv
                  have hrun := exec_store (P := P) (act := act) (w := w) ht ho (by simpa using hv) hyc hdl hds.one hh hfz (by omega)
                  have tt : Turn w (w.setRow g (splice cur.toList (i * t.sz + off) ds).toArray) (fun k => ι1.blk id = some k) :=
                    (Turn.setRow w g _).mono (fun k hk => by rw [hk, Gh.blk, hb1, hb]; rfl)
                  have hev : Ev (.row e0 t fr ap l) (.row e0 t (fr && im.fr) ap (l.set i im.x)) := ⟨rfl, by rw [List.length_set]⟩
                  have xx := Ext.change I1 hm1 rfl hev tt
                  have hsp : splice xs (i * t.sz) c1 = splice xs (i * t.sz + off) ds := by
                    rw [← e1, splice_splice _ _ _ _ _ (by omega) (by omega)]
                  have wk : ∀ (f : Bool), (f = fr ∨ f = im.fr) → ∀ b, SF c ι1 f b → SF c ι1 (fr && im.fr) b := by
                    intro f hf b hb
                    refine ⟨hb.1, fun h => hb.2 ?_⟩
                    simp only [Bool.and_eq_true] at h
                    rcases hf with rfl | rfl
                    · exact h.1
                    · exact h.2
                  have hset : PRep (SF c ι1 (fr && im.fr)) w (.arr l.length t) (l.set i im.x) (splice xs (i * t.sz) c1) :=
                    PRep.set (PRep.mono (fun b hb => wk fr (.inl rfl) b (SF.mono x1.S b hb)) (fun _ _ => rfl) _ _ _ q1) i hi (PRep.mono (wk im.fr (.inr rfl)) (fun _ _ => rfl) _ _ _ e4)
                  have hset' := PRep.mono (S' := SF c ι1 (fr && im.fr)) (fun _ h => h) (fun b hb => xx.heap b hb.1) _ _ _ hset
                  rw [hsp] at hset'
                  show OpWp P c ι w M act o (.tup []) (im.frz ++ [(id, .row e0 t (fr && im.fr) ap (l.set i im.x))])
                  have hup : M.upds (im.frz ++ [(id, .row e0 t (fr && im.fr) ap (l.set i im.x))]) = (M.upds im.frz).set id (.row e0 t (fr && im.fr) ap (l.set i im.x)) := by rw [Store.upds_append]; rfl
                  have hcl : cur.toList.length = cur.size := Array.length_toList
                  have hsl : (splice cur.toList (i * t.sz + off) ds).length = cur.size := by rw [splice_length cur.toList _ ds (by omega), hcl]
                  refine OpWp.of_skip (ι' := ι1) hrun ?_ ?_
                  · rw [hup]
                    refine Inv.change I1 hm1 rfl hev tt ⟨_, hset'.arr_len, ⟨Valid.set q2.1 i e3, by rw [List.length_set]; exact q2.2⟩, ?_⟩
                    refine ⟨?_, .inr ⟨g, _, fz, by rw [hb1]; exact hb, ?_, setRow_heap w g _ _ _ _ hh, hap, ?_, by rw [List.length_set, hc1]; exact hnc, by rw [hc1]; exact hcm, ?_, ?_⟩⟩
                    · rw [splice_length _ _ _ (by omega), List.length_set]; exact hxl
                    · cases hfr : fr with
                      | true =>
                        rw [hfr] at hlb
                        cases im.fr with
                        | true => exact hlb
                        | false => exact Nat.zero_le _
                      | false => exact Nat.zero_le _
                    · intro j hj
                      rw [List.size_toArray, hsl] at hj
                      exact hfz j hj
                    · rw [List.size_toArray, hsl, hc1]; exact hcs
                    · rw [List.toList_toArray, List.length_set, splice_take cur.toList _ _ ds (by omega) (by omega), htk]
                  · rw [hup]; exact x1.trans xx
      | aptr id aoff i off =>
        simp only [LRep] at hx
        simp only at he
        cases hm : M.get id with
        | none => rw [hm] at he; cases he
        | some e =>
          rw [hm] at he hx
          cases e <;> simp only at he hx <;> first | cases he | skip
          rename_i ls
          cases hla : lat ls aoff with
          | none => rw [hla] at he; cases he
          | some q =>
            rw [hla] at he hx
            cases q <;> simp only at he hx <;> first | cases he | skip
            rename_i n fr t l
            cases hg : lset (explode fr t (idx l i)) off ti.size v.ls with
            | none => rw [hg] at he; cases he
            | some r =>
              rw [hg] at he
              simp only at he
              cases him : implode M t r with
              | none => rw [him] at he; cases he
              | some im =>
                rw [him] at he
                simp only at he
                cases hrest : im.rest with
                | cons _ _ => rw [hrest] at he; simp only at he; cases he
                | nil =>
                  rw [hrest] at he
                  cases hls : lset ls aoff (n * t.sz) [.arr n (fr && im.fr) t (l.set i im.x)] with
                  | none => rw [hls] at he; cases he
                  | some ls' =>
                    rw [hls] at he
                    simp only at he
                    cases hall : (shapeB ls ls' && im.frz.all fun p => !(Nat.beq p.1 id)) with
                    | false => rw [hall] at he; cases he
                    | true =>
                      rw [hall] at he; cases he
                      simp only [Bool.and_eq_true] at hall
                      obtain ⟨hsh, hall⟩ := hall
                      have hi : i < n := hp _ (by simp)
                      obtain ⟨b, hb, hv⟩ := hx
                      obtain ⟨b', cs, T', h1, h2, h3⟩ := I.ents id _ hm
                      rw [hb] at h1; cases h1
                      obtain ⟨⟨a1, a2⟩, a3⟩ := lat_rep hla h3
                      have hn : l.length = n := a2.2
                      have hwd : (Leaf.arr n fr t l).width = n * t.sz := rfl
                      rw [hwd] at a1 a3
                      obtain ⟨k1, k2⟩ := a1.elem i (by omega)
                      obtain ⟨k3, k4⟩ := lset_splice hds hg (explode_rep (c := c) (ι := ι) (M := M) _ _ _ k1 (Valid.elem a2.1 i (by omega))) hdl
                      have hel : ((((cs.drop aoff).take (n * t.sz)).drop (i * t.sz)).take t.sz).length = t.sz := PRep.len _ _ _ k1
                      have hal : ((cs.drop aoff).take (n * t.sz)).length = n * t.sz := PRep.len _ _ _ a1
                      rw [hel] at k4
                      obtain ⟨ι1, I1, x1, hb1, hc1, c1, c2, e1, e2, e3, e4⟩ := ImOk.frozen I (implode_rep I t him k3)
                      rw [hrest] at e2
                      rw [show c2 = [] from e2, List.append_nil] at e1
                      have hm1 : (M.upds im.frz).get id = some (.obj ls) := by rw [upds_get_other _ _ _ hall]; exact hm
                      have hle : (i + 1) * t.sz ≤ n * t.sz := Nat.mul_le_mul_right _ hi
                      rw [Nat.succ_mul] at hle
                      have hrun := exec_store (P := P) (act := act) (w := w) ht ho (by simpa using hv) hyc hdl hds.one h2 (by simp) (by simp; omega)
                      have tt : Turn w (w.setRow b (splice cs (aoff + (i * t.sz + off)) ds).toArray) (fun k => ι1.blk id = some k) :=
                        (Turn.setRow w b _).mono (fun k hk => by rw [hk, Gh.blk, hb1, hb]; rfl)
                      have hev : Ev (.obj ls) (.obj ls') := shapeB_ok hsh
                      have xx := Ext.change I1 hm1 rfl hev tt
                      have wk : ∀ (f : Bool), (f = fr ∨ f = im.fr) → ∀ b, SF c ι1 f b → SF c ι1 (fr && im.fr) b := by
                        intro f hf b hb
                        refine ⟨hb.1, fun h => hb.2 ?_⟩
                        simp only [Bool.and_eq_true] at h
                        rcases hf with rfl | rfl
                        · exact h.1
                        · exact h.2
                      have hset : PRep (SF c ι1 (fr && im.fr)) w (.arr n t) (l.set i im.x) (splice ((cs.drop aoff).take (n * t.sz)) (i * t.sz) c1) :=
                        PRep.set (PRep.mono (fun b hb => wk fr (.inl rfl) b (SF.mono x1.S b hb)) (fun _ _ => rfl) _ _ _ a1) i hi (PRep.mono (wk im.fr (.inr rfl)) (fun _ _ => rfl) _ _ _ e4)
                      have hnew : LsRep c ι1 w (M.upds im.frz) [.arr n (fr && im.fr) t (l.set i im.x)] (splice ((cs.drop aoff).take (n * t.sz)) (i * t.sz) c1) :=
                        ⟨_, [], by simp, ⟨hset, Valid.set a2.1 i e3, by rw [List.length_set]; exact a2.2⟩, rfl⟩
                      have hc1l : c1.length = t.sz := PRep.len _ _ _ e4
                      have hnl : (splice ((cs.drop aoff).take (n * t.sz)) (i * t.sz) c1).length = n * t.sz := by rw [splice_length _ _ _ (by omega), hal]
                      obtain ⟨m1, m2⟩ := lset_splice hnew hls (h3.mono x1) hnl
                      have hsp : splice cs aoff (splice ((cs.drop aoff).take (n * t.sz)) (i * t.sz) c1) = splice cs (aoff + (i * t.sz + off)) ds := by
                        rw [← e1, splice_splice ((cs.drop aoff).take (n * t.sz)) (i * t.sz) t.sz off ds (by omega) (by omega), splice_splice cs aoff (n * t.sz) (i * t.sz + off) ds (by omega) (by omega)]
                      rw [hsp] at m1
                      have hup : M.upds (im.frz ++ [(id, .obj ls')]) = (M.upds im.frz).set id (.obj ls') := by rw [Store.upds_append]; rfl
                      refine OpWp.of_skip (ι' := ι1) hrun ?_ ?_
                      · rw [hup]
                        exact Inv.change I1 hm1 rfl hev tt ⟨b, _, T', by rw [hb1]; exact hb, setRow_heap w b _ _ _ _ h2, m1.mono xx⟩
                      · rw [hup]; exact x1.trans xx
      | _ => simp only at he; cases he
end
end Go.Vc
