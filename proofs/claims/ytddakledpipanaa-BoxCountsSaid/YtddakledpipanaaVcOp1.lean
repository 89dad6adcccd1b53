/- What single operations do in the machine: loads, stores, addresses, arithmetic. -/
import Derived.Test.YtddakledpipanaaVcTab
set_option linter.unusedVariables false
set_option linter.unusedSimpArgs false
namespace Go.Vc

/-- The evaluator's answer is the machine's: behind the operation the invariant holds again, and its value is the one that was told. -/
def OpWp (P : Program) (c : Ctx) (ι : Gh) (w : World) (M : Store) (act : Act) (o : Oper) (sv : SV) (u : List (Nat × Entry)) : Prop :=
  ∀ next Q, (∀ v w' ι', Inv c ι' w' (M.upds u) → Ext ι w M ι' w' (M.upds u) → SVRep c ι' w' (M.upds u) sv v → next (act.put o.dst v) w') → o.wp P act w next Q

section
variable {P : Program} {c : Ctx} {ι : Gh} {w : World} {M : Store} {act : Act} {o : Oper}

theorem OpWp.of_run {sv : SV} {u : List (Nat × Entry)} {v : Value} {w' : World} {ι' : Gh} (hr : (execOp act.eval o).run P w = .ok (.value v) w')
    (hI : Inv c ι' w' (M.upds u)) (hx : Ext ι w M ι' w' (M.upds u)) (hv : SVRep c ι' w' (M.upds u) sv v) : OpWp P c ι w M act o sv u := by
  intro next Q h
  unfold Oper.wp
  rw [hr]
  exact h v w' ι' hI hx hv
theorem OpWp.of_skip {u : List (Nat × Entry)} {w' : World} {ι' : Gh} (hr : (execOp act.eval o).run P w = .ok .skip w')
    (hI : Inv c ι' w' (M.upds u)) (hx : Ext ι w M ι' w' (M.upds u)) : OpWp P c ι w M act o (.tup []) u := by
  intro next Q h
  unfold Oper.wp
  rw [hr]
  exact h undef w' ι' hI hx ⟨[], rfl, rfl⟩
theorem OpWp.pure {sv : SV} {v : Value} (I : Inv c ι w M) (hr : (execOp act.eval o).run P w = .ok (.value v) w) (hv : SVRep c ι w M sv v) : OpWp P c ι w M act o sv [] :=
  OpWp.of_run hr I (Ext.refl _ _ _) hv

theorem VRep.one {l : Leaf} {v : Value} (h : LRep c ι w M l [v]) : VRep c ι w M (one l) v :=
  ⟨[v], ⟨[v], [], by simp, h, rfl⟩, rfl, h.one v (by simp)⟩
theorem SVRep.one {l : Leaf} {v : Value} (h : LRep c ι w M l [v]) : SVRep c ι w M (.one l) v := VRep.one h
theorem VRep.leaf {x : V} {l : Leaf} {v : Value} (hl : x.leaf = some l) (h : VRep c ι w M x v) : LRep c ι w M l [v] := by
  obtain ⟨a, ls⟩ := x
  match a, ls, hl with
  | false, [l'], hl =>
    cases hl
    obtain ⟨cs, ⟨c1, c2, h1, h2, h3⟩, h4, _⟩ := h
    rw [show c2 = [] from h3, List.append_nil] at h1
    rw [← h4, h1]; exact h2
  | true, _, hl => simp [V.leaf] at hl
  | false, [], hl => simp [V.leaf] at hl
  | false, _ :: _ :: _, hl => simp [V.leaf] at hl

/-! ### loads -/
theorem run_isAgg {T : Nat} {ti : TI} (ht : TiOk P T ti) (w : World) : (isAgg T).run P w = .ok ti.agg w := by
  obtain ⟨d, i, hd, hi, h1, h2, h3, _⟩ := ht.ex
  simp only [isAgg, Sem.run_bind, run_underlying hd, Result.andThen_ok]
  obtain ⟨td, sz, by', ty⟩ := ti
  cases td <;> simp only [TdOk, TI.agg] at h3 ⊢ <;> first
    | (subst h3; rfl)
    | (obtain ⟨_, rfl, _⟩ := h3; rfl)
    | (obtain ⟨_, _, _, rfl⟩ := h3; rfl)
    | (obtain ⟨_, rfl⟩ := h3; rfl)
    | exact h3.elim
theorem run_sizeOf_ti {T : Nat} {ti : TI} (ht : TiOk P T ti) (w : World) : (sizeOf T).run P w = .ok ti.size w := by
  obtain ⟨d, i, hd, hi, h1, _⟩ := ht.ex
  simp [sizeOf, typeInfo, hi, h1]

theorem add_zero' (a : Addr) : a.add 0 = a := by simp [Addr.add]
theorem run_loadVar_at {T : Nat} {ti : TI} (ht : TiOk P T ti) {a : Addr} {ds : List Value} (h : ∀ i v, ds[i]? = some v → w.cell? (a.add i) = some v) (hl : ds.length = ti.size) :
    ∃ v, (loadVar T a).run P w = .ok v w ∧ (match ti.agg with | true => v = .agg ds.toArray | false => ds = [v]) := by
  cases ha : ti.agg with
  | true =>
    refine ⟨.agg ds.toArray, ?_, rfl⟩
    have e : (loadCells a ti.size).run P w = .ok ds.toArray w := by rw [← hl]; exact run_loadCells_list w a ds h
    simp [loadVar, run_isAgg ht, ha, run_sizeOf_ti ht, e]
  | false =>
    obtain ⟨_, _, _, _, _, _, _, h6, _⟩ := ht.ex
    have h1 := h6 ha
    rw [h1] at hl
    obtain ⟨v, rfl⟩ := List.length_eq_one_iff.1 hl
    refine ⟨v, ?_, rfl⟩
    have hc := h 0 v (by simp)
    rw [add_zero'] at hc
    simp [loadVar, run_isAgg ht, ha, hc]
theorem VRep.of_load {ti : TI} {ls : List Leaf} {ds : List Value} {v : Value} (hr : LsRep c ι w M ls ds) (hv : match ti.agg with | true => v = .agg ds.toArray | false => ds = [v]) :
    VRep c ι w M ⟨ti.agg, ls⟩ v := by
  refine ⟨ds, hr, ?_⟩
  cases ha : ti.agg with
  | true => rw [ha] at hv; exact hv
  | false => rw [ha] at hv; exact ⟨hv, hr.one v (by rw [show ds = [v] from hv]; simp)⟩
theorem exec_load {T : Nat} {x : Operand} (ho : o.op = .load T x) {a : Addr} {v : Value} (hx : act.eval x = .pointer (some a)) (hr : (loadVar T a).run P w = .ok v w) :
    (execOp act.eval o).run P w = .ok (.value v) w := by
  simp [execOp, ho, hx, Instr.loadAt, Instr.sureAddr, hr]

theorem row_cells {lb : Nat} {ap : Bool} {e sz : Nat} {b : Option Addr} {cap n : Nat} {xs : List Value} (h : RowAt w lb ap e sz b cap n xs) {ad : Addr} (hb : b = some ad) :
    ∀ i v, xs[i]? = some v → w.cell? (ad.add i) = some v := by
  intro i v hv
  rcases h.2 with ⟨h1, _⟩ | ⟨g, cur, fz, h1, _, hg, _, _, _, _, _, htk⟩
  · rw [h1] at hb; cases hb
  · rw [h1] at hb; cases hb
    have ha : (⟨g, 0, none⟩ : Addr).add i = ⟨g, i, none⟩ := by unfold Addr.add; split <;> simp_all
    rw [ha, cell_of_row w g i cur _ fz hg]
    rw [← htk, List.getElem?_take] at hv
    split at hv
    · simpa using hv
    · cases hv
theorem obj_cells {b off : Nat} {cs : List Value} {T : Nat} {fz : Nat × Nat} (h : w.heap[b]? = some (.cells cs.toArray T fz)) (n : Nat) :
    ∀ i v, ((cs.drop off).take n)[i]? = some v → w.cell? ((⟨b, off, none⟩ : Addr).add i) = some v := by
  intro i v hv
  have ha : (⟨b, off, none⟩ : Addr).add i = ⟨b, off + i, none⟩ := by unfold Addr.add; split <;> simp_all
  rw [ha, cell_of_row w b (off + i) cs.toArray T fz h]
  rw [List.getElem?_take] at hv
  split at hv
  · rw [List.getElem?_drop] at hv; simpa using hv
  · cases hv
theorem part_part {α : Type} (xs : List α) (a m b n : Nat) (h : b + n ≤ m) : (((xs.drop a).take m).drop b).take n = (xs.drop (a + b)).take n := by
  rw [List.drop_take, List.drop_drop, List.take_take, Nat.min_eq_left (by omega)]
theorem cells_part {xs : List Value} {ad : Addr} (h : ∀ i v, xs[i]? = some v → w.cell? (ad.add i) = some v) (o n : Nat) :
    ∀ i v, ((xs.drop o).take n)[i]? = some v → w.cell? ((ad.add o).add i) = some v := by
  intro i v hv
  rw [Addr.add_add]
  refine h (o + i) v ?_
  rw [List.getElem?_take] at hv
  split at hv
  · rwa [List.getElem?_drop] at hv
  · cases hv

theorem evLoad_sound {cfg : Cfg} (tab : TabOk P cfg) (I : Inv c ι w M) {T : Nat} {x : Operand} (ho : o.op = .load T x) {l : Leaf} (hx : LRep c ι w M l [act.eval x])
    {ps : List Prop} {v : V} (he : evLoad cfg M T l = some (ps, v)) (hp : ∀ p ∈ ps, p) : OpWp P c ι w M act o (.v v) [] := by
  unfold evLoad at he
  cases hti : cfg.ti T with
  | none => rw [hti] at he; cases he
  | some ti =>
    rw [hti] at he
    simp only at he
    have ht := tab T ti hti
    -- a load of ds from a
    have fin : ∀ (a : Addr) (ds : List Value) (ls : List Leaf), act.eval x = .pointer (some a) → (∀ i v, ds[i]? = some v → w.cell? (a.add i) = some v) → ds.length = ti.size → LsRep c ι w M ls ds →
        OpWp P c ι w M act o (.v ⟨ti.agg, ls⟩) [] := by
      intro a ds ls ha hc hl hr
      obtain ⟨v, h1, h2⟩ := run_loadVar_at ht hc hl
      exact OpWp.pure I (exec_load ho ha h1) (VRep.of_load hr h2)
    cases l with
    | cst fr t y =>
      simp only at he
      cases hty : ti.ty with
      | none => rw [hty] at he; cases he
      | some t' =>
        rw [hty] at he
        simp only at he
        split at he
        · rename_i htt; cases he; subst htt
          obtain ⟨ad, pcs, h1, h2, h3, h4⟩ := hx
          obtain ⟨_, _, _, _, _, _, _, _, h7⟩ := ht.ex
          obtain ⟨h8, h9, _⟩ := h7 _ hty
          have hlen := PRep.len _ _ _ h3
          have := fin ad pcs (explode fr t' y) (by simpa using h1) h2.2 (by rw [hlen, h8]) (explode_rep _ _ _ h3 h4)
          rw [V.of, h9]; exact this
        · cases he
    | ptr id off =>
      simp only [LRep] at hx
      simp only at he
      cases hm : M.get id with
      | none => rw [hm] at he; cases he
      | some e =>
        rw [hm] at he hx
        cases e <;> simp only at he hx <;> first | cases he | skip
        rename_i ls
        cases hg : lget ls off ti.size with
        | none => rw [hg] at he; cases he
        | some r =>
          rw [hg] at he; cases he
          obtain ⟨b, hb, hv⟩ := hx
          obtain ⟨b', cs, T', h1, h2, h3⟩ := I.ents id _ hm
          rw [hb] at h1; cases h1
          obtain ⟨k1, k2⟩ := lget_rep hg h3
          exact fin _ _ _ (by simpa using hv) (obj_cells h2 _) (by rw [List.length_take, List.length_drop]; omega) k1
    | eptr id i off =>
      simp only [LRep] at hx
      simp only at he
      cases hm : M.get id with
      | none => rw [hm] at he; cases he
      | some e =>
        rw [hm] at he hx
        cases e <;> simp only at he hx <;> first | cases he | skip
        · rename_i e0 t fr ap l
          cases hg : lget (explode fr t (idx l i)) off ti.size with
          | none => rw [hg] at he; cases he
          | some r =>
            rw [hg] at he; cases he
            have hi : i < l.length := hp _ (by simp)
            obtain ⟨ad, had, hv⟩ := hx
            obtain ⟨xs, h1, h2, h3⟩ := I.ents id _ hm
            obtain ⟨k1, k2⟩ := h1.elem i hi
            obtain ⟨k3, k4⟩ := lget_rep hg (explode_rep (c := c) (ι := ι) (M := M) _ _ _ k1 (Valid.elem h2.1 i hi))
            have hcell := row_cells h3 had
            have hlen : ((xs.drop (i * t.sz)).take t.sz).length = t.sz := PRep.len _ _ _ k1
            rw [hlen] at k4
            rw [part_part _ _ _ _ _ k4] at k3
            have hxl : xs.length = l.length * t.sz := by have := PRep.len _ _ _ h1; simpa [Ty.sz] using this
            have hle : (i + 1) * t.sz ≤ l.length * t.sz := Nat.mul_le_mul_right _ hi
            refine fin _ _ _ (by simpa using hv) (cells_part hcell _ _) ?_ k3
            rw [List.length_take, List.length_drop, hxl]
            rw [Nat.succ_mul] at hle; omega
        · rename_i t fr l
          cases hg : lget (explode fr t (idx l i)) off ti.size with
          | none => rw [hg] at he; cases he
          | some r =>
            rw [hg] at he; cases he
            have hi : i < l.length := hp _ (by simp)
            obtain ⟨ad, had, hv⟩ := hx
            obtain ⟨h1, h2⟩ := I.ents id _ hm
            obtain ⟨ad', ecs, k0, k1, k2⟩ := h1.elemAt i hi
            rw [had] at k0; cases k0
            obtain ⟨k3, k4⟩ := lget_rep hg (explode_rep (c := c) (ι := ι) (M := M) _ _ _ k1 (Valid.elem h2.1 i hi))
            have hA := k2.add off ti.size
            rw [Addr.add_add] at hA
            refine fin _ _ _ (by simpa using hv) hA.2 ?_ k3
            rw [List.length_take, List.length_drop]; omega
    | aptr id aoff i off =>
      simp only [LRep] at hx
      simp only at he
      cases hm : M.get id with
      | none => rw [hm] at he; cases he
      | some e =>
        rw [hm] at he hx
        cases e <;> simp only at he hx <;> first | cases he | skip
        rename_i ls
        cases hla : lat ls aoff with
        | none => rw [hla] at he; cases he
        | some q =>
          rw [hla] at he hx
          cases q <;> simp only at he hx <;> first | cases he | skip
          rename_i n fr t l
          cases hg : lget (explode fr t (idx l i)) off ti.size with
          | none => rw [hg] at he; cases he
          | some r =>
            rw [hg] at he; cases he
            have hi : i < n := hp _ (by simp)
            obtain ⟨b, hb, hv⟩ := hx
            obtain ⟨b', cs, T', h1, h2, h3⟩ := I.ents id _ hm
            rw [hb] at h1; cases h1
            obtain ⟨⟨a1, a2⟩, a3⟩ := lat_rep hla h3
            have hn : l.length = n := a2.2
            have a1' := a1.elem i (by omega)
            obtain ⟨k1, k2⟩ := a1'
            obtain ⟨k3, k4⟩ := lget_rep hg (explode_rep (c := c) (ι := ι) (M := M) _ _ _ k1 (Valid.elem a2.1 i (by omega)))
            have hlen : ((((cs.drop aoff).take (n * t.sz)).drop (i * t.sz)).take t.sz).length = t.sz := PRep.len _ _ _ k1
            have hw : (Leaf.arr n fr t l).width = n * t.sz := rfl
            rw [hw] at a3 k1 k3 k4
            rw [hlen] at k4
            have hle : (i + 1) * t.sz ≤ n * t.sz := Nat.mul_le_mul_right _ hi
            rw [Nat.succ_mul] at hle
            rw [part_part _ _ _ _ _ k4, part_part _ _ _ _ _ (by omega)] at k3
            refine fin ⟨b, aoff + (i * t.sz + off), none⟩ _ _ (by simpa using hv) (obj_cells h2 _) ?_ k3
            rw [List.length_take, List.length_drop]; omega
    | _ => simp only at he; cases he
end
end Go.Vc
