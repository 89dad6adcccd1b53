/- What single operations do in the machine: loads, stores, addresses, arithmetic. -/
import Derived.Test.YtdobgidhhpdihaaDoorWVcA
import Derived.LaidEqlPtr
set_option linter.unusedVariables false
set_option linter.unusedSimpArgs false
namespace Go.Vc
def au (P : Program) (c : Ctx) (ι : Gh) (w : World) (M : Store) (act : Act) (o : Oper) (sv : SV) (u : List (Nat × Entry)) : Prop :=
 ∀ next Q, (∀ v w' ι', Inv c ι' w' (M.aK u) -> Ext ι w M ι' w' (M.aK u) -> ak c ι' w' (M.aK u) sv v -> next (act.put o.dst v) w') -> o.wp P act w next Q
section
variable {P : Program} {c : Ctx} {ι : Gh} {w : World} {M : Store} {act : Act} {o : Oper}
theorem au.of_run {sv : SV} {u : List (Nat × Entry)} {v : Value} {w' : World} {ι' : Gh} (hr : (execOp act.eval o).run P w = .ok (.value v) w')
 (hI : Inv c ι' w' (M.aK u)) (hx : Ext ι w M ι' w' (M.aK u)) (hv : ak c ι' w' (M.aK u) sv v) : au P c ι w M act o sv u := by
 intro next Q h
 unfold Oper.wp
 rw [hr]
 exact h v w' ι' hI hx hv
theorem au.yU {u : List (Nat × Entry)} {w' : World} {ι' : Gh} (hr : (execOp act.eval o).run P w = .ok .skip w')
 (hI : Inv c ι' w' (M.aK u)) (hx : Ext ι w M ι' w' (M.aK u)) : au P c ι w M act o (.tup []) u := by
 intro next Q h
 unfold Oper.wp
 rw [hr]
 exact h undef w' ι' hI hx ⟨[], rfl, rfl⟩
theorem au.pure {sv : SV} {v : Value} (I : Inv c ι w M) (hr : (execOp act.eval o).run P w = .ok (.value v) w) (hv : ak c ι w M sv v) : au P c ι w M act o sv [] :=
 au.of_run hr I (Ext.refl _ _ _) hv
theorem aI.one {l : Leaf} {v : Value} (h : aj c ι w M l [v]) : aI c ι w M (one l) v :=
 ⟨[v], ⟨[v], [], by simp, h, rfl⟩, rfl, h.one v (by simp)⟩
theorem ak.one {l : Leaf} {v : Value} (h : aj c ι w M l [v]) : ak c ι w M (.one l) v := aI.one h
theorem aI.leaf {x : V} {l : Leaf} {v : Value} (hl : x.leaf = some l) (h : aI c ι w M x v) : aj c ι w M l [v] := by
 obtain ⟨a, ls⟩ := x
 match a, ls, hl with
 | false, [l'], hl =>
   cases hl
   obtain ⟨cs, ⟨c1, c2, h1, h2, h3⟩, h4, _⟩ := h
   rw [show c2 = [] from h3, List.append_nil] at h1
   rw [<- h4, h1]; exact h2
 | true, _, hl => simp [V.leaf] at hl
 | false, [], hl => simp [V.leaf] at hl
 | false, _ :: _ :: _, hl => simp [V.leaf] at hl
theorem rJ {T : Nat} {ti : TI} (ht : kJ P T ti) (w : World) : (isAgg T).run P w = .ok ti.agg w := by
 obtain ⟨d, i, hd, hi, h1, h2, h3, _⟩ := ht.ex
 simp only [isAgg, Sem.run_bind, run_underlying hd, Result.andThen_ok]
 obtain ⟨td, sz, by', ty⟩ := ti
 cases td <;> simp only [FB, TI.agg] at h3 ⊢ <;> first
  | (subst h3; rfl)
  | (obtain ⟨_, rfl, _⟩ := h3; rfl)
  | (obtain ⟨_, _, _, rfl⟩ := h3; rfl)
  | (obtain ⟨_, rfl⟩ := h3; rfl)
  | exact h3.elim
theorem dN {T : Nat} {ti : TI} (ht : kJ P T ti) (w : World) : (sizeOf T).run P w = .ok ti.size w := by
 obtain ⟨d, i, hd, hi, h1, _⟩ := ht.ex
 simp [sizeOf, typeInfo, hi, h1]
theorem add_zero' (a : Addr) : a.add 0 = a := by simp [Addr.add]
theorem ug {T : Nat} {ti : TI} (ht : kJ P T ti) {a : Addr} {ds : List Value} (h : ∀ i v, ds[i]? = some v -> w.cell? (a.add i) = some v) (hl : ds.length = ti.size) :
 ∃ v, (loadVar T a).run P w = .ok v w /\ (match ti.agg with | true => v = .agg ds.toArray | false => ds = [v]) := by
 cases ha : ti.agg with
 | true =>
   refine ⟨.agg ds.toArray, ?_, rfl⟩
   have e : (loadCells a ti.size).run P w = .ok ds.toArray w := by rw [<- hl]; exact run_loadCells_list w a ds h
   simp [loadVar, rJ ht, ha, dN ht, e]
 | false =>
   obtain ⟨_, _, _, _, _, _, _, h6, _⟩ := ht.ex
   have h1 := h6 ha
   rw [h1] at hl
   obtain ⟨v, rfl⟩ := List.length_eq_one_iff.1 hl
   refine ⟨v, ?_, rfl⟩
   have hc := h 0 v (by simp)
   rw [add_zero'] at hc
   simp [loadVar, rJ ht, ha, hc]
theorem aI.yV {ti : TI} {ls : List Leaf} {ds : List Value} {v : Value} (hr : aF c ι w M ls ds) (hv : match ti.agg with | true => v = .agg ds.toArray | false => ds = [v]) :
 aI c ι w M ⟨ti.agg, ls⟩ v := by
 refine ⟨ds, hr, ?_⟩
 cases ha : ti.agg with
 | true => rw [ha] at hv; exact hv
 | false => rw [ha] at hv; exact ⟨hv, hr.one v (by rw [show ds = [v] from hv]; simp)⟩
theorem KU {T : Nat} {x : Operand} (ho : o.op = .load T x) {a : Addr} {v : Value} (hx : act.eval x = .pointer (some a)) (hr : (loadVar T a).run P w = .ok v w) :
 (execOp act.eval o).run P w = .ok (.value v) w := by
 simp [execOp, ho, hx, Instr.loadAt, Instr.sureAddr, hr]
theorem KW {lb : Nat} {ap : Bool} {e sz : Nat} {b : Option Addr} {cap n : Nat} {xs : List Value} {sp : List Value -> Prop} (h : uP w lb ap e sz b cap n xs sp) {ad : Addr} (hb : b = some ad) :
 ∀ i v, xs[i]? = some v -> w.cell? (ad.add i) = some v := by
 intro i v hv
 rcases h.2 with ⟨h1, _⟩ | ⟨g, cur, fz, h1, _, hg, _, _, _, _, _, htk, _⟩
 ·rw [h1] at hb; cases hb
 ·rw [h1] at hb; cases hb
  have ha : (⟨g, 0, none⟩ : Addr).add i = ⟨g, i, none⟩ := by unfold Addr.add; split <;> simp_all
  rw [ha, cell_of_row w g i cur _ fz hg]
  rw [<- htk, List.getElem?_take] at hv
  split at hv
  ·simpa using hv
  ·cases hv
theorem DV {b off : Nat} {cs : List Value} {T : Nat} {fz : Nat × Nat} (h : w.heap[b]? = some (.cells cs.toArray T fz)) (n : Nat) :
 ∀ i v, ((cs.drop off).take n)[i]? = some v -> w.cell? ((⟨b, off, none⟩ : Addr).add i) = some v := by
 intro i v hv
 have ha : (⟨b, off, none⟩ : Addr).add i = ⟨b, off + i, none⟩ := by unfold Addr.add; split <;> simp_all
 rw [ha, cell_of_row w b (off + i) cs.toArray T fz h]
 rw [List.getElem?_take] at hv
 split at hv
 ·rw [List.getElem?_drop] at hv; simpa using hv
 ·cases hv
theorem wZ {α : Type} (xs : List α) (a m b n : Nat) (h : b + n <= m) : (((xs.drop a).take m).drop b).take n = (xs.drop (a + b)).take n := by
 rw [List.drop_take, List.drop_drop, List.take_take, Nat.min_eq_left (by omega)]
theorem JB {xs : List Value} {ad : Addr} (h : ∀ i v, xs[i]? = some v -> w.cell? (ad.add i) = some v) (o n : Nat) :
 ∀ i v, ((xs.drop o).take n)[i]? = some v -> w.cell? ((ad.add o).add i) = some v := by
 intro i v hv
 rw [Addr.add_add]
 refine h (o + i) v ?_
 rw [List.getElem?_take] at hv
 split at hv
 ·rwa [List.getElem?_drop] at hv
 ·cases hv
theorem FC {cfg : Cfg} (tab : aH P cfg) (I : Inv c ι w M) {T : Nat} {x : Operand} (ho : o.op = .load T x) {l : Leaf} (hx : aj c ι w M l [act.eval x])
 {ps : List Prop} {v : V} (he : oh cfg M T l = some (ps, v)) (hp : ∀ p ∈ ps, p) : au P c ι w M act o (.v v) [] := by
 unfold oh at he
 cases hti : cfg.ti T with
 | none => rw [hti] at he; cases he
 | some ti =>
   rw [hti] at he
   simp only at he
   have ht := tab T ti hti
   have fin : ∀ (a : Addr) (ds : List Value) (ls : List Leaf), act.eval x = .pointer (some a) -> (∀ i v, ds[i]? = some v -> w.cell? (a.add i) = some v) -> ds.length = ti.size -> aF c ι w M ls ds ->
    au P c ι w M act o (.v ⟨ti.agg, ls⟩) [] := by
    intro a ds ls ha hc hl hr
    obtain ⟨v, h1, h2⟩ := ug ht hc hl
    exact au.pure I (KU ho ha h1) (aI.yV hr h2)
   cases l with
   | cst fr t y =>
     simp only at he
     cases hty : ti.ty with
     | none => rw [hty] at he; cases he
     | some t' =>
       rw [hty] at he
       simp only at he
       split at he
       ·rename_i htt; cases he; subst htt
        obtain ⟨ad, pcs, h1, h2, h3, h4⟩ := hx
        obtain ⟨_, _, _, _, _, _, _, _, h7⟩ := ht.ex
        obtain ⟨h8, h9, _⟩ := h7 _ hty
        have hlen := ah.len _ _ _ h3
        have := fin ad pcs (explode fr t' y) (by simpa using h1) h2.2 (by rw [hlen, h8]) (bU _ _ _ h3 h4)
        rw [V.of, h9]; exact this
       ·cases he
   | ptr id off =>
     simp only [aj] at hx
     simp only at he
     cases hm : M.get id with
     | none => rw [hm] at he; cases he
     | some e =>
       rw [hm] at he hx
       cases e <;> simp only at he hx <;> first | cases he | skip
       rename_i ls
       cases hg : dO ls off ti.size with
       | none => rw [hg] at he; cases he
       | some r =>
         rw [hg] at he; cases he
         obtain ⟨b, hb, hv⟩ := hx
         obtain ⟨b', cs, T', h1, h2, h3, _⟩ := I.ents id _ hm
         rw [hb] at h1; cases h1
         obtain ⟨k1, k2⟩ := dW hg h3
         exact fin _ _ _ (by simpa using hv) (DV h2 _) (by rw [List.length_take, List.length_drop]; omega) k1
   | ig id i off =>
     simp only [aj] at hx
     simp only at he
     cases hm : M.get id with
     | none => rw [hm] at he; cases he
     | some e =>
       rw [hm] at he hx
       cases e <;> simp only at he hx <;> first | cases he | skip
       ·rename_i e0 t fr ap l
        cases hg : dO (explode fr t (idx l i)) off ti.size with
        | none => rw [hg] at he; cases he
        | some r =>
          rw [hg] at he; cases he
          have hi : i < l.length := hp _ (by simp)
          obtain ⟨ad, had, hv⟩ := hx
          obtain ⟨xs, h1, h2, h3⟩ := I.ents id _ hm
          obtain ⟨k1, k2⟩ := h1.elem i hi
          obtain ⟨k3, k4⟩ := dW hg (bU (c := c) (ι := ι) (M := M) _ _ _ k1 (Valid.elem h2.1 i hi))
          have hcell := KW h3 had
          have hlen : ((xs.drop (i * t.sz)).take t.sz).length = t.sz := ah.len _ _ _ k1
          rw [hlen] at k4
          rw [wZ _ _ _ _ _ k4] at k3
          have hxl : xs.length = l.length * t.sz := by have := ah.len _ _ _ h1; simpa [Ty.sz] using this
          have hle : (i + 1) * t.sz <= l.length * t.sz := Nat.mul_le_mul_right _ hi
          refine fin _ _ _ (by simpa using hv) (JB hcell _ _) ?_ k3
          rw [List.length_take, List.length_drop, hxl]
          rw [Nat.succ_mul] at hle; omega
       ·rename_i t fr l
        cases hg : dO (explode fr t (idx l i)) off ti.size with
        | none => rw [hg] at he; cases he
        | some r =>
          rw [hg] at he; cases he
          have hi : i < l.length := hp _ (by simp)
          obtain ⟨ad, had, hv⟩ := hx
          obtain ⟨h1, h2⟩ := I.ents id _ hm
          obtain ⟨ad', ecs, k0, k1, k2⟩ := h1.elemAt i hi
          rw [had] at k0; cases k0
          obtain ⟨k3, k4⟩ := dW hg (bU (c := c) (ι := ι) (M := M) _ _ _ k1 (Valid.elem h2.1 i hi))
          have hA := k2.add off ti.size
          rw [Addr.add_add] at hA
          refine fin _ _ _ (by simpa using hv) hA.2 ?_ k3
          rw [List.length_take, List.length_drop]; omega
   | iq id dh i off =>
     simp only [aj] at hx
     simp only at he
     cases hm : M.get id with
     | none => rw [hm] at he; cases he
     | some e =>
       rw [hm] at he hx
       cases e <;> simp only at he hx <;> first | cases he | skip
       rename_i ls
       cases hla : lat ls dh with
       | none => rw [hla] at he; cases he
       | some q =>
         rw [hla] at he hx
         cases q <;> simp only at he hx <;> first | cases he | skip
         rename_i n fr t l
         cases hg : dO (explode fr t (idx l i)) off ti.size with
         | none => rw [hg] at he; cases he
         | some r =>
           rw [hg] at he; cases he
           have hi : i < n := hp _ (by simp)
           obtain ⟨b, hb, hv⟩ := hx
           obtain ⟨b', cs, T', h1, h2, h3, _⟩ := I.ents id _ hm
           rw [hb] at h1; cases h1
           obtain ⟨⟨a1, a2⟩, a3⟩ := tZ hla h3
           have hn : l.length = n := a2.2
           have a1' := a1.elem i (by omega)
           obtain ⟨k1, k2⟩ := a1'
           obtain ⟨k3, k4⟩ := dW hg (bU (c := c) (ι := ι) (M := M) _ _ _ k1 (Valid.elem a2.1 i (by omega)))
           have hlen : ((((cs.drop dh).take (n * t.sz)).drop (i * t.sz)).take t.sz).length = t.sz := ah.len _ _ _ k1
           have hw : (Leaf.arr n fr t l).width = n * t.sz := rfl
           rw [hw] at a3 k1 k3 k4
           rw [hlen] at k4
           have hle : (i + 1) * t.sz <= n * t.sz := Nat.mul_le_mul_right _ hi
           rw [Nat.succ_mul] at hle
           rw [wZ _ _ _ _ _ k4, wZ _ _ _ _ _ (by omega)] at k3
           refine fin ⟨b, dh + (i * t.sz + off), none⟩ _ _ (by simpa using hv) (DV h2 _) ?_ k3
           rw [List.length_take, List.length_drop]; omega
   | _ => simp only at he; cases he
end
end Go.Vc
set_option linter.unusedVariables false
set_option linter.unusedSimpArgs false
namespace Go.Vc
def splice {α : Type} (xs : List α) (o : Nat) (ds : List α) : List α := xs.take o ++ ds ++ xs.drop (o + ds.length)
theorem iC {α : Type} (xs : List α) (o : Nat) (ds : List α) (h : o + ds.length <= xs.length) : (splice xs o ds).length = xs.length := by
 simp only [splice, List.length_append, List.length_take, List.length_drop]; omega
theorem fP {α : Type} (xs : List α) (o : Nat) (ds : List α) (h : o + ds.length <= xs.length) (j : Nat) :
 (splice xs o ds)[j]? = if j < o then xs[j]? else if j < o + ds.length then ds[j - o]? else xs[j]? := by
 unfold splice
 have hto : (xs.take o).length = o := by rw [List.length_take]; omega
 by_cases h1 : j < o
 ·rw [if_pos h1, List.append_assoc, List.getElem?_append_left (by omega), List.getElem?_take, if_pos h1]
 ·rw [if_neg h1, List.append_assoc, List.getElem?_append_right (by omega), hto]
  by_cases h2 : j < o + ds.length
  ·rw [if_pos h2, List.getElem?_append_left (by omega)]
  ·rw [if_neg h2, List.getElem?_append_right (by omega), List.getElem?_drop]
   congr 1; omega
theorem oV {α : Type} (xs : List α) (a m b : Nat) (ds : List α) (h1 : b + ds.length <= m) (h2 : a + m <= xs.length) :
 splice xs a (splice ((xs.drop a).take m) b ds) = splice xs (a + b) ds := by
 have hm : ((xs.drop a).take m).length = m := by rw [List.length_take, List.length_drop]; omega
 have hs : (splice ((xs.drop a).take m) b ds).length = m := by rw [iC _ _ _ (by omega), hm]
 apply List.ext_getElem?
 intro j
 rw [fP xs a _ (by omega), fP xs (a + b) ds (by omega), hs]
 by_cases c1 : j < a
 ·rw [if_pos c1, if_pos (show j < a + b by omega)]
 ·rw [if_neg c1]
  by_cases c2 : j < a + m
  ·rw [if_pos c2, fP ((xs.drop a).take m) b ds (by omega)]
   by_cases c3 : j - a < b
   ·rw [if_pos c3, if_pos (show j < a + b by omega), List.getElem?_take, if_pos (show j - a < m by omega), List.getElem?_drop]
    congr 1; omega
   ·rw [if_neg c3, if_neg (show ¬ j < a + b by omega)]
    by_cases c4 : j - a < b + ds.length
    ·rw [if_pos c4, if_pos (show j < a + b + ds.length by omega)]
     congr 1; omega
    ·rw [if_neg c4, if_neg (show ¬ j < a + b + ds.length by omega), List.getElem?_take, if_pos (show j - a < m by omega), List.getElem?_drop]
     congr 1; omega
  ·rw [if_neg c2, if_neg (show ¬ j < a + b by omega), if_neg (show ¬ j < a + b + ds.length by omega)]
theorem zk {α : Type} (xs : List α) (o n : Nat) (ds : List α) (h : o + ds.length <= n) (hn : n <= xs.length) : (splice xs o ds).take n = splice (xs.take n) o ds := by
 apply List.ext_getElem?
 intro j
 rw [List.getElem?_take, fP _ _ _ (by omega), fP _ _ _ (by rw [List.length_take]; omega)]
 by_cases c : j < n
 ·rw [if_pos c, List.getElem?_take, if_pos c]
 ·rw [if_neg c, if_neg (by omega), if_neg (by omega), List.getElem?_take, if_neg c]
theorem zl {α : Type} (xs : List α) (o n : Nat) (ds : List α) (h : o + ds.length <= n) (hn : n <= xs.length) : (splice xs o ds).drop n = xs.drop n := by
 apply List.ext_getElem?
 intro j
 rw [List.getElem?_drop, List.getElem?_drop, fP _ _ _ (by omega), if_neg (by omega), if_neg (by omega)]
theorem fZ {c : Ctx} {ι : Gh} {w : World} {M : Store} {new : List Leaf} {ds : List Value} (hn : aF c ι w M new ds) {ls : List Leaf} {off n : Nat} {r : List Leaf} {cs : List Value}
 (h : eG ls off n new = some r) (hr : aF c ι w M ls cs) (hl : ds.length = n) : aF c ι w M r (splice cs off ds) /\ off + n <= cs.length := by
 obtain ⟨h1, h2⟩ := Fv hn h hr
 exact ⟨by unfold splice; rw [hl]; exact h1, h2⟩
theorem Et {α : Type} (a xs : List α) (o : Nat) (ds : List α) : splice (a ++ xs) (a.length + o) ds = a ++ splice xs o ds := by
 have h1 : (a ++ xs).take (a.length + o) = a ++ xs.take o := by
  rw [List.take_append, List.take_of_length_le (Nat.le_add_right _ _), Nat.add_sub_cancel_left]
 have h2 : (a ++ xs).drop (a.length + o + ds.length) = xs.drop (o + ds.length) := by
  rw [List.drop_append, List.drop_of_length_le (by omega), List.nil_append]
  congr 1; omega
 unfold splice
 rw [h1, h2]
 simp only [List.append_assoc]
theorem zn {α : Type} (n : Nat) : ∀ (ess : List (List α)) (i : Nat) (ec : List α), (∀ e ∈ ess, e.length = n) -> ec.length = n -> i < ess.length -> (ess.set i ec).flatten = splice ess.flatten (i * n) ec
 | [], i, ec, _, _, h => by simp at h
 | e :: r, 0, ec, hl, he, _ => by
   have hel := hl e (by simp)
   have h2 : (e ++ r.flatten).drop n = r.flatten := by rw [List.drop_append, List.drop_of_length_le (by omega), List.nil_append, hel, Nat.sub_self, List.drop_zero]
   simp only [List.set_cons_zero, List.flatten_cons, splice, Nat.zero_mul, List.take_zero, List.nil_append, Nat.zero_add, he, h2]
 | e :: r, i + 1, ec, hl, he, hi => by
   have hel := hl e (by simp)
   simp only [List.set_cons_succ, List.flatten_cons]
   rw [zn n r i ec (fun x hx => hl x (by simp [hx])) he (by simpa using hi), Nat.succ_mul, Nat.add_comm (i * n) n, <- hel, Et, hel]
theorem ah.set {S : Nat -> Prop} {w : World} {n : Nat} {e : Ty} {l : List e.den} {xs : List Value} (h : ah S w (.arr n e) l xs) (i : Nat) (hi : i < n) {x : e.den} {ec : List Value} (hx : ah S w e x ec) :
 ah S w (.arr n e) (l.set i x) (splice xs (i * e.sz) ec) := by
 obtain ⟨h1, ess, h2, rfl, h4⟩ := h
 have hl : ∀ ec ∈ ess, ec.length = e.sz := by
  intro ec hec
  obtain ⟨j, hj, rfl⟩ := List.getElem_of_mem hec
  exact ah.len _ _ _ (h4 j (l[j]'(by omega)) ess[j] (by simp) (by simp))
 refine ⟨by rw [List.length_set]; exact h1, ess.set i ec, by rw [List.length_set]; exact h2, (zn e.sz ess i ec hl (ah.len _ _ _ hx) (by omega)).symm, fun j y yc hy hyc => ?_⟩
 rw [List.getElem?_set] at hy hyc
 by_cases hij : i = j
 ·subst hij
  rw [if_pos rfl, if_pos (by omega)] at hy hyc
  cases hy; cases hyc; exact hx
 ·rw [if_neg hij] at hy hyc
  exact h4 j y yc hy hyc
theorem ah.Nw {S : Nat -> Prop} {w : World} {n : Nat} {e : Ty} {l : List e.den} {xs : List Value} (h : ah S w (.arr n e) l xs) : ah S w (.arr l.length e) l xs := by
 obtain ⟨h1, ess, h2, h3, h4⟩ := h
 exact ⟨rfl, ess, by omega, h3, h4⟩
theorem Valid.set {e : Ty} {l : List e.den} (h : ∀ y ∈ l, Valid e y) (i : Nat) {x : e.den} (hx : Valid e x) : ∀ y ∈ l.set i x, Valid e y := by
 intro y hy
 rcases List.mem_or_eq_of_mem_set hy with h1 | h1
 ·exact h y h1
 ·rw [h1]; exact hx
theorem lS : ∀ {ls ls' : List Leaf}, dV ls ls' = true -> Shape ls ls'
 | [], [], _ => fun off N fr t l h => by simp [lat] at h
 | [], x :: _, h => by cases x <;> simp [dV] at h
 | x :: _, [], h => by cases x <;> simp [dV] at h
 | a :: r, b :: s, h => by
   have key : a.width = b.width /\ (∀ N fr t l, a = .arr N fr t l -> ∃ fr' l', b = .arr N fr' t l') /\ dV r s = true := by
    cases a <;> cases b <;> simp only [dV, Bool.and_eq_true, Bool.false_eq_true] at h <;> first
     | exact h.elim
     | exact ⟨rfl, fun _ _ _ _ hh => (by cases hh), h⟩
     | (obtain ⟨h1, h2⟩ := h
        split at h1
        ·rename_i n fr t l n' fr' t' l' ht
         have hn := Nat.eq_of_beq_eq_true h1
         subst ht; subst hn
         exact ⟨rfl, fun _ _ _ _ hh => (by cases hh; exact ⟨_, _, rfl⟩), h2⟩
        ·cases h1)
   obtain ⟨h1, h2, h3⟩ := key
   have ih := lS h3
   intro off N fr t l hl
   cases off with
   | zero =>
     simp only [lat, Option.some.injEq] at hl
     obtain ⟨fr', l', hb⟩ := h2 N fr t l hl
     exact ⟨fr', l', by rw [hb]; rfl⟩
   | succ off =>
     unfold lat at hl ⊢
     cases hb : Nat.ble a.width (off + 1) with
     | false => rw [hb] at hl; cases hl
     | true =>
       rw [hb] at hl
       rw [<- h1, hb]
       simp only [cond_true] at hl ⊢
       exact ih _ N fr t l hl
section
variable {P : Program} {c : Ctx} {ι : Gh} {w : World} {M : Store} {act : Act} {o : Oper}
theorem fM (g o : Nat) (t : TypeId) (fz : Nat × Nat) : ∀ (vs : List Value) (i : Nat) (cur : Array Value) (w : World), w.heap[g]? = some (.cells cur t fz) -> (∀ j, j < cur.size -> ¬ (fz.1 <= j /\ j < fz.2)) -> o + i + vs.length <= cur.size -> (∀ v ∈ vs, v.oneCell' = true) ->
 (storeCells ⟨g, o, none⟩ vs i).run P w = .ok () (w.setRow g (cur.toList.take (o + i) ++ vs ++ cur.toList.drop (o + i + vs.length)).toArray)
 | [], i, cur, w, hg, _, _, _ => by
   simp only [storeCells, List.append_nil, List.length_nil, Nat.add_zero, List.take_append_drop, Array.toArray_toList]
   rw [setRow_self w g cur t fz hg]
   rfl
 | v :: rest, i, cur, w, hg, hf, hl, h1 => by
   have hi : o + i < cur.size := by simp at hl; omega
   have hadd : (⟨g, o, none⟩ : Addr).add i = ⟨g, o + i, none⟩ := by unfold Addr.add; split <;> simp_all
   have hcell : w.cell? ⟨g, o + i, none⟩ = some cur[o + i] := by simp [World.cell?, hg, hi]
   have hfro : w.frozen? ⟨g, o + i, none⟩ = false := by
    have := hf (o + i) hi
    obtain ⟨lo, hi'⟩ := fz
    simp only [World.frozen?, hg]
    simpa using this
   have hst : (store ((⟨g, o, none⟩ : Addr).add i) v).run P w = .ok () (w.setRow g (cur.setIfInBounds (o + i) v)) := by
    rw [hadd, run_store P w _ v _ (h1 v (by simp)), hcell]
    simp [hfro, setCell_eq_setRow w g (o + i) cur t fz v hg]
   have ih := fM g o t fz rest (i + 1) (cur.setIfInBounds (o + i) v) (w.setRow g (cur.setIfInBounds (o + i) v)) (setRow_heap w g cur _ t _ hg) (by simpa using hf) (by simp at hl ⊢; omega) (fun x hx => h1 x (by simp [hx]))
   simp only [storeCells, Sem.run_bind, hst, Result.andThen_ok, ih, setRow_setRow]
   congr 3
   have e := list_seg_step cur.toList (o + i) v rest (by simp at hl ⊢; omega)
   simpa [Array.toList_setIfInBounds, Nat.add_assoc] using e
theorem aI.cells {x : V} {v : Value} (h : aI c ι w M x v) : ∃ ds, aF c ι w M x.ls ds /\ v.cells.toList = ds := by
 obtain ⟨cs, h1, h2⟩ := h
 refine ⟨cs, h1, ?_⟩
 cases ha : x.agg with
 | true => rw [ha] at h2; rw [h2]; rfl
 | false =>
   rw [ha] at h2
   obtain ⟨h2, h3⟩ := h2
   rw [h2]
   cases v <;> first | rfl | cases h3
theorem uQ {T : Nat} {x y : Operand} {ti : TI} (ht : kJ P T ti) (ho : o.op = .store T x y) {g off : Nat} {ds : List Value} {cur : Array Value} {e : TypeId} {fz : Nat × Nat}
 (hx : act.eval x = .pointer (some ⟨g, off, none⟩)) (hy : (act.eval y).cells.toList = ds) (hl : ds.length = ti.size) (h1 : ∀ v ∈ ds, v.oneCell' = true)
 (hg : w.heap[g]? = some (.cells cur e fz)) (hf : ∀ j, j < cur.size -> ¬ (fz.1 <= j /\ j < fz.2)) (hfit : off + ds.length <= cur.size) :
 (execOp act.eval o).run P w = .ok .skip (w.setRow g (splice cur.toList off ds).toArray) := by
 have hs : (act.eval y).cells.size = ti.size := by rw [<- hl, <- hy, Array.length_toList]
 have hst := fM (P := P) g off e fz ds 0 cur w hg hf (by omega) h1
 simp only [Nat.add_zero] at hst
 simp [execOp, ho, hx, Instr.storeAt, Instr.sureAddr, storeVar, dN ht, hs, hy, hst, splice]
theorem Turn.setRow (w : World) (g : Nat) (cs : Array Value) : Turn w (w.setRow g cs) (fun k => k = g) :=
 ⟨rfl, rfl, rfl, by simp, fun k _ hk => setRow_other w g k cs hk⟩
theorem wY.frozen {t : Ty} {im : Im t} {cs : List Value} (I : Inv c ι w M) (h : wY c ι w M t im cs) : ∃ ι', Inv c ι' w (M.aK im.frz) /\ Ext ι w M ι' w (M.aK im.frz) /\ ι'.base = ι.base /\ ι'.cap = ι.cap /\
 ∃ c1 c2, cs = c1 ++ c2 /\ aF c ι w M im.rest c2 /\ Valid t im.x /\ ah (SF c ι' im.fr) w t im.x c1 := by
 obtain ⟨hz, c1, c2, h1, h2, h3, h4⟩ := h
 obtain ⟨ι', I', x, hS, hb, hc⟩ := Inv.rG im.frz I hz
 refine ⟨ι', I', x, hb, hc, c1, c2, h1, h2, h3, ?_⟩
 exact h4 ι'.S x.S (fun id e e0 k hm he hl hk => (hS k).2 (.inr ⟨id, e, e0, hm, he, hl, hk⟩))
theorem gB : ∀ (z : List (Nat × Entry)) (M : Store) (id : Nat), (z.all fun p => !(Nat.beq p.1 id)) = true -> (M.aK z).get id = M.get id
 | [], _, _, _ => rfl
 | (j, e) :: z, M, id, h => by
   simp only [List.all_cons, Bool.and_eq_true, Bool.not_eq_true'] at h
   have hne : id ≠ j := fun hh => by
    have := h.1; rw [hh] at this
    have e1 : Nat.beq j j = true := by simp
    rw [e1] at this; cases this
   show ((M.set j e).aK z).get id = _
   rw [gB z _ id h.2, Store.get_set_other _ _ _ _ hne]
theorem Eu {cfg : Cfg} (tab : aH P cfg) (I : Inv c ι w M) {T : Nat} {x y : Operand} (ho : o.op = .store T x y) {l : Leaf} (hx : aj c ι w M l [act.eval x])
 {v : V} (hy : aI c ι w M v (act.eval y)) {ps : List Prop} {u : List (Nat × Entry)} (he : lF cfg M T l v = some (ps, u)) (hp : ∀ p ∈ ps, p) : au P c ι w M act o (.tup []) u := by
 unfold lF at he
 cases hti : cfg.ti T with
 | none => rw [hti] at he; cases he
 | some ti =>
   rw [hti] at he
   simp only at he
   have ht := tab T ti hti
   cases hw : Nat.beq (widths v.ls) ti.size with
   | false => rw [hw] at he; cases he
   | true =>
     rw [hw] at he
     simp only [cond_true] at he
     have hw := Nat.eq_of_beq_eq_true hw
     obtain ⟨ds, hds, hyc⟩ := hy.cells
     have hdl : ds.length = ti.size := by rw [hds.len, hw]
     cases l with
     | ptr id off =>
       simp only [aj] at hx
       simp only at he
       cases hm : M.get id with
       | none => rw [hm] at he; cases he
       | some e =>
         rw [hm] at he hx
         cases e <;> simp only at he hx <;> first | cases he | skip
         rename_i ls
         cases hg : eG ls off ti.size v.ls with
         | none => rw [hg] at he; cases he
         | some r =>
           rw [hg] at he
           simp only at he
           cases hsh : dV ls r with
           | false => rw [hsh] at he; cases he
           | true =>
             rw [hsh] at he; cases he
             obtain ⟨b, hb, hv⟩ := hx
             obtain ⟨b', cs, T', h1, h2, h3, h4⟩ := I.ents id _ hm
             rw [hb] at h1; cases h1
             obtain ⟨k1, k2⟩ := fZ hds hg h3 hdl
             have hrun := uQ (P := P) (act := act) (w := w) ht ho (by simpa using hv) hyc hdl hds.one h2 (by simp) (by rw [hdl]; simpa using k2)
             have tt : Turn w (w.setRow b (splice cs off ds).toArray) (fun k => ι.blk id = some k) :=
              (Turn.setRow w b _).mono (fun k hk => by rw [hk, Gh.blk, hb]; rfl)
             have hev : Ev (.obj ls) (.obj r) := lS hsh
             have xx := Ext.change I hm rfl hev tt
             refine au.yU (ι' := ι) hrun (Inv.change I hm rfl hev tt ?_) xx
             exact ⟨b, splice cs off ds, T', hb, setRow_heap w b _ _ _ _ h2, k1.mono xx, h4.shape hsh⟩
     | ig id i off =>
       simp only [aj] at hx
       simp only at he
       cases hm : M.get id with
       | none => rw [hm] at he; cases he
       | some e =>
         rw [hm] at he hx
         cases e <;> simp only at he hx <;> first | cases he | skip
         rename_i e0 t fr ap l
         cases hg : eG (explode fr t (idx l i)) off ti.size v.ls with
         | none => rw [hg] at he; cases he
         | some r =>
           rw [hg] at he
           simp only at he
           cases him : aG M t r with
           | none => rw [him] at he; cases he
           | some im =>
             rw [him] at he
             simp only at he
             cases hrest : im.rest with
             | cons _ _ => rw [hrest] at he; cases he
             | nil =>
               rw [hrest] at he
               simp only at he
               cases hall : im.frz.all fun p => !(Nat.beq p.1 id) with
               | false => rw [hall] at he; cases he
               | true =>
                 rw [hall] at he; cases he
                 have hi : i < l.length := hp _ (by simp)
                 obtain ⟨ad, had, hv⟩ := hx
                 obtain ⟨xs, q1, q2, q3⟩ := I.ents id _ hm
                 obtain ⟨k1, k2⟩ := q1.elem i hi
                 obtain ⟨k3, k4⟩ := fZ hds hg (bU (c := c) (ι := ι) (M := M) _ _ _ k1 (Valid.elem q2.1 i hi)) hdl
                 have hxl : xs.length = l.length * t.sz := by have := ah.len _ _ _ q1; simpa [Ty.sz] using this
                 have hel : ((xs.drop (i * t.sz)).take t.sz).length = t.sz := ah.len _ _ _ k1
                 rw [hel] at k4
                 obtain ⟨ι1, I1, x1, hb1, hc1, c1, c2, e1, e2, e3, e4⟩ := wY.frozen I (fA I t him k3)
                 rw [hrest] at e2
                 rw [show c2 = [] from e2, List.append_nil] at e1
                 have hm1 : (M.aK im.frz).get id = some (.row e0 t fr ap l) := by rw [gB _ _ _ hall]; exact hm
                 rcases q3.2 with ⟨hn, _⟩ | ⟨g, cur, fz, hb, hlb, hh, hap, hfz, hnc, hcm, hcs, htk, PD⟩
                 ·rw [hn] at had; cases had
                 rw [hb] at had; cases had
                 have hle : (i + 1) * t.sz <= l.length * t.sz := Nat.mul_le_mul_right _ hi
                 have hle2 : l.length * t.sz <= cur.size := by rw [hcs]; exact Nat.mul_le_mul_right _ hnc
                 rw [Nat.succ_mul] at hle
                 have hadd : (⟨g, 0, none⟩ : Addr).add (i * t.sz + off) = ⟨g, i * t.sz + off, none⟩ := by unfold Addr.add; split <;> simp_all
                 rw [hadd] at hv
                 have hrun := uQ (P := P) (act := act) (w := w) ht ho (by simpa using hv) hyc hdl hds.one hh hfz (by omega)
                 have tt : Turn w (w.setRow g (splice cur.toList (i * t.sz + off) ds).toArray) (fun k => ι1.blk id = some k) :=
                  (Turn.setRow w g _).mono (fun k hk => by rw [hk, Gh.blk, hb1, hb]; rfl)
                 have hev : Ev (.row e0 t fr ap l) (.row e0 t (fr && im.fr) ap (l.set i im.x)) := ⟨rfl, by rw [List.length_set]⟩
                 have xx := Ext.change I1 hm1 rfl hev tt
                 have hsp : splice xs (i * t.sz) c1 = splice xs (i * t.sz + off) ds := by
                  rw [<- e1, oV _ _ _ _ _ (by omega) (by omega)]
                 have wk : ∀ (f : Bool), (f = fr ∨ f = im.fr) -> ∀ b, SF c ι1 f b -> SF c ι1 (fr && im.fr) b := by
                  intro f hf b hb
                  refine ⟨hb.1, fun h => hb.2 ?_⟩
                  simp only [Bool.and_eq_true] at h
                  rcases hf with rfl | rfl
                  ·exact h.1
                  ·exact h.2
                 have hset : ah (SF c ι1 (fr && im.fr)) w (.arr l.length t) (l.set i im.x) (splice xs (i * t.sz) c1) :=
                  ah.set (ah.mono (fun b hb => wk fr (.inl rfl) b (SF.mono x1.S b hb)) (fun _ _ => rfl) _ _ _ q1) i hi (ah.mono (wk im.fr (.inr rfl)) (fun _ _ => rfl) _ _ _ e4)
                 have hset' := ah.mono (S' := SF c ι1 (fr && im.fr)) (fun _ h => h) (fun b hb => xx.heap b hb.1) _ _ _ hset
                 rw [hsp] at hset'
                 show au P c ι w M act o (.tup []) (im.frz ++ [(id, .row e0 t (fr && im.fr) ap (l.set i im.x))])
                 have hup : M.aK (im.frz ++ [(id, .row e0 t (fr && im.fr) ap (l.set i im.x))]) = (M.aK im.frz).set id (.row e0 t (fr && im.fr) ap (l.set i im.x)) := by rw [Store.iO]; rfl
                 have hcl : cur.toList.length = cur.size := Array.length_toList
                 have hsl : (splice cur.toList (i * t.sz + off) ds).length = cur.size := by rw [iC cur.toList _ ds (by omega), hcl]
                 refine au.yU (ι' := ι1) hrun ?_ ?_
                 ·rw [hup]
                  refine Inv.change I1 hm1 rfl hev tt ⟨_, hset'.Nw, ⟨Valid.set q2.1 i e3, by rw [List.length_set]; exact q2.2⟩, ?_⟩
                  refine ⟨?_, .inr ⟨g, _, fz, by rw [hb1]; exact hb, ?_, setRow_heap w g _ _ _ _ hh, hap, ?_, by rw [List.length_set, hc1]; exact hnc, by rw [hc1]; exact hcm, ?_, ?_, fun hap' => ?_⟩⟩
                  ·rw [iC _ _ _ (by omega), List.length_set]; exact hxl
                  ·cases hfr : fr with
                   | true =>
                     rw [hfr] at hlb
                     cases im.fr with
                     | true => exact hlb
                     | false => exact Nat.zero_le _
                   | false => exact Nat.zero_le _
                  ·intro j hj
                   rw [List.size_toArray, hsl] at hj
                   exact hfz j hj
                  ·rw [List.size_toArray, hsl, hc1]; exact hcs
                  ·rw [List.toList_toArray, List.length_set, zk cur.toList _ _ ds (by omega) (by omega), htk]
                  ·rw [List.toList_toArray, List.length_set, zl cur.toList _ _ ds (by omega) (by omega), hc1]
                   exact (PD hap').gen (fun b hb => wk fr (.inl rfl) b (SF.mono x1.S b hb)) (fun b hb => xx.heap b (x1.S b hb.1))
                 ·rw [hup]; exact x1.trans xx
     | iq id dh i off =>
       simp only [aj] at hx
       simp only at he
       cases hm : M.get id with
       | none => rw [hm] at he; cases he
       | some e =>
         rw [hm] at he hx
         cases e <;> simp only at he hx <;> first | cases he | skip
         rename_i ls
         cases hla : lat ls dh with
         | none => rw [hla] at he; cases he
         | some q =>
           rw [hla] at he hx
           cases q <;> simp only at he hx <;> first | cases he | skip
           rename_i n fr t l
           cases hg : eG (explode fr t (idx l i)) off ti.size v.ls with
           | none => rw [hg] at he; cases he
           | some r =>
             rw [hg] at he
             simp only at he
             cases him : aG M t r with
             | none => rw [him] at he; cases he
             | some im =>
               rw [him] at he
               simp only at he
               cases hrest : im.rest with
               | cons _ _ => rw [hrest] at he; simp only at he; cases he
               | nil =>
                 rw [hrest] at he
                 cases hls : eG ls dh (n * t.sz) [.arr n (fr && im.fr) t (l.set i im.x)] with
                 | none => rw [hls] at he; cases he
                 | some ls' =>
                   rw [hls] at he
                   simp only at he
                   cases hall : (dV ls ls' && im.frz.all fun p => !(Nat.beq p.1 id)) with
                   | false => rw [hall] at he; cases he
                   | true =>
                     rw [hall] at he; cases he
                     simp only [Bool.and_eq_true] at hall
                     obtain ⟨hsh, hall⟩ := hall
                     have hi : i < n := hp _ (by simp)
                     obtain ⟨b, hb, hv⟩ := hx
                     obtain ⟨b', cs, T', h1, h2, h3, PE⟩ := I.ents id _ hm
                     rw [hb] at h1; cases h1
                     obtain ⟨⟨a1, a2⟩, a3⟩ := tZ hla h3
                     have hn : l.length = n := a2.2
                     have hwd : (Leaf.arr n fr t l).width = n * t.sz := rfl
                     rw [hwd] at a1 a3
                     obtain ⟨k1, k2⟩ := a1.elem i (by omega)
                     obtain ⟨k3, k4⟩ := fZ hds hg (bU (c := c) (ι := ι) (M := M) _ _ _ k1 (Valid.elem a2.1 i (by omega))) hdl
                     have hel : ((((cs.drop dh).take (n * t.sz)).drop (i * t.sz)).take t.sz).length = t.sz := ah.len _ _ _ k1
                     have hal : ((cs.drop dh).take (n * t.sz)).length = n * t.sz := ah.len _ _ _ a1
                     rw [hel] at k4
                     obtain ⟨ι1, I1, x1, hb1, hc1, c1, c2, e1, e2, e3, e4⟩ := wY.frozen I (fA I t him k3)
                     rw [hrest] at e2
                     rw [show c2 = [] from e2, List.append_nil] at e1
                     have hm1 : (M.aK im.frz).get id = some (.obj ls) := by rw [gB _ _ _ hall]; exact hm
                     have hle : (i + 1) * t.sz <= n * t.sz := Nat.mul_le_mul_right _ hi
                     rw [Nat.succ_mul] at hle
                     have hrun := uQ (P := P) (act := act) (w := w) ht ho (by simpa using hv) hyc hdl hds.one h2 (by simp) (by simp; omega)
                     have tt : Turn w (w.setRow b (splice cs (dh + (i * t.sz + off)) ds).toArray) (fun k => ι1.blk id = some k) :=
                      (Turn.setRow w b _).mono (fun k hk => by rw [hk, Gh.blk, hb1, hb]; rfl)
                     have hev : Ev (.obj ls) (.obj ls') := lS hsh
                     have xx := Ext.change I1 hm1 rfl hev tt
                     have wk : ∀ (f : Bool), (f = fr ∨ f = im.fr) -> ∀ b, SF c ι1 f b -> SF c ι1 (fr && im.fr) b := by
                      intro f hf b hb
                      refine ⟨hb.1, fun h => hb.2 ?_⟩
                      simp only [Bool.and_eq_true] at h
                      rcases hf with rfl | rfl
                      ·exact h.1
                      ·exact h.2
                     have hset : ah (SF c ι1 (fr && im.fr)) w (.arr n t) (l.set i im.x) (splice ((cs.drop dh).take (n * t.sz)) (i * t.sz) c1) :=
                      ah.set (ah.mono (fun b hb => wk fr (.inl rfl) b (SF.mono x1.S b hb)) (fun _ _ => rfl) _ _ _ a1) i hi (ah.mono (wk im.fr (.inr rfl)) (fun _ _ => rfl) _ _ _ e4)
                     have hnew : aF c ι1 w (M.aK im.frz) [.arr n (fr && im.fr) t (l.set i im.x)] (splice ((cs.drop dh).take (n * t.sz)) (i * t.sz) c1) :=
                      ⟨_, [], by simp, ⟨hset, Valid.set a2.1 i e3, by rw [List.length_set]; exact a2.2⟩, rfl⟩
                     have Ov : c1.length = t.sz := ah.len _ _ _ e4
                     have hnl : (splice ((cs.drop dh).take (n * t.sz)) (i * t.sz) c1).length = n * t.sz := by rw [iC _ _ _ (by omega), hal]
                     obtain ⟨m1, m2⟩ := fZ hnew hls (h3.mono x1) hnl
                     have hsp : splice cs dh (splice ((cs.drop dh).take (n * t.sz)) (i * t.sz) c1) = splice cs (dh + (i * t.sz + off)) ds := by
                      rw [<- e1, oV ((cs.drop dh).take (n * t.sz)) (i * t.sz) t.sz off ds (by omega) (by omega), oV cs dh (n * t.sz) (i * t.sz + off) ds (by omega) (by omega)]
                     rw [hsp] at m1
                     have hup : M.aK (im.frz ++ [(id, .obj ls')]) = (M.aK im.frz).set id (.obj ls') := by rw [Store.iO]; rfl
                     refine au.yU (ι' := ι1) hrun ?_ ?_
                     ·rw [hup]
                      exact Inv.change I1 hm1 rfl hev tt ⟨b, _, T', by rw [hb1]; exact hb, setRow_heap w b _ _ _ _ h2, m1.mono xx, PE.shape hsh⟩
                     ·rw [hup]; exact x1.trans xx
     | _ => simp only at he; cases he
end
end Go.Vc
set_option linter.unusedVariables false
set_option linter.unusedSimpArgs false
namespace Go.Vc
section
variable {P : Program} {c : Ctx} {ι : Gh} {w : World} {M : Store} {act : Act} {o : Oper} {cfg : Cfg}
theorem gG (tab : aH P cfg) {T n : Nat} (h : dU cfg T n = true) : ∃ e, P.underlying T = some (.slice e) /\ ∀ w, (sizeOf e).run P w = .ok n w := by
 unfold dU at h
 split at h
 ·rename_i e _ _ _ hT
  split at h
  ·rename_i ti he
   obtain ⟨d, i, hd, _, _, _, h3, _⟩ := (tab T _ hT).ex
   refine ⟨e, by rw [hd, show d = _ from h3], fun w => ?_⟩
   rw [dN (tab e ti he), Nat.eq_of_beq_eq_true h]
  ·cases h
 ·cases h
theorem LZ (tab : aH P cfg) {T : Nat} (h : EP cfg T = true) : ∃ e n, P.underlying T = some (.slice e) /\ ∀ w, (sizeOf e).run P w = .ok n w := by
 unfold EP at h
 split at h
 ·rename_i e _ _ _ hT
  split at h
  ·rename_i ti he
   obtain ⟨d, i, hd, _, _, _, h3, _⟩ := (tab T _ hT).ex
   exact ⟨e, ti.size, by rw [hd, show d = _ from h3], fun w => dN (tab e ti he) ..⟩
  ·cases h
 ·cases h
theorem Di (tab : aH P cfg) {T m n : Nat} (h : wJ cfg T m n = true) : ∃ e, P.underlying T = some (.array m e) /\ ∀ w, (sizeOf e).run P w = .ok n w := by
 unfold wJ at h
 split at h
 ·rename_i m' e _ _ _ hT
  split at h
  ·rename_i ti he
   simp only [Bool.and_eq_true] at h
   obtain ⟨d, i, hd, _, _, _, h3, _⟩ := (tab T _ hT).ex
   refine ⟨e, by rw [hd, show d = _ from h3, Nat.eq_of_beq_eq_true h.1], fun w => ?_⟩
   rw [dN (tab e ti he), Nat.eq_of_beq_eq_true h.2]
  ·cases h
 ·cases h
theorem qF (tab : aH P cfg) {T : Nat} (h : isStr cfg T = true) : P.underlying T = some .string := by
 unfold isStr at h
 split at h
 ·rename_i hT
  obtain ⟨d, i, hd, _, _, _, h3, _⟩ := (tab T _ hT).ex
  rw [hd, show d = _ from h3]
 ·cases h
theorem gI {T e n : Nat} (hu : P.underlying T = some (.slice e)) (hs : ∀ w, (sizeOf e).run P w = .ok n w) (a : Addr) (len cap : Nat) (k : IntKind) (i : Int) (h0 : 0 <= i) (h1 : i < (len : Int)) (w : World) :
 (Instr.indexAt T (.slice (some a) len cap) (.int k i)).run P w = .ok (.pointer (some (a.add (i.toNat * n)))) w := by
 simp [Instr.indexAt, asIntOf, run_underlying hu, hs, h0, h1]
theorem uh {T e m n : Nat} (hu : P.underlying T = some (.array m e)) (hs : ∀ w, (sizeOf e).run P w = .ok n w) (a : Addr) (k : IntKind) (i : Int) (h0 : 0 <= i) (h1 : i < (m : Int)) (w : World) :
 (Instr.indexAt T (.pointer (some a)) (.int k i)).run P w = .ok (.pointer (some (a.add (i.toNat * n)))) w := by
 simp [Instr.indexAt, asIntOf, run_underlying hu, hs, h0, h1, Instr.sureAddr]
theorem dR {T : Nat} {x i : Operand} (ho : o.op = .indexAddr T x i) {v : Value} (hr : (Instr.indexAt T (act.eval x) (act.eval i)).run P w = .ok v w) :
 (execOp act.eval o).run P w = .ok (.value v) w := by
 simp [execOp, ho, hr]
theorem zh (tab : aH P cfg) (I : Inv c ι w M) {T : Nat} {x y : Operand} (ho : o.op = .indexAddr T x y) {l : Leaf} (hx : aj c ι w M l [act.eval x])
 {k : IntKind} {i : Int} (hy : act.eval y = .int k i) {ps : List Prop} {r : Leaf} (he : fV cfg M T l i = some (ps, r)) (hp : ∀ p ∈ ps, p) : au P c ι w M act o (.one r) [] := by
 have xg : ∀ {n : Nat}, 0 <= i -> i < (n : Int) -> i.toNat < n := fun h0 h1 => by omega
 unfold fV at he
 cases l with
 | psl fr t l =>
   simp only at he
   cases hs : dU cfg T t.sz with
   | false => rw [hs] at he; cases he
   | true =>
     rw [hs] at he; cases he
     obtain ⟨e, hu, hz⟩ := gG tab hs
     have h0 := hp (0 <= i) (by simp)
     have h1 := hp (i < (l.length : Int)) (by simp)
     obtain ⟨h2, h3⟩ := hx
     obtain ⟨a, n, cp, e1, e2, e3, e4⟩ := h2
     have e1' : act.eval x = .slice a n cp := by simpa using e1
     subst e2
     obtain ⟨ad, ecs, q1, q2, q3⟩ := ah.elemAt (S := SF c ι fr) (w := w) (a := a) (n := l.length) (cp := cp) ⟨a, _, cp, rfl, rfl, e3, e4⟩ i.toNat (xg h0 h1)
     subst q1
     refine au.pure I (dR ho (by rw [e1', hy]; exact gI hu hz ad _ cp k i h0 h1 w)) (ak.one ?_)
     exact ⟨_, ecs, rfl, q3, q2, Valid.elem h3.1 _ (xg h0 h1)⟩
 | own id =>
   simp only [aj] at hx
   simp only at he
   cases hm : M.get id with
   | none => rw [hm] at he; cases he
   | some en =>
     rw [hm] at he hx
     cases en with
     | row e0 t fr ap l =>
       simp only at he hx
       cases hs : dU cfg T t.sz with
       | false => rw [hs] at he; cases he
       | true =>
         rw [hs] at he; cases he
         obtain ⟨e, hu, hz⟩ := gG tab hs
         have h0 := hp (0 <= i) (by simp)
         have h1 := hp (i < (l.length : Int)) (by simp)
         obtain ⟨ax, hx1, hx2⟩ := hx
         have hx' : act.eval x = .slice ax l.length (ι.cap id) := by simpa using hx1
         obtain ⟨xs, q1, q2, q3⟩ := I.ents id _ hm
         rcases q3.2 with ⟨_, _, hn, _⟩ | ⟨g, cur, fz, hb, _, _, _, _, hnc, _⟩
         ·omega
         ·rw [hx2 (by omega), hb] at hx'
          refine au.pure I (dR ho (by rw [hx', hy]; exact gI hu hz _ _ _ k i h0 h1 w)) (ak.one ?_)
          simp only [aj, hm]
          exact ⟨_, hb, by rw [Nat.add_zero]⟩
     | frz t fr l =>
       simp only at he hx
       cases hs : dU cfg T t.sz with
       | false => rw [hs] at he; cases he
       | true =>
         rw [hs] at he; cases he
         obtain ⟨e, hu, hz⟩ := gG tab hs
         have h0 := hp (0 <= i) (by simp)
         have h1 := hp (i < (l.length : Int)) (by simp)
         obtain ⟨ax, hx1, hx2⟩ := hx
         have hx' : act.eval x = .slice ax l.length (ι.cap id) := by simpa using hx1
         obtain ⟨q1, q2⟩ := I.ents id _ hm
         obtain ⟨ad, ecs, r1, r2, r3⟩ := (q1.hdr hx2).elemAt i.toNat (xg h0 h1)
         rw [r1] at hx'
         refine au.pure I (dR ho (by rw [hx', hy]; exact gI hu hz _ _ _ k i h0 h1 w)) (ak.one ?_)
         exact ⟨_, ecs, rfl, r3, r2, Valid.elem q2.1 _ (xg h0 h1)⟩
     | obj ls => simp only at hx
     | hid q => simp only at hx
     | dead => simp only at he; cases he
 | sl id lo n =>
   simp only [aj] at hx
   simp only at he
   cases hm : M.get id with
   | none => rw [hm] at he; cases he
   | some en =>
     rw [hm] at he hx
     cases en with
     | row e0 t fr ap l =>
       simp only at he hx
       cases hs : dU cfg T t.sz with
       | false => rw [hs] at he; cases he
       | true =>
         rw [hs] at he; cases he
         obtain ⟨e, hu, hz⟩ := gG tab hs
         have h0 := hp (0 <= i) (by simp)
         have h1 := hp (i < (n : Int)) (by simp)
         obtain ⟨a, e1, e2, e3⟩ := hx
         have hx' : act.eval x = .slice a n (ι.cap id - lo) := by simpa using e1
         obtain ⟨xs, q1, q2, q3⟩ := I.ents id _ hm
         rcases q3.2 with ⟨_, _, hn, _⟩ | ⟨g, cur, fz, hb, _, _, _, _, hnc, _⟩
         ·omega
         ·rw [e3 (by omega), hb] at hx'
          refine au.pure I (dR ho (by rw [hx', hy]; exact gI hu hz _ _ _ k i h0 h1 w)) (ak.one ?_)
          simp only [aj, hm]
          exact ⟨_, hb, by rw [Nat.add_zero, Addr.add_add, <- Nat.add_mul]⟩
     | frz t fr l =>
       simp only at he hx
       cases hs : dU cfg T t.sz with
       | false => rw [hs] at he; cases he
       | true =>
         rw [hs] at he; cases he
         obtain ⟨e, hu, hz⟩ := gG tab hs
         have h0 := hp (0 <= i) (by simp)
         have h1 := hp (i < (n : Int)) (by simp)
         obtain ⟨a, e1, e2, e3⟩ := hx
         have hx' : act.eval x = .slice a n (ι.cap id - lo) := by simpa using e1
         obtain ⟨q1, q2⟩ := I.ents id _ hm
         obtain ⟨ad, ecs, r1, r2, r3⟩ := q1.elemAt (lo + i.toNat) (by have := xg h0 h1; omega)
         have hcp : l.length <= ι.cap id := by
          obtain ⟨_, _, _, z1, z2, z3, _⟩ := q1
          simp at z1; omega
         rw [e3 (by omega), r1] at hx'
         refine au.pure I (dR ho (by rw [hx', hy]; exact gI hu hz _ _ _ k i h0 h1 w)) (ak.one ?_)
         refine ⟨_, ecs, rfl, ?_, r2, Valid.elem q2.1 _ (by have := xg h0 h1; omega)⟩
         rw [Addr.add_add, <- Nat.add_mul]; exact r3
     | obj ls => simp only at hx
     | hid q => simp only at hx
     | dead => simp only at he; cases he
 | asl id off lo n =>
   simp only [aj] at hx
   simp only at he
   cases hm : M.get id with
   | none => rw [hm] at he; cases he
   | some en =>
     rw [hm] at he hx
     cases en <;> simp only at he hx <;> first | cases he | skip
     rename_i ls
     cases hla : lat ls off with
     | none => rw [hla] at he; cases he
     | some q =>
       rw [hla] at he hx
       cases q <;> simp only at he hx <;> first | cases he | skip
       rename_i N fr t l
       cases hs : dU cfg T t.sz with
       | false => rw [hs] at he; cases he
       | true =>
         rw [hs] at he; cases he
         obtain ⟨e, hu, hz⟩ := gG tab hs
         have h0 := hp (0 <= i) (by simp)
         have h1 := hp (i < (n : Int)) (by simp)
         obtain ⟨b, a, e1, e2, e3, e4⟩ := hx
         have hx' : act.eval x = .slice (some a) n (N - lo) := by simpa using e3
         rw [e4 (by omega)] at hx'
         refine au.pure I (dR ho (by rw [hx', hy]; exact gI hu hz _ _ _ k i h0 h1 w)) (ak.one ?_)
         simp only [aj, hm, hla]
         refine ⟨b, e1, ?_⟩
         have hadd : ∀ o' n', (⟨b, o', none⟩ : Addr).add n' = ⟨b, o' + n', none⟩ := fun o' n' => by unfold Addr.add; split <;> simp_all
         rw [hadd, Nat.add_zero, Nat.add_assoc, <- Nat.add_mul]
 | ptr id off =>
   simp only [aj] at hx
   simp only at he
   cases hm : M.get id with
   | none => rw [hm] at he; cases he
   | some en =>
     rw [hm] at he hx
     cases en <;> simp only at he hx <;> first | cases he | skip
     rename_i ls
     cases hla : lat ls off with
     | none => rw [hla] at he; cases he
     | some q =>
       rw [hla] at he
       cases q <;> simp only at he <;> first | cases he | skip
       rename_i N fr t l
       cases hs : wJ cfg T N t.sz with
       | false => rw [hs] at he; cases he
       | true =>
         rw [hs] at he; cases he
         obtain ⟨e, hu, hz⟩ := Di tab hs
         have h0 := hp (0 <= i) (by simp)
         have h1 := hp (i < (N : Int)) (by simp)
         obtain ⟨b, e1, e2⟩ := hx
         have hx' : act.eval x = .pointer (some ⟨b, off, none⟩) := by simpa using e2
         refine au.pure I (dR ho (by rw [hx', hy]; exact uh hu hz _ k i h0 h1 w)) (ak.one ?_)
         simp only [aj, hm, hla]
         refine ⟨b, e1, ?_⟩
         have hadd : ∀ o' n', (⟨b, o', none⟩ : Addr).add n' = ⟨b, o' + n', none⟩ := fun o' n' => by unfold Addr.add; split <;> simp_all
         rw [hadd, Nat.add_zero]
 | cst fr t y' =>
   cases t <;> simp only at he <;> first | cases he | skip
   rename_i n t
   cases hs : wJ cfg T n t.sz with
   | false => rw [hs] at he; cases he
   | true =>
     rw [hs] at he; cases he
     obtain ⟨e, hu, hz⟩ := Di tab hs
     have h0 := hp (0 <= i) (by simp)
     have h1 := hp (i < (n : Int)) (by simp)
     obtain ⟨ad, pcs, e1, e2, e3, e4⟩ := hx
     have hx' : act.eval x = .pointer (some ad) := by simpa using e1
     have hl : (y' : List t.den).length = n := e4.2
     refine au.pure I (dR ho (by rw [hx', hy]; exact uh hu hz _ k i h0 h1 w)) (ak.one ?_)
     obtain ⟨k1, k2⟩ := e3.elem i.toNat (by rw [hl]; exact xg h0 h1)
     exact ⟨_, _, rfl, e2.add _ _, k1, Valid.elem e4.1 _ (by rw [hl]; exact xg h0 h1)⟩
 | _ => simp only at he; cases he
theorem pX {l : Leaf} {b : Bool} {v : Value} (h : l.asB = some b) (hr : aj c ι w M l [v]) : v = .bool b := by
 cases l <;> simp only [Leaf.asB] at h <;> cases h
 ·simpa using (show [v] = [.bool b] from hr)
 ·simpa using (show [v] = [.bool b] from hr)
theorem mM (k : IntKind) (n : Int) : Valid (.int k) (k.wrap n) := by
 show k.min <= _ /\ _ <= k.max
 have hb : (0 : Int) < 2 ^ k.bits := by cases k <;> decide
 have h1 := Int.emod_nonneg n (Int.ne_of_gt hb)
 have h2 := Int.emod_lt_of_pos n hb
 cases k <;> simp [IntKind.wrap, IntKind.min, IntKind.max, IntKind.signed, IntKind.bits] at * <;> (try split) <;> omega
theorem gK {op : BinOp} {T T' : Nat} {x y : Operand} (ho : o.op = .binOp op T x y T') {r : Value} (hg : (eqGuard op T x y (act.eval x) (act.eval y)).run P w = .ok () w)
 (hr : (binOp op T (act.eval x) (act.eval y)).run P w = .ok r w) : (execOp act.eval o).run P w = .ok (.value r) w := by
 simp [execOp, ho, hg, hr]
end
end Go.Vc
set_option linter.unusedVariables false
set_option linter.unusedSimpArgs false
namespace Go.Vc
section
variable {P : Program} {c : Ctx} {ι : Gh} {w : World} {M : Store} {act : Act} {o : Oper} {cfg : Cfg}
theorem JC {k : IntKind} {a : Int} (h : Valid (.int k) a) (n : Nat) : Valid (.int k) (a.fdiv (2 ^ n)) := by
 have hp : (0 : Int) < 2 ^ n := Int.pow_pos (by decide)
 have h0 : k.min <= a := h.1
 have h1 : a <= k.max := h.2
 have hz := oG k
 show k.min <= _ /\ _ <= k.max
 rw [Int.fdiv_eq_ediv_of_nonneg _ (Int.le_of_lt hp)]
 generalize (2 : Int) ^ n = q at hp
 by_cases ha : 0 <= a
 ·have h2 : a / q <= a := Int.ediv_le_self _ ha
  have h3 : 0 <= a / q := Int.ediv_nonneg ha (Int.le_of_lt hp)
  omega
 ·have h2 : a / q < 0 := Int.ediv_neg_of_neg_of_pos (by omega) hp
  have h3 : a <= a / q := by
   rw [Int.le_ediv_iff_mul_le hp]
   have h4 : (-a) * 1 <= (-a) * q := Int.mul_le_mul_of_nonneg_left (by omega) (by omega)
   rw [Int.neg_mul, Int.neg_mul] at h4
   omega
  omega
theorem JD {k : IntKind} {a b : Int} (h : Valid (.int k) a) : Valid (.int k) (a.tmod b) := by
 have h0 : k.min <= a := h.1
 have h1 : a <= k.max := h.2
 have hz := oG k
 show k.min <= _ /\ _ <= k.max
 have hm : (a.tmod b).natAbs <= a.natAbs := by rw [Int.natAbs_tmod]; exact Nat.mod_le _ _
 by_cases ha : 0 <= a
 ·have h2 := Int.tmod_nonneg b ha
  omega
 ·have e : a.tmod b = -((-a).tmod b) := by rw [Int.neg_tmod]; omega
  have h2 := Int.tmod_nonneg b (show 0 <= -a by omega)
  omega
theorem Bc (tab : aH P cfg) {T : Nat} (h : pO cfg T = true) : P.underlying T = some .bool := by
 unfold pO at h
 split at h
 ·rename_i hT
  obtain ⟨d, i, hd, _, _, _, h3, _⟩ := (tab T _ hT).ex
  rw [hd, show d = _ from h3]
 ·cases h
theorem kM (op : BinOp) (T : Nat) (x y : Operand) (k k' : IntKind) (a b : Int) : (eqGuard op T x y (.int k a) (.int k' b)).run P w = .ok () w := by
 cases op <;> rfl
theorem zo (op : BinOp) (T : Nat) (x y : Operand) (a b : ByteArray) : (eqGuard op T x y (.string a) (.string b)).run P w = .ok () w := by
 cases op <;> rfl
theorem xk (op : BinOp) (T : Nat) (x y : Operand) (a b : Bool) : (eqGuard op T x y (.bool a) (.bool b)).run P w = .ok () w := by
 cases op <;> rfl
theorem H7 (tab : aH P cfg) (I : Inv c ι w M) {op : BinOp} {T T' : Nat} {x y : Operand} (ho : o.op = .binOp op T x y T') {l m r : Leaf} (hx : aj c ι w M l [act.eval x])
 (hy : aj c ι w M m [act.eval y]) {ps : List Prop} (he : AA cfg T op l m = some (ps, r)) (hp : ∀ p ∈ ps, p) : au P c ι w M act o (.one r) [] := by
 have fin : ∀ {v : Value}, (eqGuard op T x y (act.eval x) (act.eval y)).run P w = .ok () w -> (binOp op T (act.eval x) (act.eval y)).run P w = .ok v w -> aj c ι w M r [v] -> au P c ι w M act o (.one r) [] :=
  fun hg hr hv => au.pure I (gK ho hg hr) (ak.one hv)
 unfold AA at he
 split at he
 ·rename_i k a k' b
  have e1 : act.eval x = .int k a := by simpa using hx.1
  have e2 : act.eval y = .int k' b := by simpa using hy.1
  rw [e1, e2] at fin
  have fin' := @fin
  clear fin
  split at he
  ·cases he
   have hb := hp (0 <= b) (by simp)
   refine fin' (kM ..) (v := .int k (k.wrap (a * 2 ^ (min b.toNat k.bits)))) ?_ ⟨rfl, mM _ _⟩
   simp [binOp, Op.shift, show ¬ b < 0 by omega]
  ·cases he
   have hb := hp (0 <= b) (by simp)
   refine fin' (kM ..) (v := .int k (a.fdiv (2 ^ (min b.toNat k.bits)))) ?_ ⟨rfl, JC hx.2 _⟩
   simp [binOp, Op.shift, show ¬ b < 0 by omega]
  ·split at he
   ·rename_i hk
    subst hk
    split at he <;> first
     | (cases he
        refine fin' (kM ..) (v := .int k' _) ?_ ⟨rfl, mM _ _⟩
        first
         | (simp [binOp, Op.intArith]; done)
         | (simp [binOp, Op.intBits]; done)
         | (have hb := hp (b ≠ 0) (by simp); simp [binOp, Op.intDiv, hb]; done))
     | (cases he
        have hb := hp (b ≠ 0) (by simp)
        refine fin' (kM ..) (v := .int k' (a.tmod b)) ?_ ⟨rfl, JD hx.2⟩
        simp [binOp, Op.intDiv, hb])
     | (cases he
        refine fin' (kM ..) (v := .bool _) ?_ rfl
        simp [binOp, Op.intCmp])
     | cases he
   ·cases he
 ·rename_i a b
  have e1 : act.eval x = .string (bs a) := by simpa using hx.1
  have e2 : act.eval y = .string (bs b) := by simpa using hy.1
  rw [e1, e2] at fin
  have fin' := @fin
  clear fin
  have ha := hx.2
  have hb := hy.2
  split at he <;> first
   | (cases he
      have hsum := hp (a.length + b.length <= 9223372036854775807) (by simp)
      refine fin' (zo ..) (v := .string (bs a ++ bs b)) ?_ ⟨by rw [KG], fun z hz => ?_, by simp only [List.length_append, maxLen]; omega⟩
      ·rw [binOp_string_add]; exact run_string_add_sum w _ _ (by rw [gy, gy]; exact hsum)
      ·rcases List.mem_append.1 hz with h | h
       ·exact ha.1 z h
       ·exact hb.1 z h)
   | (cases he
      refine fin' (zo ..) (v := .bool _) ?_ rfl
      simp [binOp, Op.stringOp, KI ha.1 hb.1, MV ha.1 hb.1])
   | cases he
 ·rename_i l' m' h1 h2
  split at he
  ·rename_i a b ha hb
   have e1 := pX ha hx
   have e2 := pX hb hy
   rw [e1, e2] at fin
   have fin' := @fin
   clear fin
   split at he
   ·cases hT : pO cfg T with
    | false => rw [hT] at he; cases he
    | true =>
      rw [hT] at he; cases he
      exact fin' (xk ..) (run_eql_bool w T a b (Bc tab hT)) rfl
   ·cases hT : pO cfg T with
    | false => rw [hT] at he; cases he
    | true =>
      rw [hT] at he; cases he
      exact fin' (xk ..) (run_neq_bool w T a b (Bc tab hT)) rfl
   ·cases he
  ·cases he
theorem nO (op : BinOp) (T : Nat) (x y : Operand) (a b : Option Addr) : (eqGuard op T x y (.pointer a) (.pointer b)).run P w = .ok () w := by
 cases op <;> rfl
theorem Dj {M : Store} {id : Nat} (h : ql M id = true) : ∃ ls, M.get id = some (.obj ls) := by
 unfold ql at h
 split at h
 ·rename_i ls hm; exact ⟨ls, hm⟩
 ·cases h
theorem run_neq_ptr_same' {tp te : TypeId} {j : TypeInfo} (w : World) (a : Addr) (hp : P.underlying tp = some (.pointer te)) (hte : P.info? te = some j) :
 (binOp .neq tp (.pointer (some a)) (.pointer (some a))).run P w = .ok (.bool false) w := by
 have h : ∀ d : Nat, (Op.equalIn (d + 1) tp (.pointer (some a)) (.pointer (some a))).run P w = .ok true w := fun d => by
  simp [Op.equalIn, run_underlying hp, sizeOf, typeInfo, hte, run_sameAddr_same]
 simp only [binOp]
 simp [Op.equal, Op.maxDepth, h 9999]
theorem H8 (tab : aH P cfg) (I : Inv c ι w M) {op : BinOp} {T T' : Nat} {x y : Operand} (ho : o.op = .binOp op T x y T') {l m r : Leaf} (hx : aj c ι w M l [act.eval x])
 (hy : aj c ι w M m [act.eval y]) (he : rC cfg M T op l m = some r) : au P c ι w M act o (.one r) [] := by
 unfold rC at he
 split at he
 ·rename_i e sz by_ ty hT
  obtain ⟨d, i, hd, _, _, _, h3, _⟩ := (tab T _ hT).ex
  have hu : P.underlying T = some (.pointer e) := by rw [hd, show d = _ from h3]
  have hpt : P.underlying T = some (.pointer (P.pointee T)) := by rw [hu]; simp [Program.pointee, hu]
  have Dk : ∀ (p : Option Addr) (b : Bool), act.eval x = .pointer p -> act.eval y = .pointer none -> p.isNone = b -> zT op b = some r -> au P c ι w M act o (.one r) [] := by
   intro p b e1 e2 hb hr
   unfold zT at hr
   split at hr
   ·cases hr
    refine au.pure I (gK ho (by rw [e1, e2]; exact nO ..) (by rw [e1, e2]; exact run_eql_pointer_nil w T p hpt)) (ak.one ?_)
    rw [hb]; rfl
   ·cases hr
    refine au.pure I (gK ho (by rw [e1, e2]; exact nO ..) (by rw [e1, e2]; exact run_neq_pointer_nil w T p hpt)) (ak.one ?_)
    rw [hb]; rfl
   ·cases hr
  split at he
  ·rename_i id off
   cases hb : ql M id with
   | false => rw [hb] at he; cases he
   | true =>
     rw [hb] at he
     obtain ⟨ls, hm⟩ := Dj hb
     simp only [aj, hm] at hx
     obtain ⟨b, _, h2⟩ := hx
     exact Dk (some _) false (by simpa using h2) (by simpa [aj] using hy) rfl he
  ·exact Dk none true (by simpa [aj] using hx) (by simpa [aj] using hy) rfl he
  ·obtain ⟨ad, pcs, h1, _⟩ := hx
   exact Dk (some ad) false (by simpa using h1) (by simpa [aj] using hy) rfl he
  ·rename_i id off id' off'
   split at he
   ·rename_i te hte
    obtain ⟨_, j, _, hj, _⟩ := (tab e _ hte).ex
    cases hb : (ql M id && (Nat.beq id id' && Nat.beq off off')) with
    | false => rw [hb] at he; cases he
    | true =>
      rw [hb] at he
      simp only [Bool.and_eq_true] at hb
      obtain ⟨hb1, hb2, hb3⟩ := hb
      obtain rfl := Nat.eq_of_beq_eq_true hb2
      obtain rfl := Nat.eq_of_beq_eq_true hb3
      obtain ⟨ls, hm⟩ := Dj hb1
      simp only [aj, hm] at hx hy
      obtain ⟨b, hb4, h2⟩ := hx
      obtain ⟨b', hb5, h2'⟩ := hy
      rw [hb4] at hb5; cases hb5
      have e1 : act.eval x = .pointer (some ⟨b, off, none⟩) := by simpa using h2
      have e2 : act.eval y = .pointer (some ⟨b, off, none⟩) := by simpa using h2'
      simp only [cond_true] at he
      unfold zT at he
      split at he
      ·cases he
       exact au.pure I (gK ho (by rw [e1, e2]; exact nO ..) (by rw [e1, e2]; exact run_eql_ptr_same w _ hu hj)) (ak.one rfl)
      ·cases he
       exact au.pure I (gK ho (by rw [e1, e2]; exact nO ..) (by rw [e1, e2]; exact run_neq_ptr_same' w _ hu hj)) (ak.one rfl)
      ·cases he
   ·cases he
  ·cases he
 ·cases he
theorem JE (I : Inv c ι w M) {op : UnOp} {T : Nat} {x : Operand} (ho : o.op = .unOp op T x) {l r : Leaf} (hx : aj c ι w M l [act.eval x])
 (he : Jq op l = some r) : au P c ι w M act o (.one r) [] := by
 unfold Jq at he
 split at he
 ·rename_i k a
  cases he
  have e1 : act.eval x = .int k a := by simpa using hx.1
  exact au.pure I (v := .int k (k.wrap (0 - a))) (by simp [execOp, ho, e1, Op.unary, Op.intArith]) (ak.one ⟨rfl, mM _ _⟩)
 ·rename_i b
  cases he
  have e1 : act.eval x = .bool b := by simpa using (show [act.eval x] = [.bool b] from hx)
  exact au.pure I (v := .bool (!b)) (by simp [execOp, ho, e1, Op.unary]) (ak.one rfl)
 ·rename_i b
  cases he
  have e1 : act.eval x = .bool b := by simpa using (show [act.eval x] = [.bool b] from hx)
  exact au.pure I (v := .bool (!b)) (by simp [execOp, ho, e1, Op.unary]) (ak.one rfl)
 ·rename_i k a
  cases he
  have e1 : act.eval x = .int k a := by simpa using hx.1
  exact au.pure I (v := .int k (k.wrap (BitVec.ofInt k.bits (if k.signed = true then -1 else k.max) ^^^ BitVec.ofInt k.bits a).toNat)) (by simp [execOp, ho, e1, Op.unary, Op.intBits]) (ak.one ⟨rfl, mM _ _⟩)
 ·cases he
end
end Go.Vc
set_option linter.unusedVariables false
set_option linter.unusedSimpArgs false
namespace Go.Vc
theorem Ny {S : Nat -> Prop} {w : World} : ∀ (t : Ty) (x : t.den) (o : Nat) (tf : Ty) (z : tf.den) (cs : List Value), sub t x o tf = some z -> ah S w t x cs -> Valid t x ->
 ah S w tf z ((cs.drop o).take tf.sz) /\ Valid tf z /\ o + tf.sz <= cs.length := by
 have base : ∀ (t : Ty) (x : t.den) (o : Nat) (tf : Ty) (z : tf.den) (cs : List Value), (if h : t = tf /\ o = 0 then some (h.1 ▸ x : tf.den) else none) = some z -> ah S w t x cs -> Valid t x ->
  ah S w tf z ((cs.drop o).take tf.sz) /\ Valid tf z /\ o + tf.sz <= cs.length := by
  intro t x o tf z cs h hr hv
  split at h
  ·rename_i hh
   obtain ⟨rfl, rfl⟩ := hh
   cases h
   have hl := ah.len _ _ _ hr
   rw [List.drop_zero, List.take_of_length_le (by omega)]
   exact ⟨hr, hv, by omega⟩
  ·cases h
 intro t
 induction t with
 | pair a b iha ihb =>
   intro x o tf z cs h hr hv
   unfold sub at h
   split at h
   ·rename_i hh
    obtain ⟨rfl, rfl⟩ := hh
    cases h
    have hl := ah.len _ _ _ hr
    rw [List.drop_zero, List.take_of_length_le (by omega)]
    exact ⟨hr, hv, by omega⟩
   ·obtain ⟨c1, c2, rfl, h2, h3⟩ := hr
    have hl1 := ah.len _ _ _ h2
    cases hb : Nat.blt o a.sz with
    | true =>
      rw [hb] at h
      obtain ⟨k1, k2, k3⟩ := iha x.1 o tf z c1 h h2 hv.1
      refine ⟨?_, k2, by rw [List.length_append]; omega⟩
      rw [List.drop_append_of_le_length (by omega), List.take_append_of_le_length (by rw [List.length_drop]; omega)]
      exact k1
    | false =>
      rw [hb] at h
      have hle : a.sz <= o := by
       have hn : ¬ (Nat.blt o a.sz = true) := by rw [hb]; simp
       simp only [Nat.blt_eq] at hn
       omega
      obtain ⟨k1, k2, k3⟩ := ihb x.2 (o - a.sz) tf z c2 h h3 hv.2
      refine ⟨?_, k2, by rw [List.length_append]; omega⟩
      rw [List.drop_append, List.drop_of_length_le (by omega), List.nil_append, hl1]
      exact k1
 | int k => exact base _
 | bool => exact base _
 | str => exact base _
 | unit => exact base _
 | slice e _ => exact base _
 | arr n e _ => exact base _
section
variable {P : Program} {c : Ctx} {ι : Gh} {w : World} {M : Store} {act : Act} {o : Oper} {cfg : Cfg}
theorem Bd (tab : aH P cfg) {T f off ft : Nat} (h : ng cfg T f = some (off, ft)) : ∃ fs fd, P.underlying T = some (.struct fs) /\ fs[f]? = some fd /\ fd.offset = off /\ fd.type = ft := by
 unfold ng at h
 split at h
 ·rename_i l _ _ _ hT
  obtain ⟨d, i, hd, _, _, _, h3, _⟩ := (tab T _ hT).ex
  obtain ⟨fs, rfl, hl⟩ := h3
  rw [<- hl, List.getElem?_map] at h
  cases hf : fs.toList[f]? with
  | none => rw [hf] at h; cases h
  | some fd =>
    rw [hf] at h
    simp only [Option.map_some, Option.some.injEq, Prod.mk.injEq] at h
    exact ⟨fs, fd, hd, by rw [<- Array.getElem?_toList]; exact hf, h.1, h.2⟩
 ·cases h
theorem L6 (tab : aH P cfg) {T : Nat} (h : sized cfg T = true) : ∃ ti, cfg.ti T = some ti /\ 0 < ti.size /\ ∀ w, (sizeOf T).run P w = .ok ti.size w := by
 unfold sized at h
 split at h
 ·rename_i ti hT
  exact ⟨ti, hT, by simpa using h, dN (tab T ti hT)⟩
 ·cases h
theorem jZ (tab : aH P cfg) {T f off ft : Nat} {x : Operand} (ho : o.op = .fieldAddr T x f) (hf : ng cfg T f = some (off, ft)) (hs : sized cfg ft = true) {a : Addr}
 (hx : act.eval x = .pointer (some a)) : (execOp act.eval o).run P w = .ok (.value (.pointer (some (a.add off)))) w := by
 obtain ⟨fs, fd, h1, h2, h3, h4⟩ := Bd tab hf
 obtain ⟨ti, h5, h6, h7⟩ := L6 tab hs
 have h8 : ti.size ≠ 0 := by omega
 simp [execOp, ho, hx, Instr.fieldAt, run_underlying h1, h2, Instr.sureAddr, fieldPlace, h4, h7, h8, h3]
theorem rM {id : Nat} (h : dF M id = true) : M.get id ≠ some .dead /\ M.get id ≠ none := by
 unfold dF at h
 split at h <;> first
  | (rename_i hm; rw [hm]; exact ⟨fun hh => (by cases hh), fun hh => (by cases hh)⟩)
  | cases h
theorem Ew (tab : aH P cfg) (I : Inv c ι w M) {T f off ft : Nat} {x : Operand} (ho : o.op = .fieldAddr T x f) (hf : ng cfg T f = some (off, ft)) {l r : Leaf}
 (hx : aj c ι w M l [act.eval x]) (he : lM cfg M off ft l = some r) : au P c ι w M act o (.one r) [] := by
 have hadd : ∀ b o' n', (⟨b, o', none⟩ : Addr).add n' = ⟨b, o' + n', none⟩ := fun b o' n' => by unfold Addr.add; split <;> simp_all
 unfold lM at he
 cases hs : sized cfg ft with
 | false => rw [hs] at he; cases he
 | true =>
   rw [hs] at he
   simp only [cond_true] at he
   cases l with
   | ptr id o' =>
     simp only at he
     cases ha : dF M id with
     | false => rw [ha] at he; cases he
     | true =>
       rw [ha] at he; cases he
       obtain ⟨a1, a2⟩ := rM ha
       simp only [aj] at hx
       cases hm : M.get id with
       | none => exact absurd hm a2
       | some en =>
         rw [hm] at hx a1
         cases en <;> simp only at hx <;> first | exact absurd rfl a1 | skip
         obtain ⟨b, e1, e2⟩ := hx
         refine au.pure I (jZ tab ho hf hs (by simpa using e2)) (ak.one ?_)
         simp only [aj, hm]
         exact ⟨b, e1, by rw [hadd]⟩
   | ig id i o' =>
     simp only at he
     cases ha : dF M id with
     | false => rw [ha] at he; cases he
     | true =>
       rw [ha] at he; cases he
       obtain ⟨a1, a2⟩ := rM ha
       simp only [aj] at hx
       cases hm : M.get id with
       | none => exact absurd hm a2
       | some en =>
         rw [hm] at hx a1
         cases en <;> simp only at hx <;> first | exact absurd rfl a1 | skip
         all_goals
          obtain ⟨ad, e1, e2⟩ := hx
          refine au.pure I (jZ tab ho hf hs (by simpa using e2)) (ak.one ?_)
          simp only [aj, hm]
          exact ⟨ad, e1, by rw [Addr.add_add, Nat.add_assoc]⟩
   | iq id ao i o' =>
     simp only at he
     cases ha : dF M id with
     | false => rw [ha] at he; cases he
     | true =>
       rw [ha] at he; cases he
       obtain ⟨a1, a2⟩ := rM ha
       simp only [aj] at hx
       cases hm : M.get id with
       | none => exact absurd hm a2
       | some en =>
         rw [hm] at hx a1
         cases en <;> simp only at hx <;> first | exact absurd rfl a1 | skip
         rename_i ls
         cases hla : lat ls ao with
         | none => rw [hla] at hx; exact hx.elim
         | some q =>
           rw [hla] at hx
           cases q <;> simp only at hx
           obtain ⟨b, e1, e2⟩ := hx
           refine au.pure I (jZ tab ho hf hs (by simpa using e2)) (ak.one ?_)
           simp only [aj, hm, hla]
           exact ⟨b, e1, by rw [hadd]; simp only [Nat.add_assoc]⟩
   | cst fr t y =>
     simp only at he
     split at he
     ·rename_i tf hft
      split at he
      ·rename_i z hz
       cases he
       obtain ⟨ad, pcs, e1, e2, e3, e4⟩ := hx
       obtain ⟨k1, k2, k3⟩ := Ny _ _ _ _ _ _ hz e3 e4
       refine au.pure I (jZ tab ho hf hs (by simpa using e1)) (ak.one ?_)
       exact ⟨_, _, rfl, e2.add _ _, k1, k2⟩
      ·cases he
     ·cases he
   | _ => simp only at he; cases he
theorem fQ {T : Nat} {x : Operand} {lo hi : Option Operand} (ho : o.op = .slice T x lo hi none) {v : Value} (hr : (Instr.sliceAt T (act.eval x) (lo.map act.eval) (hi.map act.eval) none).run P w = .ok v w) :
 (execOp act.eval o).run P w = .ok (.value v) w := by
 simp [execOp, ho, hr]
def dX (act : Act) (x : Option Operand) (n : Option Int) : Prop := match x, n with
 | none, none => True
 | some y, some i => ∃ k, act.eval y = .int k i
 | _, _ => False
theorem uS {sl : Bool} {len cap : Nat} {lo hi : Option Operand} {a b : Option Int} (ha : dX act lo a) (hb : dX act hi b) (h0 : 0 <= a.getD 0) (h1 : a.getD 0 <= b.getD (len : Int)) (h2 : b.getD (len : Int) <= (cap : Int)) (w : World) :
 (Instr.sliceBounds sl len cap (lo.map act.eval) (hi.map act.eval) none).run P w = .ok ((a.getD 0).toNat, (b.getD (len : Int)).toNat, cap) w := by
 cases lo <;> cases a <;> simp only [dX] at ha <;> cases hi <;> cases b <;> simp only [dX] at hb
 ·simp [Instr.sliceBounds]
 ·obtain ⟨k, hk⟩ := hb
  simp only [Option.getD_some, Option.getD_none] at h1 h2 ⊢
  simp [Instr.sliceBounds, hk, Instr.sliceBound, asIntOf, h1, h2]
 ·obtain ⟨k, hk⟩ := ha
  simp only [Option.getD_some, Option.getD_none] at h0 h1 h2 ⊢
  simp [Instr.sliceBounds, hk, Instr.sliceBound, asIntOf, h0, h1]
 ·obtain ⟨k, hk⟩ := ha
  obtain ⟨k', hk'⟩ := hb
  simp only [Option.getD_some] at h0 h1 h2 ⊢
  have h3 := Int.le_trans h0 h1
  have h4 := Int.toNat_of_nonneg h3
  simp [Instr.sliceBounds, hk, hk', Instr.sliceBound, asIntOf, h0, h1, h2, h3, h4]
theorem gQ {T e n : Nat} (hu : P.underlying T = some (.slice e)) (hs : ∀ w, (sizeOf e).run P w = .ok n w) {lo hi : Option Operand} {a b : Option Int} {bs' : Option Addr} {len cap : Nat} (ha : dX act lo a) (hb : dX act hi b)
 (h0 : 0 <= a.getD 0) (h1 : a.getD 0 <= b.getD (len : Int)) (h2 : b.getD (len : Int) <= (cap : Int)) (w : World) :
 (Instr.sliceAt T (.slice bs' len cap) (lo.map act.eval) (hi.map act.eval) none).run P w =
   .ok (.slice (if cap = (a.getD 0).toNat then bs' else bs'.map (·.add ((a.getD 0).toNat * n))) ((b.getD (len : Int)).toNat - (a.getD 0).toNat) (cap - (a.getD 0).toNat)) w := by
 simp [Instr.sliceAt, Instr.slice, run_underlying hu, uS ha hb h0 h1 h2, hs]
theorem FD {T e m n : Nat} (hu : P.underlying T = some (.array m e)) (hs : ∀ w, (sizeOf e).run P w = .ok n w) {lo hi : Option Operand} {a b : Option Int} {ad : Addr} (ha : dX act lo a) (hb : dX act hi b)
 (h0 : 0 <= a.getD 0) (h1 : a.getD 0 <= b.getD (m : Int)) (h2 : b.getD (m : Int) <= (m : Int)) (w : World) :
 (Instr.sliceAt T (.pointer (some ad)) (lo.map act.eval) (hi.map act.eval) none).run P w =
   .ok (.slice (some (if m = (a.getD 0).toNat then ad else ad.add ((a.getD 0).toNat * n))) ((b.getD (m : Int)).toNat - (a.getD 0).toNat) (m - (a.getD 0).toNat)) w := by
 simp [Instr.sliceAt, run_underlying hu, uS ha hb h0 h1 h2, hs, Instr.sureAddr]
theorem Ey {T : Nat} (hu : P.underlying T = some .string) {lo hi : Option Operand} {a b : Option Int} {s : ByteArray} (ha : dX act lo a) (hb : dX act hi b)
 (h0 : 0 <= a.getD 0) (h1 : a.getD 0 <= b.getD (s.size : Int)) (h2 : b.getD (s.size : Int) <= (s.size : Int)) (w : World) :
 (Instr.sliceAt T (.string s) (lo.map act.eval) (hi.map act.eval) none).run P w = .ok (.string (s.extract (a.getD 0).toNat (b.getD (s.size : Int)).toNat)) w := by
 simp [Instr.sliceAt, Instr.slice, run_underlying hu, uS ha hb h0 h1 h2]
theorem Ez (tab : aH P cfg) (I : Inv c ι w M) {T : Nat} {x : Operand} {lo hi : Option Operand} (ho : o.op = .slice T x lo hi none) {l r : Leaf} {a b : Option Int} (hx : aj c ι w M l [act.eval x])
 (ha : dX act lo a) (hb : dX act hi b) {ps : List Prop} (he : lJ cfg M T l a b = some (ps, r)) (hp : ∀ p ∈ ps, p) : au P c ι w M act o (.one r) [] := by
 have hget : ∀ {n : Int}, ps = [0 <= a.getD 0, a.getD 0 <= b.getD n, b.getD n <= n] -> 0 <= a.getD 0 /\ a.getD 0 <= b.getD n /\ b.getD n <= n := by
  intro n h; subst h; exact ⟨hp _ (by simp), hp _ (by simp), hp _ (by simp)⟩
 unfold lJ at he
 cases l with
 | str l =>
   simp only at he
   cases hs : isStr cfg T with
   | false => rw [hs] at he; cases he
   | true =>
     rw [hs] at he; simp only [cond_true, Option.some.injEq, Prod.mk.injEq] at he
     obtain ⟨hps, rfl⟩ := he
     obtain ⟨h0, h1, h2⟩ := hget hps.symm
     have e1 : act.eval x = .string (bs l) := by simpa using hx.1
     have hr := Ey (P := P) (s := bs l) (qF tab hs) ha hb h0 (by rw [gy]; exact h1) (by rw [gy]; exact h2) w
     refine au.pure I (fQ ho (by rw [e1]; exact hr)) (ak.one ⟨by rw [Jp, gy], fun z hz => hx.2.1 z (List.mem_of_mem_drop (List.mem_of_mem_take hz)), ?_⟩)
     have := hx.2.2
     rw [List.length_take, List.length_drop]; omega
 | psl fr t l =>
   simp only at he
   cases hs : dU cfg T t.sz with
   | false => rw [hs] at he; cases he
   | true =>
     rw [hs] at he; simp only [cond_true, Option.some.injEq, Prod.mk.injEq] at he
     obtain ⟨hps, rfl⟩ := he
     obtain ⟨h0, h1, h2⟩ := hget hps.symm
     obtain ⟨e, hu, hz⟩ := gG tab hs
     obtain ⟨q1, q2⟩ := hx
     obtain ⟨bs', n, cp, e1, e2, e3, e4⟩ := q1
     have e1' : act.eval x = .slice bs' n cp := by simpa using e1
     subst e2
     have hr := gQ hu hz (bs' := bs') (len := l.length) (cap := cp) ha hb h0 h1 (by omega) w
     refine au.pure I (fQ ho (by rw [e1']; exact hr)) (ak.one ⟨?_, q2.part _ _⟩)
     refine ah.part (b := bs') ⟨bs', _, cp, rfl, rfl, e3, e4⟩ (by omega) (fun hlt => ?_)
     rw [if_neg (by omega)]
 | own id =>
   simp only [aj] at hx
   simp only at he
   cases hm : M.get id with
   | none => rw [hm] at hx; exact hx.elim
   | some en =>
     rw [hm] at he hx
     cases en with
     | row e0 t fr ap l =>
       simp only at hx
       obtain ⟨ax, hx1, hx2⟩ := hx
       have e1 : act.eval x = .slice ax l.length (ι.cap id) := by simpa using hx1
       obtain ⟨xs, q1, q2, q3⟩ := I.ents id _ hm
       have hnc : l.length <= ι.cap id := by
        rcases q3.2 with ⟨_, _, hn, _⟩ | ⟨_, _, _, _, _, _, _, _, hn, _⟩ <;> omega
       have main : dU cfg T t.sz = true -> ps = [0 <= a.getD 0, a.getD 0 <= b.getD (l.length : Int), b.getD (l.length : Int) <= (l.length : Int)] -> r = .sl id (a.getD 0).toNat ((b.getD (l.length : Int)).toNat - (a.getD 0).toNat) -> au P c ι w M act o (.one r) [] := by
        intro hs hps hr'
        subst hr'
        obtain ⟨h0, h1, h2⟩ := hget hps
        obtain ⟨e, hu, hz⟩ := gG tab hs
        have hr := gQ hu hz (bs' := ax) (len := l.length) (cap := ι.cap id) ha hb h0 h1 (by omega) w
        refine au.pure I (fQ ho (by rw [e1]; exact hr)) (ak.one ?_)
        simp only [aj, hm]
        refine ⟨_, rfl, by omega, fun hlt => ?_⟩
        rw [if_neg (by omega), hx2 (by omega)]
       have whole : dU cfg T t.sz = true -> a = none -> b = none -> r = .own id -> au P c ι w M act o (.one r) [] := by
        intro hs ha' hb' hr'
        subst hr' ha' hb'
        obtain ⟨e, hu, hz⟩ := gG tab hs
        have hr := gQ hu hz (bs' := ax) (len := l.length) (cap := ι.cap id) ha hb (by simp) (by simp) (by simp; exact hnc) w
        refine au.pure I (fQ ho (by rw [e1]; exact hr)) (ak.one ?_)
        simp only [aj, hm]
        simp only [Option.getD_none, Int.toNat_zero, Nat.zero_mul, Nat.sub_zero, Int.toNat_natCast]
        refine ⟨_, rfl, fun h0 => ?_⟩
        rw [if_neg (by omega), hx2 h0]
        cases ι.base id <;> simp [Addr.add]
       cases hs : dU cfg T t.sz with
       | false => cases a <;> cases b <;> simp [hs] at he
       | true =>
         cases a <;> cases b <;> simp only [hs, cond_true, Option.some.injEq, Prod.mk.injEq] at he
         ·exact whole hs rfl rfl he.2.symm
         ·exact main hs he.1.symm he.2.symm
         ·exact main hs he.1.symm he.2.symm
         ·exact main hs he.1.symm he.2.symm
     | frz t fr l =>
       simp only at hx
       obtain ⟨ax, hx1, hx2⟩ := hx
       have e1 : act.eval x = .slice ax l.length (ι.cap id) := by simpa using hx1
       obtain ⟨q1, q2⟩ := I.ents id _ hm
       have hnc : l.length <= ι.cap id := by
        obtain ⟨_, _, _, z1, z2, z3, _⟩ := q1
        simp at z1; omega
       have main : dU cfg T t.sz = true -> ps = [0 <= a.getD 0, a.getD 0 <= b.getD (l.length : Int), b.getD (l.length : Int) <= (l.length : Int)] -> r = .psl fr t ((l.drop (a.getD 0).toNat).take ((b.getD (l.length : Int)).toNat - (a.getD 0).toNat)) -> au P c ι w M act o (.one r) [] := by
        intro hs hps hr'
        subst hr'
        obtain ⟨h0, h1, h2⟩ := hget hps
        obtain ⟨e, hu, hz⟩ := gG tab hs
        have hr := gQ hu hz (bs' := ax) (len := l.length) (cap := ι.cap id) ha hb h0 h1 (by omega) w
        refine au.pure I (fQ ho (by rw [e1]; exact hr)) (ak.one ⟨?_, q2.part _ _⟩)
        exact q1.part (by omega) (fun hlt => by rw [if_neg (by omega), hx2 (by omega)])
       cases hs : dU cfg T t.sz with
       | false => cases a <;> cases b <;> simp [hs] at he
       | true =>
         cases a <;> cases b <;> simp only [hs, cond_true, Option.some.injEq, Prod.mk.injEq] at he <;> exact main hs he.1.symm he.2.symm
     | obj ls => simp only at hx
     | hid q => simp only at hx
     | dead => cases a <;> cases b <;> simp at he
 | sl id lo' n =>
   simp only [aj] at hx
   simp only at he
   cases hm : M.get id with
   | none => rw [hm] at hx; exact hx.elim
   | some en =>
     rw [hm] at he hx
     cases en <;> simp only at he hx <;> first | cases he | skip
     rename_i e0 t fr ap l
     cases hs : dU cfg T t.sz with
     | false => rw [hs] at he; cases he
     | true =>
       rw [hs] at he; simp only [cond_true, Option.some.injEq, Prod.mk.injEq] at he
       obtain ⟨hps, rfl⟩ := he
       obtain ⟨h0, h1, h2⟩ := hget hps.symm
       obtain ⟨e, hu, hz⟩ := gG tab hs
       obtain ⟨bs', e1, e2, e3⟩ := hx
       have e1' : act.eval x = .slice bs' n (ι.cap id - lo') := by simpa using e1
       obtain ⟨xs, q1, q2, q3⟩ := I.ents id _ hm
       have hnc : l.length <= ι.cap id := by
        rcases q3.2 with ⟨_, _, hn, _⟩ | ⟨_, _, _, _, _, _, _, _, hn, _⟩ <;> omega
       have hr := gQ hu hz (bs' := bs') (len := n) (cap := ι.cap id - lo') ha hb h0 h1 (by omega) w
       refine au.pure I (fQ ho (by rw [e1']; exact hr)) (ak.one ?_)
       simp only [aj, hm]
       refine ⟨_, by rw [<- Nat.sub_sub], by omega, fun hlt => ?_⟩
       rw [if_neg (by omega), e3 (by omega), Option.map_map]
       congr 1
       funext z
       simp only [Function.comp, Addr.add_add, Nat.add_mul]
 | sf id lo' n =>
   simp only [aj] at hx
   simp only at he
   cases hm : M.get id with
   | none => rw [hm] at hx; exact hx.elim
   | some en =>
     rw [hm] at he hx
     cases en <;> simp only at he hx <;> first | cases he | skip
     rename_i e0 t fr ap l
     cases hs : dU cfg T t.sz with
     | false => rw [hs] at he; cases he
     | true =>
       rw [hs] at he; simp only [cond_true, Option.some.injEq, Prod.mk.injEq] at he
       obtain ⟨hps, rfl⟩ := he
       subst hps
       have h0 := hp (0 <= a.getD 0) (by simp)
       have h1 := hp (a.getD 0 <= b.getD (n : Int)) (by simp)
       have h2 := hp (b.getD (n : Int) <= ((l.length - lo' : Nat) : Int)) (by simp)
       obtain ⟨e, hu, hz⟩ := gG tab hs
       obtain ⟨bs', e1, ⟨e2, e2'⟩, e3⟩ := hx
       have e1' : act.eval x = .slice bs' n (ι.cap id - lo') := by simpa using e1
       have hr := gQ hu hz (bs' := bs') (len := n) (cap := ι.cap id - lo') ha hb h0 h1 (by omega) w
       refine au.pure I (fQ ho (by rw [e1']; exact hr)) (ak.one ?_)
       simp only [aj, hm]
       refine ⟨_, by rw [<- Nat.sub_sub], ⟨by omega, e2'⟩, fun hlt => ?_⟩
       rw [if_neg (by omega), e3 (by omega), Option.map_map]
       congr 1
       funext z
       simp only [Function.comp, Addr.add_add, Nat.add_mul]
 | cZ =>
   simp only at he
   cases hs : EP cfg T with
   | false => rw [hs] at he; cases he
   | true =>
     rw [hs] at he; simp only [cond_true, Option.some.injEq, Prod.mk.injEq] at he
     obtain ⟨hps, rfl⟩ := he
     subst hps
     have h0 := hp (0 <= a.getD 0) (by simp)
     have h1 := hp (a.getD 0 <= b.getD 0) (by simp)
     have h2 := hp (b.getD 0 <= 0) (by simp)
     obtain ⟨e, n, hu, hz⟩ := LZ tab hs
     have e1 : act.eval x = .slice none 0 0 := by simpa [aj] using hx
     have hr := gQ hu hz (bs' := none) (len := 0) (cap := 0) ha hb h0 (by simpa using h1) (by simpa using h2) w
     have z1 : (b.getD ((0 : Nat) : Int)).toNat = 0 := by have : b.getD ((0 : Nat) : Int) = b.getD 0 := rfl; rw [this]; omega
     refine au.pure I (fQ ho (by rw [e1]; exact hr)) (ak.one ?_)
     simp only [aj, z1, Nat.zero_sub, Option.map_none, ite_self]
 | ptr id off =>
   simp only [aj] at hx
   simp only at he
   cases hm : M.get id with
   | none => rw [hm] at hx; exact hx.elim
   | some en =>
     rw [hm] at he hx
     cases en <;> simp only at he hx <;> first | cases he | skip
     rename_i ls
     cases hla : lat ls off with
     | none => rw [hla] at he; cases he
     | some q =>
       rw [hla] at he
       cases q <;> simp only at he <;> first | cases he | skip
       rename_i N fr t l
       cases hs : wJ cfg T N t.sz with
       | false => rw [hs] at he; cases he
       | true =>
         rw [hs] at he; simp only [cond_true, Option.some.injEq, Prod.mk.injEq] at he
         obtain ⟨hps, rfl⟩ := he
         obtain ⟨h0, h1, h2⟩ := hget hps.symm
         obtain ⟨e, hu, hz⟩ := Di tab hs
         obtain ⟨b', e1, e2⟩ := hx
         have e2' : act.eval x = .pointer (some ⟨b', off, none⟩) := by simpa using e2
         have hr := FD hu hz (ad := ⟨b', off, none⟩) ha hb h0 h1 h2 w
         refine au.pure I (fQ ho (by rw [e2']; exact hr)) (ak.one ?_)
         simp only [aj, hm, hla]
         refine ⟨b', _, e1, by omega, rfl, fun hlt => ?_⟩
         rw [if_neg (by omega)]
         unfold Addr.add; split <;> simp_all
 | _ => simp only at he; cases he
end
end Go.Vc
set_option linter.unusedVariables false
set_option linter.unusedSimpArgs false
namespace Go.Vc
theorem xq : ∀ (l : List Value) (k off : Nat) (cells : Array Value), off + k + l.length <= cells.size ->
 ((l.zipIdx k).foldl (fun cs x => cs.setIfInBounds (off + x.2) x.1) cells).toList = splice cells.toList (off + k) l
 | [], k, off, cells, h => by simp [splice]
 | v :: l, k, off, cells, h => by
   simp only [List.length_cons] at h
   rw [List.zipIdx_cons, List.foldl_cons]
   rw [xq l (k + 1) off _ (by rw [Array.size_setIfInBounds]; omega)]
   have hs : cells.toList.length = cells.size := Array.length_toList
   apply List.ext_getElem?
   intro j
   rw [Array.toList_setIfInBounds, fP _ _ l (by rw [List.length_set]; omega), fP _ _ (v :: l) (by rw [List.length_cons]; omega), List.getElem?_set]
   simp only [List.length_cons]
   by_cases c1 : j < off + k
   ·rw [if_pos (show j < off + (k + 1) by omega), if_pos c1, if_neg (show ¬ off + k = j by omega)]
   ·rw [if_neg c1]
    by_cases c2 : j = off + k
    ·subst c2
     rw [if_pos (show off + k < off + (k + 1) by omega), if_pos rfl, if_pos (by omega), if_pos (by omega), Nat.sub_self]
     rfl
    ·rw [if_neg (show ¬ j < off + (k + 1) by omega)]
     by_cases c3 : j < off + k + (l.length + 1)
     ·rw [if_pos (show j < off + (k + 1) + l.length by omega), if_pos c3]
      rw [show j - (off + k) = (j - (off + (k + 1))) + 1 from by omega, List.getElem?_cons_succ]
     ·rw [if_neg (show ¬ j < off + (k + 1) + l.length by omega), if_neg c3, if_neg (show ¬ off + k = j by omega)]
theorem DW {place : Nat -> Option (Nat × Nat)} {cells : Array Value} {i off size : Nat} {v : Value} {rest : List (Nat × Value)} (hp : place i = some (off, size)) (hs : v.cells.size = size) (hf : off + size <= cells.size) :
 Instr.fill place cells ((i, v) :: rest) = Instr.fill place (splice cells.toList off v.cells.toList).toArray rest := by
 have e : (v.cells.zipIdx.foldl (fun cs x => cs.setIfInBounds (off + x.2) x.1) cells) = (splice cells.toList off v.cells.toList).toArray := by
  apply Array.ext'
  have h1 := xq v.cells.toList 0 off cells (by rw [Array.length_toList, hs]; omega)
  rw [Nat.add_zero] at h1
  rw [List.toList_toArray, <- h1, <- Array.foldl_toList]
  simp
 conv => lhs; unfold Instr.fill
 simp only [hp]
 rw [if_neg (by simp [hs]; omega)]
 rw [<- e]
section
variable {P : Program} {c : Ctx} {ι : Gh} {w : World} {M : Store} {act : Act} {o : Oper} {cfg : Cfg}
def xu (c : Ctx) (ι : Gh) (w : World) (M : Store) (n : Nat) (t : Ty) (fr : Bool) (l : List t.den) (fz : List (Nat × Entry)) (cells : List Value) : Prop :=
 Frz M fz /\ (∀ y ∈ l, Valid t y) /\ ∀ S' : Nat -> Prop, (∀ b, ι.S b -> S' b) -> (∀ id e e0 k, (id, e) ∈ fz -> M.get id = some e0 -> e0.live = true -> ι.blk id = some k -> S' k) ->
  ah (fun b => S' b /\ (fr = true -> c.lb <= b)) w (.arr n t) l cells
theorem oW {s : St} {cs : List (Nat × Bool)} (I : Inv c ι w s.M) (hop : ∀ x v, opv cfg s cs x = some v -> aI c ι w s.M v (act.eval x)) {n : Nat} {t : Ty} :
 ∀ (ps : List (Nat × Operand)) (fr : Bool) (l : List t.den) (fz : List (Nat × Entry)) (cells : Array Value) {fr' : Bool} {l' : List t.den} {fz' : List (Nat × Entry)},
  iy cfg s cs n t ps fr l fz = some (fr', l', fz') -> xu c ι w s.M n t fr l fz cells.toList ->
  ∃ cells', Instr.fill (fun i => some (i * t.sz, t.sz)) cells (ps.map fun x => (x.1, act.eval x.2)) = some cells' /\ xu c ι w s.M n t fr' l' fz' cells'.toList
 | [], fr, l, fz, cells, fr', l', fz', h, hE => by cases h; exact ⟨cells, rfl, hE⟩
 | (i, x) :: r, fr, l, fz, cells, fr', l', fz', h, hE => by
   unfold iy at h
   cases hv : opv cfg s cs x with
   | none => rw [hv] at h; cases h
   | some v =>
     rw [hv] at h
     simp only at h
     cases him : aG s.M t v.ls with
     | none => rw [him] at h; cases h
     | some im =>
       rw [him] at h
       simp only at h
       cases hr : im.rest with
       | cons _ _ => rw [hr] at h; cases h
       | nil =>
         rw [hr] at h
         simp only at h
         cases hb : Nat.blt i n with
         | false => rw [hb] at h; cases h
         | true =>
           rw [hb] at h
           simp only [cond_true] at h
           have hi : i < n := by simpa using hb
           obtain ⟨ds, h1, h2⟩ := (hop x v hv).cells
           obtain ⟨f1, c1, c2, g1, g2, g3, g4⟩ := fA I t him h1
           rw [hr] at g2
           rw [show c2 = [] from g2, List.append_nil] at g1
           obtain ⟨e1, e2, e3⟩ := hE
           have hlen : cells.size = n * t.sz := by
            have := ah.len _ _ _ (e3 (fun _ => True) (fun _ _ => trivial) (fun _ _ _ _ _ _ _ _ => trivial))
            simpa [Ty.sz] using this
           have hc1 : c1.length = t.sz := ah.len _ _ _ (g4 (fun _ => True) (fun _ _ => trivial) (fun _ _ _ _ _ _ _ _ => trivial))
           have hle : (i + 1) * t.sz <= n * t.sz := Nat.mul_le_mul_right _ hi
           rw [Nat.succ_mul] at hle
           have hvs : (act.eval x).cells.size = t.sz := by rw [<- Array.length_toList, h2, g1, hc1]
           rw [List.map_cons, DW (off := i * t.sz) (size := t.sz) rfl hvs (by omega), h2]
           refine oW I hop r _ _ _ _ h ⟨fun id e hx => ?_, Valid.set e2 i g3, fun S' hS hk => ?_⟩
           ·rcases List.mem_append.1 hx with hx | hx
            ·exact e1 id e hx
            ·exact f1 id e hx
           ·rw [List.toList_toArray, g1]
            have q1 := e3 S' hS (fun id e e0 k hx => hk id e e0 k (List.mem_append.2 (.inl hx)))
            have q2 := g4 S' hS (fun id e e0 k hx => hk id e e0 k (List.mem_append.2 (.inr hx)))
            refine ah.set ?_ i hi ?_
            ·exact ah.mono (fun b hb => ⟨hb.1, fun hf => hb.2 (by simp only [Bool.and_eq_true] at hf; exact hf.1)⟩) (fun _ _ => rfl) _ _ _ q1
            ·exact ah.mono (fun b hb => ⟨hb.1, fun hf => hb.2 (by simp only [Bool.and_eq_true] at hf; exact hf.2)⟩) (fun _ _ => rfl) _ _ _ q2
theorem xu.zero (n : Nat) (t : Ty) : xu c ι w M n t true (List.replicate n t.dft) [] (List.replicate n (aQ t)).flatten :=
 ⟨fun _ _ h => (by cases h), fun y hy => (by rw [List.eq_of_mem_replicate hy]; exact dZ t), fun S' _ _ => jg _ w (.arr n t)⟩
theorem xu.frozen {n : Nat} {t : Ty} {fr : Bool} {l : List t.den} {fz : List (Nat × Entry)} {cells : List Value} (I : Inv c ι w M) (h : xu c ι w M n t fr l fz cells) :
 ∃ ι', Inv c ι' w (M.aK fz) /\ Ext ι w M ι' w (M.aK fz) /\ ι'.base = ι.base /\ ι'.cap = ι.cap /\ ah (SF c ι' fr) w (.arr n t) l cells /\ (∀ y ∈ l, Valid t y) := by
 obtain ⟨hz, h1, h2⟩ := h
 obtain ⟨ι', I', x, hS, hb, hc⟩ := Inv.rG fz I hz
 exact ⟨ι', I', x, hb, hc, h2 ι'.S x.S (fun id e e0 k hm he hl hk => (hS k).2 (.inr ⟨id, e, e0, hm, he, hl, hk⟩)), h1⟩
theorem lT {α : Type} (l : List α) (hl : 0 < l.length) : ∀ (n i : Nat), i < n * l.length -> (List.replicate n l).flatten[i]? = l[i % l.length]?
 | 0, i, h => by simp at h
 | n + 1, i, h => by
   rw [List.replicate_succ, List.flatten_cons]
   by_cases hi : i < l.length
   ·rw [List.getElem?_append_left hi, Nat.mod_eq_of_lt hi]
   ·rw [List.getElem?_append_right (by omega), lT l hl n _ (by rw [Nat.succ_mul] at h; omega), <- Nat.mod_eq_sub_mod (by omega)]
theorem xw (z : Array Value) (n : Nat) (h0 : 0 < z.size) : (Array.range (n * z.size)).map (z[· % z.size]!) = (List.replicate n z.toList).flatten.toArray := by
 apply Array.ext'
 rw [List.toList_toArray]
 apply List.ext_getElem?
 intro i
 have hlen : z.toList.length = z.size := Array.length_toList
 by_cases hi : i < n * z.size
 ·rw [lT z.toList (by omega) n i (by rw [hlen]; exact hi), hlen]
  have hm : i % z.size < z.size := Nat.mod_lt _ h0
  simp [hi, hm]
 ·have hfl : (List.replicate n z.toList).flatten.length = n * z.size := by
   rw [bD z.size _ (fun ec hec => by rw [List.eq_of_mem_replicate hec, hlen]), List.length_replicate]
  have h1 : ((Array.range (n * z.size)).map (z[· % z.size]!)).toList[i]? = none := List.getElem?_eq_none (by simp; omega)
  rw [h1, List.getElem?_eq_none (by rw [hfl]; omega)]
theorem Bf {T e n : Nat} {ps : Array (Nat × Operand)} (ho : o.op = .buildSlice T n ps) {i : TypeInfo} {z : Value} {cells : Array Value} (hu : P.underlying T = some (.slice e)) (hi : P.info? e = some i) (hz : i.zero = some z)
 (hs : z.cells.size = i.size) (hlim : n * i.size <= 2 ^ 24) (hf : Instr.fill (fun j => some (j * i.size, i.size)) (List.replicate n z.cells.toList).flatten.toArray (ps.toList.map fun x => (x.1, act.eval x.2)) = some cells) :
 (execOp act.eval o).run P w = .ok (.value (.slice (some ⟨w.heap.size, 0, none⟩) n n)) (w.alloc (.cells cells e)) := by
 have hm : (ps.map fun x => (x.1, act.eval x.2)).toList = ps.toList.map fun x => (x.1, act.eval x.2) := by simp
 have hl' : ¬ n * i.size > 2 ^ 24 := by omega
 by_cases h0 : n * i.size = 0
 ·have hcell : (List.replicate n z.cells.toList).flatten.toArray = (#[] : Array Value) := by
   have : (List.replicate n z.cells.toList).flatten.length = 0 := by
    rw [bD i.size _ (fun ec hec => by rw [List.eq_of_mem_replicate hec, Array.length_toList, hs]), List.length_replicate, h0]
   rw [List.eq_nil_of_length_eq_zero this]
  rw [hcell] at hf
  have hr0 : ∀ f : Nat -> Value, (Array.range 0).map f = #[] := fun f => by simp
  simp [execOp, ho, Instr.buildSlice, run_underlying hu, sizeOf, typeInfo, hi, h0, hr0, hf, newRow]
 ·have hz0 : 0 < z.cells.size := by
   rw [hs]
   rcases Nat.eq_zero_or_pos i.size with h | h
   ·rw [h] at h0; simp at h0
   ·exact h
  rw [<- xw z.cells n hz0, hs] at hf
  simp [execOp, ho, Instr.buildSlice, run_underlying hu, sizeOf, typeInfo, hi, h0, hl', zeroValue, hz, hf, hs, newRow]
theorem L8 {T : Nat} {x : Operand} (ho : o.op = .box T x) : (execOp act.eval o).run P w = .ok (.value (.pointer (some ⟨w.heap.size, 0, none⟩))) (w.alloc (.cells (act.eval x).cells T)) := by
 simp [execOp, ho, Instr.box, newVar, newRow]
theorem Inv.newObj (I : Inv c ι w M) {nid : Nat} (hid : M.get nid = none) {ls : List Leaf} {cs : List Value} (hr : aF c ι w M ls cs) (T : Nat) (hT : bF T ls) :
 ∃ ι', Inv c ι' (w.alloc (.cells cs.toArray T)) (M.set nid (.obj ls)) /\ Ext ι w M ι' (w.alloc (.cells cs.toArray T)) (M.set nid (.obj ls)) /\ ι'.base nid = some ⟨w.heap.size, 0, none⟩ := by
 have x := Ext.adopt I hid (Turn.alloc w (.cells cs.toArray T) (fun _ => False)) (fun _ h => h.elim) (some ⟨w.heap.size, 0, none⟩) 0 (.obj ls)
 refine ⟨ι.put nid (some ⟨w.heap.size, 0, none⟩) 0, Inv.adopt I hid (Turn.alloc w _ (fun _ => False)) (fun _ h => h.elim) _ _ _ (fun a ha _ => ?_) ?_, x, by simp [Gh.put]⟩
 ·cases ha; exact .inr (Nat.le_refl _)
 ·exact ⟨w.heap.size, cs, T, by simp [Gh.put], heap_alloc_new w _, hr.mono x, hT⟩
theorem H9 (I : Inv c ι w M) {nid T : Nat} (hid : M.get nid = none) {x : Operand} (ho : o.op = .box T x) {v : V} (hT : l9 T v.ls = true) (hx : aI c ι w M v (act.eval x)) :
 au P c ι w M act o (.one (.ptr nid 0)) [(nid, .obj v.ls)] := by
 obtain ⟨ds, h1, h2⟩ := hx.cells
 obtain ⟨ι', I', x', hb⟩ := I.newObj hid h1 T (zV hT)
 have e : ds.toArray = (act.eval x).cells := by rw [<- h2]
 rw [e] at I' x'
 refine au.of_run (ι' := ι') (L8 ho) I' x' (ak.one ?_)
 show aj c ι' _ (M.set nid (.obj v.ls)) (.ptr nid 0) _
 simp only [aj, Store.get_set_same]
 exact ⟨_, hb, rfl⟩
theorem jI {T : Nat} {ti : TI} {t : Ty} (ht : kJ P T ti) (hty : ti.ty = some t) : ∃ z, (∀ w, (zeroValue T).run P w = .ok z w) /\ z.cells.toList = aQ t /\ ∃ i, P.info? T = some i /\ i.zero = some z /\ i.size = ti.size /\ i.bytes = ti.bytes /\ (t.isAgg = false -> z.oneCell' = true) := by
 obtain ⟨d, i, hd, hi, h1, h1', _, _, h2⟩ := ht.ex
 obtain ⟨_, _, z, hz, h3, h4⟩ := h2 t hty
 exact ⟨z, fun w => by simp [zeroValue, typeInfo, hi, hz], h3, i, hi, hz, h1, h1', h4⟩
theorem Bg (tab : aH P cfg) {T : Nat} {ls : List Leaf} (h : ou cfg T = some ls) : ∃ z, (∀ w, (zeroValue T).run P w = .ok z w) /\ (∃ i, P.info? T = some i /\ i.zero = some z) /\ ∀ (c : Ctx) (ι : Gh) (w : World) (M : Store), aF c ι w M ls z.cells.toList := by
 unfold ou at h
 split at h
 ·rename_i t hT
  cases h
  obtain ⟨z, hz, h1, i, hi, hiz, _⟩ := jI (tab T _ hT) rfl
  exact ⟨z, hz, ⟨i, hi, hiz⟩, fun c ι w M => by rw [h1]; exact qE t⟩
 ·obtain ⟨i, z, hi, hz, hm⟩ := tab.zero T ls h
  exact ⟨z, fun w => by simp [zeroValue, typeInfo, hi, hz], ⟨i, hi, hz⟩, fun _ _ _ _ => Dh hm⟩
theorem EC (tab : aH P cfg) (I : Inv c ι w M) {nid T : Nat} (hid : M.get nid = none) (ho : o.op = .alloc T) {ls : List Leaf} (hT : l9 T ls = true) (h : ou cfg T = some ls) :
 au P c ι w M act o (.one (.ptr nid 0)) [(nid, .obj ls)] := by
 obtain ⟨z, hz, _, h1⟩ := Bg tab h
 obtain ⟨ι', I', x', hb⟩ := I.newObj hid (h1 c ι w M) T (zV hT)
 have e : z.cells.toList.toArray = z.cells := by simp
 rw [e] at I' x'
 refine au.of_run (ι' := ι') (v := .pointer (some ⟨w.heap.size, 0, none⟩)) ?_ I' x' (ak.one ?_)
 ·simp [execOp, ho, Instr.alloc, hz, newVar, newRow]
 ·show aj c ι' _ (M.set nid (.obj ls)) (.ptr nid 0) _
  simp only [aj, Store.get_set_same]
  exact ⟨_, hb, rfl⟩
theorem Inv.row (I : Inv c ι w M) {nid : Nat} (hid : M.get nid = none) {e : Nat} {t : Ty} {fr : Bool} {l : List t.den} {cur : Array Value} {cap g : Nat} (ap : Bool) (fz : Nat × Nat) {f : Nat -> Prop} {w' : World}
 (tt : Turn w w' f) (hf : ∀ k, f k -> Inv.Free c ι M k) (hgb : f g ∨ w.heap.size <= g) (hlb : cond fr c.lb 0 <= g)
 (hap : ap = true -> fz = (0, 0)) (hfz : ∀ j, j < cur.size -> ¬ (fz.1 <= j /\ j < fz.2)) (hc : l.length <= cap) (hm : cap <= maxLen) (hs : cur.size = cap * t.sz) (hv : ∀ y ∈ l, Valid t y)
 (hr : ah (SF c ι fr) w (.arr l.length t) l (cur.toList.take (l.length * t.sz))) (hsp : ap = true -> eH c ι w fr t l.length cap (cur.toList.drop (l.length * t.sz))) (hh : w'.heap[g]? = some (.cells cur e fz)) :
 ∃ ι', Inv c ι' w' (M.set nid (.row e t fr ap l)) /\ Ext ι w M ι' w' (M.set nid (.row e t fr ap l)) /\ ι'.base nid = some ⟨g, 0, none⟩ /\ ι'.cap nid = cap := by
 have x := Ext.adopt I hid tt (fun k hk => (hf k hk).1) (some ⟨g, 0, none⟩) cap (.row e t fr ap l)
 refine ⟨ι.put nid (some ⟨g, 0, none⟩) cap, Inv.adopt I hid tt hf _ _ _ (fun a ha _ => ?_) ?_, x, by simp [Gh.put], by simp [Gh.put]⟩
 ·cases ha; exact hgb
 ·refine ⟨_, ah.mono (SF.mono x.S) (fun b hb => x.heap b hb.1) _ _ _ hr, ⟨hv, Nat.le_trans hc hm⟩, ?_, .inr ⟨g, cur, fz, by simp [Gh.put], hlb, hh, hap, hfz, by simpa [Gh.put] using hc, by simpa [Gh.put] using hm, by simpa [Gh.put] using hs, rfl, fun ha => ?_⟩⟩
  ·have hcl : cur.toList.length = cur.size := Array.length_toList
   have hle : l.length * t.sz <= cap * t.sz := Nat.mul_le_mul_right _ hc
   rw [List.length_take]; omega
  ·have := (hsp ha).mono (c := c) x.S x.heap
   simpa [Gh.put] using this
theorem Inv.row0 (I : Inv c ι w M) {nid : Nat} (hid : M.get nid = none) (e : Nat) (t : Ty) (fr : Bool) :
 ∃ ι', Inv c ι' w (M.set nid (.row e t fr true [])) /\ Ext ι w M ι' w (M.set nid (.row e t fr true [])) /\ ι'.base nid = none /\ ι'.cap nid = 0 := by
 have x := Ext.adopt I hid (Turn.refl w (fun _ => False)) (fun _ h => h.elim) none 0 (.row e t fr true [])
 refine ⟨ι.put nid none 0, Inv.adopt I hid (Turn.refl w (fun _ => False)) (fun _ h => h.elim) _ _ _ (fun a ha _ => by cases ha) ?_, x, by simp [Gh.put], by simp [Gh.put]⟩
 exact ⟨[], ⟨rfl, [], rfl, rfl, fun i x ec h => by simp at h⟩, ⟨fun _ h => (by cases h), Nat.zero_le _⟩, by simp, .inl ⟨by simp [Gh.put], by simp [Gh.put], rfl, rfl⟩⟩
theorem Inv.newRow (I : Inv c ι w M) {nid : Nat} (hid : M.get nid = none) {e : Nat} {t : Ty} {fr : Bool} {l : List t.den} {cur : Array Value} {cap : Nat} (ap : Bool) (fz : Nat × Nat)
 (hap : ap = true -> fz = (0, 0)) (hfz : ∀ j, j < cur.size -> ¬ (fz.1 <= j /\ j < fz.2)) (hc : l.length <= cap) (hm : cap <= maxLen) (hs : cur.size = cap * t.sz) (hv : ∀ y ∈ l, Valid t y)
 (hr : ah (SF c ι fr) w (.arr l.length t) l (cur.toList.take (l.length * t.sz))) (hsp : ap = true -> eH c ι w fr t l.length cap (cur.toList.drop (l.length * t.sz))) {w' : World} (tt : Turn w w' (fun _ => False)) (hh : w'.heap[w.heap.size]? = some (.cells cur e fz)) :
 ∃ ι', Inv c ι' w' (M.set nid (.row e t fr ap l)) /\ Ext ι w M ι' w' (M.set nid (.row e t fr ap l)) /\ ι'.base nid = some ⟨w.heap.size, 0, none⟩ /\ ι'.cap nid = cap := by
 refine Inv.row I hid ap fz tt (fun _ h => h.elim) (.inr (Nat.le_refl _)) ?_ hap hfz hc hm hs hv hr hsp hh
 cases fr
 ·exact Nat.zero_le _
 ·exact I.kept.lb
theorem yX {nid : Nat} {e : Nat} {t : Ty} {fr ap : Bool} {l : List t.den} {M' : Store} (h : M'.get nid = some (.row e t fr ap l)) {v : Value} (hv : v = .slice (ι.base nid) l.length (ι.cap nid)) : aj c ι w M' (.own nid) [v] := by
 simp only [aj, h]; exact ⟨_, by rw [hv], fun _ => rfl⟩
theorem xA {s : St} {cs : List (Nat × Bool)} (tab : aH P cfg) (I : Inv c ι w s.M) (hop : ∀ x v, opv cfg s cs x = some v -> aI c ι w s.M v (act.eval x)) {nid T n e : Nat} (hid : s.M.get nid = none)
 {ps : Array (Nat × Operand)} (ho : o.op = .buildSlice T n ps) {ti te : TI} (hT : cfg.ti T = some ti) (hd : ti.d = .slice e) (he : cfg.ti e = some te) {t : Ty} (hty : te.ty = some t) (hlim : n * t.sz <= 16777216) (h0 : 0 < t.sz)
 {fr : Bool} {l : List t.den} {fz : List (Nat × Entry)} (h : iy cfg s cs n t ps.toList true (List.replicate n t.dft) [] = some (fr, l, fz)) :
 au P c ι w s.M act o (.one (.own nid)) (fz ++ [(nid, .row e t fr true l)]) := by
 obtain ⟨d, i', hu, _, _, _, h3, _⟩ := (tab T _ hT).ex
 rw [hd] at h3
 rw [show d = _ from h3] at hu
 obtain ⟨z, hz, hzc, i, hi, hiz, his, _, _⟩ := jI (tab e _ he) hty
 obtain ⟨_, _, _, _, _, _, _, _, h7⟩ := (tab e _ he).ex
 obtain ⟨h8, _, _⟩ := h7 t hty
 have hisz : i.size = t.sz := by rw [his, h8]
 have hzs : z.cells.size = i.size := by rw [<- Array.length_toList, hzc, fB, hisz]
 obtain ⟨cells', hf, hE⟩ := oW I hop ps.toList true _ _ (List.replicate n (aQ t)).flatten.toArray h (by rw [List.toList_toArray]; exact xu.zero n t)
 have hrun := Bf (P := P) (act := act) (w := w) ho hu hi hiz hzs (by rw [hisz]; exact hlim) (cells := cells') (by rw [hisz, hzc]; exact hf)
 have hnz : ∀ id en, (id, en) ∈ fz -> s.M.get id ≠ none := by
  intro id en hx hn
  obtain ⟨y, hy⟩ := (hE.1 id en hx).some
  rw [hn] at hy; cases hy
 have hall : fz.all (fun p => !(Nat.beq p.1 nid)) = true := by
  rw [List.all_eq_true]
  rintro ⟨id, en⟩ hx
  have hne : id ≠ nid := fun hh => hnz id en hx (by rw [hh]; exact hid)
  rw [kL hne]; rfl
 obtain ⟨ι1, I1, x1, hb1, hc1, hr1, hv1⟩ := hE.frozen I
 have su : (s.M.aK fz).get nid = none := by rw [gB _ _ _ hall]; exact hid
 have hlen : l.length = n := hr1.1
 have hsz : cells'.size = n * t.sz := by have := ah.len _ _ _ hr1; simpa [Ty.sz] using this
 obtain ⟨ι2, I2, x2, hb2, hc2⟩ := Inv.newRow I1 su (e := e) (cap := n) (cur := cells') true (0, 0) (fun _ => rfl) (by simp) (by omega) (by simp only [maxLen]; have : n * 1 <= n * t.sz := Nat.mul_le_mul_left n h0; omega) hsz hv1
  (by rw [hlen, List.take_of_length_le (by rw [Array.length_toList, hsz]; exact Nat.le_refl _)]; exact hr1) (fun _ => ⟨[], by simp [hlen], fun _ h => (by cases h), rfl, [], rfl, by rw [hlen, List.drop_of_length_le (by rw [Array.length_toList, hsz]; exact Nat.le_refl _)]; rfl, fun i x ec h => by simp at h⟩) (Turn.alloc w (.cells cells' e) (fun _ => False)) (heap_alloc_new w _)
 have hup : s.M.aK (fz ++ [(nid, .row e t fr true l)]) = (s.M.aK fz).set nid (.row e t fr true l) := by rw [Store.iO]; rfl
 refine au.of_run (ι' := ι2) hrun ?_ ?_ ?_
 ·rw [hup]; exact I2
 ·rw [hup]; exact x1.trans x2
 ·rw [hup]
  exact ak.one (yX (Store.get_set_same ..) (by rw [hb2, hc2, hlen]))
end
end Go.Vc
