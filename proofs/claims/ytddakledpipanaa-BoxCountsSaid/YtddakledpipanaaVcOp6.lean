/- Values that are built: structs, arrays, slices. -/
import Derived.Test.YtddakledpipanaaVcOp5
set_option linter.unusedVariables false
set_option linter.unusedSimpArgs false
namespace Go.Vc

theorem foldl_splice : ∀ (l : List Value) (k off : Nat) (cells : Array Value), off + k + l.length ≤ cells.size →
    ((l.zipIdx k).foldl (fun cs x => cs.setIfInBounds (off + x.2) x.1) cells).toList = splice cells.toList (off + k) l
  | [], k, off, cells, h => by simp [splice]
  | v :: l, k, off, cells, h => by
    simp only [List.length_cons] at h
    rw [List.zipIdx_cons, List.foldl_cons]
    rw [foldl_splice l (k + 1) off _ (by rw [Array.size_setIfInBounds]; omega)]
    have hs : cells.toList.length = cells.size := Array.length_toList
    apply List.ext_getElem?
    intro j
    rw [Array.toList_setIfInBounds, splice_get _ _ l (by rw [List.length_set]; omega), splice_get _ _ (v :: l) (by rw [List.length_cons]; omega), List.getElem?_set]
    simp only [List.length_cons]
    by_cases c1 : j < off + k
    · rw [if_pos (show j < off + (k + 1) by omega), if_pos c1, if_neg (show ¬ off + k = j by omega)]
    · rw [if_neg c1]
      by_cases c2 : j = off + k
      · subst c2
        rw [if_pos (show off + k < off + (k + 1) by omega), if_pos rfl, if_pos (by omega), if_pos (by omega), Nat.sub_self]
        rfl
      · rw [if_neg (show ¬ j < off + (k + 1) by omega)]
        by_cases c3 : j < off + k + (l.length + 1)
        · rw [if_pos (show j < off + (k + 1) + l.length by omega), if_pos c3]
          rw [show j - (off + k) = (j - (off + (k + 1))) + 1 from by omega, List.getElem?_cons_succ]
        · rw [if_neg (show ¬ j < off + (k + 1) + l.length by omega), if_neg c3, if_neg (show ¬ off + k = j by omega)]
theorem fill_cons {place : Nat → Option (Nat × Nat)} {cells : Array Value} {i off size : Nat} {v : Value} {rest : List (Nat × Value)} (hp : place i = some (off, size)) (hs : v.cells.size = size) (hf : off + size ≤ cells.size) :
    Instr.fill place cells ((i, v) :: rest) = Instr.fill place (splice cells.toList off v.cells.toList).toArray rest := by
  have e : (v.cells.zipIdx.foldl (fun cs x => cs.setIfInBounds (off + x.2) x.1) cells) = (splice cells.toList off v.cells.toList).toArray := by
    apply Array.ext'
    have h1 := foldl_splice v.cells.toList 0 off cells (by rw [Array.length_toList, hs]; omega)
    rw [Nat.add_zero] at h1
    rw [List.toList_toArray, ← h1, ← Array.foldl_toList]
    simp
  conv => lhs; unfold Instr.fill
  simp only [hp]
  rw [if_neg (by simp [hs]; omega)]
  rw [← e]

section
variable {P : Program} {c : Ctx} {ι : Gh} {w : World} {M : Store} {act : Act} {o : Oper} {cfg : Cfg}

/-- An array's cells as far as its elements have been laid. -/
def ElOk (c : Ctx) (ι : Gh) (w : World) (M : Store) (n : Nat) (t : Ty) (fr : Bool) (l : List t.den) (fz : List (Nat × Entry)) (cells : List Value) : Prop :=
  Frz M fz ∧ (∀ y ∈ l, Valid t y) ∧ ∀ S' : Nat → Prop, (∀ b, ι.S b → S' b) → (∀ id e e0 k, (id, e) ∈ fz → M.get id = some e0 → e0.live = true → ι.blk id = some k → S' k) →
    PRep (fun b => S' b ∧ (fr = true → c.w0.heap.size ≤ b)) w (.arr n t) l cells
theorem evElems_sound {s : St} {cs : List (Nat × Bool)} (I : Inv c ι w s.M) (hop : ∀ x v, opv cfg s cs x = some v → VRep c ι w s.M v (act.eval x)) {n : Nat} {t : Ty} :
    ∀ (ps : List (Nat × Operand)) (fr : Bool) (l : List t.den) (fz : List (Nat × Entry)) (cells : Array Value) {fr' : Bool} {l' : List t.den} {fz' : List (Nat × Entry)},
      evElems cfg s cs n t ps fr l fz = some (fr', l', fz') → ElOk c ι w s.M n t fr l fz cells.toList →
      ∃ cells', Instr.fill (fun i => some (i * t.sz, t.sz)) cells (ps.map fun x => (x.1, act.eval x.2)) = some cells' ∧ ElOk c ι w s.M n t fr' l' fz' cells'.toList
  | [], fr, l, fz, cells, fr', l', fz', h, hE => by cases h; exact ⟨cells, rfl, hE⟩
  | (i, x) :: r, fr, l, fz, cells, fr', l', fz', h, hE => by
    unfold evElems at h
    cases hv : opv cfg s cs x with
    | none => rw [hv] at h; cases h
    | some v =>
      rw [hv] at h
      simp only at h
      cases him : implode s.M t v.ls with
      | none => rw [him] at h; cases h
      | some im =>
        rw [him] at h
        simp only at h
        cases hr : im.rest with
        | cons _ _ => rw [hr] at h; cases h
        | nil =>
          rw [hr] at h
          simp only at h
          cases hb : Nat.blt i n with
          | false => rw [hb] at h; cases h
          | true =>
            rw [hb] at h
            simp only [cond_true] at h
            have hi : i < n := by simpa using hb
            obtain ⟨ds, h1, h2⟩ := (hop x v hv).cells
            obtain ⟨f1, c1, c2, g1, g2, g3, g4⟩ := implode_rep I t him h1
            rw [hr] at g2
            rw [show c2 = [] from g2, List.append_nil] at g1
            obtain ⟨e1, e2, e3⟩ := hE
            have hlen : cells.size = n * t.sz := by
              have := PRep.len _ _ _ (e3 (fun _ => True) (fun _ _ => trivial) (fun _ _ _ _ _ _ _ _ => trivial))
              simpa [Ty.sz] using this
            have hc1 : c1.length = t.sz := PRep.len _ _ _ (g4 (fun _ => True) (fun _ _ => trivial) (fun _ _ _ _ _ _ _ _ => trivial))
            have hle : (i + 1) * t.sz ≤ n * t.sz := Nat.mul_le_mul_right _ hi
            rw [Nat.succ_mul] at hle
            have hvs : (act.eval x).cells.size = t.sz := by rw [← Array.length_toList, h2, g1, hc1]
            rw [List.map_cons, fill_cons (off := i * t.sz) (size := t.sz) rfl hvs (by omega), h2]
            refine evElems_sound I hop r _ _ _ _ h ⟨fun id e hx => ?_, Valid.set e2 i g3, fun S' hS hk => ?_⟩
            · rcases List.mem_append.1 hx with hx | hx
              · exact e1 id e hx
              · exact f1 id e hx
            · rw [List.toList_toArray, g1]
              have q1 := e3 S' hS (fun id e e0 k hx => hk id e e0 k (List.mem_append.2 (.inl hx)))
              have q2 := g4 S' hS (fun id e e0 k hx => hk id e e0 k (List.mem_append.2 (.inr hx)))
              refine PRep.set ?_ i hi ?_
              · exact PRep.mono (fun b hb => ⟨hb.1, fun hf => hb.2 (by simp only [Bool.and_eq_true] at hf; exact hf.1)⟩) (fun _ _ => rfl) _ _ _ q1
              · exact PRep.mono (fun b hb => ⟨hb.1, fun hf => hb.2 (by simp only [Bool.and_eq_true] at hf; exact hf.2)⟩) (fun _ _ => rfl) _ _ _ q2
theorem ElOk.zero (n : Nat) (t : Ty) : ElOk c ι w M n t true (List.replicate n t.dft) [] (List.replicate n (zcells t)).flatten :=
  ⟨fun _ _ h => (by cases h), fun y hy => (by rw [List.eq_of_mem_replicate hy]; exact dft_valid t), fun S' _ _ => zcells_rep _ w (.arr n t)⟩
theorem ElOk.frozen {n : Nat} {t : Ty} {fr : Bool} {l : List t.den} {fz : List (Nat × Entry)} {cells : List Value} (I : Inv c ι w M) (h : ElOk c ι w M n t fr l fz cells) :
    ∃ ι', Inv c ι' w (M.upds fz) ∧ Ext ι w M ι' w (M.upds fz) ∧ ι'.base = ι.base ∧ ι'.cap = ι.cap ∧ PRep (SF c ι' fr) w (.arr n t) l cells ∧ (∀ y ∈ l, Valid t y) := by
  obtain ⟨hz, h1, h2⟩ := h
  obtain ⟨ι', I', x, hS, hb, hc⟩ := Inv.freezeAll fz I hz
  exact ⟨ι', I', x, hb, hc, h2 ι'.S x.S (fun id e e0 k hm he hl hk => (hS k).2 (.inr ⟨id, e, e0, hm, he, hl, hk⟩)), h1⟩

theorem flatten_replicate_get {α : Type} (l : List α) (hl : 0 < l.length) : ∀ (n i : Nat), i < n * l.length → (List.replicate n l).flatten[i]? = l[i % l.length]?
  | 0, i, h => by simp at h
  | n + 1, i, h => by
    rw [List.replicate_succ, List.flatten_cons]
    by_cases hi : i < l.length
    · rw [List.getElem?_append_left hi, Nat.mod_eq_of_lt hi]
    · rw [List.getElem?_append_right (by omega), flatten_replicate_get l hl n _ (by rw [Nat.succ_mul] at h; omega), ← Nat.mod_eq_sub_mod (by omega)]
theorem made_zero (z : Array Value) (n : Nat) (h0 : 0 < z.size) : (Array.range (n * z.size)).map (z[· % z.size]!) = (List.replicate n z.toList).flatten.toArray := by
  apply Array.ext'
  rw [List.toList_toArray]
  apply List.ext_getElem?
  intro i
  have hlen : z.toList.length = z.size := Array.length_toList
  by_cases hi : i < n * z.size
  · rw [flatten_replicate_get z.toList (by omega) n i (by rw [hlen]; exact hi), hlen]
    have hm : i % z.size < z.size := Nat.mod_lt _ h0
    simp [hi, hm]
  · have hfl : (List.replicate n z.toList).flatten.length = n * z.size := by
      rw [length_flatten_const z.size _ (fun ec hec => by rw [List.eq_of_mem_replicate hec, hlen]), List.length_replicate]
    have h1 : ((Array.range (n * z.size)).map (z[· % z.size]!)).toList[i]? = none := List.getElem?_eq_none (by simp; omega)
    rw [h1, List.getElem?_eq_none (by rw [hfl]; omega)]

theorem exec_buildSlice {T e n : Nat} {ps : Array (Nat × Operand)} (ho : o.op = .buildSlice T n ps) {i : TypeInfo} {z : Value} {cells : Array Value} (hu : P.underlying T = some (.slice e)) (hi : P.info? e = some i) (hz : i.zero = some z)
    (hs : z.cells.size = i.size) (hlim : n * i.size ≤ 2 ^ 24) (hf : Instr.fill (fun j => some (j * i.size, i.size)) (List.replicate n z.cells.toList).flatten.toArray (ps.toList.map fun x => (x.1, act.eval x.2)) = some cells) :
    (execOp act.eval o).run P w = .ok (.value (.slice (some ⟨w.heap.size, 0, none⟩) n n)) (w.alloc (.cells cells e)) := by
  have hm : (ps.map fun x => (x.1, act.eval x.2)).toList = ps.toList.map fun x => (x.1, act.eval x.2) := by simp
  have hl' : ¬ n * i.size > 2 ^ 24 := by omega
  by_cases h0 : n * i.size = 0
  · have hcell : (List.replicate n z.cells.toList).flatten.toArray = (#[] : Array Value) := by
      have : (List.replicate n z.cells.toList).flatten.length = 0 := by
        rw [length_flatten_const i.size _ (fun ec hec => by rw [List.eq_of_mem_replicate hec, Array.length_toList, hs]), List.length_replicate, h0]
      rw [List.eq_nil_of_length_eq_zero this]
    rw [hcell] at hf
    have hr0 : ∀ f : Nat → Value, (Array.range 0).map f = #[] := fun f => by simp
    simp [execOp, ho, Instr.buildSlice, run_underlying hu, sizeOf, typeInfo, hi, h0, hr0, hf, newRow]
  · have hz0 : 0 < z.cells.size := by
      rw [hs]
      rcases Nat.eq_zero_or_pos i.size with h | h
      · rw [h] at h0; simp at h0
      · exact h
    rw [← made_zero z.cells n hz0, hs] at hf
    simp [execOp, ho, Instr.buildSlice, run_underlying hu, sizeOf, typeInfo, hi, h0, hl', zeroValue, hz, hf, hs, newRow]

/-! ### new memory -/
theorem exec_box {T : Nat} {x : Operand} (ho : o.op = .box T x) : (execOp act.eval o).run P w = .ok (.value (.pointer (some ⟨w.heap.size, 0, none⟩))) (w.alloc (.cells (act.eval x).cells T)) := by
  simp [execOp, ho, Instr.box, newVar, newRow]
theorem Inv.newObj (I : Inv c ι w M) {nid : Nat} (hid : M.get nid = none) {ls : List Leaf} {cs : List Value} (hr : LsRep c ι w M ls cs) (T : Nat) :
    ∃ ι', Inv c ι' (w.alloc (.cells cs.toArray T)) (M.set nid (.obj ls)) ∧ Ext ι w M ι' (w.alloc (.cells cs.toArray T)) (M.set nid (.obj ls)) ∧ ι'.base nid = some ⟨w.heap.size, 0, none⟩ := by
  have x := Ext.adopt I hid (Turn.alloc w (.cells cs.toArray T) (fun _ => False)) (fun _ h => h.elim) (some ⟨w.heap.size, 0, none⟩) 0 (.obj ls)
  refine ⟨ι.put nid (some ⟨w.heap.size, 0, none⟩) 0, Inv.adopt I hid (Turn.alloc w _ (fun _ => False)) (fun _ h => h.elim) _ _ _ (fun a ha _ => ?_) ?_, x, by simp [Gh.put]⟩
  · cases ha; exact .inr (Nat.le_refl _)
  · exact ⟨w.heap.size, cs, T, by simp [Gh.put], heap_alloc_new w _, hr.mono x⟩
theorem evBox_sound (I : Inv c ι w M) {nid T : Nat} (hid : M.get nid = none) {x : Operand} (ho : o.op = .box T x) {v : V} (hx : VRep c ι w M v (act.eval x)) :
    OpWp P c ι w M act o (.one (.ptr nid 0)) [(nid, .obj v.ls)] := by
  obtain ⟨ds, h1, h2⟩ := hx.cells
  obtain ⟨ι', I', x', hb⟩ := I.newObj hid h1 T
  have e : ds.toArray = (act.eval x).cells := by rw [← h2]
  rw [e] at I' x'
  refine OpWp.of_run (ι' := ι') (exec_box ho) I' x' (SVRep.one ?_)
  show LRep c ι' _ (M.set nid (.obj v.ls)) (.ptr nid 0) _
  simp only [LRep, Store.get_set_same]
  exact ⟨_, hb, rfl⟩
theorem zero_run {T : Nat} {ti : TI} {t : Ty} (ht : TiOk P T ti) (hty : ti.ty = some t) : ∃ z, (∀ w, (zeroValue T).run P w = .ok z w) ∧ z.cells.toList = zcells t ∧ ∃ i, P.info? T = some i ∧ i.zero = some z ∧ i.size = ti.size ∧ i.bytes = ti.bytes ∧ (t.isAgg = false → z.oneCell' = true) := by
  obtain ⟨d, i, hd, hi, h1, h1', _, _, h2⟩ := ht.ex
  obtain ⟨_, _, z, hz, h3, h4⟩ := h2 t hty
  exact ⟨z, fun w => by simp [zeroValue, typeInfo, hi, hz], h3, i, hi, hz, h1, h1', h4⟩
theorem evAlloc_sound (tab : TabOk P cfg) (I : Inv c ι w M) {nid T : Nat} (hid : M.get nid = none) (ho : o.op = .alloc T) {ls : List Leaf} (h : zeroLs cfg T = some ls) :
    OpWp P c ι w M act o (.one (.ptr nid 0)) [(nid, .obj ls)] := by
  unfold zeroLs at h
  split at h
  · rename_i t hT
    cases h
    obtain ⟨z, hz, h1, _⟩ := zero_run (tab T _ hT) rfl
    obtain ⟨ι', I', x', hb⟩ := I.newObj hid (explodeZ_rep t) T
    have e : (zcells t).toArray = z.cells := by rw [← h1]
    rw [e] at I' x'
    refine OpWp.of_run (ι' := ι') (v := .pointer (some ⟨w.heap.size, 0, none⟩)) ?_ I' x' (SVRep.one ?_)
    · simp [execOp, ho, Instr.alloc, hz, newVar, newRow]
    · show LRep c ι' _ (M.set nid (.obj (explodeZ t))) (.ptr nid 0) _
      simp only [LRep, Store.get_set_same]
      exact ⟨_, hb, rfl⟩
  · cases h

/-- A new row in a new block. -/
theorem Inv.newRow (I : Inv c ι w M) {nid : Nat} (hid : M.get nid = none) {e : Nat} {t : Ty} {fr : Bool} {l : List t.den} {cur : Array Value} {cap : Nat} (ap : Bool) (fz : Nat × Nat)
    (hap : ap = true → fz = (0, 0)) (hfz : ∀ j, j < cur.size → ¬ (fz.1 ≤ j ∧ j < fz.2)) (hc : l.length ≤ cap) (hm : cap ≤ maxLen) (hs : cur.size = cap * t.sz) (hv : ∀ y ∈ l, Valid t y)
    (hr : PRep (SF c ι fr) w (.arr l.length t) l (cur.toList.take (l.length * t.sz))) {w' : World} (tt : Turn w w' (fun _ => False)) (hh : w'.heap[w.heap.size]? = some (.cells cur e fz)) :
    ∃ ι', Inv c ι' w' (M.set nid (.row e t fr ap l)) ∧ Ext ι w M ι' w' (M.set nid (.row e t fr ap l)) ∧ ι'.base nid = some ⟨w.heap.size, 0, none⟩ ∧ ι'.cap nid = cap := by
  have x := Ext.adopt I hid tt (fun _ h => h.elim) (some ⟨w.heap.size, 0, none⟩) cap (.row e t fr ap l)
  refine ⟨ι.put nid (some ⟨w.heap.size, 0, none⟩) cap, Inv.adopt I hid tt (fun _ h => h.elim) _ _ _ (fun a ha _ => ?_) ?_, x, by simp [Gh.put], by simp [Gh.put]⟩
  · cases ha; exact .inr (Nat.le_refl _)
  · refine ⟨_, PRep.mono (SF.mono x.S) (fun b hb => x.heap b hb.1) _ _ _ hr, ⟨hv, Nat.le_trans hc hm⟩, ?_, .inr ⟨w.heap.size, cur, fz, by simp [Gh.put], ?_, hh, hap, hfz, by simpa [Gh.put] using hc, by simpa [Gh.put] using hm, by simpa [Gh.put] using hs, rfl⟩⟩
    · have hcl : cur.toList.length = cur.size := Array.length_toList
      have hle : l.length * t.sz ≤ cap * t.sz := Nat.mul_le_mul_right _ hc
      rw [List.length_take]; omega
    · cases fr
      · exact Nat.zero_le _
      · exact I.kept.size
theorem own_rep {nid : Nat} {e : Nat} {t : Ty} {fr ap : Bool} {l : List t.den} {M' : Store} (h : M'.get nid = some (.row e t fr ap l)) {v : Value} (hv : v = .slice (ι.base nid) l.length (ι.cap nid)) : LRep c ι w M' (.own nid) [v] := by
  simp only [LRep, h]; rw [hv]
theorem evBuildSlice_sound {s : St} {cs : List (Nat × Bool)} (tab : TabOk P cfg) (I : Inv c ι w s.M) (hop : ∀ x v, opv cfg s cs x = some v → VRep c ι w s.M v (act.eval x)) {nid T n e : Nat} (hid : s.M.get nid = none)
    {ps : Array (Nat × Operand)} (ho : o.op = .buildSlice T n ps) {ti te : TI} (hT : cfg.ti T = some ti) (hd : ti.d = .slice e) (he : cfg.ti e = some te) {t : Ty} (hty : te.ty = some t) (hlim : n * t.sz ≤ 16777216) (h0 : 0 < t.sz)
    {fr : Bool} {l : List t.den} {fz : List (Nat × Entry)} (h : evElems cfg s cs n t ps.toList true (List.replicate n t.dft) [] = some (fr, l, fz)) :
    OpWp P c ι w s.M act o (.one (.own nid)) (fz ++ [(nid, .row e t fr true l)]) := by
  obtain ⟨d, i', hu, _, _, _, h3, _⟩ := (tab T _ hT).ex
  rw [hd] at h3
  rw [show d = _ from h3] at hu
  obtain ⟨z, hz, hzc, i, hi, hiz, his, _, _⟩ := zero_run (tab e _ he) hty
  obtain ⟨_, _, _, _, _, _, _, _, h7⟩ := (tab e _ he).ex
  obtain ⟨h8, _, _⟩ := h7 t hty
  have hisz : i.size = t.sz := by rw [his, h8]
  have hzs : z.cells.size = i.size := by rw [← Array.length_toList, hzc, zcells_len, hisz]
  obtain ⟨cells', hf, hE⟩ := evElems_sound I hop ps.toList true _ _ (List.replicate n (zcells t)).flatten.toArray h (by rw [List.toList_toArray]; exact ElOk.zero n t)
  have hrun := exec_buildSlice (P := P) (act := act) (w := w) ho hu hi hiz hzs (by rw [hisz]; exact hlim) (cells := cells') (by rw [hisz, hzc]; exact hf)
  have hnz : ∀ id en, (id, en) ∈ fz → s.M.get id ≠ none := by
    intro id en hx hn
    obtain ⟨_, _, _, _, hk⟩ := hE.1 id en hx
    rw [hn] at hk
    rcases hk with hk | ⟨_, _, hk⟩ <;> cases hk
  have hall : fz.all (fun p => !(Nat.beq p.1 nid)) = true := by
    rw [List.all_eq_true]
    rintro ⟨id, en⟩ hx
    have hne : id ≠ nid := fun hh => hnz id en hx (by rw [hh]; exact hid)
    rw [beq_no hne]; rfl
  obtain ⟨ι1, I1, x1, hb1, hc1, hr1, hv1⟩ := hE.frozen I
  have hid1 : (s.M.upds fz).get nid = none := by rw [upds_get_other _ _ _ hall]; exact hid
  have hlen : l.length = n := hr1.1
  have hsz : cells'.size = n * t.sz := by have := PRep.len _ _ _ hr1; simpa [Ty.sz] using this
  obtain ⟨ι2, I2, x2, hb2, hc2⟩ := Inv.newRow I1 hid1 (e := e) (cap := n) (cur := cells') true (0, 0) (fun _ => rfl) (by simp) (by omega) (by simp only [maxLen]; have : n * 1 ≤ n * t.sz := Nat.mul_le_mul_left n h0; omega) hsz hv1
    (by rw [hlen, List.take_of_length_le (by rw [Array.length_toList, hsz]; exact Nat.le_refl _)]; exact hr1) (Turn.alloc w (.cells cells' e) (fun _ => False)) (heap_alloc_new w _)
  have hup : s.M.upds (fz ++ [(nid, .row e t fr true l)]) = (s.M.upds fz).set nid (.row e t fr true l) := by rw [Store.upds_append]; rfl
  refine OpWp.of_run (ι' := ι2) hrun ?_ ?_ ?_
  · rw [hup]; exact I2
  · rw [hup]; exact x1.trans x2
  · rw [hup]
    exact SVRep.one (own_rep (Store.get_set_same ..) (by rw [hb2, hc2, hlen]))
end
end Go.Vc
