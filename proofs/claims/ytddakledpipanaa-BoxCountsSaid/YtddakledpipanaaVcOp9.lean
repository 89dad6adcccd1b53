/- Elements, lengths, functions, new rows, structs that are built. -/
import Derived.Test.YtddakledpipanaaVcOp8
set_option linter.unusedVariables false
set_option linter.unusedSimpArgs false
namespace Go.Vc
section
variable {P : Program} {c : Ctx} {ι : Gh} {w : World} {M : Store} {act : Act} {o : Oper} {cfg : Cfg}

theorem evIndex_sound (tab : TabOk P cfg) (I : Inv c ι w M) {T : Nat} {x y : Operand} (ho : o.op = .index T x y) {v : V} (hx : VRep c ι w M v (act.eval x)) {k : IntKind} {n : Int} (hy : act.eval y = .int k n)
    {ef : Eff} (h : evIndex cfg T v n = some ef) (hp : ∀ p ∈ ef.pre, p) : OpWp P c ι w M act o ef.sv ef.upd := by
  unfold evIndex at h
  split at h
  · rename_i m fr t l
    split at h
    · rename_i m' e _ _ _ hT
      split at h
      · rename_i ed sz by' t' he
        split at h
        · rename_i htt
          subst htt
          cases hb : (Nat.beq m' m && Nat.beq sz t'.sz) with
          | false => rw [hb] at h; cases h
          | true =>
            rw [hb] at h
            cases h
            simp only [Bool.and_eq_true] at hb
            have hm : m' = m := Nat.eq_of_beq_eq_true hb.1
            have hsz : sz = t'.sz := Nat.eq_of_beq_eq_true hb.2
            subst hm hsz
            have h0 := hp (0 ≤ n) (by simp)
            have h1 := hp (n < (m' : Int)) (by simp)
            obtain ⟨d, hu, hd⟩ := (tab T _ hT).under
            have hu : P.underlying T = some (.array m' e) := by rw [hu, show d = _ from hd]
            obtain ⟨cs, ⟨c1, c2, e1, ⟨e2, e3⟩, e4⟩, hv⟩ := hx
            have e4 : c2 = [] := e4
            subst e4
            rw [List.append_nil] at e1
            subst e1
            have hv : act.eval x = .agg cs.toArray := hv
            have hl : l.length = m' := e3.2
            have hi : n.toNat < l.length := by omega
            obtain ⟨k1, k2⟩ := e2.elem n.toNat hi
            obtain ⟨_, _, _, _, _, _, _, _, h7⟩ := (tab e _ he).ex
            obtain ⟨h8, h9, _⟩ := h7 t' rfl
            obtain ⟨u, r1, r2⟩ := run_part (P := P) (w := w) (tab e _ he) (cs := cs) (off := n.toNat * t'.sz) (by rw [Nat.succ_mul] at k2; exact k2)
            refine OpWp.pure I (exec_index ho (v := u) ?_) ?_
            · rw [hv, hy]
              have hz := run_sizeOf_ti (tab e _ he) w
              simp [Instr.index, asIntOf, run_underlying hu, h0, h1, hz, r1]
            · have hr := VRep.of_load (c := c) (ι := ι) (w := w) (M := M) (ti := ⟨ed, t'.sz, by', some t'⟩) (explode_rep (fr := fr) t' _ _ k1 (Valid.elem e3.1 _ hi)) r2
              show VRep c ι w M ⟨t'.isAgg, _⟩ u
              rw [h9]; exact hr
        · cases h
      · cases h
    · cases h
  · rename_i l
    cases hs : isStr cfg T with
    | false => rw [hs] at h; cases h
    | true =>
      rw [hs] at h
      cases h
      have h0 := hp (0 ≤ n) (by simp)
      have h1 := hp (n < (l.length : Int)) (by simp)
      have hu := isStr_ok tab hs
      obtain ⟨hv, hval⟩ := hx.leaf (l := .str l) rfl
      have hv : act.eval x = .string (bs l) := by simpa using hv
      have hi : n.toNat < l.length := by omega
      have hg : l[n.toNat]? = some (l.getD n.toNat 0) := by rw [List.getD_eq_getElem?_getD, List.getElem?_eq_getElem hi]; rfl
      obtain ⟨b, b1, b2⟩ := bs_get l n.toNat hval.1 _ hg
      refine OpWp.pure I (exec_index ho (v := .int .u8 (l.getD n.toNat 0)) ?_) (SVRep.one ⟨rfl, hval.1 _ (List.mem_of_getElem? hg)⟩)
      rw [hv, hy]
      simp only [Instr.index, asIntOf, Sem.run_bind, Sem.run_pure, Result.andThen_ok, run_underlying hu, if_pos h0, b1, b2]
  · cases h

/-! ### lengths -/
theorem exec_len {x : Operand} {T : Nat} {cl : Call} (ho : o.op = .call cl) (hc : cl.callee = .builtin .len) (ha : cl.args.toList = [x]) (ht : cl.argTypes.toList = [T]) {v : Value} {w' : World}
    (hr : (Builtin.len_ #[T] o.type #[act.eval x]).run P w = .ok v w') : (execOp act.eval o).run P w = .ok (.value v) w' := by
  obtain ⟨ce, as, ts⟩ := cl
  have ha' : as = #[x] := by apply Array.ext'; simpa using ha
  have ht' : ts = #[T] := by apply Array.ext'; simpa using ht
  have hc' : ce = .builtin .len := hc
  subst ha' ht' hc'
  simp [execOp, ho, resolve, invoke, builtin, hr, Result.andThen]
theorem len_valid {n : Nat} (h : n ≤ maxLen) : Valid (.int .i64) (n : Int) := by
  show IntKind.i64.min ≤ (n : Int) ∧ (n : Int) ≤ IntKind.i64.max
  simp only [maxLen] at h
  simp [IntKind.min, IntKind.max, IntKind.signed, IntKind.bits]; omega
theorem isSlT_ok (tab : TabOk P cfg) {T : Nat} (h : isSlT cfg T = true) : ∃ e, P.underlying T = some (.slice e) := by
  unfold isSlT at h
  split at h
  · rename_i e _ _ _ hT
    obtain ⟨d, hd, h3⟩ := (tab T _ hT).under
    exact ⟨e, by rw [hd, show d = _ from h3]⟩
  · cases h
theorem evLen0_rep (I : Inv c ι w M) {l : Leaf} {n : Int} {v : Value} (h : evLen0 M l = some n) (hr : LRep c ι w M l [v]) : ∃ a k cp, v = .slice a k cp ∧ n = (k : Int) ∧ k ≤ maxLen := by
  cases l <;> simp only [evLen0] at h <;> first | (cases h; done) | skip
  case psl fr t l =>
    cases h
    obtain ⟨⟨a, n, cp, h1, h2, _⟩, h3⟩ := hr
    exact ⟨a, n, cp, by simpa using h1, by rw [h2], by have := h3.2; omega⟩
  case nils =>
    cases h
    exact ⟨none, 0, 0, by simpa [LRep] using hr, rfl, Nat.zero_le _⟩
  case own id =>
    simp only [LRep] at hr
    cases hm : M.get id with
    | none => rw [hm] at h; cases h
    | some en =>
      rw [hm] at h hr
      cases en <;> simp only at h hr <;> first | (cases h; done) | skip
      · cases h
        obtain ⟨_, _, hv, _⟩ := I.ents id _ hm
        exact ⟨_, _, _, by simpa using hr, rfl, hv.2⟩
      · cases h
        obtain ⟨_, hv⟩ := I.ents id _ hm
        exact ⟨_, _, _, by simpa using hr, rfl, hv.2⟩
  case sl id lo n =>
    simp only [LRep] at hr
    cases hm : M.get id with
    | none => rw [hm] at h; cases h
    | some en =>
      rw [hm] at h hr
      cases en <;> simp only at h hr <;> first | (cases h; done) | skip
      · cases h
        obtain ⟨a, h1, h2, _⟩ := hr
        obtain ⟨_, _, hv, _⟩ := I.ents id _ hm
        exact ⟨_, _, _, by simpa using h1, rfl, by have := hv.2; omega⟩
      · cases h
        obtain ⟨a, h1, h2, _⟩ := hr
        obtain ⟨_, hv⟩ := I.ents id _ hm
        exact ⟨_, _, _, by simpa using h1, rfl, by have := hv.2; omega⟩
  case asl id off lo n =>
    simp only [LRep] at hr
    cases hm : M.get id with
    | none => rw [hm] at h; cases h
    | some en =>
      rw [hm] at h hr
      cases en <;> simp only at h hr <;> first | (cases h; done) | skip
      rename_i ls
      cases hl : lat ls off with
      | none => rw [hl] at h; cases h
      | some q =>
        rw [hl] at h hr
        cases q <;> simp only at h hr
        rename_i N fr t l
        cases hN : Nat.ble N maxLen with
        | false => rw [hN] at h; cases h
        | true =>
          rw [hN] at h
          cases h
          obtain ⟨b, a, h1, h2, h3, _⟩ := hr
          exact ⟨_, _, _, by simpa using h3, rfl, by have := (ble_iff _ _).1 hN; omega⟩
theorem evLen_sound (tab : TabOk P cfg) (I : Inv c ι w M) {T : Nat} {x : Operand} {cl : Call} (ho : o.op = .call cl) (hc : cl.callee = .builtin .len) (ha : cl.args.toList = [x]) (ht : cl.argTypes.toList = [T])
    {l : Leaf} (hx : LRep c ι w M l [act.eval x]) {n : Int} (h : evLen cfg M T l = some n) : OpWp P c ι w M act o (.one (.int .i64 n)) [] := by
  have key : isStrL l = false → (cond (isSlT cfg T) (evLen0 M l) none = some n) → OpWp P c ι w M act o (.one (.int .i64 n)) [] := by
    intro _ h
    cases hs : isSlT cfg T with
    | false => rw [hs] at h; cases h
    | true =>
      rw [hs] at h
      obtain ⟨e, hu⟩ := isSlT_ok tab hs
      obtain ⟨a, k, cp, h1, h2, h3⟩ := evLen0_rep I h hx
      subst h2
      refine OpWp.pure I (exec_len ho hc ha ht (v := goInt k) ?_) (SVRep.one ⟨rfl, len_valid h3⟩)
      rw [h1]
      simp [Builtin.len_, run_underlying hu]
  cases l <;> simp only [evLen] at h <;> first | exact key rfl h | skip
  rename_i l
  cases hs : isStr cfg T with
  | false => rw [hs] at h; cases h
  | true =>
    rw [hs] at h
    cases h
    have hu := isStr_ok tab hs
    obtain ⟨hv, hval⟩ := hx
    have hv : act.eval x = .string (bs l) := by simpa using hv
    refine OpWp.pure I (exec_len ho hc ha ht (v := goInt (bs l).size) ?_) (SVRep.one ⟨by rw [bs_size]; rfl, len_valid hval.2⟩)
    rw [hv]
    simp [Builtin.len_, run_underlying hu]

theorem exec_call2 {b : Builtin} {x y : Operand} {cl : Call} (ho : o.op = .call cl) (hc : cl.callee = .builtin b) (ha : cl.args.toList = [x, y]) {v : Value}
    (hr : ∀ ts cs, (builtin b ts o.type cs #[act.eval x, act.eval y]).run P w = .ok (.value v) w) : (execOp act.eval o).run P w = .ok (.value v) w := by
  obtain ⟨ce, as, ts⟩ := cl
  have ha' : as = #[x, y] := by apply Array.ext'; simpa using ha
  have hc' : ce = .builtin b := hc
  subst ha' hc'
  simp [execOp, ho, resolve, invoke, hr]
theorem evMin_sound (I : Inv c ι w M) {x y : Operand} {cl : Call} (ho : o.op = .call cl) (hc : cl.callee = .builtin .min) (ha : cl.args.toList = [x, y]) {k : IntKind} {a b : Int}
    (hx : LRep c ι w M (.int k a) [act.eval x]) (hy : LRep c ι w M (.int k b) [act.eval y]) : OpWp P c ι w M act o (.one (.int k (if b < a then b else a))) [] := by
  have hxv : act.eval x = .int k a := by simpa using hx.1
  have hyv : act.eval y = .int k b := by simpa using hy.1
  refine OpWp.pure I (exec_call2 ho hc ha (v := .int k (if b < a then b else a)) fun ts cs => ?_) (SVRep.one ⟨rfl, ?_⟩)
  · simp [builtin, Builtin.min_, Builtin.min2, hxv, hyv]
  · split
    · exact hy.2
    · exact hx.2
theorem evMax_sound (I : Inv c ι w M) {x y : Operand} {cl : Call} (ho : o.op = .call cl) (hc : cl.callee = .builtin .max) (ha : cl.args.toList = [x, y]) {k : IntKind} {a b : Int}
    (hx : LRep c ι w M (.int k a) [act.eval x]) (hy : LRep c ι w M (.int k b) [act.eval y]) : OpWp P c ι w M act o (.one (.int k (if b > a then b else a))) [] := by
  have hxv : act.eval x = .int k a := by simpa using hx.1
  have hyv : act.eval y = .int k b := by simpa using hy.1
  refine OpWp.pure I (exec_call2 ho hc ha (v := .int k (if b > a then b else a)) fun ts cs => ?_) (SVRep.one ⟨rfl, ?_⟩)
  · simp [builtin, Builtin.max_, Builtin.max2, hxv, hyv]
  · split
    · exact hy.2
    · exact hx.2

/-! ### functions, checks, moves -/
theorem evMove_sound (I : Inv c ι w M) {x : Operand} (ho : o.op = .move x ∨ o.op = .assign x) {sv : SV} (hx : SVRep c ι w M sv (act.eval x)) : OpWp P c ι w M act o sv [] := by
  refine OpWp.pure I (v := act.eval x) ?_ hx
  rcases ho with ho | ho <;> simp [execOp, ho]
theorem evNil_sound (I : Inv c ι w M) {x : Operand} (ho : o.op = .nilCheck x) {l : Leaf} (hx : LRep c ι w M l [act.eval x])
    (hp : (∃ a, act.eval x = .pointer (some a)) ∨ ∃ f a b, act.eval x = .func (.func f) a b) : OpWp P c ι w M act o (.one l) [] := by
  refine OpWp.pure I (v := act.eval x) ?_ (SVRep.one hx)
  rcases hp with ⟨a, ha⟩ | ⟨f, a, b, ha⟩ <;> simp [execOp, ho, ha]
theorem evFunc_sound (I : Inv c ι w M) {f : Nat} {first caps : Array Operand} (ho : o.op = .makeFunc (.func f) first caps) (hf : first.size = 0) {ids : List Nat}
    (hc : caps.toList.map act.eval = ids.map fun id => Value.pointer (ι.base id)) (hids : ∀ id ∈ ids, ∃ ls, M.get id = some (.obj ls)) : OpWp P c ι w M act o (.one (.fn f ids)) [] := by
  have hf' : first = #[] := Array.eq_empty_of_size_eq_zero hf
  subst hf'
  refine OpWp.pure I (v := .func (.func f) #[] (ids.map fun id => Value.pointer (ι.base id)).toArray) ?_ (SVRep.one ⟨rfl, fun id hid => ?_⟩)
  · have e : caps.map act.eval = (ids.map fun id => Value.pointer (ι.base id)).toArray := by
      apply Array.ext'; rw [Array.toList_map, hc]
    simp [execOp, ho, Instr.makeFunc, e]
  · obtain ⟨ls, h⟩ := hids id hid
    exact ⟨_, h, .inr ⟨ls, rfl⟩⟩

/-! ### rows -/
theorem PRep.zeros {S : Nat → Prop} (t : Ty) (n : Nat) : PRep S w (.arr n t) (List.replicate n t.dft) (List.replicate n (zcells t)).flatten := zcells_rep S w (.arr n t)
theorem evMake_sound (tab : TabOk P cfg) (I : Inv c ι w M) {nid T e : Nat} (hid : M.get nid = none) {n m : Operand} (ho : o.op = .makeSlice T n m) {ti te : TI} (hT : cfg.ti T = some ti) (hd : ti.d = .slice e) (he : cfg.ti e = some te)
    {t : Ty} (hty : te.ty = some t) {k k' : IntKind} {a b : Int} (hn : act.eval n = .int k a) (hm : act.eval m = .int k' b) (p0 : 0 ≤ a) (p1 : a ≤ b) (p2 : b * te.bytes ≤ 140737488355328) (p3 : b ≤ 9223372036854775807) :
    OpWp P c ι w M act o (.one (.own nid)) [(nid, .row e t true true (List.replicate a.toNat t.dft))] := by
  obtain ⟨d, hu, h3⟩ := (tab T _ hT).under
  rw [hd] at h3
  have hu : P.underlying T = some (.slice e) := by rw [hu, show d = _ from h3]
  obtain ⟨z, hz, hzc, i, hi, hiz, his, hiby, _⟩ := zero_run (tab e _ he) hty
  obtain ⟨_, _, _, _, _, _, _, _, h7⟩ := (tab e _ he).ex
  obtain ⟨h8, _, _⟩ := h7 t hty
  have hisz : i.size = t.sz := by rw [his, h8]
  have hzs : z.cells.size = t.sz := by rw [← Array.length_toList, hzc, zcells_len]
  have hr := run_make (P := P) w T e i z hu hi hiz k k' a b p0 p1 (by rw [hiby]; have : b * (te.bytes : Int) = te.bytes * b := Int.mul_comm _ _; omega) p3
  rw [← hn, ← hm] at hr
  have hcells : madeCells z.cells (b.toNat * i.size) = (List.replicate b.toNat (zcells t)).flatten.toArray := by
    rw [hisz, ← hzs, ← hzc]
    rcases Nat.eq_zero_or_pos z.cells.size with h0 | h0
    · have e1 : (List.replicate b.toNat z.cells.toList).flatten = [] := List.eq_nil_of_length_eq_zero (by
        rw [length_flatten_const z.cells.size _ (fun ec hec => by rw [List.eq_of_mem_replicate hec, Array.length_toList]), h0, Nat.mul_zero])
      rw [e1, h0, Nat.mul_zero]; simp [madeCells]
    · exact made_zero z.cells b.toNat h0
  have hlen : (List.replicate b.toNat (zcells t)).flatten.length = b.toNat * t.sz := by
    rw [length_flatten_const t.sz _ (fun ec hec => by rw [List.eq_of_mem_replicate hec, zcells_len]), List.length_replicate]
  have hmax : b.toNat ≤ maxLen := by simp only [maxLen]; omega
  obtain ⟨ι', I', x', hb, hc⟩ := Inv.newRow I hid (e := e) (t := t) (fr := true) (l := List.replicate a.toNat t.dft) (cur := madeCells z.cells (b.toNat * i.size)) (cap := b.toNat) true (0, 0) (fun _ => rfl) (by simp)
    (by rw [List.length_replicate]; omega) hmax (by rw [hcells, List.size_toArray, hlen]) (fun y hy => by rw [List.eq_of_mem_replicate hy]; exact dft_valid t) (by
      rw [hcells, List.toList_toArray, List.length_replicate, take_flatten_const t.sz _ _ (fun ec hec => by rw [List.eq_of_mem_replicate hec, zcells_len]), List.take_replicate,
        show min a.toNat b.toNat = a.toNat by omega]
      exact PRep.zeros t _) (Turn.alloc w _ (fun _ => False)) (heap_alloc_new w _)
  refine OpWp.of_run (v := .slice (some ⟨w.heap.size, 0, none⟩) a.toNat b.toNat) (by simp [execOp, ho, hr, Result.andThen]) I' x' (SVRep.one (own_rep (Store.get_set_same ..) ?_))
  rw [hb, hc, List.length_replicate]
end
end Go.Vc
