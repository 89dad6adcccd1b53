/- Cuts, lengths, fields, elements of values, parts of results, conversions. -/
import Derived.Test.YtddakledpipanaaVcOp4
set_option linter.unusedVariables false
set_option linter.unusedSimpArgs false
namespace Go.Vc

theorem sub_rep {S : Nat → Prop} {w : World} : ∀ (t : Ty) (x : t.den) (o : Nat) (tf : Ty) (z : tf.den) (cs : List Value), sub t x o tf = some z → PRep S w t x cs → Valid t x →
    PRep S w tf z ((cs.drop o).take tf.sz) ∧ Valid tf z ∧ o + tf.sz ≤ cs.length := by
  have base : ∀ (t : Ty) (x : t.den) (o : Nat) (tf : Ty) (z : tf.den) (cs : List Value), (if h : t = tf ∧ o = 0 then some (h.1 ▸ x : tf.den) else none) = some z → PRep S w t x cs → Valid t x →
      PRep S w tf z ((cs.drop o).take tf.sz) ∧ Valid tf z ∧ o + tf.sz ≤ cs.length := by
    intro t x o tf z cs h hr hv
    split at h
    · rename_i hh
      obtain ⟨rfl, rfl⟩ := hh
      cases h
      have hl := PRep.len _ _ _ hr
      rw [List.drop_zero, List.take_of_length_le (by omega)]
      exact ⟨hr, hv, by omega⟩
    · cases h
  intro t
  induction t with
  | pair a b iha ihb =>
    intro x o tf z cs h hr hv
    unfold sub at h
    split at h
    · rename_i hh
      obtain ⟨rfl, rfl⟩ := hh
      cases h
      have hl := PRep.len _ _ _ hr
      rw [List.drop_zero, List.take_of_length_le (by omega)]
      exact ⟨hr, hv, by omega⟩
    · obtain ⟨c1, c2, rfl, h2, h3⟩ := hr
      have hl1 := PRep.len _ _ _ h2
      cases hb : Nat.blt o a.sz with
      | true =>
        rw [hb] at h
        obtain ⟨k1, k2, k3⟩ := iha x.1 o tf z c1 h h2 hv.1
        refine ⟨?_, k2, by rw [List.length_append]; omega⟩
        rw [List.drop_append_of_le_length (by omega), List.take_append_of_le_length (by rw [List.length_drop]; omega)]
        exact k1
      | false =>
        rw [hb] at h
        have hle : a.sz ≤ o := by
          have hn : ¬ (Nat.blt o a.sz = true) := by rw [hb]; simp
          simp only [Nat.blt_eq] at hn
          omega
        obtain ⟨k1, k2, k3⟩ := ihb x.2 (o - a.sz) tf z c2 h h3 hv.2
        refine ⟨?_, k2, by rw [List.length_append]; omega⟩
        rw [List.drop_append, List.drop_of_length_le (by omega), List.nil_append, hl1]
        exact k1
  | int k => exact base _
  | bool => exact base _
  | str => exact base _
  | unit => exact base _
  | slice e _ => exact base _
  | arr n e _ => exact base _

section
variable {P : Program} {c : Ctx} {ι : Gh} {w : World} {M : Store} {act : Act} {o : Oper} {cfg : Cfg}

theorem fieldOf_ok (tab : TabOk P cfg) {T f off ft : Nat} (h : fieldOf cfg T f = some (off, ft)) : ∃ fs fd, P.underlying T = some (.struct fs) ∧ fs[f]? = some fd ∧ fd.offset = off ∧ fd.type = ft := by
  unfold fieldOf at h
  split at h
  · rename_i l _ _ _ hT
    obtain ⟨d, i, hd, _, _, _, h3, _⟩ := (tab T _ hT).ex
    obtain ⟨fs, rfl, hl⟩ := h3
    rw [← hl, List.getElem?_map] at h
    cases hf : fs.toList[f]? with
    | none => rw [hf] at h; cases h
    | some fd =>
      rw [hf] at h
      simp only [Option.map_some, Option.some.injEq, Prod.mk.injEq] at h
      exact ⟨fs, fd, hd, by rw [← Array.getElem?_toList]; exact hf, h.1, h.2⟩
  · cases h
theorem sized_ok (tab : TabOk P cfg) {T : Nat} (h : sized cfg T = true) : ∃ ti, cfg.ti T = some ti ∧ 0 < ti.size ∧ ∀ w, (sizeOf T).run P w = .ok ti.size w := by
  unfold sized at h
  split at h
  · rename_i ti hT
    exact ⟨ti, hT, by simpa using h, run_sizeOf_ti (tab T ti hT)⟩
  · cases h
theorem exec_fieldAddr (tab : TabOk P cfg) {T f off ft : Nat} {x : Operand} (ho : o.op = .fieldAddr T x f) (hf : fieldOf cfg T f = some (off, ft)) (hs : sized cfg ft = true) {a : Addr}
    (hx : act.eval x = .pointer (some a)) : (execOp act.eval o).run P w = .ok (.value (.pointer (some (a.add off)))) w := by
  obtain ⟨fs, fd, h1, h2, h3, h4⟩ := fieldOf_ok tab hf
  obtain ⟨ti, h5, h6, h7⟩ := sized_ok tab hs
  have h8 : ti.size ≠ 0 := by omega
  simp [execOp, ho, hx, Instr.fieldAt, run_underlying h1, h2, Instr.sureAddr, fieldPlace, h4, h7, h8, h3]
theorem aliveB_ok {id : Nat} (h : aliveB M id = true) : M.get id ≠ some .dead ∧ M.get id ≠ none := by
  unfold aliveB at h
  split at h <;> first
    | (rename_i hm; rw [hm]; exact ⟨fun hh => (by cases hh), fun hh => (by cases hh)⟩)
    | cases h
theorem evField_sound (tab : TabOk P cfg) (I : Inv c ι w M) {T f off ft : Nat} {x : Operand} (ho : o.op = .fieldAddr T x f) (hf : fieldOf cfg T f = some (off, ft)) {l r : Leaf}
    (hx : LRep c ι w M l [act.eval x]) (he : evField cfg M off ft l = some r) : OpWp P c ι w M act o (.one r) [] := by
  have hadd : ∀ b o' n', (⟨b, o', none⟩ : Addr).add n' = ⟨b, o' + n', none⟩ := fun b o' n' => by unfold Addr.add; split <;> simp_all
  unfold evField at he
  cases hs : sized cfg ft with
  | false => rw [hs] at he; cases he
  | true =>
    rw [hs] at he
    simp only [cond_true] at he
    cases l with
    | ptr id o' =>
      simp only at he
      cases ha : aliveB M id with
      | false => rw [ha] at he; cases he
      | true =>
        rw [ha] at he; cases he
        obtain ⟨a1, a2⟩ := aliveB_ok ha
        simp only [LRep] at hx
        cases hm : M.get id with
        | none => exact absurd hm a2
        | some en =>
          rw [hm] at hx a1
          cases en <;> simp only at hx <;> first | exact absurd rfl a1 | skip
          obtain ⟨b, e1, e2⟩ := hx
          refine OpWp.pure I (exec_fieldAddr tab ho hf hs (by simpa using e2)) (SVRep.one ?_)
          simp only [LRep, hm]
          exact ⟨b, e1, by rw [hadd]⟩
    | eptr id i o' =>
      simp only at he
      cases ha : aliveB M id with
      | false => rw [ha] at he; cases he
      | true =>
        rw [ha] at he; cases he
        obtain ⟨a1, a2⟩ := aliveB_ok ha
        simp only [LRep] at hx
        cases hm : M.get id with
        | none => exact absurd hm a2
        | some en =>
          rw [hm] at hx a1
          cases en <;> simp only at hx <;> first | exact absurd rfl a1 | skip
          all_goals
            obtain ⟨ad, e1, e2⟩ := hx
            refine OpWp.pure I (exec_fieldAddr tab ho hf hs (by simpa using e2)) (SVRep.one ?_)
            simp only [LRep, hm]
            exact ⟨ad, e1, by rw [Addr.add_add, Nat.add_assoc]⟩
    | aptr id ao i o' =>
      simp only at he
      cases ha : aliveB M id with
      | false => rw [ha] at he; cases he
      | true =>
        rw [ha] at he; cases he
        obtain ⟨a1, a2⟩ := aliveB_ok ha
        simp only [LRep] at hx
        cases hm : M.get id with
        | none => exact absurd hm a2
        | some en =>
          rw [hm] at hx a1
          cases en <;> simp only at hx <;> first | exact absurd rfl a1 | skip
          rename_i ls
          cases hla : lat ls ao with
          | none => rw [hla] at hx; exact hx.elim
          | some q =>
            rw [hla] at hx
            cases q <;> simp only at hx
            obtain ⟨b, e1, e2⟩ := hx
            refine OpWp.pure I (exec_fieldAddr tab ho hf hs (by simpa using e2)) (SVRep.one ?_)
            simp only [LRep, hm, hla]
            exact ⟨b, e1, by rw [hadd]; simp only [Nat.add_assoc]⟩
    | cst fr t y =>
      simp only at he
      split at he
      · rename_i tf hft
        split at he
        · rename_i z hz
          cases he
          obtain ⟨ad, pcs, e1, e2, e3, e4⟩ := hx
          obtain ⟨k1, k2, k3⟩ := sub_rep _ _ _ _ _ _ hz e3 e4
          refine OpWp.pure I (exec_fieldAddr tab ho hf hs (by simpa using e1)) (SVRep.one ?_)
          exact ⟨_, _, rfl, e2.add _ _, k1, k2⟩
        · cases he
      · cases he
    | _ => simp only at he; cases he

/-! ### cuts -/
theorem exec_slice {T : Nat} {x : Operand} {lo hi : Option Operand} (ho : o.op = .slice T x lo hi none) {v : Value} (hr : (Instr.sliceAt T (act.eval x) (lo.map act.eval) (hi.map act.eval) none).run P w = .ok v w) :
    (execOp act.eval o).run P w = .ok (.value v) w := by
  simp [execOp, ho, hr]
/-- A bound, as an operand has it. -/
def BoundIs (act : Act) (x : Option Operand) (n : Option Int) : Prop := match x, n with
  | none, none => True
  | some y, some i => ∃ k, act.eval y = .int k i
  | _, _ => False
theorem run_bounds {sl : Bool} {len cap : Nat} {lo hi : Option Operand} {a b : Option Int} (ha : BoundIs act lo a) (hb : BoundIs act hi b) (h0 : 0 ≤ a.getD 0) (h1 : a.getD 0 ≤ b.getD (len : Int)) (h2 : b.getD (len : Int) ≤ (cap : Int)) (w : World) :
    (Instr.sliceBounds sl len cap (lo.map act.eval) (hi.map act.eval) none).run P w = .ok ((a.getD 0).toNat, (b.getD (len : Int)).toNat, cap) w := by
  cases lo <;> cases a <;> simp only [BoundIs] at ha <;> cases hi <;> cases b <;> simp only [BoundIs] at hb
  · simp [Instr.sliceBounds]
  · obtain ⟨k, hk⟩ := hb
    simp only [Option.getD_some, Option.getD_none] at h1 h2 ⊢
    simp [Instr.sliceBounds, hk, Instr.sliceBound, asIntOf, h1, h2]
  · obtain ⟨k, hk⟩ := ha
    simp only [Option.getD_some, Option.getD_none] at h0 h1 h2 ⊢
    simp [Instr.sliceBounds, hk, Instr.sliceBound, asIntOf, h0, h1]
  · obtain ⟨k, hk⟩ := ha
    obtain ⟨k', hk'⟩ := hb
    simp only [Option.getD_some] at h0 h1 h2 ⊢
    have h3 := Int.le_trans h0 h1
    have h4 := Int.toNat_of_nonneg h3
    simp [Instr.sliceBounds, hk, hk', Instr.sliceBound, asIntOf, h0, h1, h2, h3, h4]

theorem run_slice_sl {T e n : Nat} (hu : P.underlying T = some (.slice e)) (hs : ∀ w, (sizeOf e).run P w = .ok n w) {lo hi : Option Operand} {a b : Option Int} {bs' : Option Addr} {len cap : Nat} (ha : BoundIs act lo a) (hb : BoundIs act hi b)
    (h0 : 0 ≤ a.getD 0) (h1 : a.getD 0 ≤ b.getD (len : Int)) (h2 : b.getD (len : Int) ≤ (cap : Int)) (w : World) :
    (Instr.sliceAt T (.slice bs' len cap) (lo.map act.eval) (hi.map act.eval) none).run P w =
      .ok (.slice (if cap = (a.getD 0).toNat then bs' else bs'.map (·.add ((a.getD 0).toNat * n))) ((b.getD (len : Int)).toNat - (a.getD 0).toNat) (cap - (a.getD 0).toNat)) w := by
  simp [Instr.sliceAt, Instr.slice, run_underlying hu, run_bounds ha hb h0 h1 h2, hs]
theorem run_slice_ar {T e m n : Nat} (hu : P.underlying T = some (.array m e)) (hs : ∀ w, (sizeOf e).run P w = .ok n w) {lo hi : Option Operand} {a b : Option Int} {ad : Addr} (ha : BoundIs act lo a) (hb : BoundIs act hi b)
    (h0 : 0 ≤ a.getD 0) (h1 : a.getD 0 ≤ b.getD (m : Int)) (h2 : b.getD (m : Int) ≤ (m : Int)) (w : World) :
    (Instr.sliceAt T (.pointer (some ad)) (lo.map act.eval) (hi.map act.eval) none).run P w =
      .ok (.slice (some (if m = (a.getD 0).toNat then ad else ad.add ((a.getD 0).toNat * n))) ((b.getD (m : Int)).toNat - (a.getD 0).toNat) (m - (a.getD 0).toNat)) w := by
  simp [Instr.sliceAt, run_underlying hu, run_bounds ha hb h0 h1 h2, hs, Instr.sureAddr]
theorem run_slice_str {T : Nat} (hu : P.underlying T = some .string) {lo hi : Option Operand} {a b : Option Int} {s : ByteArray} (ha : BoundIs act lo a) (hb : BoundIs act hi b)
    (h0 : 0 ≤ a.getD 0) (h1 : a.getD 0 ≤ b.getD (s.size : Int)) (h2 : b.getD (s.size : Int) ≤ (s.size : Int)) (w : World) :
    (Instr.sliceAt T (.string s) (lo.map act.eval) (hi.map act.eval) none).run P w = .ok (.string (s.extract (a.getD 0).toNat (b.getD (s.size : Int)).toNat)) w := by
  simp [Instr.sliceAt, Instr.slice, run_underlying hu, run_bounds ha hb h0 h1 h2]

theorem evSlice_sound (tab : TabOk P cfg) (I : Inv c ι w M) {T : Nat} {x : Operand} {lo hi : Option Operand} (ho : o.op = .slice T x lo hi none) {l r : Leaf} {a b : Option Int} (hx : LRep c ι w M l [act.eval x])
    (ha : BoundIs act lo a) (hb : BoundIs act hi b) {ps : List Prop} (he : evSlice cfg M T l a b = some (ps, r)) (hp : ∀ p ∈ ps, p) : OpWp P c ι w M act o (.one r) [] := by
  have hget : ∀ {n : Int}, ps = [0 ≤ a.getD 0, a.getD 0 ≤ b.getD n, b.getD n ≤ n] → 0 ≤ a.getD 0 ∧ a.getD 0 ≤ b.getD n ∧ b.getD n ≤ n := by
    intro n h; subst h; exact ⟨hp _ (by simp), hp _ (by simp), hp _ (by simp)⟩
  unfold evSlice at he
  cases l with
  | str l =>
    simp only at he
    cases hs : isStr cfg T with
    | false => rw [hs] at he; cases he
    | true =>
      rw [hs] at he; simp only [cond_true, Option.some.injEq, Prod.mk.injEq] at he
      obtain ⟨hps, rfl⟩ := he
      obtain ⟨h0, h1, h2⟩ := hget hps.symm
      have e1 : act.eval x = .string (bs l) := by simpa using hx.1
      have hr := run_slice_str (P := P) (s := bs l) (isStr_ok tab hs) ha hb h0 (by rw [bs_size]; exact h1) (by rw [bs_size]; exact h2) w
      refine OpWp.pure I (exec_slice ho (by rw [e1]; exact hr)) (SVRep.one ⟨by rw [bs_extract, bs_size], fun z hz => hx.2.1 z (List.mem_of_mem_drop (List.mem_of_mem_take hz)), ?_⟩)
      have := hx.2.2
      rw [List.length_take, List.length_drop]; omega
  | psl fr t l =>
    simp only at he
    cases hs : isSl cfg T t.sz with
    | false => rw [hs] at he; cases he
    | true =>
      rw [hs] at he; simp only [cond_true, Option.some.injEq, Prod.mk.injEq] at he
      obtain ⟨hps, rfl⟩ := he
      obtain ⟨h0, h1, h2⟩ := hget hps.symm
      obtain ⟨e, hu, hz⟩ := isSl_ok tab hs
      obtain ⟨q1, q2⟩ := hx
      obtain ⟨bs', n, cp, e1, e2, e3, e4⟩ := q1
      have e1' : act.eval x = .slice bs' n cp := by simpa using e1
      subst e2
      have hr := run_slice_sl hu hz (bs' := bs') (len := l.length) (cap := cp) ha hb h0 h1 (by omega) w
      refine OpWp.pure I (exec_slice ho (by rw [e1']; exact hr)) (SVRep.one ⟨?_, q2.part _ _⟩)
      refine PRep.part (b := bs') ⟨bs', _, cp, rfl, rfl, e3, e4⟩ (by omega) (fun hlt => ?_)
      rw [if_neg (by omega)]
  | own id =>
    simp only [LRep] at hx
    simp only at he
    cases hm : M.get id with
    | none => rw [hm] at hx; exact hx.elim
    | some en =>
      rw [hm] at he hx
      cases en with
      | row e0 t fr ap l =>
        simp only at hx
        have e1 : act.eval x = .slice (ι.base id) l.length (ι.cap id) := by simpa using hx
        obtain ⟨xs, q1, q2, q3⟩ := I.ents id _ hm
        have hnc : l.length ≤ ι.cap id := by
          rcases q3.2 with ⟨_, _, hn, _⟩ | ⟨_, _, _, _, _, _, _, _, hn, _⟩ <;> omega
        have main : isSl cfg T t.sz = true → ps = [0 ≤ a.getD 0, a.getD 0 ≤ b.getD (l.length : Int), b.getD (l.length : Int) ≤ (l.length : Int)] → r = .sl id (a.getD 0).toNat ((b.getD (l.length : Int)).toNat - (a.getD 0).toNat) → OpWp P c ι w M act o (.one r) [] := by
          intro hs hps hr'
          subst hr'
          obtain ⟨h0, h1, h2⟩ := hget hps
          obtain ⟨e, hu, hz⟩ := isSl_ok tab hs
          have hr := run_slice_sl hu hz (bs' := ι.base id) (len := l.length) (cap := ι.cap id) ha hb h0 h1 (by omega) w
          refine OpWp.pure I (exec_slice ho (by rw [e1]; exact hr)) (SVRep.one ?_)
          simp only [LRep, hm]
          exact ⟨_, rfl, by omega, fun hlt => by rw [if_neg (by omega)]⟩
        have whole : isSl cfg T t.sz = true → a = none → b = none → r = .own id → OpWp P c ι w M act o (.one r) [] := by
          intro hs ha' hb' hr'
          subst hr' ha' hb'
          obtain ⟨e, hu, hz⟩ := isSl_ok tab hs
          have hr := run_slice_sl hu hz (bs' := ι.base id) (len := l.length) (cap := ι.cap id) ha hb (by simp) (by simp) (by simp; exact hnc) w
          refine OpWp.pure I (exec_slice ho (by rw [e1]; exact hr)) (SVRep.one ?_)
          simp only [LRep, hm]
          simp only [Option.getD_none, Int.toNat_zero, Nat.zero_mul, Nat.sub_zero, Int.toNat_natCast]
          congr 2
          split
          · rfl
          · cases ι.base id <;> simp [Addr.add]
        cases hs : isSl cfg T t.sz with
        | false => cases a <;> cases b <;> simp [hs] at he
        | true =>
          cases a <;> cases b <;> simp only [hs, cond_true, Option.some.injEq, Prod.mk.injEq] at he
          · exact whole hs rfl rfl he.2.symm
          · exact main hs he.1.symm he.2.symm
          · exact main hs he.1.symm he.2.symm
          · exact main hs he.1.symm he.2.symm
      | frz t fr l =>
        simp only at hx
        have e1 : act.eval x = .slice (ι.base id) l.length (ι.cap id) := by simpa using hx
        obtain ⟨q1, q2⟩ := I.ents id _ hm
        have hnc : l.length ≤ ι.cap id := by
          obtain ⟨_, _, _, z1, z2, z3, _⟩ := q1
          simp at z1; omega
        have main : isSl cfg T t.sz = true → ps = [0 ≤ a.getD 0, a.getD 0 ≤ b.getD (l.length : Int), b.getD (l.length : Int) ≤ (l.length : Int)] → r = .psl fr t ((l.drop (a.getD 0).toNat).take ((b.getD (l.length : Int)).toNat - (a.getD 0).toNat)) → OpWp P c ι w M act o (.one r) [] := by
          intro hs hps hr'
          subst hr'
          obtain ⟨h0, h1, h2⟩ := hget hps
          obtain ⟨e, hu, hz⟩ := isSl_ok tab hs
          have hr := run_slice_sl hu hz (bs' := ι.base id) (len := l.length) (cap := ι.cap id) ha hb h0 h1 (by omega) w
          refine OpWp.pure I (exec_slice ho (by rw [e1]; exact hr)) (SVRep.one ⟨?_, q2.part _ _⟩)
          exact q1.part (by omega) (fun hlt => by rw [if_neg (by omega)])
        cases hs : isSl cfg T t.sz with
        | false => cases a <;> cases b <;> simp [hs] at he
        | true =>
          cases a <;> cases b <;> simp only [hs, cond_true, Option.some.injEq, Prod.mk.injEq] at he <;> exact main hs he.1.symm he.2.symm
      | obj ls => simp only at hx
      | dead => cases a <;> cases b <;> simp at he
  | sl id lo' n =>
    simp only [LRep] at hx
    simp only at he
    cases hm : M.get id with
    | none => rw [hm] at hx; exact hx.elim
    | some en =>
      rw [hm] at he hx
      cases en <;> simp only at he hx <;> first | cases he | skip
      rename_i e0 t fr ap l
      cases hs : isSl cfg T t.sz with
      | false => rw [hs] at he; cases he
      | true =>
        rw [hs] at he; simp only [cond_true, Option.some.injEq, Prod.mk.injEq] at he
        obtain ⟨hps, rfl⟩ := he
        obtain ⟨h0, h1, h2⟩ := hget hps.symm
        obtain ⟨e, hu, hz⟩ := isSl_ok tab hs
        obtain ⟨bs', e1, e2, e3⟩ := hx
        have e1' : act.eval x = .slice bs' n (ι.cap id - lo') := by simpa using e1
        obtain ⟨xs, q1, q2, q3⟩ := I.ents id _ hm
        have hnc : l.length ≤ ι.cap id := by
          rcases q3.2 with ⟨_, _, hn, _⟩ | ⟨_, _, _, _, _, _, _, _, hn, _⟩ <;> omega
        have hr := run_slice_sl hu hz (bs' := bs') (len := n) (cap := ι.cap id - lo') ha hb h0 h1 (by omega) w
        refine OpWp.pure I (exec_slice ho (by rw [e1']; exact hr)) (SVRep.one ?_)
        simp only [LRep, hm]
        refine ⟨_, by rw [← Nat.sub_sub], by omega, fun hlt => ?_⟩
        rw [if_neg (by omega), e3 (by omega), Option.map_map]
        congr 1
        funext z
        simp only [Function.comp, Addr.add_add, Nat.add_mul]
  | ptr id off =>
    simp only [LRep] at hx
    simp only at he
    cases hm : M.get id with
    | none => rw [hm] at hx; exact hx.elim
    | some en =>
      rw [hm] at he hx
      cases en <;> simp only at he hx <;> first | cases he | skip
      rename_i ls
      cases hla : lat ls off with
      | none => rw [hla] at he; cases he
      | some q =>
        rw [hla] at he
        cases q <;> simp only at he <;> first | cases he | skip
        rename_i N fr t l
        cases hs : isAr cfg T N t.sz with
        | false => rw [hs] at he; cases he
        | true =>
          rw [hs] at he; simp only [cond_true, Option.some.injEq, Prod.mk.injEq] at he
          obtain ⟨hps, rfl⟩ := he
          obtain ⟨h0, h1, h2⟩ := hget hps.symm
          obtain ⟨e, hu, hz⟩ := isAr_ok tab hs
          obtain ⟨b', e1, e2⟩ := hx
          have e2' : act.eval x = .pointer (some ⟨b', off, none⟩) := by simpa using e2
          have hr := run_slice_ar hu hz (ad := ⟨b', off, none⟩) ha hb h0 h1 h2 w
          refine OpWp.pure I (exec_slice ho (by rw [e2']; exact hr)) (SVRep.one ?_)
          simp only [LRep, hm, hla]
          refine ⟨b', _, e1, by omega, rfl, fun hlt => ?_⟩
          rw [if_neg (by omega)]
          unfold Addr.add; split <;> simp_all
  | _ => simp only at he; cases he
end
end Go.Vc
