/- Addresses of elements, cuts, lengths, arithmetic. -/
import Derived.Test.YtddakledpipanaaVcOp2
set_option linter.unusedVariables false
set_option linter.unusedSimpArgs false
namespace Go.Vc

section
variable {P : Program} {c : Ctx} {ι : Gh} {w : World} {M : Store} {act : Act} {o : Oper} {cfg : Cfg}

theorem isSl_ok (tab : TabOk P cfg) {T n : Nat} (h : isSl cfg T n = true) : ∃ e, P.underlying T = some (.slice e) ∧ ∀ w, (sizeOf e).run P w = .ok n w := by
  unfold isSl at h
  split at h
  · rename_i e _ _ _ hT
    split at h
    · rename_i ti he
      obtain ⟨d, i, hd, _, _, _, h3, _⟩ := (tab T _ hT).ex
      refine ⟨e, by rw [hd, show d = _ from h3], fun w => ?_⟩
      rw [run_sizeOf_ti (tab e ti he), Nat.eq_of_beq_eq_true h]
    · cases h
  · cases h
theorem isAr_ok (tab : TabOk P cfg) {T m n : Nat} (h : isAr cfg T m n = true) : ∃ e, P.underlying T = some (.array m e) ∧ ∀ w, (sizeOf e).run P w = .ok n w := by
  unfold isAr at h
  split at h
  · rename_i m' e _ _ _ hT
    split at h
    · rename_i ti he
      simp only [Bool.and_eq_true] at h
      obtain ⟨d, i, hd, _, _, _, h3, _⟩ := (tab T _ hT).ex
      refine ⟨e, by rw [hd, show d = _ from h3, Nat.eq_of_beq_eq_true h.1], fun w => ?_⟩
      rw [run_sizeOf_ti (tab e ti he), Nat.eq_of_beq_eq_true h.2]
    · cases h
  · cases h
theorem isStr_ok (tab : TabOk P cfg) {T : Nat} (h : isStr cfg T = true) : P.underlying T = some .string := by
  unfold isStr at h
  split at h
  · rename_i hT
    obtain ⟨d, i, hd, _, _, _, h3, _⟩ := (tab T _ hT).ex
    rw [hd, show d = _ from h3]
  · cases h

theorem run_indexAt_sl {T e n : Nat} (hu : P.underlying T = some (.slice e)) (hs : ∀ w, (sizeOf e).run P w = .ok n w) (a : Addr) (len cap : Nat) (k : IntKind) (i : Int) (h0 : 0 ≤ i) (h1 : i < (len : Int)) (w : World) :
    (Instr.indexAt T (.slice (some a) len cap) (.int k i)).run P w = .ok (.pointer (some (a.add (i.toNat * n)))) w := by
  simp [Instr.indexAt, asIntOf, run_underlying hu, hs, h0, h1]
theorem run_indexAt_ar {T e m n : Nat} (hu : P.underlying T = some (.array m e)) (hs : ∀ w, (sizeOf e).run P w = .ok n w) (a : Addr) (k : IntKind) (i : Int) (h0 : 0 ≤ i) (h1 : i < (m : Int)) (w : World) :
    (Instr.indexAt T (.pointer (some a)) (.int k i)).run P w = .ok (.pointer (some (a.add (i.toNat * n)))) w := by
  simp [Instr.indexAt, asIntOf, run_underlying hu, hs, h0, h1, Instr.sureAddr]
theorem exec_indexAddr {T : Nat} {x i : Operand} (ho : o.op = .indexAddr T x i) {v : Value} (hr : (Instr.indexAt T (act.eval x) (act.eval i)).run P w = .ok v w) :
    (execOp act.eval o).run P w = .ok (.value v) w := by
  simp [execOp, ho, hr]

theorem evIndexAddr_sound (tab : TabOk P cfg) (I : Inv c ι w M) {T : Nat} {x y : Operand} (ho : o.op = .indexAddr T x y) {l : Leaf} (hx : LRep c ι w M l [act.eval x])
    {k : IntKind} {i : Int} (hy : act.eval y = .int k i) {ps : List Prop} {r : Leaf} (he : evIndexAddr cfg M T l i = some (ps, r)) (hp : ∀ p ∈ ps, p) : OpWp P c ι w M act o (.one r) [] := by
  have hnat : ∀ {n : Nat}, 0 ≤ i → i < (n : Int) → i.toNat < n := fun h0 h1 => by omega
  unfold evIndexAddr at he
  cases l with
  | psl fr t l =>
    simp only at he
    cases hs : isSl cfg T t.sz with
    | false => rw [hs] at he; cases he
    | true =>
      rw [hs] at he; cases he
      obtain ⟨e, hu, hz⟩ := isSl_ok tab hs
      have h0 := hp (0 ≤ i) (by simp)
      have h1 := hp (i < (l.length : Int)) (by simp)
      obtain ⟨h2, h3⟩ := hx
      obtain ⟨a, n, cp, e1, e2, e3, e4⟩ := h2
      have e1' : act.eval x = .slice a n cp := by simpa using e1
      subst e2
      obtain ⟨ad, ecs, q1, q2, q3⟩ := PRep.elemAt (S := SF c ι fr) (w := w) (a := a) (n := l.length) (cp := cp) ⟨a, _, cp, rfl, rfl, e3, e4⟩ i.toNat (hnat h0 h1)
      subst q1
      refine OpWp.pure I (exec_indexAddr ho (by rw [e1', hy]; exact run_indexAt_sl hu hz ad _ cp k i h0 h1 w)) (SVRep.one ?_)
      exact ⟨_, ecs, rfl, q3, q2, Valid.elem h3.1 _ (hnat h0 h1)⟩
  | own id =>
    simp only [LRep] at hx
    simp only at he
    cases hm : M.get id with
    | none => rw [hm] at he; cases he
    | some en =>
      rw [hm] at he hx
      cases en with
      | row e0 t fr ap l =>
        simp only at he hx
        cases hs : isSl cfg T t.sz with
        | false => rw [hs] at he; cases he
        | true =>
          rw [hs] at he; cases he
          obtain ⟨e, hu, hz⟩ := isSl_ok tab hs
          have h0 := hp (0 ≤ i) (by simp)
          have h1 := hp (i < (l.length : Int)) (by simp)
          have hx' : act.eval x = .slice (ι.base id) l.length (ι.cap id) := by simpa using hx
          obtain ⟨xs, q1, q2, q3⟩ := I.ents id _ hm
          rcases q3.2 with ⟨_, _, hn, _⟩ | ⟨g, cur, fz, hb, _⟩
          · omega
          · rw [hb] at hx'
            refine OpWp.pure I (exec_indexAddr ho (by rw [hx', hy]; exact run_indexAt_sl hu hz _ _ _ k i h0 h1 w)) (SVRep.one ?_)
            simp only [LRep, hm]
            exact ⟨_, hb, by rw [Nat.add_zero]⟩
      | frz t fr l =>
        simp only at he hx
        cases hs : isSl cfg T t.sz with
        | false => rw [hs] at he; cases he
        | true =>
          rw [hs] at he; cases he
          obtain ⟨e, hu, hz⟩ := isSl_ok tab hs
          have h0 := hp (0 ≤ i) (by simp)
          have h1 := hp (i < (l.length : Int)) (by simp)
          have hx' : act.eval x = .slice (ι.base id) l.length (ι.cap id) := by simpa using hx
          obtain ⟨q1, q2⟩ := I.ents id _ hm
          obtain ⟨ad, ecs, r1, r2, r3⟩ := q1.elemAt i.toNat (hnat h0 h1)
          rw [r1] at hx'
          refine OpWp.pure I (exec_indexAddr ho (by rw [hx', hy]; exact run_indexAt_sl hu hz _ _ _ k i h0 h1 w)) (SVRep.one ?_)
          exact ⟨_, ecs, rfl, r3, r2, Valid.elem q2.1 _ (hnat h0 h1)⟩
      | obj ls => simp only at hx
      | dead => simp only at he; cases he
  | sl id lo n =>
    simp only [LRep] at hx
    simp only at he
    cases hm : M.get id with
    | none => rw [hm] at he; cases he
    | some en =>
      rw [hm] at he hx
      cases en with
      | row e0 t fr ap l =>
        simp only at he hx
        cases hs : isSl cfg T t.sz with
        | false => rw [hs] at he; cases he
        | true =>
          rw [hs] at he; cases he
          obtain ⟨e, hu, hz⟩ := isSl_ok tab hs
          have h0 := hp (0 ≤ i) (by simp)
          have h1 := hp (i < (n : Int)) (by simp)
          obtain ⟨a, e1, e2, e3⟩ := hx
          have hx' : act.eval x = .slice a n (ι.cap id - lo) := by simpa using e1
          obtain ⟨xs, q1, q2, q3⟩ := I.ents id _ hm
          rcases q3.2 with ⟨_, _, hn, _⟩ | ⟨g, cur, fz, hb, _, _, _, _, hnc, _⟩
          · omega
          · rw [e3 (by omega), hb] at hx'
            refine OpWp.pure I (exec_indexAddr ho (by rw [hx', hy]; exact run_indexAt_sl hu hz _ _ _ k i h0 h1 w)) (SVRep.one ?_)
            simp only [LRep, hm]
            exact ⟨_, hb, by rw [Nat.add_zero, Addr.add_add, ← Nat.add_mul]⟩
      | frz t fr l =>
        simp only at he hx
        cases hs : isSl cfg T t.sz with
        | false => rw [hs] at he; cases he
        | true =>
          rw [hs] at he; cases he
          obtain ⟨e, hu, hz⟩ := isSl_ok tab hs
          have h0 := hp (0 ≤ i) (by simp)
          have h1 := hp (i < (n : Int)) (by simp)
          obtain ⟨a, e1, e2, e3⟩ := hx
          have hx' : act.eval x = .slice a n (ι.cap id - lo) := by simpa using e1
          obtain ⟨q1, q2⟩ := I.ents id _ hm
          obtain ⟨ad, ecs, r1, r2, r3⟩ := q1.elemAt (lo + i.toNat) (by have := hnat h0 h1; omega)
          have hcp : l.length ≤ ι.cap id := by
            obtain ⟨_, _, _, z1, z2, z3, _⟩ := q1
            simp at z1; omega
          rw [e3 (by omega), r1] at hx'
          refine OpWp.pure I (exec_indexAddr ho (by rw [hx', hy]; exact run_indexAt_sl hu hz _ _ _ k i h0 h1 w)) (SVRep.one ?_)
          refine ⟨_, ecs, rfl, ?_, r2, Valid.elem q2.1 _ (by have := hnat h0 h1; omega)⟩
          rw [Addr.add_add, ← Nat.add_mul]; exact r3
      | obj ls => simp only at hx
      | dead => simp only at he; cases he
  | asl id off lo n =>
    simp only [LRep] at hx
    simp only at he
    cases hm : M.get id with
    | none => rw [hm] at he; cases he
    | some en =>
      rw [hm] at he hx
      cases en <;> simp only at he hx <;> first | cases he | skip
      rename_i ls
      cases hla : lat ls off with
      | none => rw [hla] at he; cases he
      | some q =>
        rw [hla] at he hx
        cases q <;> simp only at he hx <;> first | cases he | skip
        rename_i N fr t l
        cases hs : isSl cfg T t.sz with
        | false => rw [hs] at he; cases he
        | true =>
          rw [hs] at he; cases he
          obtain ⟨e, hu, hz⟩ := isSl_ok tab hs
          have h0 := hp (0 ≤ i) (by simp)
          have h1 := hp (i < (n : Int)) (by simp)
          obtain ⟨b, a, e1, e2, e3, e4⟩ := hx
          have hx' : act.eval x = .slice (some a) n (N - lo) := by simpa using e3
          rw [e4 (by omega)] at hx'
          refine OpWp.pure I (exec_indexAddr ho (by rw [hx', hy]; exact run_indexAt_sl hu hz _ _ _ k i h0 h1 w)) (SVRep.one ?_)
          simp only [LRep, hm, hla]
          refine ⟨b, e1, ?_⟩
          have hadd : ∀ o' n', (⟨b, o', none⟩ : Addr).add n' = ⟨b, o' + n', none⟩ := fun o' n' => by unfold Addr.add; split <;> simp_all
          rw [hadd, Nat.add_zero, Nat.add_assoc, ← Nat.add_mul]
  | ptr id off =>
    simp only [LRep] at hx
    simp only at he
    cases hm : M.get id with
    | none => rw [hm] at he; cases he
    | some en =>
      rw [hm] at he hx
      cases en <;> simp only at he hx <;> first | cases he | skip
      rename_i ls
      cases hla : lat ls off with
      | none => rw [hla] at he; cases he
      | some q =>
        rw [hla] at he
        cases q <;> simp only at he <;> first | cases he | skip
        rename_i N fr t l
        cases hs : isAr cfg T N t.sz with
        | false => rw [hs] at he; cases he
        | true =>
          rw [hs] at he; cases he
          obtain ⟨e, hu, hz⟩ := isAr_ok tab hs
          have h0 := hp (0 ≤ i) (by simp)
          have h1 := hp (i < (N : Int)) (by simp)
          obtain ⟨b, e1, e2⟩ := hx
          have hx' : act.eval x = .pointer (some ⟨b, off, none⟩) := by simpa using e2
          refine OpWp.pure I (exec_indexAddr ho (by rw [hx', hy]; exact run_indexAt_ar hu hz _ k i h0 h1 w)) (SVRep.one ?_)
          simp only [LRep, hm, hla]
          refine ⟨b, e1, ?_⟩
          have hadd : ∀ o' n', (⟨b, o', none⟩ : Addr).add n' = ⟨b, o' + n', none⟩ := fun o' n' => by unfold Addr.add; split <;> simp_all
          rw [hadd, Nat.add_zero]
  | cst fr t y' =>
    cases t <;> simp only at he <;> first | cases he | skip
    rename_i n t
    cases hs : isAr cfg T n t.sz with
    | false => rw [hs] at he; cases he
    | true =>
      rw [hs] at he; cases he
      obtain ⟨e, hu, hz⟩ := isAr_ok tab hs
      have h0 := hp (0 ≤ i) (by simp)
      have h1 := hp (i < (n : Int)) (by simp)
      obtain ⟨ad, pcs, e1, e2, e3, e4⟩ := hx
      have hx' : act.eval x = .pointer (some ad) := by simpa using e1
      have hl : (y' : List t.den).length = n := e4.2
      refine OpWp.pure I (exec_indexAddr ho (by rw [hx', hy]; exact run_indexAt_ar hu hz _ k i h0 h1 w)) (SVRep.one ?_)
      obtain ⟨k1, k2⟩ := e3.elem i.toNat (by rw [hl]; exact hnat h0 h1)
      exact ⟨_, _, rfl, e2.add _ _, k1, Valid.elem e4.1 _ (by rw [hl]; exact hnat h0 h1)⟩
  | _ => simp only at he; cases he

/-! ### arithmetic -/
theorem asB_rep {l : Leaf} {b : Bool} {v : Value} (h : l.asB = some b) (hr : LRep c ι w M l [v]) : v = .bool b := by
  cases l <;> simp only [Leaf.asB] at h <;> cases h
  · simpa using (show [v] = [.bool b] from hr)
  · simpa using (show [v] = [.bool b] from hr)
theorem wrap_valid (k : IntKind) (n : Int) : Valid (.int k) (k.wrap n) := by
  show k.min ≤ _ ∧ _ ≤ k.max
  have hb : (0 : Int) < 2 ^ k.bits := by cases k <;> decide
  have h1 := Int.emod_nonneg n (Int.ne_of_gt hb)
  have h2 := Int.emod_lt_of_pos n hb
  cases k <;> simp [IntKind.wrap, IntKind.min, IntKind.max, IntKind.signed, IntKind.bits] at * <;> (try split) <;> omega
theorem exec_bin {op : BinOp} {T T' : Nat} {x y : Operand} (ho : o.op = .binOp op T x y T') {r : Value} (hg : (eqGuard op T x y (act.eval x) (act.eval y)).run P w = .ok () w)
    (hr : (binOp op T (act.eval x) (act.eval y)).run P w = .ok r w) : (execOp act.eval o).run P w = .ok (.value r) w := by
  simp [execOp, ho, hg, hr]
end
end Go.Vc
