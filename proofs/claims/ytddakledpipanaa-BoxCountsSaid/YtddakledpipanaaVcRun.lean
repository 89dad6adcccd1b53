/- The operations of a region, one behind the other. -/
import Derived.Test.YtddakledpipanaaVcCall
set_option linter.unusedVariables false
set_option linter.unusedSimpArgs false
namespace Go.Vc

theorem conj_iff : ∀ {ps : List Prop} {q : Prop}, conj ps q ↔ (∀ p ∈ ps, p) ∧ q
  | [], q => by simp [conj]
  | p :: r, q => by
    simp only [conj, conj_iff (ps := r)]
    constructor
    · rintro ⟨h1, h2, h3⟩
      exact ⟨fun x hx => (List.mem_cons.1 hx).elim (fun h => by rw [h]; exact h1) (h2 x), h3⟩
    · rintro ⟨h1, h2⟩
      exact ⟨h1 p (by simp), fun x hx => h1 x (by simp [hx]), h2⟩

section
variable {P : Program} {c : Ctx} {ι ι' : Gh} {w w' : World} {a : Act} {o : Oper} {cfg : Cfg} {s : St}

theorem ConstOk.mono {M M' : Store} (G : ConstOk P cfg c ι w) (x : Ext ι w M ι' w' M') : ConstOk P cfg c ι' w' := by
  refine ⟨fun g t y h => ?_⟩
  obtain ⟨cs, h1, h2, h3⟩ := G.glob g t y h
  exact ⟨cs, h1.mono (SF.mono x.S) (fun b hb => x.heap b hb.1), PRep.mono (SF.mono x.S) (fun b hb => x.heap b hb.1) _ _ _ h2, h3⟩
theorem FRep.ext {M' : Store} (F : FRep c ι w s a) (x : Ext ι w s.M ι' w' M') : FRep c ι' w' { s with M := M' } a :=
  ⟨F.len, fun i v h => (F.env i v h).mono x, fun y hy hk => (F.cenv y hy hk).mono x, F.cund⟩

theorem eget_eset : ∀ (l : List (Option SV)) (d i : Nat) (x : Option SV), eget (eset l d x) i = if i = d then (if d < l.length then x else none) else eget l i
  | [], d, i, x => by simp [eset, eget]
  | y :: r, 0, 0, x => by simp [eset, eget]
  | y :: r, 0, i + 1, x => by simp [eset, eget]
  | y :: r, d + 1, 0, x => by simp [eset, eget]
  | y :: r, d + 1, i + 1, x => by simp only [eset, eget, eget_eset r d i x, List.length_cons]; simp
theorem eset_length : ∀ (l : List (Option SV)) (d : Nat) (x : Option SV), (eset l d x).length = l.length
  | [], d, x => rfl
  | y :: r, 0, x => rfl
  | y :: r, d + 1, x => by simp [eset, eset_length r d x]
theorem inB_lt : ∀ {l : List (Option SV)} {d : Nat}, inB l d = true → d < l.length
  | [], d, h => by cases h
  | y :: r, 0, h => by simp
  | y :: r, d + 1, h => by simpa using inB_lt (l := r) (d := d) h
theorem freeK_ok {d : Nat} : ∀ {k : List (Nat × Bool)}, freeK d k = true → ∀ x ∈ k, x.1 ≠ d
  | [], _ => fun x hx => by cases hx
  | y :: r, h => by
    unfold freeK at h
    cases hb : Nat.beq y.1 d with
    | true => rw [hb] at h; cases h
    | false =>
      rw [hb] at h
      intro x hx
      rcases List.mem_cons.1 hx with rfl | hx
      · intro he; rw [he] at hb; simp at hb
      · exact freeK_ok h x hx
theorem freeC_ok {d : Nat} : ∀ {l : List (Nat × List (Nat × Bool) × SV)}, freeC d l = true → ∀ x ∈ l, x.1 ≠ d ∧ ∀ y ∈ x.2.1, y.1 ≠ d
  | [], _ => fun x hx => by cases hx
  | (i, k, v) :: r, h => by
    unfold freeC at h
    cases hb : Nat.beq i d with
    | true => rw [hb] at h; cases h
    | false =>
      cases hk : freeK d k with
      | false => rw [hb, hk] at h; cases h
      | true =>
        rw [hb, hk] at h
        intro x hx
        rcases List.mem_cons.1 hx with rfl | hx
        · exact ⟨fun he => by have he : i = d := he; rw [he] at hb; simp at hb, freeK_ok hk⟩
        · exact freeC_ok h x hx
theorem eval_put (a : Act) (d i : Nat) (u : Value) : (a.put (some d) u).eval (.tmp i) = if i = d ∧ d < a.tmps.size then u else a.eval (.tmp i) := by
  show (a.tmps.setIfInBounds d u).getD i undef = _
  simp only [Act.eval, Array.getD_eq_getD_getElem?, Array.getElem?_setIfInBounds]
  by_cases h : d = i
  · subst h
    by_cases hs : d < a.tmps.size
    · simp [hs]
    · simp [hs, Array.getElem?_eq_none (Nat.le_of_not_lt hs)]
  · simp [h, Ne.symm h]
theorem put_size (a : Act) (d : Option Nat) (u : Value) : (a.put d u).tmps.size = a.tmps.size := by
  cases d <;> simp [Act.put]
theorem put_defers (a : Act) (d : Option Nat) (u : Value) : (a.put d u).defers = a.defers := by
  cases d <;> simp [Act.put]
theorem holds_put {d : Nat} {u : Value} {k : List (Nat × Bool)} (h : ∀ x ∈ k, x.1 ≠ d) : Holds (a.put (some d) u) k ↔ Holds a k := by
  constructor <;> intro hk x hx
  · have := hk x hx
    rw [eval_put, if_neg (fun hh => h x hx hh.1)] at this; exact this
  · rw [eval_put, if_neg (fun hh => h x hx hh.1)]; exact hk x hx

theorem FRep.put (F : FRep c ι w s a) {cs : List (Nat × Bool)} {dst : Option Nat} {v : SV} {t : St} {u : Value} (h : putSv s cs dst v = some t) (hv : Holds a cs → SVRep c ι w s.M v u) (hu : ¬ Holds a cs → u = undef) :
    t.M = s.M ∧ FRep c ι w t (a.put dst u) := by
  cases dst with
  | none => cases h; exact ⟨rfl, F⟩
  | some d =>
    unfold putSv at h
    simp only at h
    cases hfc : freeC d s.cenv with
    | false => rw [hfc] at h; cases h
    | true =>
      rw [hfc] at h
      simp only [cond_true] at h
      have hfree := freeC_ok hfc
      have hcenv : ∀ x ∈ s.cenv, Holds (a.put (some d) u) x.2.1 → SVRep c ι w s.M x.2.2 ((a.put (some d) u).eval (.tmp x.1)) := fun x hx hk => by
        rw [eval_put, if_neg (fun hh => (hfree x hx).1 hh.1)]
        exact F.cenv x hx ((holds_put (hfree x hx).2).1 hk)
      have hcund : ∀ x ∈ s.cenv, ¬ Holds (a.put (some d) u) x.2.1 → (a.put (some d) u).eval (.tmp x.1) = undef := fun x hx hk => by
        rw [eval_put, if_neg (fun hh => (hfree x hx).1 hh.1)]
        exact F.cund x hx (fun hh => hk ((holds_put (hfree x hx).2).2 hh))
      cases cs with
      | nil =>
        cases h
        refine ⟨rfl, by rw [eset_length, put_size]; exact F.len, fun i v' hi => ?_, hcenv, hcund⟩
        rw [eget_eset] at hi
        rw [eval_put]
        by_cases hid : i = d
        · rw [if_pos hid] at hi
          split at hi
          · rename_i hlt
            cases hi
            rw [if_pos ⟨hid, Nat.lt_of_lt_of_le hlt F.len⟩]
            exact hv (fun x hx => by cases hx)
          · cases hi
        · rw [if_neg hid] at hi
          rw [if_neg (fun hh => hid hh.1)]
          exact F.env i v' hi
      | cons k1 kr =>
        simp only at h
        cases hb : (freeK d (k1 :: kr) && inB s.env d) with
        | false => rw [hb] at h; cases h
        | true =>
          rw [hb] at h
          cases h
          simp only [Bool.and_eq_true] at hb
          have hlt := Nat.lt_of_lt_of_le (inB_lt hb.2) F.len
          refine ⟨rfl, by rw [eset_length, put_size]; exact F.len, fun i v' hi => ?_, fun x hx hk => ?_, fun x hx hk => ?_⟩
          · rw [eget_eset] at hi
            by_cases hid : i = d
            · rw [if_pos hid] at hi; split at hi <;> cases hi
            · rw [if_neg hid] at hi
              rw [eval_put, if_neg (fun hh => hid hh.1)]
              exact F.env i v' hi
          · rcases List.mem_cons.1 hx with rfl | hx
            · rw [eval_put, if_pos ⟨rfl, hlt⟩]
              exact hv ((holds_put (freeK_ok hb.1)).1 hk)
            · exact hcenv x hx hk
          · rcases List.mem_cons.1 hx with rfl | hx
            · rw [eval_put, if_pos ⟨rfl, hlt⟩]
              exact hu (fun hh => hk ((holds_put (freeK_ok hb.1)).2 hh))
            · exact hcund x hx hk

/-! ### guards -/
theorem yielded_of {ops : Array Oper} {j d : Nat} {oj : Oper} (hj : ops.toList[j]? = some oj) (hd : oj.dst = some d) (b : Bool) : (yielded ops a.tmps j == some b) = true ↔ a.eval (.tmp d) = .bool b := by
  have hj' : ops[j]? = some oj := by simpa using hj
  simp only [yielded, hj', Option.bind_some, hd, Act.eval, Array.getD_eq_getD_getElem?]
  cases h : a.tmps[d]? with
  | none => simp [undef]
  | some v => cases v <;> simp
theorem bool_rep {M : Store} {x : Bool} {v : Value} (h : SVRep c ι w M (.v ⟨false, [.bool x]⟩) v) : v = .bool x := by
  have := VRep.leaf (x := ⟨false, [.bool x]⟩) (l := .bool x) rfl h
  simpa [LRep] using this
theorem kb_rep {M : Store} {x : Bool} {v : Value} (h : SVRep c ι w M (.v ⟨false, [.kb x]⟩) v) : v = .bool x := by
  have := VRep.leaf (x := ⟨false, [.kb x]⟩) (l := .kb x) rfl h
  simpa [LRep] using this
theorem tup_rep {M : Store} {v : Value} (h : SVRep c ι w M (.tup []) v) : v = undef := by
  obtain ⟨vs, h1, h2⟩ := h
  rw [h1, show vs = [] from h2]; rfl
theorem und_bool (b : Bool) : undef ≠ .bool b := by intro h; cases h

theorem condsOf_ok (F : FRep c ι w s a) {ops : Array Oper} {r : Option (List (Nat × Bool))} (h : condsOf ops.toList s o.guard = some r) :
    (Region.wanted o (yielded ops a.tmps) = true ↔ ∃ cs, r = some cs ∧ Holds a cs) := by
  unfold Region.wanted
  cases hg : o.guard with
  | none => rw [hg] at h; cases h; simp [Holds]
  | some jb =>
    obtain ⟨j, b⟩ := jb
    rw [hg] at h
    unfold condsOf at h
    simp only at h ⊢
    cases hj : ops.toList[j]? with
    | none => rw [hj] at h; cases h
    | some oj =>
      rw [hj] at h
      simp only at h
      cases hd : oj.dst with
      | none => rw [hd] at h; cases h
      | some d =>
        rw [hd] at h
        simp only at h
        rw [yielded_of hj hd]
        split at h
        · rename_i k x hs
          cases h
          constructor
          · intro he
            refine ⟨_, rfl, fun y hy => ?_⟩
            rcases List.mem_cons.1 hy with rfl | hy
            · exact he
            · by_cases hk : Holds a k
              · exact hk y hy
              · rw [F.slot_und hs hk] at he; exact absurd he (und_bool b)
          · rintro ⟨cs, hcs, hk⟩
            cases hcs
            exact hk (d, b) (by simp)
        · rename_i k b' hs
          cases hbb : (b' == b) with
          | true =>
            rw [hbb] at h; cases h
            have hbb : b' = b := by simpa using hbb
            subst hbb
            constructor
            · intro he
              refine ⟨_, rfl, ?_⟩
              by_cases hk : Holds a k
              · exact hk
              · rw [F.slot_und hs hk] at he; exact absurd he (und_bool _)
            · rintro ⟨cs, hcs, hk⟩
              cases hcs
              exact kb_rep (F.slot hs hk)
          | false =>
            rw [hbb] at h; cases h
            have hbb : b' ≠ b := by simpa using hbb
            constructor
            · intro he
              by_cases hk : Holds a k
              · have := kb_rep (F.slot hs hk)
                rw [this] at he; exact absurd (by simpa using he) hbb
              · rw [F.slot_und hs hk] at he; exact absurd he (und_bool _)
            · rintro ⟨cs, hcs, _⟩; cases hcs
        · rename_i k hs
          cases h
          constructor
          · intro he
            have hu : a.eval (.tmp d) = undef := by
              by_cases hk : Holds a k
              · exact tup_rep (F.slot hs hk)
              · exact F.slot_und hs hk
            rw [hu] at he; exact absurd he (und_bool _)
          · rintro ⟨cs, hcs, _⟩; cases hcs
        · cases h

/-! ### picks -/
theorem pickL_rep {M : Store} {t : Bool} {x y r : Leaf} {u : Value} (hx : t = true → LRep c ι w M x [u]) (hy : t = false → LRep c ι w M y [u]) (h : pickL t x y = some r) : LRep c ι w M r [u] := by
  have asb : ∀ {x y : Leaf} {r : Leaf}, (t = true → LRep c ι w M x [u]) → (t = false → LRep c ι w M y [u]) → (match x.asB, y.asB with | some x, some y => some (Leaf.bool (cond t x y)) | _, _ => none) = some r → LRep c ι w M r [u] := by
    intro x y r hx hy h
    split at h
    · rename_i p q hp hq
      cases h
      cases t with
      | true => have := asB_rep hp (hx rfl); rw [this]; rfl
      | false => have := asB_rep hq (hy rfl); rw [this]; rfl
    · cases h
  unfold pickL at h
  split at h
  · rename_i k a k' b
    split at h
    · rename_i hk; subst hk
      cases h
      cases t with
      | true => exact hx rfl
      | false => exact hy rfl
    · cases h
  · cases h
    cases t with
    | true => exact hx rfl
    | false => exact hy rfl
  · exact asb hx hy h
theorem exec_pick {x p q : Operand} (ho : o.op = .pick x p q) {b : Bool} (hb : a.eval x = .bool b) : (execOp a.eval o).run P w = .ok (.value (a.eval (cond b p q))) w := by
  cases b <;> simp [execOp, ho, hb, asBool]
theorem evPick_sound (I : Inv c ι w s.M) (F : FRep c ι w s a) (G : ConstOk P cfg c ι w) {cs : List (Nat × Bool)} (hk : Holds a cs) {x p q : Operand} (ho : o.op = .pick x p q) {e : Eff} (h : evPick cfg s cs x p q = some e) :
    OpWp P c ι w s.M a o e.sv e.upd := by
  unfold evPick at h
  split at h
  · rename_i d
    split at h
    · rename_i k t hs
      cases hb : subC k cs with
      | false => rw [hb] at h; cases h
      | true =>
        rw [hb] at h
        simp only [cond_true] at h
        have hv := kb_rep (F.slot hs (subC_holds hb hk))
        cases hd : opd cfg s cs (cond t p q) with
        | none => rw [hd] at h; cases h
        | some v =>
          rw [hd] at h; cases h
          exact OpWp.pure I (exec_pick ho hv) (opd_rep F G hk hd)
    · rename_i k t hs
      cases hb : subC k cs with
      | false => rw [hb] at h; cases h
      | true =>
        rw [hb] at h
        simp only [cond_true] at h
        have hv := bool_rep (F.slot hs (subC_holds hb hk))
        split at h
        · rename_i la lb hla hlb
          cases hp : pickL t la lb with
          | none => rw [hp] at h; cases h
          | some r =>
            rw [hp] at h; cases h
            refine OpWp.pure I (exec_pick ho hv) (SVRep.one (pickL_rep (fun ht => ?_) (fun ht => ?_) hp))
            · subst ht
              exact opl_rep F G (fun y hy => (List.mem_cons.1 hy).elim (fun h => by rw [h]; exact hv) (hk y)) hla
            · subst ht
              exact opl_rep F G (fun y hy => (List.mem_cons.1 hy).elim (fun h => by rw [h]; exact hv) (hk y)) hlb
        · cases h
    · cases h
  · cases h
end
end Go.Vc
