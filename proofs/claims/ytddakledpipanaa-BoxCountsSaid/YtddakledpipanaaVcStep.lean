/- How the evaluator's variables stand to a frame's; single operations of a region. -/
import Derived.Test.YtddakledpipanaaVcOp10
set_option linter.unusedVariables false
set_option linter.unusedSimpArgs false
namespace Go.Vc

def Holds (a : Act) (k : List (Nat × Bool)) : Prop := ∀ x ∈ k, a.eval (.tmp x.1) = .bool x.2
structure FRep (c : Ctx) (ι : Gh) (w : World) (s : St) (a : Act) : Prop where
  len : s.env.length ≤ a.tmps.size
  env : ∀ i v, eget s.env i = some v → SVRep c ι w s.M v (a.eval (.tmp i))
  cenv : ∀ x ∈ s.cenv, Holds a x.2.1 → SVRep c ι w s.M x.2.2 (a.eval (.tmp x.1))
  cund : ∀ x ∈ s.cenv, ¬ Holds a x.2.1 → a.eval (.tmp x.1) = undef

section
variable {P : Program} {c : Ctx} {ι : Gh} {w : World} {a : Act} {o : Oper} {cfg : Cfg} {s : St}

theorem cget_mem : ∀ {l : List (Nat × List (Nat × Bool) × SV)} {i : Nat} {x : List (Nat × Bool) × SV}, cget l i = some x → (i, x) ∈ l
  | [], _, _, h => by cases h
  | (j, y) :: r, i, x, h => by
    unfold cget at h
    cases hb : Nat.beq j i with
    | true => rw [hb] at h; cases h; rw [Nat.eq_of_beq_eq_true hb]; simp
    | false => rw [hb] at h; exact List.mem_cons_of_mem _ (cget_mem h)
theorem FRep.slot (F : FRep c ι w s a) {i : Nat} {k : List (Nat × Bool)} {v : SV} (h : s.slot i = some (k, v)) (hk : Holds a k) : SVRep c ι w s.M v (a.eval (.tmp i)) := by
  unfold St.slot at h
  cases he : eget s.env i with
  | some u => rw [he] at h; cases h; exact F.env i _ he
  | none => rw [he] at h; exact F.cenv _ (cget_mem h) hk
theorem FRep.slot_und (F : FRep c ι w s a) {i : Nat} {k : List (Nat × Bool)} {v : SV} (h : s.slot i = some (k, v)) (hk : ¬ Holds a k) : a.eval (.tmp i) = undef := by
  unfold St.slot at h
  cases he : eget s.env i with
  | some u => rw [he] at h; cases h; exact (hk (fun x hx => by cases hx)).elim
  | none => rw [he] at h; exact F.cund _ (cget_mem h) hk
theorem memC_mem {x : Nat × Bool} : ∀ {l : List (Nat × Bool)}, memC x l = true → x ∈ l
  | [], h => by cases h
  | y :: r, h => by
    unfold memC at h
    cases hb : (Nat.beq x.1 y.1 && (x.2 == y.2)) with
    | true =>
      simp only [Bool.and_eq_true] at hb
      have : x = y := Prod.ext (Nat.eq_of_beq_eq_true hb.1) (by simpa using hb.2)
      rw [this]; simp
    | false => rw [hb] at h; exact List.mem_cons_of_mem _ (memC_mem h)
theorem subC_holds : ∀ {k l : List (Nat × Bool)}, subC k l = true → Holds a l → Holds a k
  | [], _, _, _ => fun x hx => by cases hx
  | y :: r, l, h, hl => by
    unfold subC at h
    cases hb : memC y l with
    | false => rw [hb] at h; cases h
    | true =>
      rw [hb] at h
      intro x hx
      rcases List.mem_cons.1 hx with rfl | hx
      · exact hl _ (memC_mem hb)
      · exact subC_holds h hl x hx

/-! ### operands -/
/-- Strings among the constants are no longer than a string can be; globals that are told are as told. -/
structure ConstOk (P : Program) (cfg : Cfg) (c : Ctx) (ι : Gh) (w : World) : Prop where
  glob : ∀ g t x, cfg.glob g = some ⟨t, x⟩ → ∃ cs, At (SF c ι false) w ⟨g, 0, none⟩ cs ∧ PRep (SF c ι false) w t x cs ∧ Valid t x

theorem constV_rep {M : Store} {v : Value} {x : V} (h : constV v = some x) : VRep c ι w M x v := by
  have agg : ∀ (l : List Value) (ls : List Leaf), allSome (l.map constL) = some ls → LsRep c ι w M ls l := by
    intro l
    induction l with
    | nil => intro ls h; cases h; rfl
    | cons u r ih =>
      intro ls h
      simp only [List.map_cons] at h
      cases hu : constL u with
      | none => rw [hu] at h; cases h
      | some y =>
        rw [hu] at h
        simp only [allSome] at h
        cases hr : allSome (r.map constL) with
        | none => rw [hr] at h; cases h
        | some z =>
          rw [hr] at h
          cases h
          exact ⟨[u], r, rfl, constL_rep hu, ih z hr⟩
  cases v <;> simp only [constV] at h
  case agg cs =>
    cases hl : allSome (cs.toList.map constL) with
    | none => rw [hl] at h; cases h
    | some ls =>
      rw [hl] at h
      cases h
      exact ⟨cs.toList, agg _ _ hl, by simp⟩
  all_goals
    first
    | (cases h; done)
    | (split at h
       · cases h
         rename_i l hl
         exact VRep.one (constL_rep hl)
       · cases h)

theorem opd_rep (F : FRep c ι w s a) (G : ConstOk P cfg c ι w) {cs : List (Nat × Bool)} (hk : Holds a cs) {x : Operand} {v : SV} (h : opd cfg s cs x = some v) : SVRep c ι w s.M v (a.eval x) := by
  cases x with
  | tmp t =>
    simp only [opd] at h
    cases hl : s.slot t with
    | none => rw [hl] at h; cases h
    | some kv =>
      obtain ⟨k, u⟩ := kv
      rw [hl] at h
      simp only at h
      cases hb : subC k cs with
      | false => rw [hb] at h; cases h
      | true => rw [hb] at h; cases h; exact F.slot hl (subC_holds hb hk)
  | const v' =>
    simp only [opd] at h
    cases hl : constV v' with
    | none => rw [hl] at h; cases h
    | some y => rw [hl] at h; cases h; exact constV_rep hl
  | global g =>
    simp only [opd] at h
    cases hg : cfg.glob g with
    | none => rw [hg] at h; cases h
    | some p =>
      obtain ⟨t, y⟩ := p
      rw [hg] at h
      cases h
      obtain ⟨cs', h1, h2, h3⟩ := G.glob g t y hg
      exact SVRep.one ⟨⟨g, 0, none⟩, cs', rfl, h1, h2, h3⟩
  | func f =>
    simp only [opd] at h
    cases h
    exact SVRep.one ⟨rfl, fun id hid => by cases hid⟩
theorem opv_rep (F : FRep c ι w s a) (G : ConstOk P cfg c ι w) {cs : List (Nat × Bool)} (hk : Holds a cs) {x : Operand} {v : V} (h : opv cfg s cs x = some v) : VRep c ι w s.M v (a.eval x) := by
  unfold opv at h
  cases hd : opd cfg s cs x with
  | none => rw [hd] at h; cases h
  | some sv =>
    rw [hd] at h
    cases sv with
    | v y => cases h; exact opd_rep F G hk hd
    | tup l => cases h
theorem opl_rep (F : FRep c ι w s a) (G : ConstOk P cfg c ι w) {cs : List (Nat × Bool)} (hk : Holds a cs) {x : Operand} {l : Leaf} (h : opl cfg s cs x = some l) : LRep c ι w s.M l [a.eval x] := by
  unfold opl at h
  cases hd : opv cfg s cs x with
  | none => rw [hd] at h; cases h
  | some v => rw [hd] at h; exact (opv_rep F G hk hd).leaf h
theorem opi_rep (F : FRep c ι w s a) (G : ConstOk P cfg c ι w) {cs : List (Nat × Bool)} (hk : Holds a cs) {x : Operand} {n : Int} (h : opi cfg s cs x = some n) : ∃ k, a.eval x = .int k n := by
  unfold opi at h
  cases hd : opl cfg s cs x with
  | none => rw [hd] at h; cases h
  | some l =>
    have hr := opl_rep F G hk hd
    rw [hd] at h
    cases l <;> simp only at h <;> cases h
    exact ⟨_, by simpa using hr.1⟩
theorem opb_rep (F : FRep c ι w s a) (G : ConstOk P cfg c ι w) {cs : List (Nat × Bool)} (hk : Holds a cs) {x : Operand} {b : Bool} (h : opb cfg s cs x = some b) : a.eval x = .bool b := by
  unfold opb at h
  cases hd : opl cfg s cs x with
  | none => rw [hd] at h; cases h
  | some l =>
    have hr := opl_rep F G hk hd
    rw [hd] at h
    cases l <;> simp only at h <;> cases h <;> simpa [LRep] using hr
theorem opis_rep (F : FRep c ι w s a) (G : ConstOk P cfg c ι w) {cs : List (Nat × Bool)} (hk : Holds a cs) {x : Option Operand} {n : Option Int} (h : opis cfg s cs x = some n) : BoundIs a x n := by
  cases x with
  | none => cases h; trivial
  | some y =>
    simp only [opis] at h
    cases hd : opi cfg s cs y with
    | none => rw [hd] at h; cases h
    | some m => rw [hd] at h; cases h; exact opi_rep F G hk hd
end
end Go.Vc
