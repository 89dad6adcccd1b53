/- Structs and arrays that are built. -/
import Derived.Test.YtddakledpipanaaVcOp9
import Derived.Laws.Tables
set_option linter.unusedVariables false
set_option linter.unusedSimpArgs false
namespace Go.Vc
section
variable {P : Program} {c : Ctx} {ι : Gh} {w : World} {M : Store} {act : Act} {o : Oper} {cfg : Cfg}

theorem places_ok (tab : TabOk P cfg) : ∀ fields : List Field, known cfg (fields.map fun f => (f.offset, f.type)) = true →
    ∃ places, fields.mapM (fun f => (P.info? f.type).map fun i => (f.offset, i.size)) = some places ∧ ∀ (i : Nat) f, fields[i]? = some f → ∃ ti, cfg.ti f.type = some ti ∧ places[i]? = some (f.offset, ti.size)
  | [], _ => ⟨[], rfl, fun i f h => by simp at h⟩
  | f :: r, h => by
    simp only [List.map_cons, known, Bool.and_eq_true] at h
    obtain ⟨h1, h2⟩ := h
    obtain ⟨places, h3, h4⟩ := places_ok tab r h2
    cases ht : cfg.ti f.type with
    | none => rw [ht] at h1; cases h1
    | some ti =>
      obtain ⟨d, i, _, hi, h5, _⟩ := (tab _ _ ht).ex
      refine ⟨(f.offset, ti.size) :: places, by simp [List.mapM_cons, hi, h3, h5], fun j g hg => ?_⟩
      cases j with
      | zero => simp at hg; subst hg; exact ⟨ti, ht, rfl⟩
      | succ j => exact h4 j g (by simpa using hg)
theorem exec_build {T : Nat} {ps : Array (Nat × Operand)} (ho : o.op = .build T ps) {cells : Array Value} (h : P.built T (ps.toList.map fun x => (x.1, act.eval x.2)) = some cells) :
    (execOp act.eval o).run P w = .ok (.value (.agg cells)) w := by
  have hm : (ps.map fun x => (x.1, act.eval x.2)).toList = ps.toList.map fun x => (x.1, act.eval x.2) := by simp
  have hr := run_build (P := P) w T (ps.map fun x => (x.1, act.eval x.2)) cells (by rw [hm]; exact h)
  simp [execOp, ho, hr, Result.andThen]

theorem evBuild_sound {s : St} {cs : List (Nat × Bool)} (hop : ∀ x v, opv cfg s cs x = some v → VRep c ι w s.M v (act.eval x)) {T : Nat} {fs : List (Nat × Nat)} {place : Nat → Option (Nat × Nat)}
    (hpl : ∀ (i : Nat) off ft, fs[i]? = some (off, ft) → ∃ ti, cfg.ti ft = some ti ∧ place i = some (off, ti.size)) :
    ∀ (ps : List (Nat × Operand)) (ls : List Leaf) (cells : Array Value) {r : List Leaf}, evBuild cfg s cs T fs ps ls = some r → LsRep c ι w s.M ls cells.toList →
      ∃ cells', Instr.fill place cells (ps.map fun x => (x.1, act.eval x.2)) = some cells' ∧ LsRep c ι w s.M r cells'.toList
  | [], ls, cells, r, h, hr => by cases h; exact ⟨cells, rfl, hr⟩
  | (i, x) :: ps, ls, cells, r, h, hr => by
    unfold evBuild at h
    split at h
    · rename_i off ft v hf hv
      cases hs : sizeT cfg ft with
      | none => rw [hs] at h; cases h
      | some sz =>
        rw [hs] at h
        simp only at h
        cases hb : Nat.beq (widths v.ls) sz with
        | false => rw [hb] at h; cases h
        | true =>
          rw [hb] at h
          simp only [cond_true] at h
          have hb := Nat.eq_of_beq_eq_true hb
          cases hl : lset ls off sz v.ls with
          | none => rw [hl] at h; cases h
          | some ls' =>
            rw [hl] at h
            obtain ⟨ti, ht, hp⟩ := hpl i off ft hf
            have hsz : sz = ti.size := by unfold sizeT at hs; rw [ht] at hs; cases hs; rfl
            obtain ⟨ds, h1, h2⟩ := (hop x v hv).cells
            have hlen : ds.length = sz := by rw [h1.len, hb]
            obtain ⟨k1, k2⟩ := lset_splice h1 hl hr hlen
            rw [Array.length_toList] at k2
            have hvs : (act.eval x).cells.size = sz := by rw [← Array.length_toList, h2, hlen]
            rw [List.map_cons, fill_cons (off := off) (size := sz) (by rw [hp, hsz]) hvs k2, h2]
            exact evBuild_sound hop hpl ps ls' _ h (by rw [List.toList_toArray]; exact k1)
    · cases h

theorem evBuildStruct_sound {s : St} {cs : List (Nat × Bool)} (tab : TabOk P cfg) (I : Inv c ι w s.M) (hop : ∀ x v, opv cfg s cs x = some v → VRep c ι w s.M v (act.eval x)) {T : Nat} {ps : Array (Nat × Operand)} (ho : o.op = .build T ps)
    {ti : TI} (hT : cfg.ti T = some ti) {fs : List (Nat × Nat)} (hd : ti.d = .struct fs) (hk : known cfg fs = true) {ls r : List Leaf} (hz : zeroLs cfg T = some ls) (h : evBuild cfg s cs T fs ps.toList ls = some r) :
    OpWp P c ι w s.M act o (.v ⟨true, r⟩) [] := by
  obtain ⟨d, hu, h3⟩ := (tab T _ hT).under
  rw [hd] at h3
  obtain ⟨fields, hdf, hfs⟩ := h3
  rw [hdf] at hu
  obtain ⟨places, hp1, hp2⟩ := places_ok tab fields.toList (by rw [hfs]; exact hk)
  unfold zeroLs at hz
  split at hz
  · rename_i td sz by' t hT'
    cases hz
    obtain ⟨z, _, hzc, i, hi, hiz, _⟩ := zero_run (tab T _ hT') rfl
    obtain ⟨cells', k1, k2⟩ := evBuild_sound (place := fun i => places.toArray[i]?) hop (fun j off ft hj => by
      rw [← hfs, List.getElem?_map] at hj
      cases hf : fields.toList[j]? with
      | none => rw [hf] at hj; cases hj
      | some f =>
        rw [hf] at hj
        cases hj
        obtain ⟨ti', q1, q2⟩ := hp2 j f hf
        exact ⟨ti', q1, by simpa using q2⟩) ps.toList _ z.cells h (by rw [hzc]; exact explodeZ_rep t)
    refine OpWp.pure I (exec_build ho (cells := cells') ?_) ⟨cells'.toList, k2, by simp⟩
    unfold Program.built
    simp only [hi, hu, hiz, hp1]
    exact k1
  · cases hz
theorem evBuildArr_sound {s : St} {cs : List (Nat × Bool)} (tab : TabOk P cfg) (I : Inv c ι w s.M) (hop : ∀ x v, opv cfg s cs x = some v → VRep c ι w s.M v (act.eval x)) {T n e : Nat} {ps : Array (Nat × Operand)} (ho : o.op = .build T ps)
    {ti te : TI} (hT : cfg.ti T = some ti) (hd : ti.d = .array n e) {t : Ty} (hty : ti.ty = some (.arr n t)) (he : cfg.ti e = some te) (hte : te.ty = some t)
    {fr : Bool} {l : List t.den} {fz : List (Nat × Entry)} (h : evElems cfg s cs n t ps.toList true (List.replicate n t.dft) [] = some (fr, l, fz)) :
    OpWp P c ι w s.M act o (.v ⟨true, [.arr n fr t l]⟩) fz := by
  obtain ⟨d, hu, h3⟩ := (tab T _ hT).under
  rw [hd] at h3
  have hu : P.underlying T = some (.array n e) := by rw [hu, show d = _ from h3]
  obtain ⟨z, _, hzc, i, hi, hiz, _⟩ := zero_run (tab T _ hT) hty
  obtain ⟨_, _, _, ie, hie, _, his, _⟩ := zero_run (tab e _ he) hte
  obtain ⟨_, _, _, _, _, _, _, _, h7⟩ := (tab e _ he).ex
  obtain ⟨h8, _, _⟩ := h7 t hte
  have hisz : ie.size = t.sz := by rw [his, h8]
  obtain ⟨cells', hf, hE⟩ := evElems_sound I hop ps.toList true _ _ z.cells h (by rw [hzc]; exact ElOk.zero n t)
  obtain ⟨ι1, I1, x1, hb1, hc1, hr1, hv1⟩ := hE.frozen I
  refine OpWp.of_run (exec_build ho (cells := cells') ?_) I1 x1 ⟨cells'.toList, ⟨cells'.toList, [], by simp, ⟨hr1, hv1, hr1.1⟩, rfl⟩, by simp⟩
  unfold Program.built
  simp only [hi, hu, hiz, hie, hisz]
  exact hf
end
end Go.Vc
