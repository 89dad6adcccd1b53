/- What the evaluator makes of some entries it makes of more entries, too. -/
import Derived.Test.YtddakledpipanaaVcRun3
set_option linter.unusedVariables false
set_option linter.unusedSimpArgs false
namespace Go.Vc
def MLe (M M' : Store) : Prop := ∀ id e, M.get id = some e → M'.get id = some e
section
variable {c : Cfg} {M M' : Store} (hM : MLe M M')
include hM
theorem implode_mono : ∀ (t : Ty) {ls : List Leaf} {x : Im t}, implode M t ls = some x → implode M' t ls = some x
  | .int _, ls, x, h => by
    match ls, h with
    | .int _ _ :: _, h => exact h
  | .bool, ls, x, h => by
    match ls, h with
    | .bool _ :: _, h => exact h
    | .kb _ :: _, h => exact h
  | .str, ls, x, h => by
    match ls, h with
    | .str _ :: _, h => exact h
  | .unit, ls, x, h => h
  | .slice e, ls, x, h => by
    match ls, h with
    | .psl _ _ _ :: _, h => exact h
    | .nils :: _, h => exact h
    | .own id :: r, h =>
      simp only [implode] at h ⊢
      cases hg : M.get id with
      | none => rw [hg] at h; cases h
      | some en => rw [hM _ _ hg]; rw [hg] at h; exact h
    | .sl id lo n :: r, h =>
      simp only [implode] at h ⊢
      cases hg : M.get id with
      | none => rw [hg] at h; cases h
      | some en => rw [hM _ _ hg]; rw [hg] at h; exact h
  | .arr n e, ls, x, h => by
    match ls, h with
    | .arr _ _ _ _ :: _, h => exact h
  | .pair a b, ls, x, h => by
    simp only [implode] at h ⊢
    cases h1 : implode M a ls with
    | none => rw [h1] at h; cases h
    | some p =>
      rw [h1] at h
      rw [implode_mono a h1]
      simp only at h ⊢
      cases h2 : implode M b p.rest with
      | none => rw [h2] at h; cases h
      | some q => rw [h2] at h; rw [implode_mono b h2]; exact h
theorem listOf_mono {e : Ty} {x : Leaf} {r} (h : listOf M e x = some r) : listOf M' e x = some r := by
  cases x with
  | own id | sl id lo n | asl id off lo n =>
    simp only [listOf] at h ⊢
    cases hg : M.get id with
    | none => rw [hg] at h; cases h
    | some en => rw [hM _ _ hg]; rw [hg] at h; exact h
  | _ => exact h
theorem evLoad_mono {T : Nat} {x : Leaf} {r} (h : evLoad c M T x = some r) : evLoad c M' T x = some r := by
  unfold evLoad at h ⊢
  cases hT : c.ti T with
  | none => rw [hT] at h; cases h
  | some ti =>
    rw [hT] at h
    cases x with
    | ptr id off | eptr id i off | aptr id aoff i off =>
      simp only at h ⊢
      cases hg : M.get id with
      | none => rw [hg] at h; cases h
      | some en => rw [hM _ _ hg]; rw [hg] at h; exact h
    | _ => exact h
theorem evStore_mono {T : Nat} {x : Leaf} {y : V} {r} (h : evStore c M T x y = some r) : evStore c M' T x y = some r := by
  unfold evStore at h ⊢
  cases hT : c.ti T with
  | none => rw [hT] at h; cases h
  | some ti =>
    rw [hT] at h
    simp only at h ⊢
    cases hw : Nat.beq (widths y.ls) ti.size with
    | false => rw [hw] at h; cases h
    | true =>
      rw [hw] at h
      simp only [cond_true] at h ⊢
      cases x with
      | ptr id off =>
        simp only at h ⊢
        cases hg : M.get id with
        | none => rw [hg] at h; cases h
        | some en => rw [hM _ _ hg]; rw [hg] at h; exact h
      | eptr id i off =>
        simp only at h ⊢
        cases hg : M.get id with
        | none => rw [hg] at h; cases h
        | some en =>
          rw [hM _ _ hg]; rw [hg] at h
          cases en <;> simp only at h ⊢ <;> first | (cases h; done) | skip
          rename_i e t fr ap l
          cases hs : lset (explode fr t (idx l i)) off ti.size y.ls with
          | none => rw [hs] at h; cases h
          | some q =>
            rw [hs] at h
            simp only at h ⊢
            cases hi : implode M t q with
            | none => rw [hi] at h; cases h
            | some im => rw [implode_mono hM t hi]; rw [hi] at h; exact h
      | aptr id aoff i off =>
        simp only at h ⊢
        cases hg : M.get id with
        | none => rw [hg] at h; cases h
        | some en =>
          rw [hM _ _ hg]; rw [hg] at h
          cases en <;> simp only at h ⊢ <;> first | (cases h; done) | skip
          rename_i ls
          cases hl : lat ls aoff with
          | none => rw [hl] at h; cases h
          | some lf =>
            rw [hl] at h
            cases lf <;> simp only at h ⊢ <;> first | (cases h; done) | skip
            rename_i n fr t l
            cases hs : lset (explode fr t (idx l i)) off ti.size y.ls with
            | none => rw [hs] at h; cases h
            | some q =>
              rw [hs] at h
              simp only at h ⊢
              cases hi : implode M t q with
              | none => rw [hi] at h; cases h
              | some im => rw [implode_mono hM t hi]; rw [hi] at h; exact h
      | _ => exact h
theorem evIndexAddr_mono {T : Nat} {x : Leaf} {i : Int} {r} (h : evIndexAddr c M T x i = some r) : evIndexAddr c M' T x i = some r := by
  unfold evIndexAddr at h ⊢
  cases x with
  | own id | sl id lo n | asl id off lo n | ptr id off =>
    simp only at h ⊢
    cases hg : M.get id with
    | none => rw [hg] at h; cases h
    | some en => rw [hM _ _ hg]; rw [hg] at h; exact h
  | cst fr t y => cases t <;> exact h
  | _ => exact h
theorem evLen0_mono {x : Leaf} {r} (h : evLen0 M x = some r) : evLen0 M' x = some r := by
  unfold evLen0 at h ⊢
  cases x with
  | own id | sl id lo n | asl id off lo n =>
    simp only at h ⊢
    cases hg : M.get id with
    | none => rw [hg] at h; cases h
    | some en => rw [hM _ _ hg]; rw [hg] at h; exact h
  | _ => exact h
theorem evLen_mono {T : Nat} {x : Leaf} {r} (h : evLen c M T x = some r) : evLen c M' T x = some r := by
  unfold evLen at h ⊢
  cases x <;> simp only at h ⊢ <;> first | exact h | skip
  all_goals
    cases hb : isSlT c T with
    | false => rw [hb] at h; cases h
    | true => rw [hb] at h; simp only [cond_true] at h ⊢; exact evLen0_mono hM h
theorem evSlice_mono {T : Nat} {x : Leaf} {lo hi : Option Int} {r} (h : evSlice c M T x lo hi = some r) : evSlice c M' T x lo hi = some r := by
  unfold evSlice at h ⊢
  cases x with
  | own id =>
    simp only at h ⊢
    cases hg : M.get id with
    | none => rw [hg] at h; cases lo <;> cases hi <;> cases h
    | some en => rw [hM _ _ hg]; rw [hg] at h; exact h
  | sl id lo n | ptr id off =>
    simp only at h ⊢
    cases hg : M.get id with
    | none => rw [hg] at h; cases h
    | some en => rw [hM _ _ hg]; rw [hg] at h; exact h
  | _ => exact h
theorem evConvert_mono {nid S T : Nat} {x : Leaf} {r} (h : evConvert c M nid S T x = some r) : evConvert c M' nid S T x = some r := by
  unfold evConvert at h ⊢
  cases hS : c.ti S with
  | none => rw [hS] at h; cases h
  | some si =>
    cases hT : c.ti T with
    | none => rw [hS, hT] at h; cases h
    | some ti =>
      rw [hS, hT] at h
      obtain ⟨td, a1, a2, a3⟩ := ti
      obtain ⟨sd, b1, b2, b3⟩ := si
      have key : ∀ {e : Nat}, (match c.ti e with
          | some ⟨.int .u8, _, _, _⟩ => match listOf M (.int .u8) x with
            | some (_, l) => some (⟨[], .one (.str l), []⟩ : Eff)
            | none => none
          | _ => none) = some r → (match c.ti e with
          | some ⟨.int .u8, _, _, _⟩ => match listOf M' (.int .u8) x with
            | some (_, l) => some (⟨[], .one (.str l), []⟩ : Eff)
            | none => none
          | _ => none) = some r := by
        intro e h
        split at h <;> first | (cases h; done) | skip
        rename_i he
        cases hl : listOf M (.int .u8) x with
        | none => rw [hl] at h; cases h
        | some y => rw [listOf_mono hM hl]; rw [hl] at h; exact h
      cases x <;> cases td <;> simp only at h ⊢ <;> first | exact h | (cases h; done) | skip
      case own.slice id e =>
        split at h <;> first | (cases h; done) | skip
        cases hg : M.get id with
        | none => rw [hg] at h; cases h
        | some en => rw [hM _ _ hg]; rw [hg] at h; exact h
      all_goals
        cases sd <;> simp only at h ⊢ <;> first | (cases h; done) | skip
        exact key h
theorem evAppend_mono {nid T U : Nat} {x y : Leaf} {r} (h : evAppend c M nid T U x y = some r) : evAppend c M' nid T U x y = some r := by
  unfold evAppend at h ⊢
  cases hT : c.ti T with
  | none => rw [hT] at h; cases h
  | some ti =>
    rw [hT] at h
    obtain ⟨td, a1, a2, a3⟩ := ti
    cases td <;> simp only at h ⊢ <;> first | (cases h; done) | skip
    rename_i e
    cases he : c.ti e with
    | none => rw [he] at h; cases h
    | some ei =>
      rw [he] at h
      obtain ⟨ed, b1, bytes, b3⟩ := ei
      cases b3 with
      | none => cases h
      | some te =>
        simp only at h ⊢
        cases hb : (Nat.blt 0 te.sz && cond (isStrL y) (isStr c U && Nat.beq bytes 1) (Nat.beq U T)) with
        | false => rw [hb] at h; cases h
        | true =>
          rw [hb] at h
          simp only [cond_true] at h ⊢
          cases hl : listOf M te y with
          | none => rw [hl] at h; cases h
          | some q =>
            rw [listOf_mono hM hl]; rw [hl] at h
            cases x with
            | own id =>
              simp only at h ⊢
              cases hg : M.get id with
              | none => rw [hg] at h; cases h
              | some en => rw [hM _ _ hg]; rw [hg] at h; exact h
            | _ => exact h
theorem implodeL_mono : ∀ {ts : List Ty} {vs : List V} {r}, implodeL M ts vs = some r → implodeL M' ts vs = some r
  | [], [], r, h => h
  | [], _ :: _, r, h => h
  | [t], [], r, h => h
  | [t], [v], r, h => by
    simp only [implodeL] at h ⊢
    cases hb : (v.agg == t.isAgg) with
    | false => rw [hb] at h; cases h
    | true =>
      rw [hb] at h
      simp only [cond_true] at h ⊢
      cases hi : implode M t v.ls with
      | none => rw [hi] at h; cases h
      | some im => rw [implode_mono hM t hi]; rw [hi] at h; exact h
  | [t], _ :: _ :: _, r, h => h
  | t :: u :: q, [], r, h => h
  | t :: u :: q, v :: vs, r, h => by
    simp only [implodeL] at h ⊢
    cases hb : (v.agg == t.isAgg) with
    | false => rw [hb] at h; cases h
    | true =>
      rw [hb] at h
      simp only [cond_true] at h ⊢
      cases hi : implode M t v.ls with
      | none => rw [hi] at h; cases h
      | some im =>
        rw [implode_mono hM t hi]; rw [hi] at h
        simp only at h ⊢
        cases hr : implodeL M (u :: q) vs with
        | none => rw [hr] at h; split at h <;> first | (cases h; done) | (rename_i h1 h2; cases h2)
        | some p => rw [implodeL_mono hr]; rw [hr] at h; exact h
theorem evCall_mono (hs : ∀ f F, c.sum f ≠ some (.gen F)) {nid f : Nat} {vs : List V} {r} (h : evCall c M nid f vs = some r) : evCall c M' nid f vs = some r := by
  unfold evCall at h ⊢
  cases hf : c.sum f with
  | none => rw [hf] at h; cases h
  | some sm =>
    rw [hf] at h
    cases sm with
    | gen F => exact (hs f F hf).elim
    | pure ts al F =>
      simp only at h ⊢
      cases hi : implodeL M ts vs with
      | none => rw [hi] at h; cases h
      | some q => rw [implodeL_mono hM hi]; rw [hi] at h; exact h
end

section
variable {c : Cfg} {s : St} {M' : Store} {cs : List (Nat × Bool)}
theorem opd_M (x : Operand) : opd c { s with M := M' } cs x = opd c s cs x := by cases x <;> rfl
theorem opv_M (x : Operand) : opv c { s with M := M' } cs x = opv c s cs x := by unfold opv; rw [opd_M]
theorem opl_M (x : Operand) : opl c { s with M := M' } cs x = opl c s cs x := by unfold opl; rw [opv_M]
theorem opi_M (x : Operand) : opi c { s with M := M' } cs x = opi c s cs x := by unfold opi; rw [opl_M]
theorem opis_M (x : Option Operand) : opis c { s with M := M' } cs x = opis c s cs x := by
  cases x with
  | none => rfl
  | some y => simp only [opis, opi_M]
theorem evArgs_M (l : List Operand) : evArgs c { s with M := M' } cs l = evArgs c s cs l := by
  unfold evArgs
  congr 1
theorem evBuild_M {T : Nat} {fs : List (Nat × Nat)} : ∀ (l : List (Nat × Operand)) (ls : List Leaf), evBuild c { s with M := M' } cs T fs l ls = evBuild c s cs T fs l ls
  | [], _ => rfl
  | (i, x) :: r, ls => by
    simp only [evBuild, opv_M]
    split
    · split
      · congr 1
        split
        · exact evBuild_M r _
        · rfl
      · rfl
    · rfl
theorem evElems_mono (hM : MLe s.M M') {n : Nat} {t : Ty} : ∀ {l : List (Nat × Operand)} {fr : Bool} {xs : List t.den} {fz : List (Nat × Entry)} {r}, evElems c s cs n t l fr xs fz = some r → evElems c { s with M := M' } cs n t l fr xs fz = some r
  | [], _, _, _, _, h => h
  | (i, x) :: q, fr, xs, fz, r, h => by
    simp only [evElems, opv_M] at h ⊢
    cases hv : opv c s cs x with
    | none => rw [hv] at h; cases h
    | some v =>
      rw [hv] at h
      simp only at h ⊢
      cases hi : implode s.M t v.ls with
      | none => rw [hi] at h; cases h
      | some im =>
        rw [implode_mono hM t hi]; rw [hi] at h
        simp only at h ⊢
        cases hr : im.rest with
        | cons _ _ => rw [hr] at h; cases h
        | nil =>
          rw [hr] at h
          simp only at h ⊢
          cases hb : Nat.blt i n with
          | false => rw [hb] at h; cases h
          | true => rw [hb] at h; exact evElems_mono hM h
theorem aliveB_mono (hM : MLe s.M M') {id : Nat} (h : aliveB s.M id = true) : aliveB M' id = true := by
  unfold aliveB at h ⊢
  cases hg : s.M.get id with
  | none => rw [hg] at h; cases h
  | some e => rw [hM _ _ hg]; rw [hg] at h; exact h
theorem capId_mono (hM : MLe s.M M') {v : V} {id : Nat} (h : capId s.M v = some id) : capId M' v = some id := by
  unfold capId at h ⊢
  split at h
  · rename_i i
    try simp only
    cases hg : s.M.get i with
    | none => rw [hg] at h; cases h
    | some e => rw [hM _ _ hg]; rw [hg] at h; exact h
  · cases h
theorem capIds_mono (hM : MLe s.M M') : ∀ {vs : List V} {ids : List Nat}, allSome (vs.map (capId s.M)) = some ids → allSome (vs.map (capId M')) = some ids
  | [], ids, h => h
  | v :: r, ids, h => by
    simp only [List.map_cons] at h ⊢
    cases hv : capId s.M v with
    | none => rw [hv] at h; cases h
    | some i =>
      rw [hv] at h; rw [capId_mono hM hv]
      simp only [allSome] at h ⊢
      cases hr : allSome (r.map (capId s.M)) with
      | none => rw [hr] at h; cases h
      | some q => rw [hr] at h; rw [capIds_mono hM hr]; exact h
theorem evField_mono (hM : MLe s.M M') {off ft : Nat} {l r : Leaf} (h : evField c s.M off ft l = some r) : evField c M' off ft l = some r := by
  unfold evField at h ⊢
  cases hb : sized c ft with
  | false => rw [hb] at h; cases h
  | true =>
    rw [hb] at h
    simp only [cond_true] at h ⊢
    cases l with
    | ptr id o | eptr id i o | aptr id a i o =>
      simp only at h ⊢
      cases ha : aliveB s.M id with
      | false => rw [ha] at h; cases h
      | true => rw [aliveB_mono hM ha]; rw [ha] at h; exact h
    | _ => exact h
theorem evPick_M {x a b : Operand} : evPick c { s with M := M' } cs x a b = evPick c s cs x a b := by
  unfold evPick
  simp only [opd_M, opl_M]
  rfl
theorem condsOf_M {ops : List Oper} {g : Option (Nat × Bool)} : condsOf ops { s with M := M' } g = condsOf ops s g := rfl
theorem evOp_mono (hM : MLe s.M M') (hs : ∀ f F, c.sum f ≠ some (.gen F)) {nid T : Nat} {op : Op} {e : Eff} (h : evOp c s cs nid op T = some e) : evOp c { s with M := M' } cs nid op T = some e := by
  have hz := hM
  cases op
  case store T x y =>
    simp only [evOp, opl_M, opv_M] at h ⊢
    split at h
    · rename_i l v hl hv
      try simp only [hl, hv]
      cases he : evStore c s.M T l v with
      | none => rw [he] at h; cases h
      | some q => rw [evStore_mono hM he]; rw [he] at h; exact h
    · cases h
  case load T x =>
    simp only [evOp, opl_M, opv_M] at h ⊢
    split at h
    · rename_i l hl
      try simp only [hl]
      cases he : evLoad c s.M T l with
      | none => rw [he] at h; cases h
      | some q => rw [evLoad_mono hM he]; rw [he] at h; exact h
    · cases h
  case build T ps =>
    simp only [evOp, evBuild_M] at h ⊢
    split at h
    · exact h
    · rename_i n e' _ _ n' t hT
      try simp only [hT]
      split at h
      · rename_i t' he'
        try simp only [he']
        split at h
        · rename_i hh
          rw [if_pos hh]
          split at h
          · rename_i hb; rw [evElems_mono hM hb]; exact h
          · cases h
        · cases h
      · cases h
    · cases h
  case buildSlice T n ps =>
    simp only [evOp] at h ⊢
    split at h
    · rename_i e' _ _ _ hT
      try simp only [hT]
      split at h
      · rename_i t he'
        try simp only [he']
        cases hb : (Nat.ble (n * t.sz) 16777216 && Nat.blt 0 t.sz) with
        | false => rw [hb] at h; cases h
        | true =>
          rw [hb] at h
          simp only [cond_true] at h ⊢
          split at h
          · rename_i hb; rw [evElems_mono hM hb]; exact h
          · cases h
      · cases h
    · cases h
  case nilCheck x =>
    simp only [evOp, opl_M] at h ⊢
    split at h
    · rename_i id o hl
      try simp only [hl]
      cases ha : aliveB s.M id with
      | false => rw [ha] at h; cases h
      | true => rw [aliveB_mono hM ha]; rw [ha] at h; exact h
    · rename_i id i o hl
      try simp only [hl]
      cases ha : aliveB s.M id with
      | false => rw [ha] at h; cases h
      | true => rw [aliveB_mono hM ha]; rw [ha] at h; exact h
    · rename_i id a i o hl
      try simp only [hl]
      cases ha : aliveB s.M id with
      | false => rw [ha] at h; cases h
      | true => rw [aliveB_mono hM ha]; rw [ha] at h; exact h
    · rename_i hl; (try simp only [hl]); exact h
    · rename_i hl; (try simp only [hl]); exact h
    · cases h
  case convert S T x =>
    simp only [evOp, opl_M] at h ⊢
    split at h
    · rename_i l hl; (try simp only [hl]); exact evConvert_mono hM h
    · cases h
  case makeFunc f first caps =>
    cases f <;> simp only [evOp, evArgs_M] at h ⊢ <;> first | (cases h; done) | skip
    cases hb : Nat.beq first.size 0 with
    | false => rw [hb] at h; cases h
    | true =>
      rw [hb] at h
      simp only [cond_true] at h ⊢
      split at h
      · rename_i vs hvs
        try simp only [hvs]
        cases hc : allSome (vs.map (capId s.M)) with
        | none => rw [hc] at h; cases h
        | some ids => rw [capIds_mono hM hc]; rw [hc] at h; exact h
      · cases h
  case slice T x lo hi mx =>
    cases mx <;> simp only [evOp, opl_M, opis_M] at h ⊢ <;> first | (cases h; done) | skip
    split at h
    · rename_i l a b hl ha hb
      try simp only [hl, ha, hb]
      cases he : evSlice c s.M T l a b with
      | none => rw [he] at h; cases h
      | some q => rw [evSlice_mono hM he]; rw [he] at h; exact h
    · cases h
  case fieldAddr T x f =>
    simp only [evOp, opl_M] at h ⊢
    split at h
    · rename_i off ft l hf hl
      try simp only [hf, hl]
      cases he : evField c s.M off ft l with
      | none => rw [he] at h; cases h
      | some q => rw [evField_mono hM he]; rw [he] at h; exact h
    · cases h
  case indexAddr T x i =>
    simp only [evOp, opl_M, opi_M] at h ⊢
    split at h
    · rename_i l n hl hn
      try simp only [hl, hn]
      cases he : evIndexAddr c s.M T l n with
      | none => rw [he] at h; cases h
      | some q => rw [evIndexAddr_mono hM he]; rw [he] at h; exact h
    · cases h
  case call cl =>
    obtain ⟨ce, args, ts⟩ := cl
    cases ce with
    | invoke _ _ => exact h
    | value f =>
      simp only [evOp, opl_M, evArgs_M] at h ⊢
      split at h
      · rename_i g caps vs hf ha
        try simp only [hf, ha]
        exact evCall_mono hM hs h
      · cases h
    | builtin b =>
      cases b <;> simp only [evOp, opl_M] at h ⊢ <;> first | exact h | skip
      · split at h
        · rename_i x T ha ht
          try simp only [ha, ht]
          split at h
          · exact evAppend_mono hM h
          · cases h
        · cases h
      · split at h
        · rename_i x y T U ha ht
          try simp only [ha, ht]
          split at h
          · split at h
            · rename_i n he; rw [evLen_mono hM he]; exact h
            · cases h
          · cases h
        · cases h
  all_goals (simp only [evOp, opd_M, opv_M, opl_M, opi_M] at h ⊢; exact h)
theorem evEff_mono (hM : MLe s.M M') (hs : ∀ f F, c.sum f ≠ some (.gen F)) {nid : Nat} {o : Oper} {e : Eff} (h : evEff c s cs nid o = some e) : evEff c { s with M := M' } cs nid o = some e := by
  unfold evEff at h ⊢
  cases he : evEff0 c s cs nid o with
  | none => rw [he] at h; cases h
  | some q =>
    have : evEff0 c { s with M := M' } cs nid o = some q := by
      unfold evEff0 at he ⊢
      split at he
      · rename_i hop; simp only [evPick_M]; exact he
      · exact evOp_mono hM hs he
    rw [this]; rw [he] at h; exact h
end
end Go.Vc
