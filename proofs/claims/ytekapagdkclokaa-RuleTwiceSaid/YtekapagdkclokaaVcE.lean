/- What the evaluator makes of some entries it makes of more entries, too. -/
import Derived.Test.YtekapagdkclokaaVcD
import Derived.Orders
import Derived.LoopN
set_option linter.unusedVariables false
set_option linter.unusedSimpArgs false
namespace Go.Vc
def MLe (M M' : Store) : Prop := ∀ id e, M.get id = some e → M'.get id = some e
section
variable {c : Cfg} {M M' : Store} (hM : MLe M M')
include hM
theorem implode_mono : ∀ (t : Ty) {ls : List Leaf} {x : Im t}, implode M t ls = some x → implode M' t ls = some x
  | .int _, ls, x, h => by
    match ls, h with
    | .int _ _ :: _, h => exact h
  | .bool, ls, x, h => by
    match ls, h with
    | .bool _ :: _, h => exact h
    | .kb _ :: _, h => exact h
  | .str, ls, x, h => by
    match ls, h with
    | .str _ :: _, h => exact h
  | .unit, ls, x, h => h
  | .slice e, ls, x, h => by
    match ls, h with
    | l :: r, h =>
      simp only [implode] at h ⊢
      generalize l.weak = l at h ⊢
      cases l <;> simp only at h ⊢ <;> first | exact h | skip
      case own id =>
        cases hg : M.get id with
        | none => rw [hg] at h; cases h
        | some en => rw [hM _ _ hg]; rw [hg] at h; exact h
      case sl id lo n =>
        cases hg : M.get id with
        | none => rw [hg] at h; cases h
        | some en => rw [hM _ _ hg]; rw [hg] at h; exact h
  | .arr n e, ls, x, h => by
    match ls, h with
    | .arr _ _ _ _ :: _, h => exact h
  | .pair a b, ls, x, h => by
    simp only [implode] at h ⊢
    cases h1 : implode M a ls with
    | none => rw [h1] at h; cases h
    | some p =>
      rw [h1] at h
      rw [implode_mono a h1]
      simp only at h ⊢
      cases h2 : implode M b p.rest with
      | none => rw [h2] at h; cases h
      | some q => rw [h2] at h; rw [implode_mono b h2]; exact h
theorem listOf_mono {e : Ty} {x : Leaf} {r} (h : listOf M e x = some r) : listOf M' e x = some r := by
  cases x with
  | own id | sl id lo n | asl id off lo n =>
    simp only [listOf] at h ⊢
    cases hg : M.get id with
    | none => rw [hg] at h; cases h
    | some en => rw [hM _ _ hg]; rw [hg] at h; exact h
  | _ => exact h
theorem evLoad_mono {T : Nat} {x : Leaf} {r} (h : evLoad c M T x = some r) : evLoad c M' T x = some r := by
  unfold evLoad at h ⊢
  cases hT : c.ti T with
  | none => rw [hT] at h; cases h
  | some ti =>
    rw [hT] at h
    cases x with
    | ptr id off | eptr id i off | aptr id aoff i off =>
      simp only at h ⊢
      cases hg : M.get id with
      | none => rw [hg] at h; cases h
      | some en => rw [hM _ _ hg]; rw [hg] at h; exact h
    | _ => exact h
theorem evStore_mono {T : Nat} {x : Leaf} {y : V} {r} (h : evStore c M T x y = some r) : evStore c M' T x y = some r := by
  unfold evStore at h ⊢
  cases hT : c.ti T with
  | none => rw [hT] at h; cases h
  | some ti =>
    rw [hT] at h
    simp only at h ⊢
    cases hw : Nat.beq (widths y.ls) ti.size with
    | false => rw [hw] at h; cases h
    | true =>
      rw [hw] at h
      simp only [cond_true] at h ⊢
      cases x with
      | ptr id off =>
        simp only at h ⊢
        cases hg : M.get id with
        | none => rw [hg] at h; cases h
        | some en => rw [hM _ _ hg]; rw [hg] at h; exact h
      | eptr id i off =>
        simp only at h ⊢
        cases hg : M.get id with
        | none => rw [hg] at h; cases h
        | some en =>
          rw [hM _ _ hg]; rw [hg] at h
          cases en <;> simp only at h ⊢ <;> first | (cases h; done) | skip
          rename_i e t fr ap l
          cases hs : lset (explode fr t (idx l i)) off ti.size y.ls with
          | none => rw [hs] at h; cases h
          | some q =>
            rw [hs] at h
            simp only at h ⊢
            cases hi : implode M t q with
            | none => rw [hi] at h; cases h
            | some im => rw [implode_mono hM t hi]; rw [hi] at h; exact h
      | aptr id aoff i off =>
        simp only at h ⊢
        cases hg : M.get id with
        | none => rw [hg] at h; cases h
        | some en =>
          rw [hM _ _ hg]; rw [hg] at h
          cases en <;> simp only at h ⊢ <;> first | (cases h; done) | skip
          rename_i ls
          cases hl : lat ls aoff with
          | none => rw [hl] at h; cases h
          | some lf =>
            rw [hl] at h
            cases lf <;> simp only at h ⊢ <;> first | (cases h; done) | skip
            rename_i n fr t l
            cases hs : lset (explode fr t (idx l i)) off ti.size y.ls with
            | none => rw [hs] at h; cases h
            | some q =>
              rw [hs] at h
              simp only at h ⊢
              cases hi : implode M t q with
              | none => rw [hi] at h; cases h
              | some im => rw [implode_mono hM t hi]; rw [hi] at h; exact h
      | _ => exact h
theorem evIndexAddr_mono {T : Nat} {x : Leaf} {i : Int} {r} (h : evIndexAddr c M T x i = some r) : evIndexAddr c M' T x i = some r := by
  unfold evIndexAddr at h ⊢
  cases x with
  | own id | sl id lo n | asl id off lo n | ptr id off =>
    simp only at h ⊢
    cases hg : M.get id with
    | none => rw [hg] at h; cases h
    | some en => rw [hM _ _ hg]; rw [hg] at h; exact h
  | cst fr t y => cases t <;> exact h
  | _ => exact h
theorem evLen0_mono {x : Leaf} {r} (h : evLen0 M x = some r) : evLen0 M' x = some r := by
  unfold evLen0 at h ⊢
  cases x with
  | own id | sl id lo n | asl id off lo n =>
    simp only at h ⊢
    cases hg : M.get id with
    | none => rw [hg] at h; cases h
    | some en => rw [hM _ _ hg]; rw [hg] at h; exact h
  | _ => exact h
theorem evLen_mono {T : Nat} {x : Leaf} {r} (h : evLen c M T x = some r) : evLen c M' T x = some r := by
  unfold evLen at h ⊢
  cases x <;> simp only at h ⊢ <;> first | exact h | skip
  all_goals
    cases hb : isSlT c T with
    | false => rw [hb] at h; cases h
    | true => rw [hb] at h; simp only [cond_true] at h ⊢; exact evLen0_mono hM h
theorem evSlice_mono {T : Nat} {x : Leaf} {lo hi : Option Int} {r} (h : evSlice c M T x lo hi = some r) : evSlice c M' T x lo hi = some r := by
  unfold evSlice at h ⊢
  cases x with
  | own id =>
    simp only at h ⊢
    cases hg : M.get id with
    | none => rw [hg] at h; cases lo <;> cases hi <;> cases h
    | some en => rw [hM _ _ hg]; rw [hg] at h; exact h
  | sl id lo n | sf id lo n | ptr id off =>
    simp only at h ⊢
    cases hg : M.get id with
    | none => rw [hg] at h; cases h
    | some en => rw [hM _ _ hg]; rw [hg] at h; exact h
  | _ => exact h
theorem evConvert_mono {nid S T : Nat} {x : Leaf} {r} (h : evConvert c M nid S T x = some r) : evConvert c M' nid S T x = some r := by
  unfold evConvert at h ⊢
  cases hS : c.ti S with
  | none => rw [hS] at h; cases h
  | some si =>
    cases hT : c.ti T with
    | none => rw [hS, hT] at h; cases h
    | some ti =>
      rw [hS, hT] at h
      obtain ⟨td, a1, a2, a3⟩ := ti
      obtain ⟨sd, b1, b2, b3⟩ := si
      have key : ∀ {e : Nat}, (match c.ti e with
          | some ⟨.int .u8, _, _, _⟩ => match listOf M (.int .u8) x with
            | some (_, l) => some (⟨[], .one (.str l), []⟩ : Eff)
            | none => none
          | _ => none) = some r → (match c.ti e with
          | some ⟨.int .u8, _, _, _⟩ => match listOf M' (.int .u8) x with
            | some (_, l) => some (⟨[], .one (.str l), []⟩ : Eff)
            | none => none
          | _ => none) = some r := by
        intro e h
        split at h <;> first | (cases h; done) | skip
        rename_i he
        cases hl : listOf M (.int .u8) x with
        | none => rw [hl] at h; cases h
        | some y => rw [listOf_mono hM hl]; rw [hl] at h; exact h
      cases x <;> cases td <;> simp only at h ⊢ <;> first | exact h | (cases h; done) | skip
      case own.slice id e =>
        split at h <;> first | (cases h; done) | skip
        cases hg : M.get id with
        | none => rw [hg] at h; cases h
        | some en => rw [hM _ _ hg]; rw [hg] at h; exact h
      all_goals
        cases sd <;> simp only at h ⊢ <;> first | (cases h; done) | skip
        exact key h
theorem evAppend_mono {nid T U : Nat} {x y : Leaf} {r} (h : evAppend c M nid T U x y = some r) : evAppend c M' nid T U x y = some r := by
  unfold evAppend at h ⊢
  cases hT : c.ti T with
  | none => rw [hT] at h; cases h
  | some ti =>
    rw [hT] at h
    obtain ⟨td, a1, a2, a3⟩ := ti
    cases td <;> simp only at h ⊢ <;> first | (cases h; done) | skip
    rename_i e
    cases he : c.ti e with
    | none => rw [he] at h; cases h
    | some ei =>
      rw [he] at h
      obtain ⟨ed, b1, bytes, b3⟩ := ei
      cases b3 with
      | none => cases h
      | some te =>
        simp only at h ⊢
        cases hb : (Nat.blt 0 te.sz && cond (isStrL y) (isStr c U && Nat.beq bytes 1) (Nat.beq U T)) with
        | false => rw [hb] at h; cases h
        | true =>
          rw [hb] at h
          simp only [cond_true] at h ⊢
          cases hl : listOf M te y with
          | none => rw [hl] at h; cases h
          | some q =>
            rw [listOf_mono hM hl]; rw [hl] at h
            cases x with
            | own id =>
              simp only at h ⊢
              cases hg : M.get id with
              | none => rw [hg] at h; cases h
              | some en => rw [hM _ _ hg]; rw [hg] at h; exact h
            | sl id lo k =>
              cases lo with
              | zero =>
                simp only at h ⊢
                cases hg : M.get id with
                | none => rw [hg] at h; cases h
                | some en => rw [hM _ _ hg]; rw [hg] at h; exact h
              | succ n => exact h
            | _ => exact h
theorem evAppendZ_mono {nid T U : Nat} {x : Leaf} {k : Int} {r} (h : evAppendZ c M nid T U x k = some r) : evAppendZ c M' nid T U x k = some r := by
  unfold evAppendZ at h ⊢
  split at h
  · rename_i hT
    try simp only [hT]
    split at h
    · rename_i he
      try simp only [he]
      split at h
      · rename_i hc
        try simp only [hc]
        split at h
        · exact h
        · rename_i id n
          try simp only
          cases hg : M.get id with
          | none => rw [hg] at h; cases h
          | some en => rw [hM _ _ hg]; rw [hg] at h; exact h
        · cases h
      · cases h
    · cases h
  · cases h
theorem evAppendI_mono {T U : Nat} {x y : Leaf} {r} (h : evAppendI c M T U x y = some r) : evAppendI c M' T U x y = some r := by
  unfold evAppendI at h ⊢
  split at h
  · rename_i hT
    try simp only [hT]
    split at h
    · rename_i he hm
      simp only [he, hM _ _ hm]
      split at h
      · rename_i ht
        subst ht
        simp only [dif_pos]
        cases hl : listOf M _ y with
        | none => rw [hl] at h; simp at h
        | some q => rw [listOf_mono hM hl]; rw [hl] at h; exact h
      · cases h
    · cases h
  · cases h
theorem evAppendX_mono {nid T U : Nat} {x y : Leaf} {r} (h : evAppendX c M nid T U x y = some r) : evAppendX c M' nid T U x y = some r := by
  unfold evAppendX at h ⊢
  split at h
  · exact evAppendZ_mono hM h
  · cases hs : sameRow x y with
    | false => rw [hs] at h; exact evAppend_mono hM h
    | true => rw [hs] at h; exact evAppendI_mono hM h
theorem evCap_mono {T : Nat} {x : Leaf} {r} (h : evCap c M T x = some r) : evCap c M' T x = some r := by
  unfold evCap at h ⊢
  cases x <;> simp only at h ⊢ <;> first | exact h | skip
  rename_i id _ _
  cases hg : M.get id with
  | none => rw [hg] at h; cases h
  | some en => rw [hM _ _ hg]; rw [hg] at h; exact h
theorem evCopy_mono {T U : Nat} {x y : Leaf} {r} (h : evCopy c M T U x y = some r) : evCopy c M' T U x y = some r := by
  unfold evCopy at h ⊢
  split at h
  · rename_i hT hc
    try simp only [hT, hc]
    split at h
    · rename_i he hm
      simp only [he, hM _ _ hm]
      split at h
      · rename_i ht
        subst ht
        simp only [dif_pos]
        cases hb : (Nat.beq _ _ && (cond (isStrL y) (isStr c U && Nat.beq _ 1) (Nat.beq U T) && Nat.blt 0 _)) with
        | false => rw [hb] at h; cases h
        | true =>
          rw [hb] at h
          simp only [cond_true] at h ⊢
          split at h
          · rename_i hl
            simp only [listOf_mono hM hl]; exact h
          · cases h
      · cases h
    · cases h
  · cases h
theorem evClear_mono {T : Nat} {x : Leaf} {r} (h : evClear c M T x = some r) : evClear c M' T x = some r := by
  unfold evClear at h ⊢
  split at h
  · rename_i hT hc
    try simp only [hT, hc]
    split at h
    · rename_i he hm
      simp only [he, hM _ _ hm]; exact h
    · cases h
  · cases h
theorem evSlice3_mono {nid T : Nat} {z : Bool} {x : Leaf} {lo : Option Int} {hi mx : Int} {r} (h : evSlice3 c M nid T z x lo hi mx = some r) : evSlice3 c M' nid T z x lo hi mx = some r := by
  unfold evSlice3 at h ⊢
  split at h
  · rename_i hT
    try simp only [hT]
    split at h
    · rename_i he
      try simp only [he]
      cases x <;> simp only at h ⊢ <;> first | exact h | skip
      · rename_i id
        cases hg : M.get id with
        | none => rw [hg] at h; cases h
        | some en => rw [hM _ _ hg]; rw [hg] at h; exact h
      · rename_i id _ _
        cases hg : M.get id with
        | none => rw [hg] at h; cases h
        | some en => rw [hM _ _ hg]; rw [hg] at h; exact h
    · cases h
  · cases h
theorem implodeL_mono : ∀ {ts : List Ty} {vs : List V} {r}, implodeL M ts vs = some r → implodeL M' ts vs = some r
  | [], [], r, h => h
  | [], _ :: _, r, h => h
  | [t], [], r, h => h
  | [t], [v], r, h => by
    simp only [implodeL] at h ⊢
    cases hb : (v.agg == t.isAgg) with
    | false => rw [hb] at h; cases h
    | true =>
      rw [hb] at h
      simp only [cond_true] at h ⊢
      cases hi : implode M t v.ls with
      | none => rw [hi] at h; cases h
      | some im => rw [implode_mono hM t hi]; rw [hi] at h; exact h
  | [t], _ :: _ :: _, r, h => h
  | t :: u :: q, [], r, h => h
  | t :: u :: q, v :: vs, r, h => by
    simp only [implodeL] at h ⊢
    cases hb : (v.agg == t.isAgg) with
    | false => rw [hb] at h; cases h
    | true =>
      rw [hb] at h
      simp only [cond_true] at h ⊢
      cases hi : implode M t v.ls with
      | none => rw [hi] at h; cases h
      | some im =>
        rw [implode_mono hM t hi]; rw [hi] at h
        simp only at h ⊢
        cases hr : implodeL M (u :: q) vs with
        | none => rw [hr] at h; split at h <;> first | (cases h; done) | (rename_i h1 h2; cases h2)
        | some p => rw [implodeL_mono hr]; rw [hr] at h; exact h
theorem cellOf_mono {t : Ty} {v : V} {x : t.den} (h : cellOf M t v = some x) : cellOf M' t v = some x := by
  unfold cellOf at h ⊢
  split at h
  · rename_i id
    cases hg : M.get id with
    | none => rw [hg] at h; cases h
    | some e =>
      rw [hM id e hg]; rw [hg] at h
      cases e <;> simp only at h ⊢ <;> first | (cases h; done) | skip
      rename_i ls
      cases hi : implode M t ls with
      | none => rw [hi] at h; cases h
      | some im => rw [implode_mono hM t hi]; rw [hi] at h; exact h
  · exact h
  · cases h
theorem cellsL_mono : ∀ {cs : List Ty} {vs : List V} {r}, cellsL M cs vs = some r → cellsL M' cs vs = some r
  | [], [], _, h => h
  | [], _ :: _, _, h => by cases h
  | [_], [], _, h => by cases h
  | [_], [_], _, h => cellOf_mono hM h
  | [_], _ :: _ :: _, _, h => by cases h
  | _ :: _ :: _, [], _, h => by cases h
  | t :: u :: r, v :: vs, _, h => by
    simp only [cellsL] at h ⊢
    cases h1 : cellOf M t v with
    | none => rw [h1] at h; cases h
    | some x =>
      cases h2 : cellsL M (u :: r) vs with
      | none => rw [h1, h2] at h; cases h
      | some y => rw [cellOf_mono hM h1, cellsL_mono h2]; rw [h1, h2] at h; exact h
theorem reach_mono : ∀ (k : Nat) (acc l : List Nat) {r : List Entry}, allSome ((reach M k acc l).map M.get) = some r → reach M' k acc l = reach M k acc l
  | 0, acc, l, r, h => rfl
  | k + 1, acc, [], r, h => rfl
  | k + 1, acc, i :: l, r, h => by
    unfold reach at h ⊢
    cases hm : mem1 i acc with
    | true => rw [hm] at h; exact reach_mono k acc l h
    | false =>
      rw [hm] at h
      simp only [cond_false] at h ⊢
      cases hg : M.get i with
      | some e => rw [hg] at h; rw [hM _ _ hg]; exact reach_mono k _ _ h
      | none =>
        rw [hg] at h
        simp only at h
        obtain ⟨q, hq⟩ := reach_prefix0 M k (acc ++ [i]) l
        rw [hq] at h
        obtain ⟨h1, h2⟩ := allSome_get h
        have hi : i ∈ acc ++ [i] ++ q := by simp
        obtain ⟨j, hj, hji⟩ := List.getElem_of_mem hi
        have hj' : j < r.length := by rw [h1, List.length_map]; exact hj
        have := h2 j r[j] (List.getElem?_eq_getElem hj')
        rw [List.getElem?_map, List.getElem?_eq_getElem hj, hji] at this
        simp [hg] at this
where
  reach_prefix0 (M : Store) : ∀ (k : Nat) (acc l : List Nat), ∃ r, reach M k acc l = acc ++ r
    | 0, acc, l => ⟨[], by simp [reach]⟩
    | k + 1, acc, [] => ⟨[], by simp [reach]⟩
    | k + 1, acc, i :: l => by
      unfold reach
      cases mem1 i acc with
      | true => exact reach_prefix0 M k acc l
      | false =>
        simp only [cond_false]
        split
        · obtain ⟨r, hr⟩ := reach_prefix0 M k (acc ++ [i]) (l ++ refsE _)
          exact ⟨[i] ++ r, by rw [hr, List.append_assoc]⟩
        · obtain ⟨r, hr⟩ := reach_prefix0 M k (acc ++ [i]) l
          exact ⟨[i] ++ r, by rw [hr, List.append_assoc]⟩
theorem evGen_mono {nid : Nat} {F : List V → List Entry → Option Done} {args : List V} {r} (h : evGen M nid F args (reach M 40 [] (args.flatMap fun v => refsLs v.ls)) = some r) : evGen M' nid F args (reach M' 40 [] (args.flatMap fun v => refsLs v.ls)) = some r := by
  unfold evGen at h
  cases hes : allSome ((reach M 40 [] (args.flatMap fun v => refsLs v.ls)).map M.get) with
  | none => rw [hes] at h; cases h
  | some es =>
    rw [hes] at h
    simp only at h
    have hr := reach_mono hM 40 [] _ hes
    rw [hr]
    generalize reach M 40 [] (args.flatMap fun v => refsLs v.ls) = ids at hes h
    obtain ⟨h1, h2⟩ := allSome_get hes
    have hx : ∀ x ∈ ids, ∃ e, M.get x = some e := by
      intro x hx
      obtain ⟨j, hj, rfl⟩ := List.getElem_of_mem hx
      have hj' : j < es.length := by rw [h1, List.length_map]; exact hj
      have := h2 j es[j] (List.getElem?_eq_getElem hj')
      rw [List.getElem?_map, List.getElem?_eq_getElem hj] at this
      exact ⟨_, by simpa using this⟩
    have hes' : allSome (ids.map M'.get) = some es := by
      have e1 : ids.map M'.get = ids.map M.get := List.map_congr_left fun x hx' => by
        obtain ⟨e, he⟩ := hx x hx'
        rw [he, hM _ _ he]
      rw [e1]; exact hes
    have hcl : ∀ l, (∀ x ∈ l, x ∈ ids) → closedB M' ids l = closedB M ids l := by
      intro l
      induction l with
      | nil => intro _; rfl
      | cons x r ih =>
        intro hl
        unfold closedB
        rw [ih fun y hy => hl y (by simp [hy])]
        have : okAt M' ids x = okAt M ids x := by
          obtain ⟨e, he⟩ := hx x (hl x (by simp))
          unfold okAt
          rw [he, hM _ _ he]
        rw [this]
    unfold evGen
    rw [hes']
    simp only
    rw [hcl ids fun _ h => h]
    exact h
theorem evCall_mono {nid f : Nat} {vs : List V} {r} (h : evCall c M nid f vs = some r) : evCall c M' nid f vs = some r := by
  unfold evCall at h ⊢
  cases hf : c.sum f with
  | none => rw [hf] at h; cases h
  | some sm =>
    rw [hf] at h
    cases sm with
    | gen F => exact evGen_mono hM h
    | apart =>
      simp only at h ⊢
      split at h
      · split at h
        · rename_i h1 h2
          try simp only [h1, h2]
          split at h
          · rename_i hi hj
            simp only [hM _ _ hi, hM _ _ hj]; exact h
          · cases h
        · cases h
      · cases h
    | pure ts al F =>
      simp only at h ⊢
      cases hi : implodeL M ts vs with
      | none => rw [hi] at h; cases h
      | some q => rw [implodeL_mono hM hi]; rw [hi] at h; exact h
    | clo ts cs F =>
      simp only at h ⊢
      cases hi : implodeL M ts (vs.take ts.length) with
      | none => rw [hi] at h; cases h
      | some q =>
        cases hc : cellsL M cs (vs.drop ts.length) with
        | none => rw [hi, hc] at h; cases h
        | some y => rw [implodeL_mono hM hi, cellsL_mono hM hc]; rw [hi, hc] at h; exact h
end

section
variable {c : Cfg} {s : St} {M' : Store} {cs : List (Nat × Bool)}
theorem opd_M (x : Operand) : opd c { s with M := M' } cs x = opd c s cs x := by cases x <;> rfl
theorem opv_M (x : Operand) : opv c { s with M := M' } cs x = opv c s cs x := by unfold opv; rw [opd_M]
theorem opl_M (x : Operand) : opl c { s with M := M' } cs x = opl c s cs x := by unfold opl; rw [opv_M]
theorem opi_M (x : Operand) : opi c { s with M := M' } cs x = opi c s cs x := by unfold opi; rw [opl_M]
theorem opis_M (x : Option Operand) : opis c { s with M := M' } cs x = opis c s cs x := by
  cases x with
  | none => rfl
  | some y => simp only [opis, opi_M]
theorem evArgs_M (l : List Operand) : evArgs c { s with M := M' } cs l = evArgs c s cs l := by
  unfold evArgs
  congr 1
theorem evBuild_M {T : Nat} {fs : List (Nat × Nat)} : ∀ (l : List (Nat × Operand)) (ls : List Leaf), evBuild c { s with M := M' } cs T fs l ls = evBuild c s cs T fs l ls
  | [], _ => rfl
  | (i, x) :: r, ls => by
    simp only [evBuild, opv_M]
    split
    · split
      · congr 1
        split
        · exact evBuild_M r _
        · rfl
      · rfl
    · rfl
theorem evElems_mono (hM : MLe s.M M') {n : Nat} {t : Ty} : ∀ {l : List (Nat × Operand)} {fr : Bool} {xs : List t.den} {fz : List (Nat × Entry)} {r}, evElems c s cs n t l fr xs fz = some r → evElems c { s with M := M' } cs n t l fr xs fz = some r
  | [], _, _, _, _, h => h
  | (i, x) :: q, fr, xs, fz, r, h => by
    simp only [evElems, opv_M] at h ⊢
    cases hv : opv c s cs x with
    | none => rw [hv] at h; cases h
    | some v =>
      rw [hv] at h
      simp only at h ⊢
      cases hi : implode s.M t v.ls with
      | none => rw [hi] at h; cases h
      | some im =>
        rw [implode_mono hM t hi]; rw [hi] at h
        simp only at h ⊢
        cases hr : im.rest with
        | cons _ _ => rw [hr] at h; cases h
        | nil =>
          rw [hr] at h
          simp only at h ⊢
          cases hb : Nat.blt i n with
          | false => rw [hb] at h; cases h
          | true => rw [hb] at h; exact evElems_mono hM h
theorem aliveB_mono (hM : MLe s.M M') {id : Nat} (h : aliveB s.M id = true) : aliveB M' id = true := by
  unfold aliveB at h ⊢
  cases hg : s.M.get id with
  | none => rw [hg] at h; cases h
  | some e => rw [hM _ _ hg]; rw [hg] at h; exact h
theorem capId_mono (hM : MLe s.M M') {v : V} {id : Nat} (h : capId s.M v = some id) : capId M' v = some id := by
  unfold capId at h ⊢
  split at h
  · rename_i i
    try simp only
    cases hg : s.M.get i with
    | none => rw [hg] at h; cases h
    | some e => rw [hM _ _ hg]; rw [hg] at h; exact h
  · cases h
theorem capIds_mono (hM : MLe s.M M') : ∀ {vs : List V} {ids : List Nat}, allSome (vs.map (capId s.M)) = some ids → allSome (vs.map (capId M')) = some ids
  | [], ids, h => h
  | v :: r, ids, h => by
    simp only [List.map_cons] at h ⊢
    cases hv : capId s.M v with
    | none => rw [hv] at h; cases h
    | some i =>
      rw [hv] at h; rw [capId_mono hM hv]
      simp only [allSome] at h ⊢
      cases hr : allSome (r.map (capId s.M)) with
      | none => rw [hr] at h; cases h
      | some q => rw [hr] at h; rw [capIds_mono hM hr]; exact h
theorem evField_mono (hM : MLe s.M M') {off ft : Nat} {l r : Leaf} (h : evField c s.M off ft l = some r) : evField c M' off ft l = some r := by
  unfold evField at h ⊢
  cases hb : sized c ft with
  | false => rw [hb] at h; cases h
  | true =>
    rw [hb] at h
    simp only [cond_true] at h ⊢
    cases l with
    | ptr id o | eptr id i o | aptr id a i o =>
      simp only at h ⊢
      cases ha : aliveB s.M id with
      | false => rw [ha] at h; cases h
      | true => rw [aliveB_mono hM ha]; rw [ha] at h; exact h
    | _ => exact h
theorem evPick_M {x a b : Operand} : evPick c { s with M := M' } cs x a b = evPick c s cs x a b := by
  unfold evPick
  simp only [opd_M, opl_M]
  rfl
theorem condsOf_M {ops : List Oper} {g : Option (Nat × Bool)} : condsOf ops { s with M := M' } g = condsOf ops s g := rfl
theorem evOp_mono (hM : MLe s.M M') {nid T : Nat} {op : Op} {e : Eff} (h : evOp c s cs nid op T = some e) : evOp c { s with M := M' } cs nid op T = some e := by
  have hz := hM
  cases op
  case store T x y =>
    simp only [evOp, opl_M, opv_M] at h ⊢
    split at h
    · rename_i l v hl hv
      try simp only [hl, hv]
      cases he : evStore c s.M T l v with
      | none => rw [he] at h; cases h
      | some q => rw [evStore_mono hM he]; rw [he] at h; exact h
    · cases h
  case load T x =>
    simp only [evOp, opl_M, opv_M] at h ⊢
    split at h
    · rename_i l hl
      try simp only [hl]
      cases he : evLoad c s.M T l with
      | none => rw [he] at h; cases h
      | some q => rw [evLoad_mono hM he]; rw [he] at h; exact h
    · cases h
  case build T ps =>
    simp only [evOp, evBuild_M] at h ⊢
    split at h
    · exact h
    · rename_i n e' _ _ n' t hT
      try simp only [hT]
      split at h
      · rename_i t' he'
        try simp only [he']
        split at h
        · rename_i hh
          rw [if_pos hh]
          split at h
          · rename_i hb; rw [evElems_mono hM hb]; exact h
          · cases h
        · cases h
      · cases h
    · cases h
  case buildSlice T n ps =>
    simp only [evOp] at h ⊢
    split at h
    · rename_i e' _ _ _ hT
      try simp only [hT]
      split at h
      · rename_i t he'
        try simp only [he']
        cases hb : (Nat.ble (n * t.sz) 16777216 && Nat.blt 0 t.sz) with
        | false => rw [hb] at h; cases h
        | true =>
          rw [hb] at h
          simp only [cond_true] at h ⊢
          split at h
          · rename_i hb; rw [evElems_mono hM hb]; exact h
          · cases h
      · cases h
    · cases h
  case nilCheck x =>
    simp only [evOp, opl_M] at h ⊢
    split at h
    · rename_i id o hl
      try simp only [hl]
      cases ha : aliveB s.M id with
      | false => rw [ha] at h; cases h
      | true => rw [aliveB_mono hM ha]; rw [ha] at h; exact h
    · rename_i id i o hl
      try simp only [hl]
      cases ha : aliveB s.M id with
      | false => rw [ha] at h; cases h
      | true => rw [aliveB_mono hM ha]; rw [ha] at h; exact h
    · rename_i id a i o hl
      try simp only [hl]
      cases ha : aliveB s.M id with
      | false => rw [ha] at h; cases h
      | true => rw [aliveB_mono hM ha]; rw [ha] at h; exact h
    · rename_i hl; (try simp only [hl]); exact h
    · rename_i hl; (try simp only [hl]); exact h
    · cases h
  case convert S T x =>
    simp only [evOp, opl_M] at h ⊢
    split at h
    · rename_i l hl; (try simp only [hl]); exact evConvert_mono hM h
    · cases h
  case makeFunc f first caps =>
    cases f <;> simp only [evOp, evArgs_M] at h ⊢ <;> first | (cases h; done) | skip
    cases hb : Nat.beq first.size 0 with
    | false => rw [hb] at h; cases h
    | true =>
      rw [hb] at h
      simp only [cond_true] at h ⊢
      split at h
      · rename_i vs hvs
        try simp only [hvs]
        cases hc : allSome (vs.map (capId s.M)) with
        | none => rw [hc] at h; cases h
        | some ids => rw [capIds_mono hM hc]; rw [hc] at h; exact h
      · cases h
  case slice T x lo hi mx =>
    cases mx with
    | some mx =>
      cases hi with
      | none => simp only [evOp] at h; cases h
      | some hi =>
        simp only [evOp, opl_M, opis_M, opi_M] at h ⊢
        split at h
        · rename_i l a b m hl ha hb hm
          try simp only [hl, ha, hb, hm]
          exact evSlice3_mono hM h
        · cases h
    | none =>
    simp only [evOp, opl_M, opis_M] at h ⊢
    split at h
    · rename_i l a b hl ha hb
      try simp only [hl, ha, hb]
      cases he : evSlice c s.M T l a b with
      | none => rw [he] at h; cases h
      | some q => rw [evSlice_mono hM he]; rw [he] at h; exact h
    · cases h
  case fieldAddr T x f =>
    simp only [evOp, opl_M] at h ⊢
    split at h
    · rename_i off ft l hf hl
      try simp only [hf, hl]
      cases he : evField c s.M off ft l with
      | none => rw [he] at h; cases h
      | some q => rw [evField_mono hM he]; rw [he] at h; exact h
    · cases h
  case indexAddr T x i =>
    simp only [evOp, opl_M, opi_M] at h ⊢
    split at h
    · rename_i l n hl hn
      try simp only [hl, hn]
      cases he : evIndexAddr c s.M T l.weak n with
      | none => rw [he] at h; cases h
      | some q => rw [evIndexAddr_mono hM he]; rw [he] at h; exact h
    · cases h
  case call cl =>
    obtain ⟨ce, args, ts⟩ := cl
    cases ce with
    | invoke _ _ => exact h
    | value f =>
      simp only [evOp, opl_M, evArgs_M] at h ⊢
      split at h
      · rename_i g caps vs hf ha
        try simp only [hf, ha]
        exact evCall_mono hM h
      · cases h
    | builtin b =>
      cases b <;> simp only [evOp, opl_M] at h ⊢ <;> first | exact h | skip
      case cap =>
        split at h
        · rename_i x y ha ht
          try simp only [ha, ht]
          split at h
          · split at h
            · rename_i n he; rw [evCap_mono hM he]; exact h
            · cases h
          · cases h
        · cases h
      case clear =>
        split at h
        · rename_i x y ha ht
          try simp only [ha, ht]
          split at h
          · exact evClear_mono hM h
          · cases h
        · cases h
      case copy =>
        split at h
        · rename_i x y T U ha ht
          try simp only [ha, ht]
          split at h
          · exact evCopy_mono hM h
          · cases h
        · cases h
      · split at h
        · rename_i x T ha ht
          try simp only [ha, ht]
          split at h
          · exact evAppendX_mono hM h
          · cases h
        · cases h
      · split at h
        · rename_i x y T U ha ht
          try simp only [ha, ht]
          split at h
          · split at h
            · rename_i n he; rw [evLen_mono hM he]; exact h
            · cases h
          · cases h
        · cases h
  all_goals (simp only [evOp, opd_M, opv_M, opl_M, opi_M] at h ⊢; exact h)
theorem evEff_mono (hM : MLe s.M M') {nid : Nat} {o : Oper} {e : Eff} (h : evEff c s cs nid o = some e) : evEff c { s with M := M' } cs nid o = some e := by
  unfold evEff at h ⊢
  cases he : evEff0 c s cs nid o with
  | none => rw [he] at h; cases h
  | some q =>
    have : evEff0 c { s with M := M' } cs nid o = some q := by
      unfold evEff0 at he ⊢
      split at he
      · rename_i hop; simp only [evPick_M]; exact he
      · exact evOp_mono hM he
    rw [this]; rw [he] at h; exact h
end
end Go.Vc
/- A region whose order is open: done in whatever order, it ends as it is reckoned. -/
set_option linter.unusedVariables false
set_option linter.unusedSimpArgs false
namespace Go.Vc

theorem bitB_test (m p : Nat) : bitB m p = m.testBit p := by
  unfold bitB Nat.testBit
  show Nat.beq (1 &&& (m >>> p)) 1 = _
  rw [Nat.one_and_eq_mod_two]
  rcases Nat.mod_two_eq_zero_or_one (m >>> p) with h | h <;> rw [h] <;> rfl
theorem bitB_or (m n p : Nat) : bitB (Nat.lor m n) p = (bitB m p || bitB n p) := by
  rw [bitB_test, bitB_test, bitB_test]; exact Nat.testBit_or m n p
theorem bitB_one (q p : Nat) : bitB (Nat.shiftLeft 1 q) p = decide (q = p) := by
  rw [bitB_test]
  show (1 <<< q).testBit p = _
  rw [Nat.one_shiftLeft, Nat.testBit_two_pow]
theorem bitB_all (n p : Nat) : bitB (2 ^ n - 1) p = decide (p < n) := by
  rw [bitB_test, Nat.testBit_two_pow_sub_one]

/-! ### the masks -/
theorem maskOf_ok {acc : List Nat} : ∀ {l : List Nat} {m : Nat}, maskOf acc l = some m →
    (∀ p ∈ l, p < acc.length ∧ bitB m p = true) ∧ ∀ p, bitB m p = true → p ∈ l ∨ ∃ q ∈ l, ∃ mq, acc[q]? = some mq ∧ bitB mq p = true
  | [], m, h => by
    cases h
    exact ⟨fun p hp => (by cases hp), fun p hp => by rw [bitB_test, Nat.zero_testBit] at hp; cases hp⟩
  | q :: r, m, h => by
    unfold maskOf at h
    split at h
    · rename_i mq n hq hn
      cases h
      obtain ⟨h1, h2⟩ := maskOf_ok hn
      refine ⟨fun p hp => ?_, fun p hp => ?_⟩
      · rcases List.mem_cons.1 hp with rfl | hp
        · refine ⟨(List.getElem?_eq_some_iff.1 hq).1, ?_⟩
          rw [bitB_or, bitB_or, bitB_one]; simp
        · refine ⟨(h1 p hp).1, ?_⟩
          rw [bitB_or, (h1 p hp).2]; simp
      · rw [bitB_or, bitB_or, bitB_one] at hp
        simp only [Bool.or_eq_true, decide_eq_true_eq] at hp
        rcases hp with (rfl | hp) | hp
        · exact .inl (by simp)
        · exact .inr ⟨q, by simp, mq, hq, hp⟩
        · rcases h2 p hp with h | ⟨q', hq', mq', k1, k2⟩
          · exact .inl (List.mem_cons_of_mem _ h)
          · exact .inr ⟨q', List.mem_cons_of_mem _ hq', mq', k1, k2⟩
    · cases h
/-- What the masks say. -/
def MaskOk (l : List Oper) (masks : List Nat) : Prop := ∀ k o, l[k]? = some o → ∃ m, masks[k]? = some m ∧ (∀ p ∈ dirOf o, p < k ∧ bitB m p = true) ∧
  ∀ p, bitB m p = true → p ∈ dirOf o ∨ ∃ q ∈ dirOf o, ∃ mq, masks[q]? = some mq ∧ bitB mq p = true
theorem masksOf_ok : ∀ {r : List Oper} {acc masks : List Nat} {d : List Oper}, masksOf r acc = some masks → acc.length = d.length → MaskOk d acc → masks.length = d.length + r.length ∧ MaskOk (d ++ r) masks
  | [], acc, masks, d, h, hl, ho => by
    cases h
    refine ⟨by simp [hl], by rw [List.append_nil]; exact ho⟩
  | o :: r, acc, masks, d, h, hl, ho => by
    unfold masksOf at h
    cases hm : maskOf acc (dirOf o) with
    | none => rw [hm] at h; cases h
    | some m =>
      rw [hm] at h
      obtain ⟨k1, k2⟩ := maskOf_ok hm
      have := masksOf_ok (d := d ++ [o]) h (by simp [hl]) (fun k o' hk => by
        by_cases hkd : k < d.length
        · rw [List.getElem?_append_left hkd] at hk
          obtain ⟨m', q1, q2, q3⟩ := ho k o' hk
          refine ⟨m', by rw [List.getElem?_append_left (by omega)]; exact q1, q2, fun p hp => ?_⟩
          rcases q3 p hp with h | ⟨q, hq, mq, e1, e2⟩
          · exact .inl h
          · exact .inr ⟨q, hq, mq, by rw [List.getElem?_append_left (List.getElem?_eq_some_iff.1 e1).1]; exact e1, e2⟩
        · have hlt := (List.getElem?_eq_some_iff.1 hk).1
          have hke : k = d.length := by simp at hlt; omega
          subst hke
          simp at hk
          subst hk
          refine ⟨m, by rw [← hl]; simp, fun p hp => ⟨by rw [← hl]; exact (k1 p hp).1, (k1 p hp).2⟩, fun p hp => ?_⟩
          rcases k2 p hp with h | ⟨q, hq, mq, e1, e2⟩
          · exact .inl h
          · exact .inr ⟨q, hq, mq, by rw [List.getElem?_append_left (List.getElem?_eq_some_iff.1 e1).1]; exact e1, e2⟩)
      rw [List.append_assoc] at this
      refine ⟨by rw [this.1]; simp; omega, this.2⟩
/-- What is closed downwards holds all that lies behind what it holds. -/
theorem mask_closed {l : List Oper} {masks : List Nat} (hm : MaskOk l masks) {D : Nat → Prop} (hD : ∀ k o, D k → l[k]? = some o → ∀ p ∈ dirOf o, D p) :
    ∀ (k : Nat) (o : Oper) (m : Nat), l[k]? = some o → masks[k]? = some m → (∀ p ∈ dirOf o, D p) → ∀ p, bitB m p = true → D p := by
  intro k
  induction k using Nat.strongRecOn with
  | _ k ih =>
    intro o m ho hmk hd p hp
    obtain ⟨m', k1, k2, k3⟩ := hm k o ho
    rw [hmk] at k1; cases k1
    rcases k3 p hp with h | ⟨q, hq, mq, e1, e2⟩
    · exact hd p h
    · have hqk := (k2 q hq).1
      have hlt := (List.getElem?_eq_some_iff.1 ho).1
      have hoq : l[q]? = some (l[q]'(by omega)) := List.getElem?_eq_getElem (by omega)
      exact ih q hqk _ mq hoq e1 (fun p' hp' => hD q _ (hd q hq) hoq p' hp') p e2
theorem mask_lt {l : List Oper} {masks : List Nat} (hm : MaskOk l masks) {k : Nat} {o : Oper} {m : Nat} (ho : l[k]? = some o) (hmk : masks[k]? = some m) : ∀ p, bitB m p = true → p < k := by
  refine mask_closed (D := fun p => p < k) hm (fun j o' hj ho' p hp => ?_) k o m ho hmk (fun p hp => ?_)
  · obtain ⟨_, _, k2, _⟩ := hm j o' ho'
    have := (k2 p hp).1; omega
  · obtain ⟨_, _, k2, _⟩ := hm k o ho
    exact (k2 p hp).1

/-! ### entries -/
def updGet : List (Nat × Entry) → Nat → Option Entry → Option Entry
  | [], _, x => x
  | (i, e) :: r, id, x => updGet r id (if i = id then some e else x)
theorem upds_get : ∀ (u : List (Nat × Entry)) (M : Store) (id : Nat), (M.upds u).get id = updGet u id (M.get id)
  | [], _, _ => rfl
  | (i, e) :: r, M, id => by
    rw [Store.upds, upds_get r, Store.get_set]
    simp only [updGet]
    by_cases h : i = id
    · rw [if_pos h, if_pos h.symm]
    · rw [if_neg h, if_neg (fun hh => h hh.symm)]
theorem updGet_no {u : List (Nat × Entry)} {id : Nat} : ∀ {x : Option Entry}, (∀ p ∈ u, p.1 ≠ id) → updGet u id x = x := by
  induction u with
  | nil => intro x _; rfl
  | cons p r ih =>
    intro x h
    obtain ⟨i, e⟩ := p
    simp only [updGet]
    rw [if_neg (h (i, e) (by simp)), ih (fun q hq => h q (List.mem_cons_of_mem _ hq))]
theorem updGet_yes {u : List (Nat × Entry)} {id : Nat} : ∀ {x y : Option Entry}, (∃ p ∈ u, p.1 = id) → updGet u id x = updGet u id y := by
  induction u with
  | nil => intro x y ⟨p, hp, _⟩; cases hp
  | cons p r ih =>
    intro x y ⟨q, hq, hqi⟩
    obtain ⟨i, e⟩ := p
    simp only [updGet]
    by_cases h : i = id
    · rw [if_pos h, if_pos h]
    · rw [if_neg h, if_neg h]
      rcases List.mem_cons.1 hq with rfl | hq
      · exact absurd hqi h
      · exact ih ⟨q, hq, hqi⟩
def gAt (D : Nat → Bool) : Nat → List Rec → (Nat → Option Entry) → Nat → Option Entry
  | _, [], f => f
  | j, r :: l, f => gAt D (j + 1) l (if D j = true then fun id => updGet r.e.upd id (f id) else f)
theorem gAt_append (D : Nat → Bool) : ∀ (a b : List Rec) (j : Nat) (f : Nat → Option Entry), gAt D j (a ++ b) f = gAt D (j + a.length) b (gAt D j a f)
  | [], b, j, f => rfl
  | r :: a, b, j, f => by
    rw [List.cons_append, gAt, gAt_append D a b]
    simp only [gAt, List.length_cons]
    rw [show j + 1 + a.length = j + (a.length + 1) by omega]
theorem gAt_congr {D D' : Nat → Bool} {id : Nat} : ∀ (l : List Rec) (j : Nat) (f f' : Nat → Option Entry), f id = f' id → (∀ i r, l[i]? = some r → D (j + i) ≠ D' (j + i) → ∀ p ∈ r.e.upd, p.1 ≠ id) → gAt D j l f id = gAt D' j l f' id
  | [], _, f, f', hf, _ => hf
  | r :: l, j, f, f', hf, h => by
    simp only [gAt]
    refine gAt_congr l (j + 1) _ _ ?_ (fun i r' hi hne => h (i + 1) r' (by simpa using hi) (by rw [show j + (i + 1) = j + 1 + i by omega]; exact hne))
    have h0 := h 0 r (by simp)
    simp only [Nat.add_zero] at h0
    by_cases hd : D j = D' j
    · rw [hd]
      split
      · show updGet r.e.upd id (f id) = updGet r.e.upd id (f' id)
        rw [hf]
      · exact hf
    · have hno := h0 hd
      split <;> split
      · rename_i h1 h2; exact absurd (h1.trans h2.symm) hd
      · show updGet r.e.upd id (f id) = f' id
        rw [updGet_no hno]; exact hf
      · show f id = updGet r.e.upd id (f' id)
        rw [updGet_no hno]; exact hf
      · exact hf
/-- Those behind leave an entry alone. -/
theorem gAt_skip {D : Nat → Bool} {id : Nat} (l : List Rec) (j : Nat) (f : Nat → Option Entry) (h : ∀ i r, l[i]? = some r → D (j + i) = true → ∀ p ∈ r.e.upd, p.1 ≠ id) : gAt D j l f id = f id := by
  rw [gAt_congr (D' := fun _ => false) l j f f rfl (fun i r hi hne => h i r hi (by simpa using hne))]
  clear h
  induction l generalizing j f with
  | nil => rfl
  | cons r l ih => simp only [gAt]; rw [ih]; simp
theorem gAt_set {D D' : Nat → Bool} {k : Nat} {recs : List Rec} {r : Rec} {f : Nat → Option Entry} (hr : recs[k]? = some r) (hk : D k = false) (hk' : D' k = true) (hD : ∀ j, j ≠ k → D' j = D j)
    (hlate : ∀ j rj, k < j → recs[j]? = some rj → D j = true → ∀ p ∈ rj.e.upd, ∀ q ∈ r.e.upd, p.1 ≠ q.1) (id : Nat) : gAt D' 0 recs f id = updGet r.e.upd id (gAt D 0 recs f id) := by
  obtain ⟨hlt, hrk⟩ := List.getElem?_eq_some_iff.1 hr
  have hsplit : recs = recs.take k ++ (r :: recs.drop (k + 1)) := by
    conv => lhs; rw [← List.take_append_drop k recs, List.drop_eq_getElem_cons hlt, hrk]
  have hlen : (recs.take k).length = k := by rw [List.length_take]; omega
  by_cases hin : ∃ q ∈ r.e.upd, q.1 = id
  · obtain ⟨q, hq, hqi⟩ := hin
    have hpost : ∀ (E : Nat → Bool), (∀ j, j ≠ k → E j = D j) → ∀ g, gAt E (k + 1) (recs.drop (k + 1)) g id = g id := by
      intro E hE g
      refine gAt_skip _ _ _ fun i ri hi hd p hp => ?_
      rw [List.getElem?_drop] at hi
      rw [hE _ (by omega)] at hd
      have := hlate (k + 1 + i) ri (by omega) hi hd p hp q hq
      rw [hqi] at this; exact this
    rw [hsplit, gAt_append, gAt_append, hlen, Nat.zero_add]
    simp only [gAt]
    rw [hpost D' hD, hpost D (fun _ _ => rfl), if_pos hk', if_neg (by rw [hk]; simp)]
    exact updGet_yes ⟨q, hq, hqi⟩
  · have hno : ∀ p ∈ r.e.upd, p.1 ≠ id := fun p hp he => hin ⟨p, hp, he⟩
    rw [updGet_no hno]
    refine gAt_congr recs 0 f f rfl fun i ri hi hne => ?_
    rw [Nat.zero_add] at hne
    by_cases hik : i = k
    · subst hik; rw [hr] at hi; cases hi; exact hno
    · exact absurd (hD i hik) hne
theorem foldRecs_M (m : Nat) : ∀ (l : List Rec) (j : Nat) (s : St) (id : Nat), (foldRecs m j l s).M.get id = gAt (bitB m) j l s.M.get id
  | [], _, _, _ => rfl
  | r :: l, j, s, id => by
    simp only [foldRecs, gAt]
    rw [foldRecs_M m l]
    refine gAt_congr l (j + 1) _ _ ?_ (fun _ _ _ h => absurd rfl h)
    cases hb : bitB m j with
    | false => rfl
    | true =>
      simp only [cond_true, if_true]
      rw [← upds_get]
      unfold addRec
      split
      · rfl
      · split <;> rfl
theorem del_get {ids : List Nat} {id : Nat} {e : Entry} : ∀ {M : Store}, (M.del ids).get id = some e → mem1 id ids = false ∧ M.get id = some e
  | [], h => by cases h
  | (i, x) :: r, h => by
    simp only [Store.del] at h
    cases hm : mem1 i ids with
    | true =>
      rw [hm] at h
      simp only [cond_true] at h
      obtain ⟨h1, h2⟩ := del_get h
      refine ⟨h1, ?_⟩
      simp only [Store.get]
      cases hb : Nat.beq i id with
      | true => rw [Nat.eq_of_beq_eq_true hb] at hm; rw [h1] at hm; cases hm
      | false => exact h2
    | false =>
      rw [hm] at h
      simp only [cond_false, Store.get] at h ⊢
      cases hb : Nat.beq i id with
      | true => rw [hb] at h; rw [← Nat.eq_of_beq_eq_true hb]; exact ⟨hm, h⟩
      | false => rw [hb] at h; exact del_get h
theorem unord_mem {masks : List Nat} {m k : Nat} : ∀ {U : List (List Nat)} {j i id : Nat} {u : List Nat}, U[i]? = some u → id ∈ u → j + i ≠ k → bitB m (j + i) = false → (∀ mj, masks[j + i]? = some mj → bitB mj k = false) → id ∈ unordIds masks m k j U
  | [], j, i, id, u, h, _, _, _, _ => by simp at h
  | v :: U, j, i, id, u, h, hid, hne, hb, hm => by
    unfold unordIds
    cases i with
    | zero =>
      simp at h; subst h
      simp only [Nat.add_zero] at hne hb hm
      rw [beq_no hne, hb]
      cases hmj : masks[j]? with
      | none => simp [hid]
      | some mj => simp [hm mj hmj, hid]
    | succ i =>
      have := unord_mem (masks := masks) (m := m) (k := k) (U := U) (j := j + 1) (i := i) (by simpa using h) hid (by omega) (by rw [show j + 1 + i = j + (i + 1) by omega]; exact hb) (by rw [show j + 1 + i = j + (i + 1) by omega]; exact hm)
      cases hc : (Nat.beq j k || bitB m j || (match masks[j]? with | some mj => bitB mj k | none => false)) with
      | true => exact this
      | false => exact List.mem_append.2 (.inr this)

/-! ### variables -/
theorem addRec_cases {s : St} {r : Rec} : (r.dst = none ∧ (addRec s r).env = s.env ∧ (addRec s r).cenv = s.cenv) ∨
    (∃ d, r.dst = some d ∧ (r.cs = none ∨ r.cs = some []) ∧ (addRec s r).env = eset s.env d (some r.e.sv) ∧ (addRec s r).cenv = s.cenv) ∨
    ∃ d cs, r.dst = some d ∧ r.cs = some cs ∧ (addRec s r).env = eset s.env d none ∧ (addRec s r).cenv = (d, cs, r.e.sv) :: s.cenv := by
  unfold addRec
  cases hd : r.dst with
  | none => exact .inl ⟨rfl, rfl, rfl⟩
  | some d =>
    cases hc : r.cs with
    | none => exact .inr (.inl ⟨d, rfl, .inl rfl, rfl, rfl⟩)
    | some cs =>
      cases cs with
      | nil => exact .inr (.inl ⟨d, rfl, .inr rfl, rfl, rfl⟩)
      | cons x cs => exact .inr (.inr ⟨d, _, rfl, rfl, rfl, rfl⟩)
theorem addRec_len (s : St) (r : Rec) : (addRec s r).env.length = s.env.length := by
  rcases addRec_cases (s := s) (r := r) with ⟨_, h, _⟩ | ⟨d, _, _, h, _⟩ | ⟨d, _, _, _, h, _⟩ <;> rw [h] <;> first | rfl | exact eset_length _ _ _
theorem foldRecs_len (m : Nat) : ∀ (l : List Rec) (j : Nat) (s : St), (foldRecs m j l s).env.length = s.env.length
  | [], _, _ => rfl
  | r :: l, j, s => by
    simp only [foldRecs]
    rw [foldRecs_len m l]
    cases bitB m j with
    | false => rfl
    | true => exact addRec_len s r
theorem foldRecs_env {m : Nat} : ∀ {l : List Rec} {j : Nat} {s : St} {x : Nat} {v : SV}, eget (foldRecs m j l s).env x = some v → eget s.env x = some v ∨ ∃ i r, l[i]? = some r ∧ bitB m (j + i) = true ∧ r.dst = some x ∧ v = r.e.sv ∧ (r.cs = none ∨ r.cs = some [])
  | [], _, _, _, _, h => .inl h
  | r :: l, j, s, x, v, h => by
    simp only [foldRecs] at h
    rcases foldRecs_env h with h | ⟨i, r', h1, h2, h3⟩
    · cases hb : bitB m j with
      | false => rw [hb] at h; exact .inl h
      | true =>
        rw [hb] at h
        simp only [cond_true] at h
        rcases addRec_cases (s := s) (r := r) with ⟨_, e, _⟩ | ⟨d, hd, hc, e, _⟩ | ⟨d, _, hd, _, e, _⟩
        · rw [e] at h; exact .inl h
        · rw [e, eget_eset] at h
          by_cases hx : x = d
          · rw [if_pos hx] at h
            split at h
            · cases h
              exact .inr ⟨0, r, by simp, hb, by rw [hx]; exact hd, rfl, hc⟩
            · cases h
          · rw [if_neg hx] at h; exact .inl h
        · rw [e, eget_eset] at h
          by_cases hx : x = d
          · rw [if_pos hx] at h; split at h <;> cases h
          · rw [if_neg hx] at h; exact .inl h
    · exact .inr ⟨i + 1, r', by simpa using h1, by rw [show j + (i + 1) = j + 1 + i by omega]; exact h2, h3⟩
theorem foldRecs_cenv {m : Nat} : ∀ {l : List Rec} {j : Nat} {s : St} {y}, y ∈ (foldRecs m j l s).cenv → y ∈ s.cenv ∨ ∃ i r, l[i]? = some r ∧ bitB m (j + i) = true ∧ r.dst = some y.1 ∧ r.cs = some y.2.1 ∧ y.2.2 = r.e.sv
  | [], _, _, _, h => .inl h
  | r :: l, j, s, y, h => by
    simp only [foldRecs] at h
    rcases foldRecs_cenv h with h | ⟨i, r', h1, h2, h3⟩
    · cases hb : bitB m j with
      | false => rw [hb] at h; exact .inl h
      | true =>
        rw [hb] at h
        simp only [cond_true] at h
        rcases addRec_cases (s := s) (r := r) with ⟨_, _, e⟩ | ⟨d, hd, hc, _, e⟩ | ⟨d, cs, hd, hc, _, e⟩
        · rw [e] at h; exact .inl h
        · rw [e] at h; exact .inl h
        · rw [e] at h
          rcases List.mem_cons.1 h with rfl | h
          · exact .inr ⟨0, r, by simp, hb, hd, hc, rfl⟩
          · exact .inl h
    · exact .inr ⟨i + 1, r', by simpa using h1, by rw [show j + (i + 1) = j + 1 + i by omega]; exact h2, h3⟩
theorem noEnv_get : ∀ {ds : List Nat} {env : List (Option SV)} {x : Nat} {v : SV}, eget (noEnv ds env) x = some v → eget env x = some v ∧ x ∉ ds
  | [], env, x, v, h => ⟨h, by simp⟩
  | d :: r, env, x, v, h => by
    simp only [noEnv] at h
    obtain ⟨h1, h2⟩ := noEnv_get h
    rw [eget_eset] at h1
    by_cases hx : x = d
    · rw [if_pos hx] at h1; split at h1 <;> cases h1
    · rw [if_neg hx] at h1
      exact ⟨h1, by simp [hx, h2]⟩
theorem noEnv_len : ∀ (ds : List Nat) (env : List (Option SV)), (noEnv ds env).length = env.length
  | [], _ => rfl
  | d :: r, env => by simp only [noEnv]; rw [noEnv_len, eset_length]
theorem dstIn_ok {m d : Nat} : ∀ {l : List Rec} {j : Nat}, dstIn m d j l = true → ∃ i r, l[i]? = some r ∧ bitB m (j + i) = true ∧ r.dst = some d
  | [], j, h => by cases h
  | r :: l, j, h => by
    unfold dstIn at h
    cases hc : (bitB m j && dstB d r.dst) with
    | true =>
      simp only [Bool.and_eq_true] at hc
      refine ⟨0, r, by simp, hc.1, ?_⟩
      cases hd : r.dst with
      | none => rw [hd] at hc; cases hc.2
      | some x => rw [hd] at hc; rw [Nat.eq_of_beq_eq_true hc.2]
    | false =>
      rw [hc] at h
      obtain ⟨i, r', h1, h2, h3⟩ := dstIn_ok h
      exact ⟨i + 1, r', by simpa using h1, by rw [show j + (i + 1) = j + 1 + i by omega]; exact h2, h3⟩
theorem csIn_ok {m : Nat} {acc : List Rec} : ∀ {cs : List (Nat × Bool)}, csIn m acc cs = true → ∀ x ∈ cs, ∃ i r, acc[i]? = some r ∧ bitB m i = true ∧ r.dst = some x.1
  | [], _, x, hx => by cases hx
  | y :: cs, h, x, hx => by
    unfold csIn at h
    cases hd : dstIn m y.1 0 acc with
    | false => rw [hd] at h; cases h
    | true =>
      rw [hd] at h
      rcases List.mem_cons.1 hx with rfl | hx
      · obtain ⟨i, r, h1, h2, h3⟩ := dstIn_ok hd
        exact ⟨i, r, h1, by rw [Nat.zero_add] at h2; exact h2, h3⟩
      · exact csIn_ok h x hx
theorem pass2_ok {c : Cfg} {ops : List Oper} {base : St} {masks : List Nat} {U : List (List Nat)} {nid : Nat} : ∀ {l : List Oper} {k : Nat} {acc recs : List Rec}, pass2 c ops base masks U nid l k acc = some recs → acc.length = k →
    recs.length = k + l.length ∧ recs.take k = acc ∧ ∀ i o, l[i]? = some o → ∃ m u r, masks[k + i]? = some m ∧ U[k + i]? = some u ∧ recs[k + i]? = some r ∧ evRec c ops (stAt (wipe ops masks (k + i) base) masks U (recs.take (k + i)) m (k + i)) (nid + 8 * (k + i)) o = some r ∧
      (∀ p ∈ r.e.upd, p.1 ∈ u) ∧ (∀ cs, r.cs = some cs → csIn m (recs.take (k + i)) cs = true) ∧ ∀ p ∈ r.e.upd, p.1 < nid ∨ nid + 8 * (k + i) ≤ p.1 ∨ bitB m ((p.1 - nid) / 8) = true
  | [], k, acc, recs, h, hl => by
    cases h
    exact ⟨by simp [hl], by rw [← hl]; simp, fun i o hi => by simp at hi⟩
  | o :: r, k, acc, recs, h, hl => by
    unfold pass2 at h
    split at h
    · rename_i m u hm hu
      split at h
      · rename_i rc hrc
        cases hb : (allIn u (rc.e.upd.map (·.1)) && (csIn1 m acc rc.cs && rangeB m nid (nid + 8 * k) (rc.e.upd.map (·.1)))) with
        | false => rw [hb] at h; cases h
        | true =>
          rw [hb] at h
          simp only [Bool.and_eq_true] at hb
          obtain ⟨h1, h2, h3⟩ := pass2_ok (l := r) h (by simp [hl])
          have hk : recs[k]? = some rc := by
            have : (recs.take (k + 1))[k]? = some rc := by rw [h2, ← hl]; simp
            rw [List.getElem?_take] at this
            simpa using this
          have htk : recs.take k = acc := by
            have := congrArg (List.take k) h2
            rw [List.take_take, Nat.min_eq_left (by omega)] at this
            rw [this, ← hl]; simp
          refine ⟨by rw [h1]; simp; omega, htk, fun i o' hi => ?_⟩
          cases i with
          | zero =>
            simp at hi; subst hi
            refine ⟨m, u, rc, hm, hu, hk, by rw [Nat.add_zero, htk]; exact hrc, fun p hp => ?_, fun cs hcs => ?_, fun p hp => range_ok hb.2.2 _ (List.mem_map.2 ⟨p, hp, rfl⟩)⟩
            · exact allIn_mem hb.1 _ (List.mem_map.2 ⟨p, hp, rfl⟩)
            · rw [Nat.add_zero, htk]
              have := hb.2.1
              rw [hcs] at this; exact this
          | succ i =>
            have := h3 i o' (by simpa using hi)
            rw [show k + 1 + i = k + (i + 1) by omega] at this
            exact this
      · cases h
    · cases h
where
  range_ok {m n0 n : Nat} : ∀ {l : List Nat}, rangeB m n0 n l = true → ∀ x ∈ l, x < n0 ∨ n ≤ x ∨ bitB m ((x - n0) / 8) = true
    | [], _, x, hx => by cases hx
    | y :: l, h, x, hx => by
      unfold rangeB at h
      cases hm : (Nat.blt y n0 || Nat.ble n y || bitB m (Nat.div (Nat.sub y n0) 8)) with
      | false => rw [hm] at h; cases h
      | true =>
        rw [hm] at h
        rcases List.mem_cons.1 hx with rfl | hx
        · simp only [Bool.or_eq_true, Nat.blt_eq, Nat.ble_eq] at hm
          exact or_assoc.1 hm
        · exact range_ok h x hx
  allIn_mem {ids : List Nat} : ∀ {l : List Nat}, allIn ids l = true → ∀ x ∈ l, x ∈ ids
    | [], _, x, hx => by cases hx
    | y :: l, h, x, hx => by
      unfold allIn at h
      cases hm : mem1 y ids with
      | false => rw [hm] at h; cases h
      | true =>
        rw [hm] at h
        rcases List.mem_cons.1 hx with rfl | hx
        · exact mem1_mem.1 hm
        · exact allIn_mem h x hx
theorem dstsK_mem {k : Nat} : ∀ {l : List Oper} {masks : List Nat} {q : Nat} {o : Oper} {d : Nat}, l[q]? = some o → o.dst = some d → d ∉ dstsK k l masks → ∃ m, masks[q]? = some m ∧ bitB m k = true
  | [], _, q, o, d, h, _, _ => by simp at h
  | x :: r, [], 0, o, d, h, hd, hn => by
    simp at h; subst h
    exact absurd (by simp [dstsK, hd]) hn
  | x :: r, [], q + 1, o, d, h, hd, hn => by
    have h : r[q]? = some o := by simpa using h
    obtain ⟨m, h1, _⟩ := dstsK_mem (k := k) (masks := []) h hd (fun hh => hn (by simp only [dstsK]; exact List.mem_append.2 (.inr hh)))
    simp at h1
  | x :: r, m :: ms, 0, o, d, h, hd, hn => by
    simp at h; subst h
    refine ⟨m, rfl, ?_⟩
    cases hb : bitB m k with
    | true => rfl
    | false => exact absurd (by simp [dstsK, hb, hd]) hn
  | x :: r, m :: ms, q + 1, o, d, h, hd, hn => by
    have h : r[q]? = some o := by simpa using h
    have hn' : d ∉ dstsK k r ms := fun hh => hn (by
      simp only [dstsK]
      cases bitB m k with
      | true => exact hh
      | false => exact List.mem_append.2 (.inr hh))
    simpa using dstsK_mem (masks := ms) h hd hn'
end Go.Vc
/- A region whose order is open: whatever order is drawn, what is reckoned holds. -/
set_option linter.unusedVariables false
set_option linter.unusedSimpArgs false
namespace Go.Vc

theorem Ext.congr {ι ι' : Gh} {w w' : World} {M M' N N' : Store} (x : Ext ι w M ι' w' M') (h : ∀ id, N.get id = M.get id) (h' : ∀ id, N'.get id = M'.get id) : Ext ι w N ι' w' N' :=
  ⟨x.S, x.heap, fun id e he => x.base id e (by rw [← h]; exact he), fun id e he => by
    obtain ⟨e', h1, h2⟩ := x.ev id e (by rw [← h]; exact he)
    exact ⟨e', by rw [h']; exact h1, h2⟩⟩
theorem Inv.turned {c : Ctx} {ι : Gh} {w w' : World} {M M' : Store} (I : Inv c ι w M) (h : ∀ id, M'.get id = M.get id) (ho : w'.os = w.os) (ht : w'.tape = w.tape) (hu : w'.output = w.output) (hh : w'.heap = w.heap) : Inv c ι w' M' := by
  have x : Ext ι w M ι w' M' := ⟨fun _ h => h, fun b _ => by rw [hh], fun _ _ _ => ⟨rfl, rfl⟩, fun id e he => ⟨e, by rw [h]; exact he, Ev.refl e⟩⟩
  refine ⟨⟨ho.trans I.kept.os, ht.trans I.kept.tape, hu.trans I.kept.output, by rw [hh]; exact I.kept.size, fun b hb hO => by rw [hh]; exact I.kept.block b hb hO⟩, fun id e he => ?_, fun i j ei ej k hi hj => ?_, fun i e k hi => ?_, fun b hb => by rw [hh]; exact I.stb b hb, I.src⟩
  · rw [h] at he
    exact ERep.mono x he (fun _ _ _ => by rw [hh]) (I.ents id e he)
  · rw [h] at hi hj; exact I.dis i j ei ej k hi hj
  · rw [h] at hi; exact I.own i e k hi
theorem Ext.turned {ι : Gh} {w w' : World} {M M' : Store} (h : ∀ id, M'.get id = M.get id) (hh : w'.heap = w.heap) : Ext ι w M ι w' M' :=
  ⟨fun _ h => h, fun b _ => by rw [hh], fun _ _ _ => ⟨rfl, rfl⟩, fun id e he => ⟨e, by rw [h]; exact he, Ev.refl e⟩⟩

theorem under_M {s : St} {M' : Store} : ∀ {k : List (Nat × Bool)} {p : Prop}, under { s with M := M' } k p = under s k p
  | [], _ => rfl
  | (d, b) :: r, p => by
    unfold under
    rw [under_M (k := r)]
    rfl
theorem underAll_M {s : St} {M' : Store} {cs : List (Nat × Bool)} : ∀ {ps : List Prop}, underAll { s with M := M' } cs ps = underAll s cs ps
  | [] => rfl
  | p :: r => by
    unfold underAll
    rw [under_M, underAll_M (ps := r)]
theorem evRec_ok {c : Cfg} {ops : List Oper} {s : St} {nid : Nat} {o : Oper} {r : Rec} (h : evRec c ops s nid o = some r) : r.dst = o.dst ∧
    ((∃ cs e, condsOf ops s o.guard = some (some cs) ∧ evEff c s cs nid o = some e ∧ r.cs = some cs ∧ r.e.sv = e.sv ∧ r.e.upd = e.upd ∧ (cs = [] ∧ r.e.pre = e.pre ∨ e.upd = [] ∧ underAll s cs e.pre = some r.e.pre)) ∨
      (condsOf ops s o.guard = some none ∧ r.cs = none ∧ r.e.sv = .tup [] ∧ r.e.upd = [])) := by
  unfold evRec at h
  split at h
  · rename_i cs hc
    split at h
    · rename_i e he
      split at h
      · cases h
        exact ⟨rfl, .inl ⟨[], e, hc, he, rfl, rfl, rfl, .inl ⟨rfl, rfl⟩⟩⟩
      · rename_i x l hu
        split at h
        · rename_i ps hps
          cases h
          exact ⟨rfl, .inl ⟨_, e, hc, he, rfl, rfl, hu.symm, .inr ⟨hu, hps⟩⟩⟩
        · cases h
      · cases h
    · cases h
  · rename_i hc
    cases h
    exact ⟨rfl, .inr ⟨hc, rfl, rfl, rfl⟩⟩
  · cases h

abbrev baseOf (ops : List Oper) (s : St2) : St := ⟨noEnv (dstsOf ops) s.s.env, [], s.s.M⟩
abbrev baseK (ops : List Oper) (masks : List Nat) (k : Nat) (s : St2) : St := wipe ops masks k ⟨s.s.env, [], s.s.M⟩
structure DrawnOk (cfg : Cfg) (ops : List Oper) (s : St2) (masks : List Nat) (U : List (List Nat)) (recs : List Rec) : Prop where
  cenv : s.s.cenv = []
  mask : MaskOk ops masks
  mlen : masks.length = ops.length
  rlen : recs.length = ops.length
  each : ∀ (i : Nat) (o : Oper), ops[i]? = some o → ∃ m u r, masks[i]? = some m ∧ U[i]? = some u ∧ recs[i]? = some r ∧ evRec cfg ops (stAt (baseK ops masks i s) masks U (recs.take i) m i) (s.next + 8 * i) o = some r ∧
    (∀ p ∈ r.e.upd, p.1 ∈ u) ∧ (∀ cs, r.cs = some cs → csIn m (recs.take i) cs = true) ∧ ∀ p ∈ r.e.upd, p.1 < s.next ∨ s.next + 8 * i ≤ p.1 ∨ bitB m ((p.1 - s.next) / 8) = true
  pairs : ∀ (j mj : Nat) (uj : List Nat) (k : Nat) (uk : List Nat), k < j → masks[j]? = some mj → U[j]? = some uj → U[k]? = some uk → bitB mj k = true ∨ ∀ x ∈ uk, x ∉ uj
  dst : ∀ (i j : Nat) (oi oj : Oper) (d : Nat), ops[i]? = some oi → ops[j]? = some oj → oi.dst = some d → oj.dst = some d → i = j
  inb : ∀ (i : Nat) (o : Oper) (d : Nat), ops[i]? = some o → o.dst = some d → d < s.s.env.length
  mem : ∀ (i : Nat) (o : Oper) (d : Nat), ops[i]? = some o → o.dst = some d → d ∈ dstsOf ops

section
variable {P : Program} {c : Ctx} {cfg : Cfg} {ops : Array Oper} {s : St2} {masks : List Nat} {U : List (List Nat)} {recs : List Rec}

abbrev Dl (listed : Array Bool) : Nat → Bool := fun j => listed.getD j false
structure J (P : Program) (c : Ctx) (cfg : Cfg) (ops : Array Oper) (s : St2) (recs : List Rec) (ι0 : Gh) (w0 : World) (a0 : Act) (listed : Array Bool) (ι : Gh) (w : World) (a : Act) (M : Store) : Prop where
  size : listed.size = ops.size
  ext : Ext ι0 w0 s.s.M ι w M
  inv : Inv c ι w M
  mem : ∀ id, M.get id = gAt (Dl listed) 0 recs s.s.M.get id
  recs : ∀ j r d, recs[j]? = some r → Dl listed j = true → r.dst = some d → (r.cs = none → a.eval (.tmp d) = undef) ∧ ∀ cs, r.cs = some cs → (Holds a cs → SVRep c ι w M r.e.sv (a.eval (.tmp d))) ∧ (¬ Holds a cs → a.eval (.tmp d) = undef)
  base : ∀ i v, eget s.s.env i = some v → (∀ (q : Nat) (o : Oper), ops.toList[q]? = some o → o.dst = some i → Dl listed q = false) → SVRep c ι w M v (a.eval (.tmp i))
  closed : ∀ j o, Dl listed j = true → ops.toList[j]? = some o → ∀ p ∈ dirOf o, Dl listed p = true
  len : s.s.env.length ≤ a.tmps.size
  defers : a.defers = a0.defers
  const : ConstOk P cfg c ι w

variable {ι0 : Gh} {w0 : World} {a0 : Act} {listed : Array Bool} {ι : Gh} {w : World} {a : Act} {M : Store}

theorem J.rep (K : DrawnOk cfg ops.toList s masks U recs) (j : J P c cfg ops s recs ι0 w0 a0 listed ι w a M) {m k i : Nat} {E : List (Option SV)} (hE : ∀ x v, eget E x = some v → SVRep c ι w M v (a.eval (.tmp x))) (hl : E.length = s.s.env.length) (hm : ∀ p, bitB m p = true → Dl listed p = true) :
    FRep c ι w { (stAt ⟨E, [], s.s.M⟩ masks U (recs.take k) m i) with M := M } a := by
  refine ⟨?_, fun x v hx => ?_, fun y hy hk => ?_, fun y hy hk => ?_⟩
  · show (foldRecs m 0 (recs.take k) ⟨E, [], s.s.M⟩).env.length ≤ _
    rw [foldRecs_len]
    show E.length ≤ _
    rw [hl]; exact j.len
  · rcases foldRecs_env (show eget (foldRecs m 0 (recs.take k) ⟨E, [], s.s.M⟩).env x = some v from hx) with h | ⟨q, r, h1, h2, h3, h4, h5⟩
    · exact hE x v h
    · rw [Nat.zero_add] at h2
      have hr : recs[q]? = some r := by rw [List.getElem?_take] at h1; exact (by split at h1 <;> first | exact h1 | cases h1)
      obtain ⟨k1, k2⟩ := j.recs q r x hr (hm q h2) h3
      rcases h5 with h5 | h5
      · have ho := (List.getElem?_eq_some_iff.1 hr).1
        have hq : ops.toList[q]? = some (ops.toList[q]'(by rw [← K.rlen]; exact ho)) := List.getElem?_eq_getElem _
        obtain ⟨m', u', r', _, _, e3, e4, _⟩ := K.each q _ hq
        rw [hr] at e3; cases e3
        rcases (evRec_ok e4).2 with ⟨cs, e, _, _, g, _⟩ | ⟨_, _, g, _⟩
        · rw [h5] at g; cases g
        · rw [h4, g, k1 h5]; exact ⟨[], rfl, rfl⟩
      · rw [h4]; exact (k2 [] h5).1 (fun _ hx => by cases hx)
  · rcases foldRecs_cenv (show y ∈ (foldRecs m 0 (recs.take k) ⟨E, [], s.s.M⟩).cenv from hy) with h | ⟨q, r, h1, h2, h3, h4, h5⟩
    · cases h
    · rw [Nat.zero_add] at h2
      have hr : recs[q]? = some r := by rw [List.getElem?_take] at h1; exact (by split at h1 <;> first | exact h1 | cases h1)
      rw [h5]; exact ((j.recs q r _ hr (hm q h2) h3).2 _ h4).1 hk
  · rcases foldRecs_cenv (show y ∈ (foldRecs m 0 (recs.take k) ⟨E, [], s.s.M⟩).cenv from hy) with h | ⟨q, r, h1, h2, h3, h4, h5⟩
    · cases h
    · rw [Nat.zero_add] at h2
      have hr : recs[q]? = some r := by rw [List.getElem?_take] at h1; exact (by split at h1 <;> first | exact h1 | cases h1)
      exact ((j.recs q r _ hr (hm q h2) h3).2 _ h4).2 hk

theorem J.step (tab : TabOk P cfg) (sums : SumsOk P cfg) (K : DrawnOk cfg ops.toList s masks U recs) (hfr : ∀ q, s.next ≤ q → s.s.M.get q = none) (hp : ∀ r ∈ recs, ∀ p ∈ r.e.pre, p) (j : J P c cfg ops s recs ι0 w0 a0 listed ι w a M)
    {i : Nat} (hi : i ∈ Region.ready .any ops listed) {Q : Exit → Act → World → Prop} {next : Act → World → Prop} (hn : ∀ ι' w' a' M', J P c cfg ops s recs ι0 w0 a0 (listed.setIfInBounds i true) ι' w' a' M' → next a' w') : wpOp P ops Q i next a w := by
  obtain ⟨hun, o, ho, hall⟩ := mem_ready.1 hi
  have hol : ops.toList[i]? = some o := by simpa using ho
  have hlt : i < ops.size := (Array.getElem?_eq_some_iff.1 ho).1
  have hil : i < listed.size := by rw [j.size]; exact hlt
  have hDi : Dl listed i = false := by
    have := hun
    simp only [Dl, Array.getD_eq_getD_getElem?, Array.getElem?_eq_getElem hil] at this ⊢
    exact this
  obtain ⟨m, u, r, e1, e2, e3, e4, e5, e6, e7⟩ := K.each i o hol
  have hdir : ∀ p ∈ dirOf o, Dl listed p = true := by
    intro p hp
    obtain ⟨e, he, rfl⟩ := List.mem_map.1 hp
    obtain ⟨he1, he2⟩ := List.mem_filter.1 he
    exact hall e (by simpa using he1) he2
  have hclosed : ∀ k ok mk, ops.toList[k]? = some ok → masks[k]? = some mk → (∀ p ∈ dirOf ok, Dl listed p = true) → ∀ p, bitB mk p = true → Dl listed p = true :=
    mask_closed (D := fun p => Dl listed p = true) K.mask j.closed
  have hbits := hclosed i o m hol e1 hdir
  have F := j.rep K (k := i) (i := i) (E := noEnv (dstsK i ops.toList masks) s.s.env) (fun x v hx => by
    obtain ⟨g1, g2⟩ := noEnv_get hx
    refine j.base x v g1 fun q oq hq hd => ?_
    obtain ⟨mq, k1, k2⟩ := dstsK_mem hq hd g2
    cases hDq : Dl listed q with
    | false => rfl
    | true =>
      have := hclosed q oq mq hq k1 (j.closed q _ hDq hq) i k2
      rw [hDi] at this; cases this) (noEnv_len _ _) hbits
  -- the entries
  have hle : MLe (stAt (baseK ops.toList masks i s) masks U (recs.take i) m i).M M := by
    intro id e he
    obtain ⟨d1, d2⟩ := del_get (show (Store.del (foldRecs m 0 (recs.take i) (baseK ops.toList masks i s)).M (unordIds masks m i 0 U)).get id = some e from he)
    rw [foldRecs_M] at d2
    rw [j.mem, ← d2]
    have hsp : recs = recs.take i ++ recs.drop i := (List.take_append_drop i recs).symm
    have hlen : (recs.take i).length = i := by rw [List.length_take, K.rlen]; simp; omega
    have s1 : gAt (bitB m) 0 (recs.take i) (baseK ops.toList masks i s).M.get id = gAt (bitB m) 0 recs s.s.M.get id := by
      have happ := gAt_append (bitB m) (recs.take i) (recs.drop i) 0 s.s.M.get
      rw [← hsp] at happ
      rw [happ]
      refine (gAt_skip _ _ _ fun q rq hq hb => ?_).symm
      have := mask_lt K.mask hol e1 _ hb
      rw [hlen] at this; omega
    rw [s1]
    refine gAt_congr recs 0 _ _ rfl fun q rq hq hne => ?_
    rw [Nat.zero_add] at hne
    intro p hpq hpi
    have hqlt := (List.getElem?_eq_some_iff.1 hq).1
    have hoq : ops.toList[q]? = some (ops.toList[q]'(by rw [← K.rlen]; exact hqlt)) := List.getElem?_eq_getElem _
    obtain ⟨mq, uq, rq', q1, q2, q3, _, q5, _⟩ := K.each q _ hoq
    rw [hq] at q3; cases q3
    have hbq : bitB m q = false := by
      cases hb : bitB m q with
      | false => rfl
      | true => rw [hb, hbits q hb] at hne; exact absurd rfl hne
    have hDq : Dl listed q = true := by
      cases hd : Dl listed q with
      | true => rfl
      | false => rw [hd, hbq] at hne; exact absurd rfl hne
    have hqi : q ≠ i := fun hh => by rw [hh, hDi] at hDq; cases hDq
    have hmem : id ∈ unordIds masks m i 0 U := by
      refine unord_mem (i := q) q2 (by rw [← hpi]; exact q5 p hpq) (by omega) (by rw [Nat.zero_add]; exact hbq) fun mj hmj => ?_
      rw [Nat.zero_add, q1] at hmj; cases hmj
      cases hb : bitB mq i with
      | false => rfl
      | true =>
        have := hclosed q _ mq hoq q1 (j.closed q _ hDq hoq) i hb
        rw [hDi] at this; cases this
    rw [mem1_mem.2 hmem] at d1; cases d1
  have hbel : below (s.next + 8 * i + 8) r.e.upd = true := by
    rcases (evRec_ok e4).2 with ⟨cs, e, _, he, _, _, hu, _⟩ | ⟨_, _, _, hu⟩
    · rw [hu]; exact evEff_below he
    · rw [hu]; rfl
  have hidlt : ∀ q rq, recs[q]? = some rq → ∀ p ∈ rq.e.upd, p.1 < s.next + 8 * q + 8 ∧ (p.1 < s.next ∨ s.next + 8 * q ≤ p.1 ∨ (Dl listed q = true → Dl listed ((p.1 - s.next) / 8) = true)) := by
    intro q rq hq p hpq
    have hqlt := (List.getElem?_eq_some_iff.1 hq).1
    have hoq : ops.toList[q]? = some (ops.toList[q]'(by rw [← K.rlen]; exact hqlt)) := List.getElem?_eq_getElem _
    obtain ⟨mq, uq, rq', q1, q2, q3, q4, q5, _, q7⟩ := K.each q _ hoq
    rw [hq] at q3; cases q3
    refine ⟨?_, (q7 p hpq).imp_right fun h => h.imp_right fun h hDq => hclosed q _ mq hoq q1 (j.closed q _ hDq hoq) _ h⟩
    have hb : below (s.next + 8 * q + 8) rq.e.upd = true := by
      rcases (evRec_ok q4).2 with ⟨cs, e, _, he, _, _, hu, _⟩ | ⟨_, _, _, hu⟩
      · rw [hu]; exact evEff_below he
      · rw [hu]; rfl
    exact below_mem hb p hpq
  have hfree : ∀ q, s.next + 8 * i ≤ q → q < s.next + 8 * i + 8 → M.get q = none := by
    intro q h1 h2
    rw [j.mem, gAt_skip]
    · exact hfr q (by omega)
    · intro t rt ht hd p hpt hpq
      rw [Nat.zero_add] at hd
      have hti : t ≠ i := fun hh => by rw [hh, hDi] at hd; cases hd
      obtain ⟨g1, g2⟩ := hidlt t rt ht p hpt
      rcases g2 with g2 | g2 | g2
      · omega
      · omega
      · have g3 := g2 hd
        have : (p.1 - s.next) / 8 = i := by omega
        rw [this, hDi] at g3; cases g3
  -- what is behind it
  have hsvd : ∀ {d}, o.dst = some d → ∀ q rq d', recs[q]? = some rq → Dl listed q = true → rq.dst = some d' → d' ≠ d := by
    intro d hd q rq d' hq hDq hd' hdd
    have hqlt := (List.getElem?_eq_some_iff.1 hq).1
    have hoq : ops.toList[q]? = some (ops.toList[q]'(by rw [← K.rlen]; exact hqlt)) := List.getElem?_eq_getElem _
    obtain ⟨mq, uq, rq', q1, q2, q3, q4, _⟩ := K.each q _ hoq
    rw [hq] at q3; cases q3
    have hqi : q ≠ i := fun hh => by rw [hh, hDi] at hDq; cases hDq
    exact hqi (K.dst q i _ o d hoq hol ((evRec_ok q4).1 ▸ (by rw [hd', hdd])) hd)
  have hholds : ∀ {v : Value} {q rq cs}, recs[q]? = some rq → Dl listed q = true → rq.cs = some cs → (Holds (a.put o.dst v) cs ↔ Holds a cs) := by
    intro v q rq cs hq hDq hcs
    cases hd : o.dst with
    | none => exact Iff.rfl
    | some d =>
      refine holds_put fun x hx => ?_
      have hqlt := (List.getElem?_eq_some_iff.1 hq).1
      have hoq : ops.toList[q]? = some (ops.toList[q]'(by rw [← K.rlen]; exact hqlt)) := List.getElem?_eq_getElem _
      obtain ⟨mq, uq, rq', q1, q2, q3, q4, _, q6, _⟩ := K.each q _ hoq
      rw [hq] at q3; cases q3
      obtain ⟨t, rt, t1, t2, t3⟩ := csIn_ok (q6 cs hcs) x hx
      have ht : recs[t]? = some rt := by rw [List.getElem?_take] at t1; exact (by split at t1 <;> first | exact t1 | cases t1)
      exact hsvd hd t rt _ ht (hclosed q _ mq hoq q1 (j.closed q _ hDq hoq) t t2) t3
  have hput : ∀ {v : Value} {d' : Nat}, (∀ d, o.dst = some d → d' ≠ d) → (a.put o.dst v).eval (.tmp d') = a.eval (.tmp d') := by
    intro v d' h
    cases hd : o.dst with
    | none => rfl
    | some d => rw [eval_put, if_neg (fun hh => h d hd hh.1)]
  have hset : ∀ q, Dl (listed.setIfInBounds i true) q = (if q = i then true else Dl listed q) := by
    intro q
    by_cases hq : q = i
    · subst hq
      rw [if_pos rfl]
      simp [Dl, hil]
    · rw [if_neg hq]
      exact getD_set_ne false (fun hh => hq hh.symm)
  have finish : ∀ (ι' : Gh) (w' : World) (v : Value), Inv c ι' w' (M.upds r.e.upd) → Ext ι w M ι' w' (M.upds r.e.upd) →
      (∀ d, o.dst = some d → (r.cs = none → v = undef) ∧ ∀ cs, r.cs = some cs → (Holds a cs → SVRep c ι' w' (M.upds r.e.upd) r.e.sv v) ∧ (¬ Holds a cs → v = undef)) → next (a.put o.dst v) w' := by
    intro ι' w' v I' x hv
    refine hn ι' w' _ (M.upds r.e.upd) ⟨by rw [Array.size_setIfInBounds]; exact j.size, j.ext.trans x, I', fun id => ?_, fun q rq d hq hDq hd => ?_, fun q u hq hnd => ?_, fun q oq hDq hoq p hpq => ?_, by rw [put_size]; exact j.len, by rw [put_defers]; exact j.defers, j.const.mono x⟩
    · rw [upds_get, j.mem]
      refine (gAt_set (k := i) e3 hDi (by rw [hset, if_pos rfl]) (fun q hq => by rw [hset, if_neg hq]) (fun q rq hiq hq hDq p hpq t ht => ?_) id).symm
      have hqlt := (List.getElem?_eq_some_iff.1 hq).1
      have hoq : ops.toList[q]? = some (ops.toList[q]'(by rw [← K.rlen]; exact hqlt)) := List.getElem?_eq_getElem _
      obtain ⟨mq, uq, rq', q1, q2, q3, q4, q5, _⟩ := K.each q _ hoq
      rw [hq] at q3; cases q3
      rcases K.pairs q mq uq i u hiq q1 q2 e2 with hb | hb
      · have := hclosed q _ mq hoq q1 (j.closed q _ hDq hoq) i hb
        rw [hDi] at this; cases this
      · intro hh
        exact hb t.1 (e5 t ht) (by rw [← hh]; exact q5 p hpq)
    · rw [hset] at hDq
      by_cases hqi : q = i
      · subst hqi
        rw [e3] at hq; cases hq
        have hod : o.dst = some d := by rw [← (evRec_ok e4).1]; exact hd
        have hsz : d < a.tmps.size := Nat.lt_of_lt_of_le (K.inb q o d hol hod) j.len
        have hev : (a.put o.dst v).eval (.tmp d) = v := by rw [hod, eval_put, if_pos ⟨rfl, hsz⟩]
        rw [hev]
        obtain ⟨h1, h2⟩ := hv d hod
        refine ⟨h1, fun cs hcs => ?_⟩
        have hh : Holds (a.put o.dst v) cs ↔ Holds a cs := by
          rw [hod]
          refine holds_put fun y hy => ?_
          obtain ⟨t, rt, t1, t2, t3⟩ := csIn_ok (e6 cs hcs) y hy
          have ht : recs[t]? = some rt := by rw [List.getElem?_take] at t1; exact (by split at t1 <;> first | exact t1 | cases t1)
          exact hsvd hod t rt _ ht (hbits t t2) t3
        exact ⟨fun hk => (h2 cs hcs).1 (hh.1 hk), fun hk => (h2 cs hcs).2 (fun hh' => hk (hh.2 hh'))⟩
      · rw [if_neg hqi] at hDq
        obtain ⟨h1, h2⟩ := j.recs q rq d hq hDq hd
        rw [hput (fun d' hd' => hsvd hd' q rq d hq hDq hd)]
        refine ⟨h1, fun cs hcs => ?_⟩
        have hh := hholds (v := v) hq hDq hcs
        exact ⟨fun hk => ((h2 cs hcs).1 (hh.1 hk)).mono x, fun hk => (h2 cs hcs).2 (fun hh' => hk (hh.2 hh'))⟩
    · rw [hput (fun d hd hqd => ?_)]
      · refine (j.base q u hq fun q' o' ho' hd' => ?_).mono x
        have := hnd q' o' ho' hd'
        rw [hset] at this
        by_cases hh : q' = i
        · rw [if_pos hh] at this; cases this
        · rw [if_neg hh] at this; exact this
      · have := hnd i o hol (by rw [hqd]; exact hd)
        rw [hset, if_pos rfl] at this; cases this
    · rw [hset] at hDq ⊢
      by_cases hpi : p = i
      · rw [if_pos hpi]
      · rw [if_neg hpi]
        by_cases hqi : q = i
        · subst hqi
          rw [hol] at hoq; cases hoq
          exact hdir p hpq
        · rw [if_neg hqi] at hDq
          exact j.closed q oq hDq hoq p hpq
  unfold wpOp
  simp only [ho]
  rcases (evRec_ok e4).2 with ⟨cs, e, hc, he, hrc, hsv, hu, hpre⟩ | ⟨hc, hrc, hsv, hu⟩
  · have hw := condsOf_ok F (show condsOf ops.toList _ o.guard = some (some cs) from hc)
    by_cases hk : Holds a cs
    · rw [if_pos (hw.2 ⟨cs, rfl, hk⟩)]
      left
      have he' := evEff_mono (M' := M) hle he
      have hpe : ∀ p ∈ e.pre, p := by
        have hpr := hp r (List.mem_of_getElem? e3)
        rcases hpre with ⟨_, hh⟩ | ⟨_, hh⟩
        · rw [hh] at hpr; exact hpr
        · exact underAll_ok F hk (by rw [underAll_M]; exact hh) hpr
      refine (evEff_sound tab sums (show Inv c ι w ({ (stAt (baseK ops.toList masks i s) masks U (recs.take i) m i) with M := M } : St).M from j.inv) F j.const hk hfree he' hpe).imp fun v w' ι' I' x hv => ?_
      rw [← hu] at I' x hv
      rw [← hsv] at hv
      refine finish ι' w' v I' x fun d _ => ⟨fun hh => (by rw [hrc] at hh; cases hh), fun cs' hcs' => ?_⟩
      rw [hrc] at hcs'; cases hcs'
      exact ⟨fun _ => hv, fun hh => absurd hk hh⟩
    · have hnw : Region.wanted o (yielded ops a.tmps) = false := by
        cases hh : Region.wanted o (yielded ops a.tmps) with
        | false => rfl
        | true => obtain ⟨cs', h1, h2⟩ := hw.1 hh; cases h1; exact absurd h2 hk
      rw [hnw, if_neg (by simp)]
      have hue : r.e.upd = [] := by
        rcases hpre with ⟨hh, _⟩ | ⟨hh, _⟩
        · exact absurd (by rw [hh]; exact fun x hx => (List.not_mem_nil hx).elim) hk
        · rw [hu]; exact hh
      refine finish ι w undef (by rw [hue]; exact j.inv) (by rw [hue]; exact Ext.refl _ _ _) fun d _ => ⟨fun _ => rfl, fun cs' hcs' => ?_⟩
      rw [hrc] at hcs'; cases hcs'
      exact ⟨fun hh => absurd hh hk, fun _ => rfl⟩
  · have hw := condsOf_ok F (show condsOf ops.toList _ o.guard = some none from hc)
    have hnw : Region.wanted o (yielded ops a.tmps) = false := by
      cases hh : Region.wanted o (yielded ops a.tmps) with
      | false => rfl
      | true => obtain ⟨cs', h1, h2⟩ := hw.1 hh; cases h1
    rw [hnw, if_neg (by simp)]
    refine finish ι w undef (by rw [hu]; exact j.inv) (by rw [hu]; exact Ext.refl _ _ _) fun d _ => ⟨fun _ => rfl, fun cs' hcs' => ?_⟩
    rw [hrc] at hcs'; cases hcs'
where
  below_mem {n : Nat} : ∀ {u : List (Nat × Entry)}, below n u = true → ∀ p ∈ u, p.1 < n
    | [], _, p, hp => by cases hp
    | x :: u, h, p, hp => by
      unfold below at h
      cases hx : Nat.blt x.1 n with
      | false => rw [hx] at h; cases h
      | true =>
        rw [hx] at h
        rcases List.mem_cons.1 hp with rfl | hp
        · simpa using hx
        · exact below_mem h p hp

/-- Whatever order is drawn, all is done in the end. -/
theorem J.any (tab : TabOk P cfg) (sums : SumsOk P cfg) (K : DrawnOk cfg ops.toList s masks U recs) (hfr : ∀ q, s.next ≤ q → s.s.M.get q = none) (hp : ∀ r ∈ recs, ∀ p ∈ r.e.pre, p) {Q : Exit → Act → World → Prop}
    (hn : ∀ (listed : Array Bool) ι w a M, J P c cfg ops s recs ι0 w0 a0 listed ι w a M → (∀ q, q < ops.size → Dl listed q = true) → Q .normal a w) :
    ∀ (fuel : Nat) (listed : Array Bool) (ι : Gh) (w : World) (a : Act) (M : Store), J P c cfg ops s recs ι0 w0 a0 listed ι w a M → ((List.range ops.size).filter fun q => !Dl listed q).length ≤ fuel → wpAny P .any ops Q fuel listed a w := by
  have none : ∀ (listed : Array Bool) ι w a M, J P c cfg ops s recs ι0 w0 a0 listed ι w a M → Region.ready .any ops listed = [] → ∀ q, q < ops.size → Dl listed q = true := by
    intro listed ι w a M j hr q
    induction q using Nat.strongRecOn with
    | _ q ih =>
      intro hq
      cases hd : Dl listed q with
      | true => rfl
      | false =>
        exfalso
        have hql : q < listed.size := by rw [j.size]; exact hq
        have : q ∈ Region.ready .any ops listed := by
          refine mem_ready.2 ⟨?_, ops[q], Array.getElem?_eq_getElem hq, fun e he hb => ?_⟩
          · simp only [Dl, Array.getD_eq_getD_getElem?, Array.getElem?_eq_getElem hql] at hd ⊢; exact hd
          · obtain ⟨m, _, k2, _⟩ := K.mask q ops[q] (by simp [hq])
            have hmem : e.on ∈ dirOf ops[q] := List.mem_map.2 ⟨e, List.mem_filter.2 ⟨by simpa using he, hb⟩, rfl⟩
            have hlt := (k2 e.on hmem).1
            exact ih e.on hlt (by omega)
        rw [hr] at this; cases this
  intro fuel
  induction fuel with
  | zero =>
    intro listed ι w a M j hc
    have hall : ∀ q, q < ops.size → Dl listed q = true := by
      intro q hq
      cases hd : Dl listed q with
      | true => rfl
      | false =>
        have : q ∈ (List.range ops.size).filter fun q => !Dl listed q := List.mem_filter.2 ⟨List.mem_range.2 hq, by rw [hd]; rfl⟩
        rw [List.length_eq_zero_iff.1 (Nat.le_zero.1 hc)] at this; cases this
    refine ⟨?_, hn listed ι w a M j hall⟩
    cases hr : Region.ready .any ops listed with
    | nil => rfl
    | cons q l =>
      obtain ⟨hun, o, ho, _⟩ := mem_ready.1 (show q ∈ Region.ready .any ops listed by rw [hr]; simp)
      have hlt := (Array.getElem?_eq_some_iff.1 ho).1
      have hql : q < listed.size := by rw [j.size]; exact hlt
      have := hall q hlt
      simp only [Dl, Array.getD_eq_getD_getElem?, Array.getElem?_eq_getElem hql, Option.getD_some] at this hun
      rw [this] at hun; cases hun
  | succ fuel ih =>
    intro listed ι w a M j hc
    refine ⟨fun hr => hn listed ι w a M j (none listed ι w a M j hr), fun i hi => ?_⟩
    refine j.step tab sums K hfr hp hi fun ι' w' a' M' j' => ih _ ι' w' a' M' j' ?_
    obtain ⟨hun, o, ho, _⟩ := mem_ready.1 hi
    have hlt := (Array.getElem?_eq_some_iff.1 ho).1
    have hil : i < listed.size := by rw [j.size]; exact hlt
    have hDi : Dl listed i = false := by
      have := hun
      simp only [Dl, Array.getD_eq_getD_getElem?, Array.getElem?_eq_getElem hil] at this ⊢
      exact this
    have hlen : ∀ (l : List Nat), i ∈ l → (l.filter fun q => !Dl (listed.setIfInBounds i true) q).length + 1 ≤ (l.filter fun q => !Dl listed q).length := by
      have hle : ∀ (l : List Nat), (l.filter fun q => !Dl (listed.setIfInBounds i true) q).length ≤ (l.filter fun q => !Dl listed q).length := by
        intro l
        induction l with
        | nil => simp
        | cons q l ihl =>
          by_cases hq : q = i
          · subst hq
            have h1 : Dl (listed.setIfInBounds q true) q = true := by simp [Dl, hil]
            rw [List.filter_cons_of_neg (by rw [h1]; simp), List.filter_cons_of_pos (by rw [hDi]; rfl), List.length_cons]
            omega
          · have h1 : Dl (listed.setIfInBounds i true) q = Dl listed q := getD_set_ne false (fun hh => hq hh.symm)
            rw [List.filter_cons, List.filter_cons, h1]
            split
            · rw [List.length_cons, List.length_cons]; omega
            · exact ihl
      intro l hl
      induction l with
      | nil => cases hl
      | cons q l ihl =>
        by_cases hq : q = i
        · subst hq
          have h1 : Dl (listed.setIfInBounds q true) q = true := by simp [Dl, hil]
          rw [List.filter_cons_of_neg (by rw [h1]; simp), List.filter_cons_of_pos (by rw [hDi]; rfl), List.length_cons]
          have := hle l
          omega
        · have h1 : Dl (listed.setIfInBounds i true) q = Dl listed q := getD_set_ne false (fun hh => hq hh.symm)
          have := ihl ((List.mem_cons.1 hl).resolve_left (fun hh => hq hh.symm))
          rw [List.filter_cons, List.filter_cons, h1]
          split
          · rw [List.length_cons, List.length_cons]; omega
          · exact this
    have := hlen (List.range ops.size) (List.mem_range.2 hlt)
    omega

theorem pairs1_ok {m : Nat} {u : List Nat} : ∀ {l : List (List Nat)} {k : Nat}, pairsB1 m u k l = true → ∀ i v, l[i]? = some v → bitB m (k + i) = true ∨ ∀ x ∈ v, x ∉ u
  | [], _, _, i, v, h => by simp at h
  | v0 :: l, k, h, i, v, hi => by
    unfold pairsB1 at h
    cases hb : (bitB m k || apartIds u v0) with
    | false => rw [hb] at h; cases h
    | true =>
      rw [hb] at h
      cases i with
      | zero =>
        simp at hi; subst hi
        rw [Bool.or_eq_true] at hb
        exact hb.imp id fun h => apart_ok h
      | succ i =>
        have := pairs1_ok (k := k + 1) h i v (by simpa using hi)
        rw [show k + 1 + i = k + (i + 1) by omega] at this; exact this
where
  apart_ok {u : List Nat} : ∀ {v : List Nat}, apartIds u v = true → ∀ x ∈ v, x ∉ u
    | [], _, x, hx => by cases hx
    | y :: v, h, x, hx => by
      unfold apartIds at h
      cases hm : mem1 y u with
      | true => rw [hm] at h; cases h
      | false =>
        rw [hm] at h
        rcases List.mem_cons.1 hx with rfl | hx
        · intro hu; rw [mem1_mem.2 hu] at hm; cases hm
        · exact apart_ok h x hx
theorem pairs_ok {masks : List Nat} {U : List (List Nat)} : ∀ {l : List (List Nat)} {j : Nat}, pairsB masks U j l = true → ∀ i u, l[i]? = some u → ∃ m, masks[j + i]? = some m ∧ pairsB1 m u 0 (U.take (j + i)) = true
  | [], _, _, i, u, h => by simp at h
  | u0 :: l, j, h, i, u, hi => by
    unfold pairsB at h
    cases hm : masks[j]? with
    | none => rw [hm] at h; cases h
    | some m =>
      rw [hm] at h
      simp only at h
      cases hb : pairsB1 m u0 0 (U.take j) with
      | false => rw [hb] at h; cases h
      | true =>
        rw [hb] at h
        cases i with
        | zero =>
          simp at hi; subst hi
          exact ⟨m, hm, hb⟩
        | succ i =>
          have := pairs_ok (j := j + 1) h i u (by simpa using hi)
          rw [show j + 1 + i = j + (i + 1) by omega] at this; exact this
theorem dsts_mem : ∀ {l : List Oper} {i : Nat} {o : Oper} {d : Nat}, l[i]? = some o → o.dst = some d → d ∈ dstsOf l
  | [], i, o, d, h, _ => by simp at h
  | o0 :: l, i, o, d, h, hd => by
    cases i with
    | zero =>
      simp at h; subst h
      unfold dstsOf; rw [hd]; simp
    | succ i =>
      have := dsts_mem (l := l) (i := i) (by simpa using h) hd
      unfold dstsOf
      split
      · exact List.mem_cons_of_mem _ this
      · exact this
theorem dsts_inj : ∀ {l : List Oper}, (dstsOf l).Nodup → ∀ (i j : Nat) (oi oj : Oper) (d : Nat), l[i]? = some oi → l[j]? = some oj → oi.dst = some d → oj.dst = some d → i = j
  | [], _, i, j, oi, oj, d, h, _, _, _ => by simp at h
  | o0 :: l, hn, i, j, oi, oj, d, hi, hj, hdi, hdj => by
    have hn' : (dstsOf l).Nodup := by
      unfold dstsOf at hn
      split at hn
      · exact (List.nodup_cons.1 hn).2
      · exact hn
    have hno : o0.dst = some d → d ∉ dstsOf l := by
      intro h0
      unfold dstsOf at hn
      rw [h0] at hn
      exact (List.nodup_cons.1 hn).1
    cases i with
    | zero =>
      simp at hi; subst hi
      cases j with
      | zero => rfl
      | succ j => exact absurd (dsts_mem (l := l) (i := j) (by simpa using hj) hdj) (hno hdi)
    | succ i =>
      cases j with
      | zero =>
        simp at hj; subst hj
        exact absurd (dsts_mem (l := l) (i := i) (by simpa using hi) hdi) (hno hdj)
      | succ j =>
        have := dsts_inj hn' i j oi oj d (by simpa using hi) (by simpa using hj) hdi hdj
        omega
theorem allInB_ok {env : List (Option SV)} : ∀ {l : List Nat}, allInB env l = true → ∀ d ∈ l, d < env.length
  | [], _, d, h => by cases h
  | x :: l, h, d, hd => by
    unfold allInB at h
    cases hb : inB env x with
    | false => rw [hb] at h; cases h
    | true =>
      rw [hb] at h
      rcases List.mem_cons.1 hd with rfl | hd
      · exact inB_lt hb
      · exact allInB_ok h d hd
theorem nodup1_nodup : ∀ {l : List Nat}, nodup1 l = true → l.Nodup
  | [], _ => List.nodup_nil
  | x :: l, h => by
    simp only [nodup1, Bool.and_eq_true, Bool.not_eq_true'] at h
    exact List.nodup_cons.2 ⟨fun hx => (by rw [mem1_mem.2 hx] at h; cases h.1), nodup1_nodup h.2⟩

/-- A region whose order is open: what is owed of it is enough. -/
theorem drawn_sound (hm : P.follows .mixedOrders = true) (tab : TabOk P cfg) (sums : SumsOk P cfg) {s' : St2} {id : Nat} {ps : List Prop} {Q : Exit → Act → World → Prop} (h : drawn cfg ops.toList s = some (ps, s')) (hp : ∀ p ∈ ps, p)
    (R : Rel c ι w s a) (G : ConstOk P cfg c ι w) (hn : Goes c ι w s.s.M a (fun t => t = s') (Q .normal)) : (Code.region id ops true).wp P Q a w := by
  unfold drawn at h
  split at h
  · cases h
  rename_i hcenv
  split at h
  · rename_i masks U hma hU
    cases hb : (pairsB masks U 0 U && nodup1 (dstsOf ops.toList) && allInB s.s.env (dstsOf ops.toList)) with
    | false => rw [hb] at h; cases h
    | true =>
      rw [hb] at h
      simp only [cond_true] at h
      simp only [Bool.and_eq_true] at hb
      obtain ⟨⟨b1, b2⟩, b3⟩ := hb
      split at h
      · rename_i recs hrecs
        obtain ⟨hpre, hs'⟩ : recs.flatMap (·.e.pre) = ps ∧ _ = s' := by simpa using h
        obtain ⟨ml, mo⟩ := masksOf_ok (d := []) hma rfl (fun k o hk => by simp at hk)
        obtain ⟨rl, _, re⟩ := pass2_ok hrecs rfl
        have K : DrawnOk cfg ops.toList s masks U recs := {
          cenv := hcenv
          mask := by simpa using mo
          mlen := by simpa using ml
          rlen := by simpa using rl
          each := fun i o hi => by
            obtain ⟨m, u, r, h1, h2, h3, h4, h5, h6, h7⟩ := re i o hi
            simp only [Nat.zero_add] at h1 h2 h3 h4 h6 h7
            exact ⟨m, u, r, h1, h2, h3, h4, h5, h6, h7⟩
          pairs := fun j mj uj k uk hkj hmj huj huk => by
            obtain ⟨m, h1, h2⟩ := pairs_ok b1 j uj huj
            rw [Nat.zero_add] at h1 h2
            rw [hmj] at h1; cases h1
            have := pairs1_ok h2 k uk (by rw [List.getElem?_take, if_pos hkj]; exact huk)
            rw [Nat.zero_add] at this; exact this
          dst := dsts_inj (nodup1_nodup b2)
          inb := fun i o d hi hd => allInB_ok b3 d (dsts_mem hi hd)
          mem := fun i o d hi hd => dsts_mem hi hd }
        have hps : ∀ r ∈ recs, ∀ p ∈ r.e.pre, p := fun r hr p hpr => hp p (by rw [← hpre]; exact List.mem_flatMap.2 ⟨r, hr, hpr⟩)
        obtain ⟨I, F, fr⟩ := R
        have hw1 : Ext ι w s.s.M ι { w with drawn := w.drawn + 1 } s.s.M := Ext.turned (fun _ => rfl) rfl
        have hD0 : ∀ q, Dl (Array.replicate ops.size false) q = false := fun q => by
          simp only [Dl, Array.getD_eq_getD_getElem?, Array.getElem?_replicate]
          split <;> rfl
        have j0 : J P c cfg ops s recs ι w a (Array.replicate ops.size false) ι { w with drawn := w.drawn + 1 } a s.s.M := {
          size := by simp
          ext := hw1
          inv := I.turned (fun _ => rfl) rfl rfl rfl rfl
          mem := fun id => (gAt_skip recs 0 _ (fun q r _ hd => by rw [hD0] at hd; cases hd)).symm
          recs := fun q r d _ hd => by rw [hD0] at hd; cases hd
          base := fun i v hv _ => (F.env i v hv).mono hw1
          closed := fun q o hd => by rw [hD0] at hd; cases hd
          len := F.len
          defers := rfl
          const := G.mono hw1 }
        refine wp_region_any hm (J.any (ops := ops) tab sums K fr hps (fun listed ι' w' a' M j hall => ?_) ops.size (Array.replicate ops.size false) ι _ a s.s.M j0 ?_)
        · have hbm : ∀ q, bitB (2 ^ ops.toList.length - 1) q = true → Dl listed q = true := fun q hq => by
            rw [bitB_all] at hq
            exact hall q (by simpa using hq)
          have hrlen : recs.length = ops.size := by rw [K.rlen]; simp
          have hM : ∀ id, (foldRecs (2 ^ ops.toList.length - 1) 0 recs (baseOf ops.toList s)).M.get id = M.get id := by
            intro id
            rw [foldRecs_M, j.mem]
            refine gAt_congr recs 0 _ _ rfl fun q r hq hne => ?_
            have hql := (List.getElem?_eq_some_iff.1 hq).1
            rw [Nat.zero_add, bitB_all] at hne
            rw [hall q (by omega)] at hne
            exact absurd (by simp; omega) hne
          have F' := j.rep (k := recs.length) (i := 0) K (E := noEnv (dstsOf ops.toList) s.s.env) (fun x v hx => by
            obtain ⟨g1, g2⟩ := noEnv_get hx
            exact j.base x v g1 fun q oq hq hd => absurd (K.mem q oq x hq hd) g2) (noEnv_len _ _) hbm
          refine hn s' a' w' ι' rfl ?_ ?_ j.defers
          · subst hs'
            refine ⟨j.inv.turned hM rfl rfl rfl rfl, ⟨?_, fun x v hx => ?_, fun y hy => (List.not_mem_nil hy).elim, fun y hy => (List.not_mem_nil hy).elim⟩, fun q hq => ?_⟩
            · show (foldRecs _ 0 recs _).env.length ≤ _
              rw [foldRecs_len]
              show (noEnv _ _).length ≤ _
              rw [noEnv_len]; exact j.len
            · refine (F'.env x v ?_).mono (Ext.turned hM rfl)
              show eget (foldRecs _ 0 (recs.take recs.length) _).env x = some v
              rw [List.take_length]; exact hx
            · refine (hM q).trans ?_
              rw [j.mem, gAt_skip]
              · exact fr q (Nat.le_trans bump_ok.1 hq)
              · intro t r ht _ p hpr hpq
                have hq : bump s.next (recs.flatMap (·.e.upd)) ≤ q := hq
                have := (bump_ok (u := recs.flatMap (·.e.upd)) (n := s.next)).2 p (List.mem_flatMap.2 ⟨r, List.mem_of_getElem? ht, hpr⟩)
                omega
          · subst hs'
            exact j.ext.congr (fun _ => rfl) hM
        · have := List.length_filter_le (fun q => !Dl (Array.replicate ops.size false) q) (List.range ops.size)
          simpa using this
      · cases h
  · cases h
end
end Go.Vc
/- Code: what is owed of it is enough. -/
set_option linter.unusedVariables false
set_option linter.unusedSimpArgs false
namespace Go.Vc

/-- How a state goes on where entries may get other numbers. -/
structure Ext0 (ι : Gh) (w : World) (ι' : Gh) (w' : World) : Prop where
  S : ∀ b, ι.S b → ι'.S b
  heap : ∀ b, ι.S b → w'.heap[b]? = w.heap[b]?
theorem Ext.ext0 {ι ι' : Gh} {w w' : World} {M M' : Store} (x : Ext ι w M ι' w' M') : Ext0 ι w ι' w' := ⟨x.S, x.heap⟩
theorem Ext0.refl (ι : Gh) (w : World) : Ext0 ι w ι w := ⟨fun _ h => h, fun _ _ => rfl⟩
theorem Ext0.trans {ι ι' ι'' : Gh} {w w' w'' : World} (x : Ext0 ι w ι' w') (y : Ext0 ι' w' ι'' w'') : Ext0 ι w ι'' w'' :=
  ⟨fun b h => y.S b (x.S b h), fun b h => (y.heap b (x.S b h)).trans (x.heap b h)⟩
theorem ConstOk.mono0 {P : Program} {cfg : Cfg} {c : Ctx} {ι ι' : Gh} {w w' : World} (G : ConstOk P cfg c ι w) (x : Ext0 ι w ι' w') : ConstOk P cfg c ι' w' := by
  refine ⟨fun g t y h => ?_⟩
  obtain ⟨cs, h1, h2, h3⟩ := G.glob g t y h
  exact ⟨cs, h1.mono (SF.mono x.S) (fun b hb => x.heap b hb.1), PRep.mono (SF.mono x.S) (fun b hb => x.heap b hb.1) _ _ _ h2, h3⟩

/-- How a state goes on: entries below n keep their numbers. -/
structure XR (n : Nat) (ι : Gh) (w : World) (M : Store) (ι' : Gh) (w' : World) (M' : Store) : Prop where
  S : ∀ b, ι.S b → ι'.S b
  heap : ∀ b, ι.S b → w'.heap[b]? = w.heap[b]?
  low : ∀ id e, id < n → M.get id = some e → ι'.base id = ι.base id ∧ ι'.cap id = ι.cap id ∧ ∃ e', M'.get id = some e' ∧ Ev e e'
theorem XR.of_ext {n : Nat} {ι ι' : Gh} {w w' : World} {M M' : Store} (x : Ext ι w M ι' w' M') : XR n ι w M ι' w' M' :=
  ⟨x.S, x.heap, fun id e _ he => ⟨(x.base id e he).1, (x.base id e he).2, x.ev id e he⟩⟩
theorem XR.ext {n : Nat} {ι ι' : Gh} {w w' : World} {M M' : Store} (x : XR n ι w M ι' w' M') (h : ∀ id, n ≤ id → M.get id = none) : Ext ι w M ι' w' M' := by
  have lt : ∀ {id e}, M.get id = some e → id < n := fun {id e} he => Nat.lt_of_not_le fun hh => by rw [h id hh] at he; cases he
  exact ⟨x.S, x.heap, fun id e he => ⟨(x.low id e (lt he) he).1, (x.low id e (lt he) he).2.1⟩, fun id e he => (x.low id e (lt he) he).2.2⟩
theorem XR.ext0 {n : Nat} {ι ι' : Gh} {w w' : World} {M M' : Store} (x : XR n ι w M ι' w' M') : Ext0 ι w ι' w' := ⟨x.S, x.heap⟩
theorem XR.trans {n : Nat} {ι ι' ι'' : Gh} {w w' w'' : World} {M M' M'' : Store} (x : XR n ι w M ι' w' M') (y : XR n ι' w' M' ι'' w'' M'') : XR n ι w M ι'' w'' M'' := by
  refine ⟨fun b h => y.S b (x.S b h), fun b h => (y.heap b (x.S b h)).trans (x.heap b h), fun id e hn he => ?_⟩
  obtain ⟨h1, h2, e', h3, h4⟩ := x.low id e hn he
  obtain ⟨k1, k2, e'', k3, k4⟩ := y.low id e' hn h3
  exact ⟨k1.trans h1, k2.trans h2, e'', k3, h4.trans k4⟩

section
variable {P : Program} {c : Ctx} {cfg : Cfg}

def GoesE (lp : Nat) (c : Ctx) (ι : Gh) (w : World) (M : Store) (a : Act) (K : Exit → St2 → Prop) (Q : Exit → Act → World → Prop) : Prop :=
  ∀ e s' a' w' ι', K e s' → Rel c ι' w' s' a' → XR lp ι w M ι' w' s'.s.M → a'.defers = a.defers → Q e a' w'
theorem GoesE.trans {lp : Nat} {ι ι' : Gh} {w w' : World} {M M' : Store} {a a' : Act} {K : Exit → St2 → Prop} {Q : Exit → Act → World → Prop} (h : GoesE lp c ι w M a K Q) (x : XR lp ι w M ι' w' M') (hd : a'.defers = a.defers) : GoesE lp c ι' w' M' a' K Q :=
  fun e s a2 w2 ι2 hk hr hx hd2 => h e s a2 w2 ι2 hk hr (x.trans hx) (hd2.trans hd)

def CanonOk (cfg : Cfg) (n : Nat) (k : Keep) : Prop := ∀ {c : Ctx} {ι : Gh} {w : World} {s : St2} {a : Act}, Rel c ι w s a → ∃ ι', Rel c ι' w (canon cfg n k s) a ∧ XR n ι w s.s.M ι' w (canon cfg n k s).s.M

theorem loop_rounds {lp : Nat} {b : Code} {l : Loop} {x0 : l.X} {B : St2 → (Exit → St2 → Prop) → Prop} {K : Exit → St2 → Prop} {Q : Exit → Act → World → Prop}
    (hB : ∀ {ι w s a} {K' : Exit → St2 → Prop} {Q' : Exit → Act → World → Prop}, B s K' → Rel c ι w s a → ConstOk P cfg c ι w → GoesE lp c ι w s.s.M a K' Q' → b.wp P Q' a w)
    (hcn : CanonOk cfg lp l.k) (hs : ∀ x, l.I x0 x → B (l.st x) (roundK cfg lp l x0 x K)) : ∀ (n : Nat) {ι : Gh} {w : World} {x : l.X} {a : Act}, l.I x0 x → l.mu x < n → Rel c ι w (l.st x) a → ConstOk P cfg c ι w → GoesE lp c ι w (l.st x).s.M a K Q → Code.rounds P b Q n a w
  | 0, ι, w, x, a, _, h, _, _, _ => (Nat.not_lt_zero _ h).elim
  | n + 1, ι, w, x, a, hI, hmu, R, G, hn => by
    show b.wp P (Exit.then (Code.rounds P b Q n) Q) a w
    refine hB (hs x hI) R G fun e s' a' w' ι' hk R' xx hd => ?_
    cases e with
    | normal =>
      obtain ⟨y, hy, hyI, hymu⟩ := hk
      obtain ⟨ι'', R'', x'⟩ := hcn R'
      rw [hy] at R'' x'
      have x2 := xx.trans x'
      exact loop_rounds hB hcn hs n hyI (by omega) R'' (G.mono0 x2.ext0) (hn.trans (M' := (l.st y).s.M) x2 hd)
    | exit i => exact hn _ s' a' w' ι' hk R' xx hd
    | goto i => exact hn _ s' a' w' ι' hk R' xx hd
    | ret => exact hn _ s' a' w' ι' hk R' xx hd
    | panic ch => exact hn _ s' a' w' ι' hk R' xx hd
    | outgrown => exact hn _ s' a' w' ι' hk R' xx hd

theorem vc_sound {inl : Inl} (hinl : InlOk P cfg inl) (tab : TabOk P cfg) (sums : SumsOk P cfg) (hdr : P.follows .mixedOrders = true) (hcan : ∀ n k, CanonOk cfg n k) {keep : Nat → Option Loop} {lp : Nat} :
    ∀ (b : Code) {ι : Gh} {w : World} {s : St2} {a : Act} {K : Exit → St2 → Prop} {Q : Exit → Act → World → Prop}, vc cfg inl keep lp b s K → Rel c ι w s a → ConstOk P cfg c ι w → GoesE lp c ι w s.s.M a K Q → b.wp P Q a w := by
  intro b
  induction b with
  | skip => intro ι w s a K Q h R G hn; exact wp_skip (hn _ s a w ι h R (XR.of_ext (Ext.refl _ _ _)) rfl)
  | label l => intro ι w s a K Q h R G hn; exact wp_label (hn _ s a w ι h R (XR.of_ext (Ext.refl _ _ _)) rfl)
  | ret => intro ι w s a K Q h R G hn; exact wp_ret (hn _ s a w ι h R (XR.of_ext (Ext.refl _ _ _)) rfl)
  | exit i => intro ι w s a K Q h R G hn; exact wp_exit (hn _ s a w ι h R (XR.of_ext (Ext.refl _ _ _)) rfl)
  | region id ops draw =>
    intro ι w s a K Q h R G hn
    have goes : Goes c ι w s.s.M a (fun s' => K .normal s') (Q .normal) := fun s' a' w' ι' hk R' x hd => hn _ s' a' w' ι' hk R' (XR.of_ext x) hd
    cases draw with
    | false => exact wp_region_list (runOps_sound hinl tab sums _ h R G goes)
    | true =>
      simp only [vc] at h
      cases hs : drawn cfg ops.toList s with
      | none => rw [hs] at h; exact h.elim
      | some q =>
        obtain ⟨ps, s'⟩ := q
        rw [hs] at h
        obtain ⟨hp, hk⟩ := conj_iff.1 h
        exact drawn_sound hdr tab sums hs hp R G fun t a' w' ι' ht R' x hd => by subst ht; exact goes _ a' w' ι' hk R' x hd
  | seq x y ihx ihy =>
    intro ι w s a K Q h R G hn
    refine wp_seq (ihx h R G fun e s' a' w' ι' hk R' xx hd => ?_)
    cases e with
    | normal => exact ihy hk R' (G.mono0 xx.ext0) (hn.trans xx hd)
    | exit i => exact hn _ s' a' w' ι' hk R' xx hd
    | goto i => exact hn _ s' a' w' ι' hk R' xx hd
    | ret => exact hn _ s' a' w' ι' hk R' xx hd
    | panic ch => exact hn _ s' a' w' ι' hk R' xx hd
    | outgrown => exact hn _ s' a' w' ι' hk R' xx hd
  | cond x y z ihy ihz =>
    intro ι w s a K Q h R G hn
    simp only [vc] at h
    cases hx : opb cfg s.s [] x with
    | none => rw [hx] at h; exact h.elim
    | some t =>
      rw [hx] at h
      have hv := opb_rep R.rep G (fun y hy => (List.not_mem_nil hy).elim) hx
      cases t with
      | true => exact wp_cond hv (ihy h R G hn)
      | false => exact wp_cond hv (ihz h R G hn)
  | block id x ih =>
    intro ι w s a K Q h R G hn
    refine wp_block (ih h R G fun e s' a' w' ι' hk R' xx hd => ?_)
    cases e with
    | normal => exact hn _ s' a' w' ι' hk R' xx hd
    | exit i =>
      simp only [blockK] at hk
      show if i = id then Q .normal a' w' else Q (.exit i) a' w'
      cases hb : Nat.beq i id with
      | true =>
        rw [hb] at hk
        rw [if_pos (Nat.eq_of_beq_eq_true hb)]
        exact hn _ s' a' w' ι' hk R' xx hd
      | false =>
        rw [hb] at hk
        rw [if_neg (fun hh => by rw [hh] at hb; simp at hb)]
        exact hn _ s' a' w' ι' hk R' xx hd
    | goto i => exact hn _ s' a' w' ι' hk R' xx hd
    | ret => exact hn _ s' a' w' ι' hk R' xx hd
    | panic ch => exact hn _ s' a' w' ι' hk R' xx hd
    | outgrown => exact hn _ s' a' w' ι' hk R' xx hd
  | loop x ih =>
    intro ι w s a K Q h R G hn
    simp only [vc] at h
    cases hk : keep (firstReg x) with
    | none => rw [hk] at h; exact h.elim
    | some kp =>
      rw [hk] at h
      obtain ⟨y, ⟨hy, hyI⟩, hs⟩ := h
      obtain ⟨ι', R', x'⟩ := hcan lp kp.k R
      rw [hy] at R' x'
      exact wp_loop_rounds (kp.mu y + 1) (loop_rounds (cfg := cfg) (c := c) (l := kp) (B := fun s' K' => vc cfg inl keep lp x s' K') (fun hb R2 G2 hn2 => ih hb R2 G2 hn2) (hcan lp kp.k) hs _ hyI (Nat.lt_succ_self _) R' (G.mono0 x'.ext0) (hn.trans x' rfl))
  | _ => intro ι w s a K Q h R G hn; exact h.elim

/-! ### results; callees that are walked into -/
def resRun (a : Act) (r : ResultVar) : Sem Value := match r with
  | .tmp t => pure (a.tmps.getD t undef)
  | .cell t T => do loadVar T (← asAddr (a.tmps.getD t undef))
theorem resultV_rep {ι : Gh} {w : World} {s : St} {a : Act} (tab : TabOk P cfg) (I : Inv c ι w s.M) (F : FRep c ι w s a) {r : ResultVar} {v : V} (h : resultV cfg s r = some v) :
    ∃ u, VRep c ι w s.M v u ∧ (resRun a r).run P w = .ok u w := by
  cases r with
  | tmp t =>
    simp only [resultV] at h
    split at h
    · rename_i x he
      cases h
      exact ⟨_, F.env t _ he, rfl⟩
    · cases h
  | cell t T =>
    simp only [resultV] at h
    split at h
    · rename_i id off ti he hT
      cases hm : s.M.get id with
      | none => rw [hm] at h; cases h
      | some en =>
        rw [hm] at h
        cases en <;> simp only at h <;> first | (cases h; done) | skip
        rename_i ls
        cases hl : lget ls off ti.size with
        | none => rw [hl] at h; cases h
        | some r =>
          rw [hl] at h
          cases h
          have hv := VRep.leaf (x := ⟨false, [.ptr id off]⟩) (l := .ptr id off) rfl (F.env t _ he)
          simp only [LRep, hm] at hv
          obtain ⟨b, hb, hv⟩ := hv
          obtain ⟨b', cs, T', h1, h2, h3⟩ := I.ents id _ hm
          rw [hb] at h1; cases h1
          obtain ⟨k1, k2⟩ := lget_rep hl h3
          have hv : a.tmps.getD t undef = .pointer (some ⟨b, off, none⟩) := by simpa [Act.eval] using hv
          obtain ⟨u, r1, r2⟩ := run_loadVar_at (P := P) (w := w) (tab T ti hT) (a := ⟨b, off, none⟩) (ds := (cs.drop off).take ti.size) (fun i v hi => by
            rw [Addr.add_lit, cell_of_row w b _ cs.toArray _ (0, 0) h2]
            rw [List.getElem?_take] at hi
            split at hi
            · rw [List.getElem?_drop] at hi; simpa using hi
            · cases hi) (by rw [List.length_take, List.length_drop]; omega)
          refine ⟨u, VRep.of_load (ti := ti) k1 r2, ?_⟩
          show (do loadVar T (← asAddr (a.tmps.getD t undef))).run P w = _
          rw [hv]
          simp [asAddr, r1]
    · cases h
theorem resultsV_rep {ι : Gh} {w : World} {s : St} {a : Act} (tab : TabOk P cfg) (I : Inv c ι w s.M) (F : FRep c ι w s a) : ∀ {rs : List ResultVar} {vs : List V}, resultsV cfg s rs = some vs →
    ∃ us, VsRep c ι w s.M vs us ∧ (rs.mapM (resRun a)).run P w = .ok us w
  | [], vs, h => by cases h; exact ⟨[], rfl, by simp⟩
  | r :: l, vs, h => by
    unfold resultsV at h
    split at h
    · rename_i v vs' hv hvs
      cases h
      obtain ⟨u, k1, k2⟩ := resultV_rep tab I F hv
      obtain ⟨us, k3, k4⟩ := resultsV_rep tab I F hvs
      refine ⟨u :: us, ⟨u, us, rfl, k1, k3⟩, ?_⟩
      rw [List.mapM_cons, Sem.run_bind, k2, Result.andThen_ok, Sem.run_bind, k4, Result.andThen_ok]
      rfl
    · cases h
theorem VsRep.length {ι : Gh} {w : World} {M : Store} : ∀ {l : List V} {us : List Value}, VsRep c ι w M l us → us.length = l.length
  | [], us, h => by rw [show us = [] from h]; rfl
  | v :: r, us, ⟨u, us', h1, _, h3⟩ => by rw [h1]; simp [h3.length]
theorem results_rep {ι : Gh} {w : World} {s : St} {a : Act} (tab : TabOk P cfg) (I : Inv c ι w s.M) (F : FRep c ι w s a) {fn : Func} {sv : SV} (h : resultSV cfg s fn.results.toList = some sv) :
    ∃ v, (results fn a.tmps).run P w = .ok v w ∧ SVRep c ι w s.M sv v := by
  unfold resultSV at h
  cases hr : resultsV cfg s fn.results.toList with
  | none => rw [hr] at h; cases h
  | some vs =>
    obtain ⟨us, k1, k2⟩ := resultsV_rep tab I F hr
    rw [hr] at h
    have e : results fn a.tmps = (do { let vs ← fn.results.mapM (resRun a); pure (if h : vs.size = 1 then vs[0] else .tuple vs) }) := by
      unfold results
      congr 1
    have hrun : (results fn a.tmps).run P w = .ok (if h : us.toArray.size = 1 then us.toArray[0] else .tuple us.toArray) w := by
      rw [e, Array.mapM_eq_mapM_toList, Sem.run_bind]
      simp [k2]
    refine ⟨_, hrun, ?_⟩
    match vs, h, k1 with
    | [v], h, ⟨u, us', h1, h2, h3⟩ =>
      cases h
      have h3 : us' = [] := h3
      subst h3 h1
      rw [dif_pos (by simp)]
      exact h2
    | [], h, k1 =>
      cases h
      have k1 : us = [] := k1
      subst k1
      exact ⟨[], by simp, rfl⟩
    | v :: v' :: vs', h, k1 =>
      cases h
      have hl := k1.length
      have hne : ¬ us.toArray.size = 1 := by simp only [List.size_toArray]; rw [hl]; simp
      rw [dif_neg hne]
      exact ⟨us, rfl, k1⟩

/-! ### a function is entered -/
theorem eget_args {l : List V} : ∀ {k i : Nat} {v : SV}, eget ((l.map fun v => some (SV.v v)) ++ List.replicate k none) i = some v → ∃ x, l[i]? = some x ∧ v = .v x := by
  induction l with
  | nil =>
    intro k i v h
    exfalso
    induction k generalizing i with
    | zero => simp [eget] at h
    | succ k ih =>
      simp only [List.map_nil, List.nil_append, List.replicate_succ] at h ih
      cases i with
      | zero => simp [eget] at h
      | succ i => exact ih h
  | cons x r ih =>
    intro k i v h
    simp only [List.map_cons, List.cons_append] at h
    cases i with
    | zero => simp only [eget] at h; cases h; exact ⟨x, by simp, rfl⟩
    | succ i => obtain ⟨y, h1, h2⟩ := ih h; exact ⟨y, by simpa using h1, h2⟩
theorem start_rep {ι : Gh} {w : World} {M : Store} {args : List V} {us : List Value} (h : VsRep c ι w M args us) (n : Nat) :
    FRep c ι w { env := argsEnv n args, cenv := [], M := M } { tmps := us.toArray ++ Array.replicate (n - us.toArray.size) undef, defers := [] } := by
  have hl := h.length
  refine ⟨?_, fun i v hi => ?_, fun _ hx => (List.not_mem_nil hx).elim, fun _ hx => (List.not_mem_nil hx).elim⟩
  · simp [argsEnv, padTo, hl]
  · unfold argsEnv padTo at hi
    obtain ⟨x, h1, rfl⟩ := eget_args hi
    obtain ⟨u, h2, h3⟩ := h.get h1
    have hlt := (List.getElem?_eq_some_iff.1 h2).1
    have : Act.eval { tmps := us.toArray ++ Array.replicate (n - us.toArray.size) undef, defers := [] } (.tmp i) = u := by
      simp only [Act.eval, Array.getD_eq_getD_getElem?]
      rw [Array.getElem?_append_left (by simpa using hlt)]
      simp [h2]
    rw [this]; exact h3
theorem nameB {fn : Func} {b : Code} (h : cond (fn.name == "runtime.NumGoroutine") none fn.body = some b) : (fn.name == "runtime.NumGoroutine") = false ∧ fn.body = some b := by
  cases hb : (fn.name == "runtime.NumGoroutine") with
  | true => rw [hb] at h; cases h
  | false => rw [hb] at h; exact ⟨rfl, h⟩

theorem VsRep.set {ι : Gh} {w : World} {M : Store} {y : V} {u : Value} (hy : VRep c ι w M y u) : ∀ {l : List V} {us : List Value} {i : Nat}, VsRep c ι w M l us → us[i]? = some u → VsRep c ι w M (l.set i y) us
  | [], us, i, h, hu => h
  | x :: r, us, 0, ⟨v, ws, h1, h2, h3⟩, hu => by
    subst h1
    have : v = u := by simpa using hu
    subst this
    exact ⟨v, ws, rfl, hy, h3⟩
  | x :: r, us, i + 1, ⟨v, ws, h1, h2, h3⟩, hu => by
    subst h1
    exact ⟨v, ws, rfl, h2, VsRep.set hy h3 (by simpa using hu)⟩
theorem tellX_ok {w : World} {us : List Value} : ∀ (r : List Nat) {args : List V} {s : St2} {K : List V → St2 → Prop} {ι : Gh}, tellX r args s K → Inv c ι w s.s.M → (∀ j, s.next ≤ j → s.s.M.get j = none) → VsRep c ι w s.s.M args us →
    ∃ args' s' ι', K args' s' ∧ Inv c ι' w s'.s.M ∧ (∀ j, s'.next ≤ j → s'.s.M.get j = none) ∧ VsRep c ι' w s'.s.M args' us ∧ Ext ι w s.s.M ι' w s'.s.M
  | [], args, s, K, ι, h, I, fr, hv => ⟨args, s, ι, h, I, fr, hv, Ext.refl _ _ _⟩
  | i :: r, args, s, K, ι, h, I, fr, hv => by
    unfold tellX at h
    split at h
    · rename_i lf ha
      split at h
      · rename_i id k hf
        split at h
        · rename_i e t fr' l hm
          obtain ⟨u, hu, hr⟩ := hv.get ha
          have hr := (VRep.leaf (x := ⟨false, [lf]⟩) (l := lf) rfl hr).weak
          have hfr : ∃ ax, [u] = [Value.slice ax k (ι.cap id)] ∧ k ≤ l.length ∧ (0 < ι.cap id → ax = ι.base id) := by
            generalize lf.weak = lf' at hf hr
            unfold frontOf at hf
            split at hf
            · rename_i id'
              split at hf
              · rename_i e' t' fr'' ap'' l' hm'
                cases hf
                simp only [LRep, hm'] at hr
                rw [hm] at hm'
                cases hm'
                obtain ⟨ax, h1, h2⟩ := hr
                exact ⟨ax, h1, Nat.le_refl _, h2⟩
              · cases hf
            · cases hf
              simp only [LRep, hm] at hr
              obtain ⟨ax, h1, h2, h3⟩ := hr
              exact ⟨ax, by simpa using h1, by omega, fun h0 => by rw [h3 h0]; cases ι.base id <;> simp [Addr.add]⟩
            · cases hf
          obtain ⟨ax, h1, h2, h3⟩ := hfr
          obtain ⟨sp, ι', s1, s2, I', x', hr'⟩ := I.told (fr s.next (Nat.le_refl _)) hm h2 h3
          have hrest := h sp s1 s2
          have hu' : VRep c ι' w ((s.s.M.set id .dead).set s.next (.row e t fr' true (l ++ sp))) (one (.sf s.next 0 k)) u := VRep.one (by rw [h1]; exact hr')
          obtain ⟨args', s', ι'', k1, k2, k3, k4, k5⟩ := tellX_ok r hrest I' (fun j hj => by
            have hj' : s.next + 1 ≤ j := hj
            show (((s.s.M.set id _).set s.next _).get j) = none
            have hji : j ≠ id := fun hh => by rw [← hh, fr j (by omega)] at hm; cases hm
            rw [Store.get_set_other _ _ _ _ (by omega), Store.get_set_other _ _ _ _ hji]
            exact fr j (by omega)) (VsRep.set hu' (hv.mono x') hu)
          exact ⟨args', s', ι'', k1, k2, k3, k4, x'.trans k5⟩
        · exact tellX_ok r h I fr hv
      · exact tellX_ok r h I fr hv
    · exact tellX_ok r h I fr hv

theorem inlN_ok {L : Nat → List V → Nat → Option Loop} (tab : TabOk P cfg) (sums : SumsOk P cfg) (hdr : P.follows .mixedOrders = true) (hcan : ∀ n k, CanonOk cfg n k) : ∀ d, InlOk P cfg (inlN P cfg L d)
  | 0 => fun f vs s K c ι w us h => h.elim
  | d + 1 => by
    intro f vs s K c ι w us h I fr G hv
    unfold inlN at h
    split at h
    · rename_i fn hf
      split at h
      · rename_i b hb
        obtain ⟨hname, hbody⟩ := nameB hb
        obtain ⟨vs, s, ι, h, I, fr, hv, x0⟩ := tellX_ok (cfg.xp f) h I fr hv
        have G := G.mono0 x0.ext0
        refine Does.mono (R := fun v w' => ∃ ι' s' sv, Inv c ι' w' s'.s.M ∧ Ext ι w s.s.M ι' w' s'.s.M ∧ (∀ j, s'.next ≤ j → s'.s.M.get j = none) ∧ SVRep c ι' w' s'.s.M sv v ∧ K sv s') (Does.of_calls hf hname hbody (calls_of_wp hf hbody ?_)) (fun v w' ⟨ι', s', sv, y1, y2, y3, y4, y5⟩ => ⟨ι', s', sv, y1, x0.trans y2, y3, y4, y5⟩)
        have R : Rel c ι w { s with s := { s.s with env := argsEnv fn.ntmps vs, cenv := [] } } { tmps := us.toArray ++ Array.replicate (fn.ntmps - us.toArray.size) undef, defers := [] } := ⟨I, start_rep hv fn.ntmps, fr⟩
        refine vc_sound (lp := s.next) (inlN_ok tab sums hdr hcan d) tab sums hdr hcan b h R G fun e s' a' w' ι' hk R' x hd => ?_
        have x : Ext ι w s.s.M ι' w' s'.s.M := x.ext fr
        have fin : (match resultSV cfg s'.s fn.results.toList with | some v => K v s' | none => False) → ∃ v, (results fn a'.tmps).run P w' = .ok v w' ∧ ∃ ι' s' sv, Inv c ι' w' s'.s.M ∧ Ext ι w s.s.M ι' w' s'.s.M ∧ (∀ j, s'.next ≤ j → s'.s.M.get j = none) ∧ SVRep c ι' w' s'.s.M sv v ∧ K sv s' := by
          intro hk
          cases hr : resultSV cfg s'.s fn.results.toList with
          | none => rw [hr] at hk; exact hk.elim
          | some sv =>
            rw [hr] at hk
            obtain ⟨v, h1, h2⟩ := results_rep tab R'.inv R'.rep hr
            exact ⟨v, h1, ι', s', sv, R'.inv, x, R'.fresh, h2, hk⟩
        cases e with
        | normal => exact ⟨hd, fin hk⟩
        | ret => exact ⟨hd, fin hk⟩
        | exit _ => exact hk.elim
        | goto _ => exact hk.elim
        | panic _ => exact hk.elim
        | outgrown => exact hk.elim
      · exact h.elim
    · exact h.elim
end
end Go.Vc
