/- What the evaluator makes of some entries it makes of more entries, too. -/
import Derived.Test.YtdobgidhhpdihaaDoorWVcD
import Derived.Orders
import Derived.LoopN
import Derived.ScopeJumps
set_option linter.unusedVariables false
set_option linter.unusedSimpArgs false
namespace Go.Vc
def MLe (M M' : Store) : Prop := ∀ id e, M.get id = some e -> M'.get id = some e
section
variable {c : Cfg} {M M' : Store} (hM : MLe M M')
include hM
theorem fF : ∀ (t : Ty) {ls : List Leaf} {x : Im t}, aG M t ls = some x -> aG M' t ls = some x
 | .int _, ls, x, h => by
   match ls, h with
   | .int _ _ :: _, h => exact h
 | .bool, ls, x, h => by
   match ls, h with
   | .bool _ :: _, h => exact h
   | .kb _ :: _, h => exact h
 | .str, ls, x, h => by
   match ls, h with
   | .str _ :: _, h => exact h
 | .unit, ls, x, h => h
 | .slice e, ls, x, h => by
   match ls, h with
   | l :: r, h =>
     simp only [aG] at h ⊢
     generalize l.weak = l at h ⊢
     cases l <;> simp only at h ⊢ <;> first | exact h | skip
     case own id =>
      cases hg : M.get id with
      | none => rw [hg] at h; cases h
      | some en => rw [hM _ _ hg]; rw [hg] at h; exact h
     case sl id lo n =>
      cases hg : M.get id with
      | none => rw [hg] at h; cases h
      | some en => rw [hM _ _ hg]; rw [hg] at h; exact h
     case asl id off lo n =>
      cases hg : M.get id with
      | none => rw [hg] at h; cases h
      | some en => rw [hM _ _ hg]; rw [hg] at h; exact h
 | .arr n e, ls, x, h => by
   match ls, h with
   | .arr _ _ _ _ :: _, h => exact h
 | .pair a b, ls, x, h => by
   simp only [aG] at h ⊢
   cases h1 : aG M a ls with
   | none => rw [h1] at h; cases h
   | some p =>
     rw [h1] at h
     rw [fF a h1]
     simp only at h ⊢
     cases h2 : aG M b p.rest with
     | none => rw [h2] at h; cases h
     | some q => rw [h2] at h; rw [fF b h2]; exact h
theorem nR {e : Ty} {x : Leaf} {r} (h : listOf M e x = some r) : listOf M' e x = some r := by
 cases x with
 | own id | sl id lo n | vw id lo n | asl id off lo n =>
   simp only [listOf] at h ⊢
   cases hg : M.get id with
   | none => rw [hg] at h; cases h
   | some en => rw [hM _ _ hg]; rw [hg] at h; exact h
 | _ => exact h
theorem Io {T : Nat} {x : Leaf} {r} (h : oh c M T x = some r) : oh c M' T x = some r := by
 unfold oh at h ⊢
 cases hT : c.ti T with
 | none => rw [hT] at h; cases h
 | some ti =>
   rw [hT] at h
   cases x with
   | ptr id off | ig id i off | iq id dh i off =>
     simp only at h ⊢
     cases hg : M.get id with
     | none => rw [hg] at h; cases h
     | some en => rw [hM _ _ hg]; rw [hg] at h; exact h
   | _ => exact h
theorem Gu {T : Nat} {x : Leaf} {y : V} {r} (h : lF c M T x y = some r) : lF c M' T x y = some r := by
 unfold lF at h ⊢
 cases hT : c.ti T with
 | none => rw [hT] at h; cases h
 | some ti =>
   rw [hT] at h
   simp only at h ⊢
   cases hw : Nat.beq (widths y.ls) ti.size with
   | false => rw [hw] at h; cases h
   | true =>
     rw [hw] at h
     simp only [cond_true] at h ⊢
     cases x with
     | ptr id off =>
       simp only at h ⊢
       cases hg : M.get id with
       | none => rw [hg] at h; cases h
       | some en => rw [hM _ _ hg]; rw [hg] at h; exact h
     | ig id i off =>
       simp only at h ⊢
       cases hg : M.get id with
       | none => rw [hg] at h; cases h
       | some en =>
         rw [hM _ _ hg]; rw [hg] at h
         cases en <;> simp only at h ⊢ <;> first | (cases h; done) | skip
         rename_i e t fr ap l
         cases hs : eG (explode fr t (idx l i)) off ti.size y.ls with
         | none => rw [hs] at h; cases h
         | some q =>
           rw [hs] at h
           simp only at h ⊢
           cases hi : aG M t q with
           | none => rw [hi] at h; cases h
           | some im => rw [fF hM t hi]; rw [hi] at h; exact h
     | iq id dh i off =>
       simp only at h ⊢
       cases hg : M.get id with
       | none => rw [hg] at h; cases h
       | some en =>
         rw [hM _ _ hg]; rw [hg] at h
         cases en <;> simp only at h ⊢ <;> first | (cases h; done) | skip
         rename_i ls
         cases hl : lat ls dh with
         | none => rw [hl] at h; cases h
         | some lf =>
           rw [hl] at h
           cases lf <;> simp only at h ⊢ <;> first | (cases h; done) | skip
           rename_i n fr t l
           cases hs : eG (explode fr t (idx l i)) off ti.size y.ls with
           | none => rw [hs] at h; cases h
           | some q =>
             rw [hs] at h
             simp only at h ⊢
             cases hi : aG M t q with
             | none => rw [hi] at h; cases h
             | some im => rw [fF hM t hi]; rw [hi] at h; exact h
     | _ => exact h
theorem Af {T : Nat} {x : Leaf} {i : Int} {r} (h : fV c M T x i = some r) : fV c M' T x i = some r := by
 unfold fV at h ⊢
 cases x with
 | own id | sl id lo n | asl id off lo n | ptr id off =>
   simp only at h ⊢
   cases hg : M.get id with
   | none => rw [hg] at h; cases h
   | some en => rw [hM _ _ hg]; rw [hg] at h; exact h
 | cst fr t y => cases t <;> exact h
 | _ => exact h
theorem Ip {x : Leaf} {r} (h : qj M x = some r) : qj M' x = some r := by
 unfold qj at h ⊢
 cases x with
 | own id | sl id lo n | asl id off lo n =>
   simp only at h ⊢
   cases hg : M.get id with
   | none => rw [hg] at h; cases h
   | some en => rw [hM _ _ hg]; rw [hg] at h; exact h
 | _ => exact h
theorem JW {T : Nat} {x : Leaf} {r} (h : uH c M T x = some r) : uH c M' T x = some r := by
 unfold uH at h ⊢
 cases x <;> simp only at h ⊢ <;> first | exact h | skip
 all_goals
  cases hb : iQ c T with
  | false => rw [hb] at h; cases h
  | true => rw [hb] at h; simp only [cond_true] at h ⊢; exact Ip hM h
theorem Gv {T : Nat} {x : Leaf} {lo hi : Option Int} {r} (h : lJ c M T x lo hi = some r) : lJ c M' T x lo hi = some r := by
 unfold lJ at h ⊢
 cases x with
 | own id =>
   simp only at h ⊢
   cases hg : M.get id with
   | none => rw [hg] at h; cases lo <;> cases hi <;> cases h
   | some en => rw [hM _ _ hg]; rw [hg] at h; exact h
 | sl id lo n | sf id lo n | ptr id off =>
   simp only at h ⊢
   cases hg : M.get id with
   | none => rw [hg] at h; cases h
   | some en => rw [hM _ _ hg]; rw [hg] at h; exact h
 | _ => exact h
theorem Dv {nid S T : Nat} {x : Leaf} {r} (h : lK c M nid S T x = some r) : lK c M' nid S T x = some r := by
 unfold lK at h ⊢
 cases hS : c.ti S with
 | none => rw [hS] at h; cases h
 | some si =>
   cases hT : c.ti T with
   | none => rw [hS, hT] at h; cases h
   | some ti =>
     rw [hS, hT] at h
     obtain ⟨td, a1, a2, a3⟩ := ti
     obtain ⟨sd, b1, b2, b3⟩ := si
     have key : ∀ {e : Nat}, (match c.ti e with
      | some ⟨.int .u8, _, _, _⟩ => match listOf M (.int .u8) x with
        | some (_, l) => some (⟨[], .one (.str l), []⟩ : Eff)
        | none => none
      | _ => none) = some r -> (match c.ti e with
      | some ⟨.int .u8, _, _, _⟩ => match listOf M' (.int .u8) x with
        | some (_, l) => some (⟨[], .one (.str l), []⟩ : Eff)
        | none => none
      | _ => none) = some r := by
      intro e h
      split at h <;> first | (cases h; done) | skip
      rename_i he
      cases hl : listOf M (.int .u8) x with
      | none => rw [hl] at h; cases h
      | some y => rw [nR hM hl]; rw [hl] at h; exact h
     cases x <;> cases td <;> simp only at h ⊢ <;> first | exact h | (cases h; done) | skip
     case own.slice id e =>
      split at h <;> first | (cases h; done) | skip
      cases hg : M.get id with
      | none => rw [hg] at h; cases h
      | some en => rw [hM _ _ hg]; rw [hg] at h; exact h
     all_goals
      cases sd <;> simp only at h ⊢ <;> first | (cases h; done) | skip
      exact key h
theorem EH {nid T U : Nat} {x y : Leaf} {r} (h : ni c M nid T U x y = some r) : ni c M' nid T U x y = some r := by
 unfold ni at h ⊢
 cases hT : c.ti T with
 | none => rw [hT] at h; cases h
 | some ti =>
   rw [hT] at h
   obtain ⟨td, a1, a2, a3⟩ := ti
   cases td <;> simp only at h ⊢ <;> first | (cases h; done) | skip
   rename_i e
   cases he : c.ti e with
   | none => rw [he] at h; cases h
   | some ei =>
     rw [he] at h
     obtain ⟨ed, b1, bytes, b3⟩ := ei
     cases b3 with
     | none => cases h
     | some te =>
       simp only at h ⊢
       cases hb : (Nat.blt 0 te.sz && cond (dK y) (isStr c U && Nat.beq bytes 1) (Nat.beq U T)) with
       | false => rw [hb] at h; cases h
       | true =>
         rw [hb] at h
         simp only [cond_true] at h ⊢
         cases hl : listOf M te y with
         | none => rw [hl] at h; cases h
         | some q =>
           rw [nR hM hl]; rw [hl] at h
           cases x with
           | own id =>
             simp only at h ⊢
             cases hg : M.get id with
             | none => rw [hg] at h; cases h
             | some en => rw [hM _ _ hg]; rw [hg] at h; exact h
           | sl id lo k =>
             cases lo with
             | zero =>
               simp only at h ⊢
               cases hg : M.get id with
               | none => rw [hg] at h; cases h
               | some en => rw [hM _ _ hg]; rw [hg] at h; exact h
             | succ n => exact h
           | _ => exact h
theorem Dw {nid T U : Nat} {x : Leaf} {k : Int} {r} (h : lG c M nid T U x k = some r) : lG c M' nid T U x k = some r := by
 unfold lG at h ⊢
 split at h
 ·rename_i hT
  try simp only [hT]
  split at h
  ·rename_i he
   try simp only [he]
   split at h
   ·rename_i hc
    try simp only [hc]
    split at h
    ·exact h
    ·rename_i id n
     try simp only
     cases hg : M.get id with
     | none => rw [hg] at h; cases h
     | some en => rw [hM _ _ hg]; rw [hg] at h; exact h
    ·cases h
   ·cases h
  ·cases h
 ·cases h
theorem Dx {T U : Nat} {x y : Leaf} {r} (h : lH c M T U x y = some r) : lH c M' T U x y = some r := by
 unfold lH at h ⊢
 split at h
 ·rename_i hT
  try simp only [hT]
  split at h
  ·rename_i he hm
   simp only [he, hM _ _ hm]
   split at h
   ·rename_i ht
    subst ht
    simp only [dif_pos]
    cases hl : listOf M _ y with
    | none => rw [hl] at h; simp at h
    | some q => rw [nR hM hl]; rw [hl] at h; exact h
   ·cases h
  ·cases h
 ·cases h
theorem Dy {nid T U : Nat} {x y : Leaf} {r} (h : lI c M nid T U x y = some r) : lI c M' nid T U x y = some r := by
 unfold lI at h ⊢
 split at h
 ·exact Dw hM h
 ·cases hs : sameRow x y with
  | false => rw [hs] at h; exact EH hM h
  | true => rw [hs] at h; exact Dx hM h
theorem D6 {id : Nat} (h : ql M id = true) : ql M' id = true := by
 obtain ⟨ls, hm⟩ := Dj h
 unfold ql; rw [hM _ _ hm]
theorem JX {T : Nat} {op : BinOp} {a b r : Leaf} (h : rC c M T op a b = some r) : rC c M' T op a b = some r := by
 unfold rC at h ⊢
 split at h
 ·split at h
  ·rename_i id off
   cases hb : ql M id with
   | false => rw [hb] at h; cases h
   | true => rw [D6 hM hb]; rw [hb] at h; exact h
  ·exact h
  ·exact h
  ·rename_i id off id' off'
   split at h
   ·rename_i te hte
    try simp only [hte]
    cases hb : ql M id with
    | false => rw [hb] at h; cases h
    | true => rw [D6 hM hb]; rw [hb] at h; exact h
   ·cases h
  ·cases h
 ·cases h
theorem JY {T : Nat} {x : Leaf} {r} (h : uI c M T x = some r) : uI c M' T x = some r := by
 unfold uI at h ⊢
 cases x <;> simp only at h ⊢ <;> first | exact h | skip
 rename_i id _ _
 cases hg : M.get id with
 | none => rw [hg] at h; cases h
 | some en => rw [hM _ _ hg]; rw [hg] at h; exact h
theorem Iq {T U : Nat} {x y : Leaf} {r} (h : tu c M T U x y = some r) : tu c M' T U x y = some r := by
 unfold tu at h ⊢
 split at h
 ·rename_i hT hc
  try simp only [hT, hc]
  split at h
  ·rename_i he hm
   simp only [he, hM _ _ hm]
   split at h
   ·rename_i ht
    subst ht
    simp only [dif_pos]
    cases hb : (Nat.beq _ _ && (cond (dK y) (isStr c U && Nat.beq _ 1) (Nat.beq U T) && Nat.blt 0 _)) with
    | false => rw [hb] at h; cases h
    | true =>
      rw [hb] at h
      simp only [cond_true] at h ⊢
      split at h
      ·rename_i hl
       simp only [nR hM hl]; exact h
      ·cases h
   ·cases h
  ·cases h
 ·cases h
theorem Gw {T : Nat} {x : Leaf} {r} (h : pR c M T x = some r) : pR c M' T x = some r := by
 unfold pR at h ⊢
 split at h
 ·rename_i hT hc
  try simp only [hT, hc]
  split at h
  ·rename_i he hm
   simp only [he, hM _ _ hm]; exact h
  ·cases h
 ·cases h
theorem EI {nid T : Nat} {z : Bool} {x : Leaf} {lo : Option Int} {hi mx : Int} {r} (h : ny c M nid T z x lo hi mx = some r) : ny c M' nid T z x lo hi mx = some r := by
 unfold ny at h ⊢
 split at h
 ·rename_i hT
  try simp only [hT]
  split at h
  ·rename_i he
   try simp only [he]
   cases x <;> simp only at h ⊢ <;> first | exact h | skip
   ·rename_i id
    cases hg : M.get id with
    | none => rw [hg] at h; cases h
    | some en => rw [hM _ _ hg]; rw [hg] at h; exact h
   ·rename_i id _ _
    cases hg : M.get id with
    | none => rw [hg] at h; cases h
    | some en => rw [hM _ _ hg]; rw [hg] at h; exact h
  ·cases h
 ·cases h
theorem EJ {T : Nat} {x y : Leaf} {ok : Bool} {r} (h : nC c M T x y ok = some r) : nC c M' T x y ok = some r := by
 unfold nC at h ⊢
 split at h
 ·rename_i k v _ _ _ id hT
  split at h
  ·rename_i tk tv tk' tv' l hk hv hm
   rw [hM _ _ hm, hk, hv]
   exact h
  ·cases h
 ·cases h
theorem Ag {T : Nat} {x y z : Leaf} {r} (h : jo c M T x y z = some r) : jo c M' T x y z = some r := by
 unfold jo at h ⊢
 split at h
 ·rename_i k v _ _ _ id hT
  split at h
  ·rename_i tk tv tk' tv' l hk hv hm
   rw [hM _ _ hm, hk, hv]
   exact h
  ·cases h
 ·cases h
theorem oZ : ∀ {ts : List Ty} {vs : List V} {r}, dA M ts vs = some r -> dA M' ts vs = some r
 | [], [], r, h => h
 | [], _ :: _, r, h => h
 | [t], [], r, h => h
 | [t], [v], r, h => by
   simp only [dA] at h ⊢
   cases hb : (v.agg == t.isAgg) with
   | false => rw [hb] at h; cases h
   | true =>
     rw [hb] at h
     simp only [cond_true] at h ⊢
     cases hi : aG M t v.ls with
     | none => rw [hi] at h; cases h
     | some im => rw [fF hM t hi]; rw [hi] at h; exact h
 | [t], _ :: _ :: _, r, h => h
 | t :: u :: q, [], r, h => h
 | t :: u :: q, v :: vs, r, h => by
   simp only [dA] at h ⊢
   cases hb : (v.agg == t.isAgg) with
   | false => rw [hb] at h; cases h
   | true =>
     rw [hb] at h
     simp only [cond_true] at h ⊢
     cases hi : aG M t v.ls with
     | none => rw [hi] at h; cases h
     | some im =>
       rw [fF hM t hi]; rw [hi] at h
       simp only at h ⊢
       cases hr : dA M (u :: q) vs with
       | none => rw [hr] at h; split at h <;> first | (cases h; done) | (rename_i h1 h2; cases h2)
       | some p => rw [oZ hr]; rw [hr] at h; exact h
theorem zy {t : Ty} {v : V} {x : t.den} (h : cellOf M t v = some x) : cellOf M' t v = some x := by
 unfold cellOf at h ⊢
 split at h
 ·rename_i id
  cases hg : M.get id with
  | none => rw [hg] at h; cases h
  | some e =>
    rw [hM id e hg]; rw [hg] at h
    cases e <;> simp only at h ⊢ <;> first | (cases h; done) | skip
    rename_i ls
    cases hi : aG M t ls with
    | none => rw [hi] at h; cases h
    | some im => rw [fF hM t hi]; rw [hi] at h; exact h
 ·exact h
 ·cases h
theorem zA : ∀ {cs : List Ty} {vs : List V} {r}, jH M cs vs = some r -> jH M' cs vs = some r
 | [], [], _, h => h
 | [], _ :: _, _, h => by cases h
 | [_], [], _, h => by cases h
 | [_], [_], _, h => zy hM h
 | [_], _ :: _ :: _, _, h => by cases h
 | _ :: _ :: _, [], _, h => by cases h
 | t :: u :: r, v :: vs, _, h => by
   simp only [jH] at h ⊢
   cases h1 : cellOf M t v with
   | none => rw [h1] at h; cases h
   | some x =>
     cases h2 : jH M (u :: r) vs with
     | none => rw [h1, h2] at h; cases h
     | some y => rw [zy hM h1, zA h2]; rw [h1, h2] at h; exact h
theorem vJ : ∀ (k : Nat) (acc l : List Nat) {r : List Entry}, aS ((reach M k acc l).map M.get) = some r -> reach M' k acc l = reach M k acc l
 | 0, acc, l, r, h => rfl
 | k + 1, acc, [], r, h => rfl
 | k + 1, acc, i :: l, r, h => by
   unfold reach at h ⊢
   cases hm : mem1 i acc with
   | true => rw [hm] at h; exact vJ k acc l h
   | false =>
     rw [hm] at h
     simp only [cond_false] at h ⊢
     cases hg : M.get i with
     | some e => rw [hg] at h; rw [hM _ _ hg]; exact vJ k _ _ h
     | none =>
       rw [hg] at h
       simp only at h
       obtain ⟨q, hq⟩ := kV M k (acc ++ [i]) l
       rw [hq] at h
       obtain ⟨h1, h2⟩ := kP h
       have hi : i ∈ acc ++ [i] ++ q := by simp
       obtain ⟨j, hj, hji⟩ := List.getElem_of_mem hi
       have hj' : j < r.length := by rw [h1, List.length_map]; exact hj
       have := h2 j r[j] (List.getElem?_eq_getElem hj')
       rw [List.getElem?_map, List.getElem?_eq_getElem hj, hji] at this
       simp [hg] at this
where
 kV (M : Store) : ∀ (k : Nat) (acc l : List Nat), ∃ r, reach M k acc l = acc ++ r
  | 0, acc, l => ⟨[], by simp [reach]⟩
  | k + 1, acc, [] => ⟨[], by simp [reach]⟩
  | k + 1, acc, i :: l => by
    unfold reach
    cases mem1 i acc with
    | true => exact kV M k acc l
    | false =>
      simp only [cond_false]
      split
      ·obtain ⟨r, hr⟩ := kV M k (acc ++ [i]) (l ++ o9 _)
       exact ⟨[i] ++ r, by rw [hr, List.append_assoc]⟩
      ·obtain ⟨r, hr⟩ := kV M k (acc ++ [i]) l
       exact ⟨[i] ++ r, by rw [hr, List.append_assoc]⟩
theorem JZ {nid : Nat} {F : List V -> List Entry -> Option Done} {args : List V} {r} (h : yK M nid F args (reach M 40 [] (args.flatMap fun v => fC v.ls)) = some r) : yK M' nid F args (reach M' 40 [] (args.flatMap fun v => fC v.ls)) = some r := by
 unfold yK at h
 cases hes : aS ((reach M 40 [] (args.flatMap fun v => fC v.ls)).map M.get) with
 | none => rw [hes] at h; cases h
 | some es =>
   rw [hes] at h
   simp only at h
   have hr := vJ hM 40 [] _ hes
   rw [hr]
   generalize reach M 40 [] (args.flatMap fun v => fC v.ls) = ids at hes h
   obtain ⟨h1, h2⟩ := kP hes
   have hx : ∀ x ∈ ids, ∃ e, M.get x = some e := by
    intro x hx
    obtain ⟨j, hj, rfl⟩ := List.getElem_of_mem hx
    have hj' : j < es.length := by rw [h1, List.length_map]; exact hj
    have := h2 j es[j] (List.getElem?_eq_getElem hj')
    rw [List.getElem?_map, List.getElem?_eq_getElem hj] at this
    exact ⟨_, by simpa using this⟩
   have hes' : aS (ids.map M'.get) = some es := by
    have e1 : ids.map M'.get = ids.map M.get := List.map_congr_left fun x hx' => by
     obtain ⟨e, he⟩ := hx x hx'
     rw [he, hM _ _ he]
    rw [e1]; exact hes
   have hcl : ∀ l, (∀ x ∈ l, x ∈ ids) -> jm M' ids l = jm M ids l := by
    intro l
    induction l with
    | nil => intro _; rfl
    | cons x r ih =>
      intro hl
      unfold jm
      rw [ih fun y hy => hl y (by simp [hy])]
      have : CX M' ids x = CX M ids x := by
       obtain ⟨e, he⟩ := hx x (hl x (by simp))
       unfold CX
       rw [he, hM _ _ he]
      rw [this]
   unfold yK
   rw [hes']
   simp only
   rw [hcl ids fun _ h => h]
   exact h
theorem Ir {nid f : Nat} {vs : List V} {r} (h : tJ c M nid f vs = some r) : tJ c M' nid f vs = some r := by
 unfold tJ at h ⊢
 cases hf : c.sum f with
 | none => rw [hf] at h; cases h
 | some sm =>
   rw [hf] at h
   cases sm with
   | gen F => exact JZ hM h
   | apart =>
     simp only at h ⊢
     split at h
     ·split at h
      ·rename_i h1 h2
       try simp only [h1, h2]
       split at h
       ·rename_i hi hj
        simp only [hM _ _ hi, hM _ _ hj]; exact h
       ·cases h
      ·cases h
     ·cases h
   | pure ts al F =>
     simp only at h ⊢
     cases hi : dA M ts vs with
     | none => rw [hi] at h; cases h
     | some q => rw [oZ hM hi]; rw [hi] at h; exact h
   | clo ts cs F =>
     simp only at h ⊢
     cases hi : dA M ts (vs.take ts.length) with
     | none => rw [hi] at h; cases h
     | some q =>
       cases hc : jH M cs (vs.drop ts.length) with
       | none => rw [hi, hc] at h; cases h
       | some y => rw [oZ hM hi, zA hM hc]; rw [hi, hc] at h; exact h
end
section
variable {c : Cfg} {s : St} {M' : Store} {cs : List (Nat × Bool)}
theorem J3 (x : Operand) : opd c { s with M := M' } cs x = opd c s cs x := by cases x <;> rfl
theorem vK (x : Operand) : opv c { s with M := M' } cs x = opv c s cs x := by unfold opv; rw [J3]
theorem iH (x : Operand) : opl c { s with M := M' } cs x = opl c s cs x := by unfold opl; rw [vK]
theorem E5 (x : Operand) : opi c { s with M := M' } cs x = opi c s cs x := by unfold opi; rw [iH]
theorem Ld (x : Option Operand) : wK c { s with M := M' } cs x = wK c s cs x := by
 cases x with
 | none => rfl
 | some y => simp only [wK, E5]
theorem Gx (l : List Operand) : mg c { s with M := M' } cs l = mg c s cs l := by
 unfold mg
 congr 1
theorem D7 {T : Nat} {fs : List (Nat × Nat)} : ∀ (l : List (Nat × Operand)) (ls : List Leaf), jW c { s with M := M' } cs T fs l ls = jW c s cs T fs l ls
 | [], _ => rfl
 | (i, x) :: r, ls => by
   simp only [jW, vK]
   split
   ·split
    ·congr 1
     split
     ·exact D7 r _
     ·rfl
    ·rfl
   ·rfl
theorem qM (hM : MLe s.M M') {n : Nat} {t : Ty} : ∀ {l : List (Nat × Operand)} {fr : Bool} {xs : List t.den} {fz : List (Nat × Entry)} {r}, iy c s cs n t l fr xs fz = some r -> iy c { s with M := M' } cs n t l fr xs fz = some r
 | [], _, _, _, _, h => h
 | (i, x) :: q, fr, xs, fz, r, h => by
   simp only [iy, vK] at h ⊢
   cases hv : opv c s cs x with
   | none => rw [hv] at h; cases h
   | some v =>
     rw [hv] at h
     simp only at h ⊢
     cases hi : aG s.M t v.ls with
     | none => rw [hi] at h; cases h
     | some im =>
       rw [fF hM t hi]; rw [hi] at h
       simp only at h ⊢
       cases hr : im.rest with
       | cons _ _ => rw [hr] at h; cases h
       | nil =>
         rw [hr] at h
         simp only at h ⊢
         cases hb : Nat.blt i n with
         | false => rw [hb] at h; cases h
         | true => rw [hb] at h; exact qM hM h
theorem nT (hM : MLe s.M M') {id : Nat} (h : dF s.M id = true) : dF M' id = true := by
 unfold dF at h ⊢
 cases hg : s.M.get id with
 | none => rw [hg] at h; cases h
 | some e => rw [hM _ _ hg]; rw [hg] at h; exact h
theorem J4 (hM : MLe s.M M') {v : V} {id : Nat} (h : jD s.M v = some id) : jD M' v = some id := by
 unfold jD at h ⊢
 split at h
 ·rename_i i
  try simp only
  cases hg : s.M.get i with
  | none => rw [hg] at h; cases h
  | some e => rw [hM _ _ hg]; rw [hg] at h; exact h
 ·cases h
theorem zB (hM : MLe s.M M') : ∀ {vs : List V} {ids : List Nat}, aS (vs.map (jD s.M)) = some ids -> aS (vs.map (jD M')) = some ids
 | [], ids, h => h
 | v :: r, ids, h => by
   simp only [List.map_cons] at h ⊢
   cases hv : jD s.M v with
   | none => rw [hv] at h; cases h
   | some i =>
     rw [hv] at h; rw [J4 hM hv]
     simp only [aS] at h ⊢
     cases hr : aS (r.map (jD s.M)) with
     | none => rw [hr] at h; cases h
     | some q => rw [hr] at h; rw [zB hM hr]; exact h
theorem Gy (hM : MLe s.M M') {off ft : Nat} {l r : Leaf} (h : lM c s.M off ft l = some r) : lM c M' off ft l = some r := by
 unfold lM at h ⊢
 cases hb : sized c ft with
 | false => rw [hb] at h; cases h
 | true =>
   rw [hb] at h
   simp only [cond_true] at h ⊢
   cases l with
   | ptr id o | ig id i o | iq id a i o =>
     simp only at h ⊢
     cases ha : dF s.M id with
     | false => rw [ha] at h; cases h
     | true => rw [nT hM ha]; rw [ha] at h; exact h
   | _ => exact h
theorem MF {x a b : Operand} : tK c { s with M := M' } cs x a b = tK c s cs x a b := by
 unfold tK
 simp only [J3, iH]
 rfl
theorem Le (hM : MLe s.M M') {nid T : Nat} {op : Op} {e : Eff} (h : dB c s cs nid op T = some e) : dB c { s with M := M' } cs nid op T = some e := by
 have hz := hM
 cases op
 case store T x y =>
  simp only [dB, iH, vK] at h ⊢
  split at h
  ·rename_i l v hl hv
   try simp only [hl, hv]
   cases he : lF c s.M T l v with
   | none => rw [he] at h; cases h
   | some q => rw [Gu hM he]; rw [he] at h; exact h
  ·cases h
 case load T x =>
  simp only [dB, iH, vK] at h ⊢
  split at h
  ·rename_i l hl
   try simp only [hl]
   cases he : oh c s.M T l with
   | none => rw [he] at h; cases h
   | some q => rw [Io hM he]; rw [he] at h; exact h
  ·cases h
 case build T ps =>
  simp only [dB, D7] at h ⊢
  split at h
  ·exact h
  ·rename_i n e' _ _ n' t hT
   try simp only [hT]
   split at h
   ·rename_i t' he'
    try simp only [he']
    split at h
    ·rename_i hh
     rw [if_pos hh]
     split at h
     ·rename_i hb; rw [qM hM hb]; exact h
     ·cases h
    ·cases h
   ·cases h
  ·cases h
 case buildSlice T n ps =>
  simp only [dB] at h ⊢
  split at h
  ·rename_i e' _ _ _ hT
   try simp only [hT]
   split at h
   ·rename_i t he'
    try simp only [he']
    cases hb : (Nat.ble (n * t.sz) 16777216 && Nat.blt 0 t.sz) with
    | false => rw [hb] at h; cases h
    | true =>
      rw [hb] at h
      simp only [cond_true] at h ⊢
      split at h
      ·rename_i hb; rw [qM hM hb]; exact h
      ·cases h
   ·cases h
  ·cases h
 case nilCheck x =>
  simp only [dB, iH] at h ⊢
  split at h
  ·rename_i id o hl
   try simp only [hl]
   cases ha : dF s.M id with
   | false => rw [ha] at h; cases h
   | true => rw [nT hM ha]; rw [ha] at h; exact h
  ·rename_i id i o hl
   try simp only [hl]
   cases ha : dF s.M id with
   | false => rw [ha] at h; cases h
   | true => rw [nT hM ha]; rw [ha] at h; exact h
  ·rename_i id a i o hl
   try simp only [hl]
   cases ha : dF s.M id with
   | false => rw [ha] at h; cases h
   | true => rw [nT hM ha]; rw [ha] at h; exact h
  ·rename_i hl; (try simp only [hl]); exact h
  ·rename_i hl; (try simp only [hl]); exact h
  ·cases h
 case convert S T x =>
  simp only [dB, iH] at h ⊢
  split at h
  ·rename_i l hl; (try simp only [hl]); exact Dv hM h
  ·cases h
 case binOp op T x y T' =>
  simp only [dB, iH, vK] at h ⊢
  split at h
  ·rename_i a b ha hb
   try simp only [ha, hb]
   cases he : AA c T op a b with
   | some q => rw [he] at h; exact h
   | none =>
     rw [he] at h
     simp only at h ⊢
     cases hp : rC c s.M T op a b with
     | none => rw [hp] at h; cases h
     | some r => rw [JX hM hp]; rw [hp] at h; exact h
  ·exact h
 case makeFunc f first caps =>
  cases f <;> simp only [dB, Gx] at h ⊢ <;> first | (cases h; done) | skip
  cases hb : Nat.beq first.size 0 with
  | false => rw [hb] at h; cases h
  | true =>
    rw [hb] at h
    simp only [cond_true] at h ⊢
    split at h
    ·rename_i vs hvs
     try simp only [hvs]
     cases hc : aS (vs.map (jD s.M)) with
     | none => rw [hc] at h; cases h
     | some ids => rw [zB hM hc]; rw [hc] at h; exact h
    ·cases h
 case slice T x lo hi mx =>
  cases mx with
  | some mx =>
    cases hi with
    | none => simp only [dB] at h; cases h
    | some hi =>
      simp only [dB, iH, Ld, E5] at h ⊢
      split at h
      ·rename_i l a b m hl ha hb hm
       try simp only [hl, ha, hb, hm]
       exact EI hM h
      ·cases h
  | none =>
  simp only [dB, iH, Ld] at h ⊢
  split at h
  ·rename_i l a b hl ha hb
   try simp only [hl, ha, hb]
   cases he : lJ c s.M T l a b with
   | none => rw [he] at h; cases h
   | some q => rw [Gv hM he]; rw [he] at h; exact h
  ·cases h
 case fieldAddr T x f =>
  simp only [dB, iH] at h ⊢
  split at h
  ·rename_i off ft l hf hl
   try simp only [hf, hl]
   cases he : lM c s.M off ft l with
   | none => rw [he] at h; cases h
   | some q => rw [Gy hM he]; rw [he] at h; exact h
  ·cases h
 case sliceToArrayPointer T x =>
  simp only [dB, iH] at h ⊢
  exact h
 case indexAddr T x i =>
  simp only [dB, iH, E5] at h ⊢
  split at h
  ·rename_i l n hl hn
   try simp only [hl, hn]
   cases he : fV c s.M T l.weak n with
   | none => rw [he] at h; cases h
   | some q => rw [Af hM he]; rw [he] at h; exact h
  ·cases h
 case makeMap T r =>
  cases r with
  | none => simp only [dB] at h ⊢; exact h
  | some r => simp only [dB] at h; cases h
 case lookup T x y ok =>
  simp only [dB, iH] at h ⊢
  split at h
  ·rename_i a b ha hb
   try simp only [ha, hb]
   exact EJ hM h
  ·cases h
 case mapUpdate T x y z =>
  simp only [dB, iH] at h ⊢
  split at h
  ·rename_i a b d ha hb hd
   try simp only [ha, hb, hd]
   exact Ag hM h
  ·cases h
 case call cl =>
  obtain ⟨ce, args, ts⟩ := cl
  cases ce with
  | invoke _ _ => exact h
  | value f =>
    simp only [dB, iH, Gx] at h ⊢
    split at h
    ·rename_i g caps vs hf ha
     try simp only [hf, ha]
     exact Ir hM h
    ·cases h
  | builtin b =>
    cases b <;> simp only [dB, iH] at h ⊢ <;> first | exact h | skip
    case cap =>
     split at h
     ·rename_i x y ha ht
      try simp only [ha, ht]
      split at h
      ·split at h
       ·rename_i n he; rw [JY hM he]; exact h
       ·cases h
      ·cases h
     ·cases h
    case clear =>
     split at h
     ·rename_i x y ha ht
      try simp only [ha, ht]
      split at h
      ·exact Gw hM h
      ·cases h
     ·cases h
    case copy =>
     split at h
     ·rename_i x y T U ha ht
      try simp only [ha, ht]
      split at h
      ·exact Iq hM h
      ·cases h
     ·cases h
    ·split at h
     ·rename_i x T ha ht
      try simp only [ha, ht]
      split at h
      ·exact Dy hM h
      ·cases h
     ·cases h
    ·split at h
     ·rename_i x y T U ha ht
      try simp only [ha, ht]
      split at h
      ·split at h
       ·rename_i n he; rw [JW hM he]; exact h
       ·cases h
      ·cases h
     ·cases h
 all_goals (simp only [dB, J3, vK, iH, E5] at h ⊢; exact h)
theorem J5 (hM : MLe s.M M') {nid : Nat} {o : Oper} {e : Eff} (h : jX c s cs nid o = some e) : jX c { s with M := M' } cs nid o = some e := by
 unfold jX at h ⊢
 cases he : qo c s cs nid o with
 | none => rw [he] at h; cases h
 | some q =>
   have : qo c { s with M := M' } cs nid o = some q := by
    unfold qo at he ⊢
    split at he
    ·rename_i hop; simp only [MF]; exact he
    ·exact Le hM he
   rw [this]; rw [he] at h; exact h
end
end Go.Vc
set_option linter.unusedVariables false
set_option linter.unusedSimpArgs false
namespace Go.Vc
theorem lX (m p : Nat) : aZ m p = m.testBit p := by
 unfold aZ Nat.testBit
 show Nat.beq (1 &&& (m >>> p)) 1 = _
 rw [Nat.one_and_eq_mod_two]
 rcases Nat.mod_two_eq_zero_or_one (m >>> p) with h | h <;> rw [h] <;> rfl
theorem uw (m n p : Nat) : aZ (Nat.lor m n) p = (aZ m p || aZ n p) := by
 rw [lX, lX, lX]; exact Nat.testBit_or m n p
theorem Gz (q p : Nat) : aZ (Nat.shiftLeft 1 q) p = decide (q = p) := by
 rw [lX]
 show (1 <<< q).testBit p = _
 rw [Nat.one_shiftLeft, Nat.testBit_two_pow]
theorem GH (n p : Nat) : aZ (2 ^ n - 1) p = decide (p < n) := by
 rw [lX, Nat.testBit_two_pow_sub_one]
theorem D8 {acc : List Nat} : ∀ {l : List Nat} {m : Nat}, wO acc l = some m ->
 (∀ p ∈ l, p < acc.length /\ aZ m p = true) /\ ∀ p, aZ m p = true -> p ∈ l ∨ ∃ q ∈ l, ∃ mq, acc[q]? = some mq /\ aZ mq p = true
 | [], m, h => by
   cases h
   exact ⟨fun p hp => (by cases hp), fun p hp => by rw [lX, Nat.zero_testBit] at hp; cases hp⟩
 | q :: r, m, h => by
   unfold wO at h
   split at h
   ·rename_i mq n hq hn
    cases h
    obtain ⟨h1, h2⟩ := D8 hn
    refine ⟨fun p hp => ?_, fun p hp => ?_⟩
    ·rcases List.mem_cons.1 hp with rfl | hp
     ·refine ⟨(List.getElem?_eq_some_iff.1 hq).1, ?_⟩
      rw [uw, uw, Gz]; simp
     ·refine ⟨(h1 p hp).1, ?_⟩
      rw [uw, (h1 p hp).2]; simp
    ·rw [uw, uw, Gz] at hp
     simp only [Bool.or_eq_true, decide_eq_true_eq] at hp
     rcases hp with (rfl | hp) | hp
     ·exact .inl (by simp)
     ·exact .inr ⟨q, by simp, mq, hq, hp⟩
     ·rcases h2 p hp with h | ⟨q', hq', mq', k1, k2⟩
      ·exact .inl (List.mem_cons_of_mem _ h)
      ·exact .inr ⟨q', List.mem_cons_of_mem _ hq', mq', k1, k2⟩
   ·cases h
def xP (l : List Oper) (masks : List Nat) : Prop := ∀ k o, l[k]? = some o -> ∃ m, masks[k]? = some m /\ (∀ p ∈ mD o, p < k /\ aZ m p = true) /\
 ∀ p, aZ m p = true -> p ∈ mD o ∨ ∃ q ∈ mD o, ∃ mq, masks[q]? = some mq /\ aZ mq p = true
theorem BX : ∀ {r : List Oper} {acc masks : List Nat} {d : List Oper}, yN r acc = some masks -> acc.length = d.length -> xP d acc -> masks.length = d.length + r.length /\ xP (d ++ r) masks
 | [], acc, masks, d, h, hl, ho => by
   cases h
   refine ⟨by simp [hl], by rw [List.append_nil]; exact ho⟩
 | o :: r, acc, masks, d, h, hl, ho => by
   unfold yN at h
   cases hm : wO acc (mD o) with
   | none => rw [hm] at h; cases h
   | some m =>
     rw [hm] at h
     obtain ⟨k1, k2⟩ := D8 hm
     have := BX (d := d ++ [o]) h (by simp [hl]) (fun k o' hk => by
      by_cases hkd : k < d.length
      ·rw [List.getElem?_append_left hkd] at hk
       obtain ⟨m', q1, q2, q3⟩ := ho k o' hk
       refine ⟨m', by rw [List.getElem?_append_left (by omega)]; exact q1, q2, fun p hp => ?_⟩
       rcases q3 p hp with h | ⟨q, hq, mq, e1, e2⟩
       ·exact .inl h
       ·exact .inr ⟨q, hq, mq, by rw [List.getElem?_append_left (List.getElem?_eq_some_iff.1 e1).1]; exact e1, e2⟩
      ·have hlt := (List.getElem?_eq_some_iff.1 hk).1
       have hke : k = d.length := by simp at hlt; omega
       subst hke
       simp at hk
       subst hk
       refine ⟨m, by rw [<- hl]; simp, fun p hp => ⟨by rw [<- hl]; exact (k1 p hp).1, (k1 p hp).2⟩, fun p hp => ?_⟩
       rcases k2 p hp with h | ⟨q, hq, mq, e1, e2⟩
       ·exact .inl h
       ·exact .inr ⟨q, hq, mq, by rw [List.getElem?_append_left (List.getElem?_eq_some_iff.1 e1).1]; exact e1, e2⟩)
     rw [List.append_assoc] at this
     refine ⟨by rw [this.1]; simp; omega, this.2⟩
theorem zC {l : List Oper} {masks : List Nat} (hm : xP l masks) {D : Nat -> Prop} (hD : ∀ k o, D k -> l[k]? = some o -> ∀ p ∈ mD o, D p) :
 ∀ (k : Nat) (o : Oper) (m : Nat), l[k]? = some o -> masks[k]? = some m -> (∀ p ∈ mD o, D p) -> ∀ p, aZ m p = true -> D p := by
 intro k
 induction k using Nat.strongRecOn with
 | _ k ih =>
   intro o m ho hmk hd p hp
   obtain ⟨m', k1, k2, k3⟩ := hm k o ho
   rw [hmk] at k1; cases k1
   rcases k3 p hp with h | ⟨q, hq, mq, e1, e2⟩
   ·exact hd p h
   ·have hqk := (k2 q hq).1
    have hlt := (List.getElem?_eq_some_iff.1 ho).1
    have hoq : l[q]? = some (l[q]'(by omega)) := List.getElem?_eq_getElem (by omega)
    exact ih q hqk _ mq hoq e1 (fun p' hp' => hD q _ (hd q hq) hoq p' hp') p e2
theorem NK {l : List Oper} {masks : List Nat} (hm : xP l masks) {k : Nat} {o : Oper} {m : Nat} (ho : l[k]? = some o) (hmk : masks[k]? = some m) : ∀ p, aZ m p = true -> p < k := by
 refine zC (D := fun p => p < k) hm (fun j o' hj ho' p hp => ?_) k o m ho hmk (fun p hp => ?_)
 ·obtain ⟨_, _, k2, _⟩ := hm j o' ho'
  have := (k2 p hp).1; omega
 ·obtain ⟨_, _, k2, _⟩ := hm k o ho
  exact (k2 p hp).1
def iI : List (Nat × Entry) -> Nat -> Option Entry -> Option Entry
 | [], _, x => x
 | (i, e) :: r, id, x => iI r id (if i = id then some e else x)
theorem Ah : ∀ (u : List (Nat × Entry)) (M : Store) (id : Nat), (M.aK u).get id = iI u id (M.get id)
 | [], _, _ => rfl
 | (i, e) :: r, M, id => by
   rw [Store.aK, Ah r, Store.dJ]
   simp only [iI]
   by_cases h : i = id
   ·rw [if_pos h, if_pos h.symm]
   ·rw [if_neg h, if_neg (fun hh => h hh.symm)]
theorem xQ {u : List (Nat × Entry)} {id : Nat} : ∀ {x : Option Entry}, (∀ p ∈ u, p.1 ≠ id) -> iI u id x = x := by
 induction u with
 | nil => intro x _; rfl
 | cons p r ih =>
   intro x h
   obtain ⟨i, e⟩ := p
   simp only [iI]
   rw [if_neg (h (i, e) (by simp)), ih (fun q hq => h q (List.mem_cons_of_mem _ hq))]
theorem J6 {u : List (Nat × Entry)} {id : Nat} : ∀ {x y : Option Entry}, (∃ p ∈ u, p.1 = id) -> iI u id x = iI u id y := by
 induction u with
 | nil => intro x y ⟨p, hp, _⟩; cases hp
 | cons p r ih =>
   intro x y ⟨q, hq, hqi⟩
   obtain ⟨i, e⟩ := p
   simp only [iI]
   by_cases h : i = id
   ·rw [if_pos h, if_pos h]
   ·rw [if_neg h, if_neg h]
    rcases List.mem_cons.1 hq with rfl | hq
    ·exact absurd hqi h
    ·exact ih ⟨q, hq, hqi⟩
def gAt (D : Nat -> Bool) : Nat -> List Rec -> (Nat -> Option Entry) -> Nat -> Option Entry
 | _, [], f => f
 | j, r :: l, f => gAt D (j + 1) l (if D j = true then fun id => iI r.e.upd id (f id) else f)
theorem pJ (D : Nat -> Bool) : ∀ (a b : List Rec) (j : Nat) (f : Nat -> Option Entry), gAt D j (a ++ b) f = gAt D (j + a.length) b (gAt D j a f)
 | [], b, j, f => rfl
 | r :: a, b, j, f => by
   rw [List.cons_append, gAt, pJ D a b]
   simp only [gAt, List.length_cons]
   rw [show j + 1 + a.length = j + (a.length + 1) by omega]
theorem lY {D D' : Nat -> Bool} {id : Nat} : ∀ (l : List Rec) (j : Nat) (f f' : Nat -> Option Entry), f id = f' id -> (∀ i r, l[i]? = some r -> D (j + i) ≠ D' (j + i) -> ∀ p ∈ r.e.upd, p.1 ≠ id) -> gAt D j l f id = gAt D' j l f' id
 | [], _, f, f', hf, _ => hf
 | r :: l, j, f, f', hf, h => by
   simp only [gAt]
   refine lY l (j + 1) _ _ ?_ (fun i r' hi hne => h (i + 1) r' (by simpa using hi) (by rw [show j + (i + 1) = j + 1 + i by omega]; exact hne))
   have h0 := h 0 r (by simp)
   simp only [Nat.add_zero] at h0
   by_cases hd : D j = D' j
   ·rw [hd]
    split
    ·show iI r.e.upd id (f id) = iI r.e.upd id (f' id)
     rw [hf]
    ·exact hf
   ·have hno := h0 hd
    split <;> split
    ·rename_i h1 h2; exact absurd (h1.trans h2.symm) hd
    ·show iI r.e.upd id (f id) = f' id
     rw [xQ hno]; exact hf
    ·show f id = iI r.e.upd id (f' id)
     rw [xQ hno]; exact hf
    ·exact hf
theorem qN {D : Nat -> Bool} {id : Nat} (l : List Rec) (j : Nat) (f : Nat -> Option Entry) (h : ∀ i r, l[i]? = some r -> D (j + i) = true -> ∀ p ∈ r.e.upd, p.1 ≠ id) : gAt D j l f id = f id := by
 rw [lY (D' := fun _ => false) l j f f rfl (fun i r hi hne => h i r hi (by simpa using hne))]
 clear h
 induction l generalizing j f with
 | nil => rfl
 | cons r l ih => simp only [gAt]; rw [ih]; simp
theorem NM {D D' : Nat -> Bool} {k : Nat} {recs : List Rec} {r : Rec} {f : Nat -> Option Entry} (hr : recs[k]? = some r) (hk : D k = false) (hk' : D' k = true) (hD : ∀ j, j ≠ k -> D' j = D j)
 (O9 : ∀ j rj, k < j -> recs[j]? = some rj -> D j = true -> ∀ p ∈ rj.e.upd, ∀ q ∈ r.e.upd, p.1 ≠ q.1) (id : Nat) : gAt D' 0 recs f id = iI r.e.upd id (gAt D 0 recs f id) := by
 obtain ⟨hlt, hrk⟩ := List.getElem?_eq_some_iff.1 hr
 have hsplit : recs = recs.take k ++ (r :: recs.drop (k + 1)) := by
  conv => lhs; rw [<- List.take_append_drop k recs, List.drop_eq_getElem_cons hlt, hrk]
 have hlen : (recs.take k).length = k := by rw [List.length_take]; omega
 by_cases hin : ∃ q ∈ r.e.upd, q.1 = id
 ·obtain ⟨q, hq, hqi⟩ := hin
  have hpost : ∀ (E : Nat -> Bool), (∀ j, j ≠ k -> E j = D j) -> ∀ g, gAt E (k + 1) (recs.drop (k + 1)) g id = g id := by
   intro E hE g
   refine qN _ _ _ fun i ri hi hd p hp => ?_
   rw [List.getElem?_drop] at hi
   rw [hE _ (by omega)] at hd
   have := O9 (k + 1 + i) ri (by omega) hi hd p hp q hq
   rw [hqi] at this; exact this
  rw [hsplit, pJ, pJ, hlen, Nat.zero_add]
  simp only [gAt]
  rw [hpost D' hD, hpost D (fun _ _ => rfl), if_pos hk', if_neg (by rw [hk]; simp)]
  exact J6 ⟨q, hq, hqi⟩
 ·have hno : ∀ p ∈ r.e.upd, p.1 ≠ id := fun p hp he => hin ⟨p, hp, he⟩
  rw [xQ hno]
  refine lY recs 0 f f rfl fun i ri hi hne => ?_
  rw [Nat.zero_add] at hne
  by_cases hik : i = k
  ·subst hik; rw [hr] at hi; cases hi; exact hno
  ·exact absurd (hD i hik) hne
theorem vM (m : Nat) : ∀ (l : List Rec) (j : Nat) (s : St) (id : Nat), (bY m j l s).M.get id = gAt (aZ m) j l s.M.get id
 | [], _, _, _ => rfl
 | r :: l, j, s, id => by
   simp only [bY, gAt]
   rw [vM m l]
   refine lY l (j + 1) _ _ ?_ (fun _ _ _ h => absurd rfl h)
   cases hb : aZ m j with
   | false => rfl
   | true =>
     simp only [cond_true, if_true]
     rw [<- Ah]
     unfold addRec
     split
     ·rfl
     ·split <;> rfl
theorem Dz {ids : List Nat} {id : Nat} {e : Entry} : ∀ {M : Store}, (M.del ids).get id = some e -> mem1 id ids = false /\ M.get id = some e
 | [], h => by cases h
 | (i, x) :: r, h => by
   simp only [Store.del] at h
   cases hm : mem1 i ids with
   | true =>
     rw [hm] at h
     simp only [cond_true] at h
     obtain ⟨h1, h2⟩ := Dz h
     refine ⟨h1, ?_⟩
     simp only [Store.get]
     cases hb : Nat.beq i id with
     | true => rw [Nat.eq_of_beq_eq_true hb] at hm; rw [h1] at hm; cases hm
     | false => exact h2
   | false =>
     rw [hm] at h
     simp only [cond_false, Store.get] at h ⊢
     cases hb : Nat.beq i id with
     | true => rw [hb] at h; rw [<- Nat.eq_of_beq_eq_true hb]; exact ⟨hm, h⟩
     | false => rw [hb] at h; exact Dz h
theorem D9 {masks : List Nat} {m k : Nat} : ∀ {U : List (List Nat)} {j i id : Nat} {u : List Nat}, U[i]? = some u -> id ∈ u -> j + i ≠ k -> aZ m (j + i) = false -> (∀ mj, masks[j + i]? = some mj -> aZ mj k = false) -> id ∈ kZ masks m k j U
 | [], j, i, id, u, h, _, _, _, _ => by simp at h
 | v :: U, j, i, id, u, h, hid, hne, hb, hm => by
   unfold kZ
   cases i with
   | zero =>
     simp at h; subst h
     simp only [Nat.add_zero] at hne hb hm
     rw [kL hne, hb]
     cases hmj : masks[j]? with
     | none => simp [hid]
     | some mj => simp [hm mj hmj, hid]
   | succ i =>
     have := D9 (masks := masks) (m := m) (k := k) (U := U) (j := j + 1) (i := i) (by simpa using h) hid (by omega) (by rw [show j + 1 + i = j + (i + 1) by omega]; exact hb) (by rw [show j + 1 + i = j + (i + 1) by omega]; exact hm)
     cases hc : (Nat.beq j k || aZ m j || (match masks[j]? with | some mj => aZ mj k | none => false)) with
     | true => exact this
     | false => exact List.mem_append.2 (.inr this)
theorem qO {s : St} {r : Rec} : (r.dst = none /\ (addRec s r).env = s.env /\ (addRec s r).aY = s.aY) ∨
 (∃ d, r.dst = some d /\ (r.cs = none ∨ r.cs = some []) /\ (addRec s r).env = eu s.env d (some r.e.sv) /\ (addRec s r).aY = s.aY) ∨
 ∃ d cs, r.dst = some d /\ r.cs = some cs /\ (addRec s r).env = eu s.env d none /\ (addRec s r).aY = (d, cs, r.e.sv) :: s.aY := by
 unfold addRec
 cases hd : r.dst with
 | none => exact .inl ⟨rfl, rfl, rfl⟩
 | some d =>
   cases hc : r.cs with
   | none => exact .inr (.inl ⟨d, rfl, .inl rfl, rfl, rfl⟩)
   | some cs =>
     cases cs with
     | nil => exact .inr (.inl ⟨d, rfl, .inr rfl, rfl, rfl⟩)
     | cons x cs => exact .inr (.inr ⟨d, _, rfl, rfl, rfl, rfl⟩)
theorem J7 (s : St) (r : Rec) : (addRec s r).env.length = s.env.length := by
 rcases qO (s := s) (r := r) with ⟨_, h, _⟩ | ⟨d, _, _, h, _⟩ | ⟨d, _, _, _, h, _⟩ <;> rw [h] <;> first | rfl | exact gq _ _ _
theorem qP (m : Nat) : ∀ (l : List Rec) (j : Nat) (s : St), (bY m j l s).env.length = s.env.length
 | [], _, _ => rfl
 | r :: l, j, s => by
   simp only [bY]
   rw [qP m l]
   cases aZ m j with
   | false => rfl
   | true => exact J7 s r
theorem xR {m : Nat} : ∀ {l : List Rec} {j : Nat} {s : St} {x : Nat} {v : SV}, bG (bY m j l s).env x = some v -> bG s.env x = some v ∨ ∃ i r, l[i]? = some r /\ aZ m (j + i) = true /\ r.dst = some x /\ v = r.e.sv /\ (r.cs = none ∨ r.cs = some [])
 | [], _, _, _, _, h => .inl h
 | r :: l, j, s, x, v, h => by
   simp only [bY] at h
   rcases xR h with h | ⟨i, r', h1, h2, h3⟩
   ·cases hb : aZ m j with
    | false => rw [hb] at h; exact .inl h
    | true =>
      rw [hb] at h
      simp only [cond_true] at h
      rcases qO (s := s) (r := r) with ⟨_, e, _⟩ | ⟨d, hd, hc, e, _⟩ | ⟨d, _, hd, _, e, _⟩
      ·rw [e] at h; exact .inl h
      ·rw [e, iG] at h
       by_cases hx : x = d
       ·rw [if_pos hx] at h
        split at h
        ·cases h
         exact .inr ⟨0, r, by simp, hb, by rw [hx]; exact hd, rfl, hc⟩
        ·cases h
       ·rw [if_neg hx] at h; exact .inl h
      ·rw [e, iG] at h
       by_cases hx : x = d
       ·rw [if_pos hx] at h; split at h <;> cases h
       ·rw [if_neg hx] at h; exact .inl h
   ·exact .inr ⟨i + 1, r', by simpa using h1, by rw [show j + (i + 1) = j + 1 + i by omega]; exact h2, h3⟩
theorem o7 {m : Nat} : ∀ {l : List Rec} {j : Nat} {s : St} {y}, y ∈ (bY m j l s).aY -> y ∈ s.aY ∨ ∃ i r, l[i]? = some r /\ aZ m (j + i) = true /\ r.dst = some y.1 /\ r.cs = some y.2.1 /\ y.2.2 = r.e.sv
 | [], _, _, _, h => .inl h
 | r :: l, j, s, y, h => by
   simp only [bY] at h
   rcases o7 h with h | ⟨i, r', h1, h2, h3⟩
   ·cases hb : aZ m j with
    | false => rw [hb] at h; exact .inl h
    | true =>
      rw [hb] at h
      simp only [cond_true] at h
      rcases qO (s := s) (r := r) with ⟨_, _, e⟩ | ⟨d, hd, hc, _, e⟩ | ⟨d, cs, hd, hc, _, e⟩
      ·rw [e] at h; exact .inl h
      ·rw [e] at h; exact .inl h
      ·rw [e] at h
       rcases List.mem_cons.1 h with rfl | h
       ·exact .inr ⟨0, r, by simp, hb, hd, hc, rfl⟩
       ·exact .inl h
   ·exact .inr ⟨i + 1, r', by simpa using h1, by rw [show j + (i + 1) = j + 1 + i by omega]; exact h2, h3⟩
theorem xU : ∀ {ds : List Nat} {env : List (Option SV)} {x : Nat} {v : SV}, bG (mF ds env) x = some v -> bG env x = some v /\ x ∉ ds
 | [], env, x, v, h => ⟨h, by simp⟩
 | d :: r, env, x, v, h => by
   simp only [mF] at h
   obtain ⟨h1, h2⟩ := xU h
   rw [iG] at h1
   by_cases hx : x = d
   ·rw [if_pos hx] at h1; split at h1 <;> cases h1
   ·rw [if_neg hx] at h1
    exact ⟨h1, by simp [hx, h2]⟩
theorem rU : ∀ (ds : List Nat) (env : List (Option SV)), (mF ds env).length = env.length
 | [], _ => rfl
 | d :: r, env => by simp only [mF]; rw [rU, gq]
theorem GI {m d : Nat} : ∀ {l : List Rec} {j : Nat}, AU m d j l = true -> ∃ i r, l[i]? = some r /\ aZ m (j + i) = true /\ r.dst = some d
 | [], j, h => by cases h
 | r :: l, j, h => by
   unfold AU at h
   cases hc : (aZ m j && Oh d r.dst) with
   | true =>
     simp only [Bool.and_eq_true] at hc
     refine ⟨0, r, by simp, hc.1, ?_⟩
     cases hd : r.dst with
     | none => rw [hd] at hc; cases hc.2
     | some x => rw [hd] at hc; rw [Nat.eq_of_beq_eq_true hc.2]
   | false =>
     rw [hc] at h
     obtain ⟨i, r', h1, h2, h3⟩ := GI h
     exact ⟨i + 1, r', by simpa using h1, by rw [show j + (i + 1) = j + 1 + i by omega]; exact h2, h3⟩
theorem DC {m : Nat} {acc : List Rec} : ∀ {cs : List (Nat × Bool)}, C9 m acc cs = true -> ∀ x ∈ cs, ∃ i r, acc[i]? = some r /\ aZ m i = true /\ r.dst = some x.1
 | [], _, x, hx => by cases hx
 | y :: cs, h, x, hx => by
   unfold C9 at h
   cases hd : AU m y.1 0 acc with
   | false => rw [hd] at h; cases h
   | true =>
     rw [hd] at h
     rcases List.mem_cons.1 hx with rfl | hx
     ·obtain ⟨i, r, h1, h2, h3⟩ := GI hd
      exact ⟨i, r, h1, by rw [Nat.zero_add] at h2; exact h2, h3⟩
     ·exact DC h x hx
theorem GK {c : Cfg} {ops : List Oper} {base : St} {masks : List Nat} {U : List (List Nat)} {nid : Nat} : ∀ {l : List Oper} {k : Nat} {acc recs : List Rec}, EU c ops base masks U nid l k acc = some recs -> acc.length = k ->
 recs.length = k + l.length /\ recs.take k = acc /\ ∀ i o, l[i]? = some o -> ∃ m u r, masks[k + i]? = some m /\ U[k + i]? = some u /\ recs[k + i]? = some r /\ yO c ops (CZ (wipe ops masks (k + i) base) masks U (recs.take (k + i)) m (k + i)) (nid + 8 * (k + i)) o = some r /\
  (∀ p ∈ r.e.upd, p.1 ∈ u) /\ (∀ cs, r.cs = some cs -> C9 m (recs.take (k + i)) cs = true) /\ ∀ p ∈ r.e.upd, p.1 < nid ∨ nid + 8 * (k + i) <= p.1 ∨ aZ m ((p.1 - nid) / 8) = true
 | [], k, acc, recs, h, hl => by
   cases h
   exact ⟨by simp [hl], by rw [<- hl]; simp, fun i o hi => by simp at hi⟩
 | o :: r, k, acc, recs, h, hl => by
   unfold EU at h
   split at h
   ·rename_i m u hm hu
    split at h
    ·rename_i rc hrc
     cases hb : (allIn u (rc.e.upd.map (·.1)) && (MX m acc rc.cs && wP m nid (nid + 8 * k) (rc.e.upd.map (·.1)))) with
     | false => rw [hb] at h; cases h
     | true =>
       rw [hb] at h
       simp only [Bool.and_eq_true] at hb
       obtain ⟨h1, h2, h3⟩ := GK (l := r) h (by simp [hl])
       have hk : recs[k]? = some rc := by
        have : (recs.take (k + 1))[k]? = some rc := by rw [h2, <- hl]; simp
        rw [List.getElem?_take] at this
        simpa using this
       have htk : recs.take k = acc := by
        have := congrArg (List.take k) h2
        rw [List.take_take, Nat.min_eq_left (by omega)] at this
        rw [this, <- hl]; simp
       refine ⟨by rw [h1]; simp; omega, htk, fun i o' hi => ?_⟩
       cases i with
       | zero =>
         simp at hi; subst hi
         refine ⟨m, u, rc, hm, hu, hk, by rw [Nat.add_zero, htk]; exact hrc, fun p hp => ?_, fun cs hcs => ?_, fun p hp => GL hb.2.2 _ (List.mem_map.2 ⟨p, hp, rfl⟩)⟩
         ·exact Ea hb.1 _ (List.mem_map.2 ⟨p, hp, rfl⟩)
         ·rw [Nat.add_zero, htk]
          have := hb.2.1
          rw [hcs] at this; exact this
       | succ i =>
         have := h3 i o' (by simpa using hi)
         rw [show k + 1 + i = k + (i + 1) by omega] at this
         exact this
    ·cases h
   ·cases h
where
 GL {m n0 n : Nat} : ∀ {l : List Nat}, wP m n0 n l = true -> ∀ x ∈ l, x < n0 ∨ n <= x ∨ aZ m ((x - n0) / 8) = true
  | [], _, x, hx => by cases hx
  | y :: l, h, x, hx => by
    unfold wP at h
    cases hm : (Nat.blt y n0 || Nat.ble n y || aZ m (Nat.div (Nat.sub y n0) 8)) with
    | false => rw [hm] at h; cases h
    | true =>
      rw [hm] at h
      rcases List.mem_cons.1 hx with rfl | hx
      ·simp only [Bool.or_eq_true, Nat.blt_eq, Nat.ble_eq] at hm
       exact or_assoc.1 hm
      ·exact GL h x hx
 Ea {ids : List Nat} : ∀ {l : List Nat}, allIn ids l = true -> ∀ x ∈ l, x ∈ ids
  | [], _, x, hx => by cases hx
  | y :: l, h, x, hx => by
    unfold allIn at h
    cases hm : mem1 y ids with
    | false => rw [hm] at h; cases h
    | true =>
      rw [hm] at h
      rcases List.mem_cons.1 hx with rfl | hx
      ·exact jh.1 hm
      ·exact Ea h x hx
theorem xW {k : Nat} : ∀ {l : List Oper} {masks : List Nat} {q : Nat} {o : Oper} {d : Nat}, l[q]? = some o -> o.dst = some d -> d ∉ mG k l masks -> ∃ m, masks[q]? = some m /\ aZ m k = true
 | [], _, q, o, d, h, _, _ => by simp at h
 | x :: r, [], 0, o, d, h, hd, hn => by
   simp at h; subst h
   exact absurd (by simp [mG, hd]) hn
 | x :: r, [], q + 1, o, d, h, hd, hn => by
   have h : r[q]? = some o := by simpa using h
   obtain ⟨m, h1, _⟩ := xW (k := k) (masks := []) h hd (fun hh => hn (by simp only [mG]; exact List.mem_append.2 (.inr hh)))
   simp at h1
 | x :: r, m :: ms, 0, o, d, h, hd, hn => by
   simp at h; subst h
   refine ⟨m, rfl, ?_⟩
   cases hb : aZ m k with
   | true => rfl
   | false => exact absurd (by simp [mG, hb, hd]) hn
 | x :: r, m :: ms, q + 1, o, d, h, hd, hn => by
   have h : r[q]? = some o := by simpa using h
   have hn' : d ∉ mG k r ms := fun hh => hn (by
    simp only [mG]
    cases aZ m k with
    | true => exact hh
    | false => exact List.mem_append.2 (.inr hh))
   simpa using xW (masks := ms) h hd hn'
end Go.Vc
set_option linter.unusedVariables false
set_option linter.unusedSimpArgs false
namespace Go.Vc
theorem Ext.congr {ι ι' : Gh} {w w' : World} {M M' N N' : Store} (x : Ext ι w M ι' w' M') (h : ∀ id, N.get id = M.get id) (h' : ∀ id, N'.get id = M'.get id) : Ext ι w N ι' w' N' :=
 ⟨x.S, x.heap, fun id e he => x.base id e (by rw [<- h]; exact he), fun id e he => by
   obtain ⟨e', h1, h2⟩ := x.ev id e (by rw [<- h]; exact he)
   exact ⟨e', by rw [h']; exact h1, h2⟩⟩
theorem Inv.turned {c : Ctx} {ι : Gh} {w w' : World} {M M' : Store} (I : Inv c ι w M) (h : ∀ id, M'.get id = M.get id) (ho : w'.os = w.os) (ht : w'.tape = w.tape) (hu : w'.output = w.output) (hh : w'.heap = w.heap) : Inv c ι w' M' := by
 have x : Ext ι w M ι w' M' := ⟨fun _ h => h, fun b _ => by rw [hh], fun _ _ _ => ⟨rfl, rfl⟩, fun id e he => ⟨e, by rw [h]; exact he, Ev.refl e⟩⟩
 refine ⟨⟨ho.trans I.kept.os, ht.trans I.kept.tape, hu.trans I.kept.output, by rw [hh]; exact I.kept.size, fun b hb hO => by rw [hh]; exact I.kept.block b hb hO⟩, fun id e he => ?_, fun i j ei ej k hi hj => ?_, fun i e k hi => ?_, fun b hb => by rw [hh]; exact I.stb b hb, I.src⟩
 ·rw [h] at he
  exact bH.mono x he (fun _ _ _ => by rw [hh]) (I.ents id e he)
 ·rw [h] at hi hj; exact I.dis i j ei ej k hi hj
 ·rw [h] at hi; exact I.own i e k hi
theorem Ext.turned {ι : Gh} {w w' : World} {M M' : Store} (h : ∀ id, M'.get id = M.get id) (hh : w'.heap = w.heap) : Ext ι w M ι w' M' :=
 ⟨fun _ h => h, fun b _ => by rw [hh], fun _ _ _ => ⟨rfl, rfl⟩, fun id e he => ⟨e, by rw [h]; exact he, Ev.refl e⟩⟩
theorem Jf {s : St} {M' : Store} : ∀ {k : List (Nat × Bool)} {p : Prop}, under { s with M := M' } k p = under s k p
 | [], _ => rfl
 | (d, b) :: r, p => by
   unfold under
   rw [Jf (k := r)]
   rfl
theorem BZ {s : St} {M' : Store} {cs : List (Nat × Bool)} : ∀ {ps : List Prop}, jd { s with M := M' } cs ps = jd s cs ps
 | [] => rfl
 | p :: r => by
   unfold jd
   rw [Jf, BZ (ps := r)]
theorem nJ {c : Cfg} {ops : List Oper} {s : St} {nid : Nat} {o : Oper} {r : Rec} (h : yO c ops s nid o = some r) : r.dst = o.dst /\
 ((∃ cs e, iV ops s o.guard = some (some cs) /\ jX c s cs nid o = some e /\ r.cs = some cs /\ r.e.sv = e.sv /\ r.e.upd = e.upd /\ (cs = [] /\ r.e.pre = e.pre ∨ e.upd = [] /\ jd s cs e.pre = some r.e.pre)) ∨
   (iV ops s o.guard = some none /\ r.cs = none /\ r.e.sv = .tup [] /\ r.e.upd = [])) := by
 unfold yO at h
 split at h
 ·rename_i cs hc
  split at h
  ·rename_i e he
   split at h
   ·cases h
    exact ⟨rfl, .inl ⟨[], e, hc, he, rfl, rfl, rfl, .inl ⟨rfl, rfl⟩⟩⟩
   ·rename_i x l hu
    split at h
    ·rename_i ps hps
     cases h
     exact ⟨rfl, .inl ⟨_, e, hc, he, rfl, rfl, hu.symm, .inr ⟨hu, hps⟩⟩⟩
    ·cases h
   ·cases h
  ·cases h
 ·rename_i hc
  cases h
  exact ⟨rfl, .inr ⟨hc, rfl, rfl, rfl⟩⟩
 ·cases h
abbrev OB (ops : List Oper) (s : St2) : St := ⟨mF (dstsOf ops) s.s.env, [], s.s.M⟩
abbrev Cb (ops : List Oper) (masks : List Nat) (k : Nat) (s : St2) : St := wipe ops masks k ⟨s.s.env, [], s.s.M⟩
structure y8 (cfg : Cfg) (ops : List Oper) (s : St2) (masks : List Nat) (U : List (List Nat)) (recs : List Rec) : Prop where
 aY : s.s.aY = []
 mask : xP ops masks
 PL : masks.length = ops.length
 rlen : recs.length = ops.length
 each : ∀ (i : Nat) (o : Oper), ops[i]? = some o -> ∃ m u r, masks[i]? = some m /\ U[i]? = some u /\ recs[i]? = some r /\ yO cfg ops (CZ (Cb ops masks i s) masks U (recs.take i) m i) (s.next + 8 * i) o = some r /\
  (∀ p ∈ r.e.upd, p.1 ∈ u) /\ (∀ cs, r.cs = some cs -> C9 m (recs.take i) cs = true) /\ ∀ p ∈ r.e.upd, p.1 < s.next ∨ s.next + 8 * i <= p.1 ∨ aZ m ((p.1 - s.next) / 8) = true
 pairs : ∀ (j mj : Nat) (uj : List Nat) (k : Nat) (uk : List Nat), k < j -> masks[j]? = some mj -> U[j]? = some uj -> U[k]? = some uk -> aZ mj k = true ∨ ∀ x ∈ uk, x ∉ uj
 dst : ∀ (i j : Nat) (oi oj : Oper) (d : Nat), ops[i]? = some oi -> ops[j]? = some oj -> oi.dst = some d -> oj.dst = some d -> i = j
 inb : ∀ (i : Nat) (o : Oper) (d : Nat), ops[i]? = some o -> o.dst = some d -> d < s.s.env.length
 mem : ∀ (i : Nat) (o : Oper) (d : Nat), ops[i]? = some o -> o.dst = some d -> d ∈ dstsOf ops
section
variable {P : Program} {c : Ctx} {cfg : Cfg} {ops : Array Oper} {s : St2} {masks : List Nat} {U : List (List Nat)} {recs : List Rec}
abbrev Dl (listed : Array Bool) : Nat -> Bool := fun j => listed.getD j false
structure J (P : Program) (c : Ctx) (cfg : Cfg) (ops : Array Oper) (s : St2) (recs : List Rec) (ι0 : Gh) (w0 : World) (a0 : Act) (listed : Array Bool) (ι : Gh) (w : World) (a : Act) (M : Store) : Prop where
 size : listed.size = ops.size
 ext : Ext ι0 w0 s.s.M ι w M
 inv : Inv c ι w M
 mem : ∀ id, M.get id = gAt (Dl listed) 0 recs s.s.M.get id
 recs : ∀ j r d, recs[j]? = some r -> Dl listed j = true -> r.dst = some d -> (r.cs = none -> a.eval (.tmp d) = undef) /\ ∀ cs, r.cs = some cs -> (Holds a cs -> ak c ι w M r.e.sv (a.eval (.tmp d))) /\ (¬ Holds a cs -> a.eval (.tmp d) = undef)
 base : ∀ i v, bG s.s.env i = some v -> (∀ (q : Nat) (o : Oper), ops.toList[q]? = some o -> o.dst = some i -> Dl listed q = false) -> ak c ι w M v (a.eval (.tmp i))
 closed : ∀ j o, Dl listed j = true -> ops.toList[j]? = some o -> ∀ p ∈ mD o, Dl listed p = true
 len : s.s.env.length <= a.tmps.size
 defers : a.defers = a0.defers
 const : aN P cfg c ι w
variable {ι0 : Gh} {w0 : World} {a0 : Act} {listed : Array Bool} {ι : Gh} {w : World} {a : Act} {M : Store}
theorem J.rep (K : y8 cfg ops.toList s masks U recs) (j : J P c cfg ops s recs ι0 w0 a0 listed ι w a M) {m k i : Nat} {E : List (Option SV)} (hE : ∀ x v, bG E x = some v -> ak c ι w M v (a.eval (.tmp x))) (hl : E.length = s.s.env.length) (hm : ∀ p, aZ m p = true -> Dl listed p = true) :
 bC c ι w { (CZ ⟨E, [], s.s.M⟩ masks U (recs.take k) m i) with M := M } a := by
 refine ⟨?_, fun x v hx => ?_, fun y hy hk => ?_, fun y hy hk => ?_⟩
 ·show (bY m 0 (recs.take k) ⟨E, [], s.s.M⟩).env.length <= _
  rw [qP]
  show E.length <= _
  rw [hl]; exact j.len
 ·rcases xR (show bG (bY m 0 (recs.take k) ⟨E, [], s.s.M⟩).env x = some v from hx) with h | ⟨q, r, h1, h2, h3, h4, h5⟩
  ·exact hE x v h
  ·rw [Nat.zero_add] at h2
   have hr : recs[q]? = some r := by rw [List.getElem?_take] at h1; exact (by split at h1 <;> first | exact h1 | cases h1)
   obtain ⟨k1, k2⟩ := j.recs q r x hr (hm q h2) h3
   rcases h5 with h5 | h5
   ·have ho := (List.getElem?_eq_some_iff.1 hr).1
    have hq : ops.toList[q]? = some (ops.toList[q]'(by rw [<- K.rlen]; exact ho)) := List.getElem?_eq_getElem _
    obtain ⟨m', u', r', _, _, e3, e4, _⟩ := K.each q _ hq
    rw [hr] at e3; cases e3
    rcases (nJ e4).2 with ⟨cs, e, _, _, g, _⟩ | ⟨_, _, g, _⟩
    ·rw [h5] at g; cases g
    ·rw [h4, g, k1 h5]; exact ⟨[], rfl, rfl⟩
   ·rw [h4]; exact (k2 [] h5).1 (fun _ hx => by cases hx)
 ·rcases o7 (show y ∈ (bY m 0 (recs.take k) ⟨E, [], s.s.M⟩).aY from hy) with h | ⟨q, r, h1, h2, h3, h4, h5⟩
  ·cases h
  ·rw [Nat.zero_add] at h2
   have hr : recs[q]? = some r := by rw [List.getElem?_take] at h1; exact (by split at h1 <;> first | exact h1 | cases h1)
   rw [h5]; exact ((j.recs q r _ hr (hm q h2) h3).2 _ h4).1 hk
 ·rcases o7 (show y ∈ (bY m 0 (recs.take k) ⟨E, [], s.s.M⟩).aY from hy) with h | ⟨q, r, h1, h2, h3, h4, h5⟩
  ·cases h
  ·rw [Nat.zero_add] at h2
   have hr : recs[q]? = some r := by rw [List.getElem?_take] at h1; exact (by split at h1 <;> first | exact h1 | cases h1)
   exact ((j.recs q r _ hr (hm q h2) h3).2 _ h4).2 hk
theorem J.step (tab : aH P cfg) (sums : fE P cfg) (K : y8 cfg ops.toList s masks U recs) (hfr : ∀ q, s.next <= q -> s.s.M.get q = none) (hp : ∀ r ∈ recs, ∀ p ∈ r.e.pre, p) (j : J P c cfg ops s recs ι0 w0 a0 listed ι w a M)
 {i : Nat} (hi : i ∈ Region.ready .any ops listed) {next : Act -> World -> Prop} (hn : ∀ ι' w' a' M', J P c cfg ops s recs ι0 w0 a0 (listed.setIfInBounds i true) ι' w' a' M' -> next a' w') : wpO P ops i next a w := by
 obtain ⟨hun, o, ho, hall⟩ := mem_ready.1 hi
 have hol : ops.toList[i]? = some o := by simpa using ho
 have hlt : i < ops.size := (Array.getElem?_eq_some_iff.1 ho).1
 have hil : i < listed.size := by rw [j.size]; exact hlt
 have hDi : Dl listed i = false := by
  have := hun
  simp only [Dl, Array.getD_eq_getD_getElem?, Array.getElem?_eq_getElem hil] at this ⊢
  exact this
 obtain ⟨m, u, r, e1, e2, e3, e4, e5, e6, e7⟩ := K.each i o hol
 have OC : ∀ p ∈ mD o, Dl listed p = true := by
  intro p hp
  obtain ⟨e, he, rfl⟩ := List.mem_map.1 hp
  obtain ⟨he1, he2⟩ := List.mem_filter.1 he
  exact hall e (by simpa using he1) he2
 have hclosed : ∀ k ok mk, ops.toList[k]? = some ok -> masks[k]? = some mk -> (∀ p ∈ mD ok, Dl listed p = true) -> ∀ p, aZ mk p = true -> Dl listed p = true :=
  zC (D := fun p => Dl listed p = true) K.mask j.closed
 have J8 := hclosed i o m hol e1 OC
 have F := j.rep K (k := i) (i := i) (E := mF (mG i ops.toList masks) s.s.env) (fun x v hx => by
  obtain ⟨g1, g2⟩ := xU hx
  refine j.base x v g1 fun q oq hq hd => ?_
  obtain ⟨mq, k1, k2⟩ := xW hq hd g2
  cases hDq : Dl listed q with
  | false => rfl
  | true =>
    have := hclosed q oq mq hq k1 (j.closed q _ hDq hq) i k2
    rw [hDi] at this; cases this) (rU _ _) J8
 have hle : MLe (CZ (Cb ops.toList masks i s) masks U (recs.take i) m i).M M := by
  intro id e he
  obtain ⟨d1, d2⟩ := Dz (show (Store.del (bY m 0 (recs.take i) (Cb ops.toList masks i s)).M (kZ masks m i 0 U)).get id = some e from he)
  rw [vM] at d2
  rw [j.mem, <- d2]
  have hsp : recs = recs.take i ++ recs.drop i := (List.take_append_drop i recs).symm
  have hlen : (recs.take i).length = i := by rw [List.length_take, K.rlen]; simp; omega
  have s1 : gAt (aZ m) 0 (recs.take i) (Cb ops.toList masks i s).M.get id = gAt (aZ m) 0 recs s.s.M.get id := by
   have happ := pJ (aZ m) (recs.take i) (recs.drop i) 0 s.s.M.get
   rw [<- hsp] at happ
   rw [happ]
   refine (qN _ _ _ fun q rq hq hb => ?_).symm
   have := NK K.mask hol e1 _ hb
   rw [hlen] at this; omega
  rw [s1]
  refine lY recs 0 _ _ rfl fun q rq hq hne => ?_
  rw [Nat.zero_add] at hne
  intro p hpq hpi
  have vN := (List.getElem?_eq_some_iff.1 hq).1
  have hoq : ops.toList[q]? = some (ops.toList[q]'(by rw [<- K.rlen]; exact vN)) := List.getElem?_eq_getElem _
  obtain ⟨mq, uq, rq', q1, q2, q3, _, q5, _⟩ := K.each q _ hoq
  rw [hq] at q3; cases q3
  have hbq : aZ m q = false := by
   cases hb : aZ m q with
   | false => rfl
   | true => rw [hb, J8 q hb] at hne; exact absurd rfl hne
  have hDq : Dl listed q = true := by
   cases hd : Dl listed q with
   | true => rfl
   | false => rw [hd, hbq] at hne; exact absurd rfl hne
  have hqi : q ≠ i := fun hh => by rw [hh, hDi] at hDq; cases hDq
  have hmem : id ∈ kZ masks m i 0 U := by
   refine D9 (i := q) q2 (by rw [<- hpi]; exact q5 p hpq) (by omega) (by rw [Nat.zero_add]; exact hbq) fun mj hmj => ?_
   rw [Nat.zero_add, q1] at hmj; cases hmj
   cases hb : aZ mq i with
   | false => rfl
   | true =>
     have := hclosed q _ mq hoq q1 (j.closed q _ hDq hoq) i hb
     rw [hDi] at this; cases this
  rw [jh.2 hmem] at d1; cases d1
 have hbel : below (s.next + 8 * i + 8) r.e.upd = true := by
  rcases (nJ e4).2 with ⟨cs, e, _, he, _, _, hu, _⟩ | ⟨_, _, _, hu⟩
  ·rw [hu]; exact zu he
  ·rw [hu]; rfl
 have Pe : ∀ q rq, recs[q]? = some rq -> ∀ p ∈ rq.e.upd, p.1 < s.next + 8 * q + 8 /\ (p.1 < s.next ∨ s.next + 8 * q <= p.1 ∨ (Dl listed q = true -> Dl listed ((p.1 - s.next) / 8) = true)) := by
  intro q rq hq p hpq
  have vN := (List.getElem?_eq_some_iff.1 hq).1
  have hoq : ops.toList[q]? = some (ops.toList[q]'(by rw [<- K.rlen]; exact vN)) := List.getElem?_eq_getElem _
  obtain ⟨mq, uq, rq', q1, q2, q3, q4, q5, _, q7⟩ := K.each q _ hoq
  rw [hq] at q3; cases q3
  refine ⟨?_, (q7 p hpq).imp_right fun h => h.imp_right fun h hDq => hclosed q _ mq hoq q1 (j.closed q _ hDq hoq) _ h⟩
  have hb : below (s.next + 8 * q + 8) rq.e.upd = true := by
   rcases (nJ q4).2 with ⟨cs, e, _, he, _, _, hu, _⟩ | ⟨_, _, _, hu⟩
   ·rw [hu]; exact zu he
   ·rw [hu]; rfl
  exact Eb hb p hpq
 have hfree : ∀ q, s.next + 8 * i <= q -> q < s.next + 8 * i + 8 -> M.get q = none := by
  intro q h1 h2
  rw [j.mem, qN]
  ·exact hfr q (by omega)
  ·intro t rt ht hd p hpt hpq
   rw [Nat.zero_add] at hd
   have hti : t ≠ i := fun hh => by rw [hh, hDi] at hd; cases hd
   obtain ⟨g1, g2⟩ := Pe t rt ht p hpt
   rcases g2 with g2 | g2 | g2
   ·omega
   ·omega
   ·have g3 := g2 hd
    have : (p.1 - s.next) / 8 = i := by omega
    rw [this, hDi] at g3; cases g3
 have MG : ∀ {d}, o.dst = some d -> ∀ q rq d', recs[q]? = some rq -> Dl listed q = true -> rq.dst = some d' -> d' ≠ d := by
  intro d hd q rq d' hq hDq hd' hdd
  have vN := (List.getElem?_eq_some_iff.1 hq).1
  have hoq : ops.toList[q]? = some (ops.toList[q]'(by rw [<- K.rlen]; exact vN)) := List.getElem?_eq_getElem _
  obtain ⟨mq, uq, rq', q1, q2, q3, q4, _⟩ := K.each q _ hoq
  rw [hq] at q3; cases q3
  have hqi : q ≠ i := fun hh => by rw [hh, hDi] at hDq; cases hDq
  exact hqi (K.dst q i _ o d hoq hol ((nJ q4).1 ▸ (by rw [hd', hdd])) hd)
 have hholds : ∀ {v : Value} {q rq cs}, recs[q]? = some rq -> Dl listed q = true -> rq.cs = some cs -> (Holds (a.put o.dst v) cs ↔ Holds a cs) := by
  intro v q rq cs hq hDq hcs
  cases hd : o.dst with
  | none => exact Iff.rfl
  | some d =>
    refine lW fun x hx => ?_
    have vN := (List.getElem?_eq_some_iff.1 hq).1
    have hoq : ops.toList[q]? = some (ops.toList[q]'(by rw [<- K.rlen]; exact vN)) := List.getElem?_eq_getElem _
    obtain ⟨mq, uq, rq', q1, q2, q3, q4, _, q6, _⟩ := K.each q _ hoq
    rw [hq] at q3; cases q3
    obtain ⟨t, rt, t1, t2, t3⟩ := DC (q6 cs hcs) x hx
    have ht : recs[t]? = some rt := by rw [List.getElem?_take] at t1; exact (by split at t1 <;> first | exact t1 | cases t1)
    exact MG hd t rt _ ht (hclosed q _ mq hoq q1 (j.closed q _ hDq hoq) t t2) t3
 have hput : ∀ {v : Value} {d' : Nat}, (∀ d, o.dst = some d -> d' ≠ d) -> (a.put o.dst v).eval (.tmp d') = a.eval (.tmp d') := by
  intro v d' h
  cases hd : o.dst with
  | none => rfl
  | some d => rw [eval_put, if_neg (fun hh => h d hd hh.1)]
 have hset : ∀ q, Dl (listed.setIfInBounds i true) q = (if q = i then true else Dl listed q) := by
  intro q
  by_cases hq : q = i
  ·subst hq
   rw [if_pos rfl]
   simp [Dl, hil]
  ·rw [if_neg hq]
   exact getD_set_ne false (fun hh => hq hh.symm)
 have finish : ∀ (ι' : Gh) (w' : World) (v : Value), Inv c ι' w' (M.aK r.e.upd) -> Ext ι w M ι' w' (M.aK r.e.upd) ->
  (∀ d, o.dst = some d -> (r.cs = none -> v = undef) /\ ∀ cs, r.cs = some cs -> (Holds a cs -> ak c ι' w' (M.aK r.e.upd) r.e.sv v) /\ (¬ Holds a cs -> v = undef)) -> next (a.put o.dst v) w' := by
  intro ι' w' v I' x hv
  refine hn ι' w' _ (M.aK r.e.upd) ⟨by rw [Array.size_setIfInBounds]; exact j.size, j.ext.trans x, I', fun id => ?_, fun q rq d hq hDq hd => ?_, fun q u hq hnd => ?_, fun q oq hDq hoq p hpq => ?_, by rw [Ae]; exact j.len, by rw [put_defers]; exact j.defers, j.const.mono x⟩
  ·rw [Ah, j.mem]
   refine (NM (k := i) e3 hDi (by rw [hset, if_pos rfl]) (fun q hq => by rw [hset, if_neg hq]) (fun q rq hiq hq hDq p hpq t ht => ?_) id).symm
   have vN := (List.getElem?_eq_some_iff.1 hq).1
   have hoq : ops.toList[q]? = some (ops.toList[q]'(by rw [<- K.rlen]; exact vN)) := List.getElem?_eq_getElem _
   obtain ⟨mq, uq, rq', q1, q2, q3, q4, q5, _⟩ := K.each q _ hoq
   rw [hq] at q3; cases q3
   rcases K.pairs q mq uq i u hiq q1 q2 e2 with hb | hb
   ·have := hclosed q _ mq hoq q1 (j.closed q _ hDq hoq) i hb
    rw [hDi] at this; cases this
   ·intro hh
    exact hb t.1 (e5 t ht) (by rw [<- hh]; exact q5 p hpq)
  ·rw [hset] at hDq
   by_cases hqi : q = i
   ·subst hqi
    rw [e3] at hq; cases hq
    have hod : o.dst = some d := by rw [<- (nJ e4).1]; exact hd
    have hsz : d < a.tmps.size := Nat.lt_of_lt_of_le (K.inb q o d hol hod) j.len
    have hev : (a.put o.dst v).eval (.tmp d) = v := by rw [hod, eval_put, if_pos ⟨rfl, hsz⟩]
    rw [hev]
    obtain ⟨h1, h2⟩ := hv d hod
    refine ⟨h1, fun cs hcs => ?_⟩
    have hh : Holds (a.put o.dst v) cs ↔ Holds a cs := by
     rw [hod]
     refine lW fun y hy => ?_
     obtain ⟨t, rt, t1, t2, t3⟩ := DC (e6 cs hcs) y hy
     have ht : recs[t]? = some rt := by rw [List.getElem?_take] at t1; exact (by split at t1 <;> first | exact t1 | cases t1)
     exact MG hod t rt _ ht (J8 t t2) t3
    exact ⟨fun hk => (h2 cs hcs).1 (hh.1 hk), fun hk => (h2 cs hcs).2 (fun hh' => hk (hh.2 hh'))⟩
   ·rw [if_neg hqi] at hDq
    obtain ⟨h1, h2⟩ := j.recs q rq d hq hDq hd
    rw [hput (fun d' hd' => MG hd' q rq d hq hDq hd)]
    refine ⟨h1, fun cs hcs => ?_⟩
    have hh := hholds (v := v) hq hDq hcs
    exact ⟨fun hk => ((h2 cs hcs).1 (hh.1 hk)).mono x, fun hk => (h2 cs hcs).2 (fun hh' => hk (hh.2 hh'))⟩
  ·rw [hput (fun d hd hqd => ?_)]
   ·refine (j.base q u hq fun q' o' ho' hd' => ?_).mono x
    have := hnd q' o' ho' hd'
    rw [hset] at this
    by_cases hh : q' = i
    ·rw [if_pos hh] at this; cases this
    ·rw [if_neg hh] at this; exact this
   ·have := hnd i o hol (by rw [hqd]; exact hd)
    rw [hset, if_pos rfl] at this; cases this
  ·rw [hset] at hDq ⊢
   by_cases hpi : p = i
   ·rw [if_pos hpi]
   ·rw [if_neg hpi]
    by_cases hqi : q = i
    ·subst hqi
     rw [hol] at hoq; cases hoq
     exact OC p hpq
    ·rw [if_neg hqi] at hDq
     exact j.closed q oq hDq hoq p hpq
 unfold wpO
 simp only [ho]
 rcases (nJ e4).2 with ⟨cs, e, hc, he, hrc, hsv, hu, hpre⟩ | ⟨hc, hrc, hsv, hu⟩
 ·have hw := pI F (show iV ops.toList _ o.guard = some (some cs) from hc)
  by_cases hk : Holds a cs
  ·rw [if_pos (hw.2 ⟨cs, rfl, hk⟩)]
   intro Q
   have he' := J5 (M' := M) hle he
   have hpe : ∀ p ∈ e.pre, p := by
    have hpr := hp r (List.mem_of_getElem? e3)
    rcases hpre with ⟨_, hh⟩ | ⟨_, hh⟩
    ·rw [hh] at hpr; exact hpr
    ·exact sG F hk (by rw [BZ]; exact hh) hpr
   refine (nP tab sums (show Inv c ι w ({ (CZ (Cb ops.toList masks i s) masks U (recs.take i) m i) with M := M } : St).M from j.inv) F j.const hk hfree he' hpe).imp fun v w' ι' I' x hv => ?_
   rw [<- hu] at I' x hv
   rw [<- hsv] at hv
   refine finish ι' w' v I' x fun d _ => ⟨fun hh => (by rw [hrc] at hh; cases hh), fun cs' hcs' => ?_⟩
   rw [hrc] at hcs'; cases hcs'
   exact ⟨fun _ => hv, fun hh => absurd hk hh⟩
  ·have hnw : Region.wanted o (yielded ops a.tmps) = false := by
    cases hh : Region.wanted o (yielded ops a.tmps) with
    | false => rfl
    | true => obtain ⟨cs', h1, h2⟩ := hw.1 hh; cases h1; exact absurd h2 hk
   rw [hnw, if_neg (by simp)]
   have hue : r.e.upd = [] := by
    rcases hpre with ⟨hh, _⟩ | ⟨hh, _⟩
    ·exact absurd (by rw [hh]; exact fun x hx => (List.not_mem_nil hx).elim) hk
    ·rw [hu]; exact hh
   refine finish ι w undef (by rw [hue]; exact j.inv) (by rw [hue]; exact Ext.refl _ _ _) fun d _ => ⟨fun _ => rfl, fun cs' hcs' => ?_⟩
   rw [hrc] at hcs'; cases hcs'
   exact ⟨fun hh => absurd hh hk, fun _ => rfl⟩
 ·have hw := pI F (show iV ops.toList _ o.guard = some none from hc)
  have hnw : Region.wanted o (yielded ops a.tmps) = false := by
   cases hh : Region.wanted o (yielded ops a.tmps) with
   | false => rfl
   | true => obtain ⟨cs', h1, h2⟩ := hw.1 hh; cases h1
  rw [hnw, if_neg (by simp)]
  refine finish ι w undef (by rw [hu]; exact j.inv) (by rw [hu]; exact Ext.refl _ _ _) fun d _ => ⟨fun _ => rfl, fun cs' hcs' => ?_⟩
  rw [hrc] at hcs'; cases hcs'
where
 Eb {n : Nat} : ∀ {u : List (Nat × Entry)}, below n u = true -> ∀ p ∈ u, p.1 < n
  | [], _, p, hp => by cases hp
  | x :: u, h, p, hp => by
    unfold below at h
    cases hx : Nat.blt x.1 n with
    | false => rw [hx] at h; cases h
    | true =>
      rw [hx] at h
      rcases List.mem_cons.1 hp with rfl | hp
      ·simpa using hx
      ·exact Eb h p hp
theorem J.any (tab : aH P cfg) (sums : fE P cfg) (K : y8 cfg ops.toList s masks U recs) (hfr : ∀ q, s.next <= q -> s.s.M.get q = none) (hp : ∀ r ∈ recs, ∀ p ∈ r.e.pre, p) {N : Act -> World -> Prop}
 (hn : ∀ (listed : Array Bool) ι w a M, J P c cfg ops s recs ι0 w0 a0 listed ι w a M -> (∀ q, q < ops.size -> Dl listed q = true) -> N a w) :
 ∀ (fuel : Nat) (listed : Array Bool) (ι : Gh) (w : World) (a : Act) (M : Store), J P c cfg ops s recs ι0 w0 a0 listed ι w a M -> ((List.range ops.size).filter fun q => !Dl listed q).length <= fuel -> wpA P ops N fuel listed a w := by
 have none : ∀ (listed : Array Bool) ι w a M, J P c cfg ops s recs ι0 w0 a0 listed ι w a M -> Region.ready .any ops listed = [] -> ∀ q, q < ops.size -> Dl listed q = true := by
  intro listed ι w a M j hr q
  induction q using Nat.strongRecOn with
  | _ q ih =>
    intro hq
    cases hd : Dl listed q with
    | true => rfl
    | false =>
      exfalso
      have hql : q < listed.size := by rw [j.size]; exact hq
      have : q ∈ Region.ready .any ops listed := by
       refine mem_ready.2 ⟨?_, ops[q], Array.getElem?_eq_getElem hq, fun e he hb => ?_⟩
       ·simp only [Dl, Array.getD_eq_getD_getElem?, Array.getElem?_eq_getElem hql] at hd ⊢; exact hd
       ·obtain ⟨m, _, k2, _⟩ := K.mask q ops[q] (by simp [hq])
        have hmem : e.on ∈ mD ops[q] := List.mem_map.2 ⟨e, List.mem_filter.2 ⟨by simpa using he, hb⟩, rfl⟩
        have hlt := (k2 e.on hmem).1
        exact ih e.on hlt (by omega)
      rw [hr] at this; cases this
 intro fuel
 induction fuel with
 | zero =>
   intro listed ι w a M j hc
   have hall : ∀ q, q < ops.size -> Dl listed q = true := by
    intro q hq
    cases hd : Dl listed q with
    | true => rfl
    | false =>
      have : q ∈ (List.range ops.size).filter fun q => !Dl listed q := List.mem_filter.2 ⟨List.mem_range.2 hq, by rw [hd]; rfl⟩
      rw [List.length_eq_zero_iff.1 (Nat.le_zero.1 hc)] at this; cases this
   refine ⟨?_, hn listed ι w a M j hall⟩
   cases hr : Region.ready .any ops listed with
   | nil => rfl
   | cons q l =>
     obtain ⟨hun, o, ho, _⟩ := mem_ready.1 (show q ∈ Region.ready .any ops listed by rw [hr]; simp)
     have hlt := (Array.getElem?_eq_some_iff.1 ho).1
     have hql : q < listed.size := by rw [j.size]; exact hlt
     have := hall q hlt
     simp only [Dl, Array.getD_eq_getD_getElem?, Array.getElem?_eq_getElem hql, Option.getD_some] at this hun
     rw [this] at hun; cases hun
 | succ fuel ih =>
   intro listed ι w a M j hc
   refine ⟨fun hr => hn listed ι w a M j (none listed ι w a M j hr), fun i hi => ?_⟩
   refine j.step tab sums K hfr hp hi fun ι' w' a' M' j' => ih _ ι' w' a' M' j' ?_
   obtain ⟨hun, o, ho, _⟩ := mem_ready.1 hi
   have hlt := (Array.getElem?_eq_some_iff.1 ho).1
   have hil : i < listed.size := by rw [j.size]; exact hlt
   have hDi : Dl listed i = false := by
    have := hun
    simp only [Dl, Array.getD_eq_getD_getElem?, Array.getElem?_eq_getElem hil] at this ⊢
    exact this
   have hlen : ∀ (l : List Nat), i ∈ l -> (l.filter fun q => !Dl (listed.setIfInBounds i true) q).length + 1 <= (l.filter fun q => !Dl listed q).length := by
    have hle : ∀ (l : List Nat), (l.filter fun q => !Dl (listed.setIfInBounds i true) q).length <= (l.filter fun q => !Dl listed q).length := by
     intro l
     induction l with
     | nil => simp
     | cons q l ihl =>
       by_cases hq : q = i
       ·subst hq
        have h1 : Dl (listed.setIfInBounds q true) q = true := by simp [Dl, hil]
        rw [List.filter_cons_of_neg (by rw [h1]; simp), List.filter_cons_of_pos (by rw [hDi]; rfl), List.length_cons]
        omega
       ·have h1 : Dl (listed.setIfInBounds i true) q = Dl listed q := getD_set_ne false (fun hh => hq hh.symm)
        rw [List.filter_cons, List.filter_cons, h1]
        split
        ·rw [List.length_cons, List.length_cons]; omega
        ·exact ihl
    intro l hl
    induction l with
    | nil => cases hl
    | cons q l ihl =>
      by_cases hq : q = i
      ·subst hq
       have h1 : Dl (listed.setIfInBounds q true) q = true := by simp [Dl, hil]
       rw [List.filter_cons_of_neg (by rw [h1]; simp), List.filter_cons_of_pos (by rw [hDi]; rfl), List.length_cons]
       have := hle l
       omega
      ·have h1 : Dl (listed.setIfInBounds i true) q = Dl listed q := getD_set_ne false (fun hh => hq hh.symm)
       have := ihl ((List.mem_cons.1 hl).resolve_left (fun hh => hq hh.symm))
       rw [List.filter_cons, List.filter_cons, h1]
       split
       ·rw [List.length_cons, List.length_cons]; omega
       ·exact this
   have := hlen (List.range ops.size) (List.mem_range.2 hlt)
   omega
theorem Ec {m : Nat} {u : List Nat} : ∀ {l : List (List Nat)} {k : Nat}, pU m u k l = true -> ∀ i v, l[i]? = some v -> aZ m (k + i) = true ∨ ∀ x ∈ v, x ∉ u
 | [], _, _, i, v, h => by simp at h
 | v0 :: l, k, h, i, v, hi => by
   unfold pU at h
   cases hb : (aZ m k || qp u v0) with
   | false => rw [hb] at h; cases h
   | true =>
     rw [hb] at h
     cases i with
     | zero =>
       simp at hi; subst hi
       rw [Bool.or_eq_true] at hb
       exact hb.imp id fun h => GN h
     | succ i =>
       have := Ec (k := k + 1) h i v (by simpa using hi)
       rw [show k + 1 + i = k + (i + 1) by omega] at this; exact this
where
 GN {u : List Nat} : ∀ {v : List Nat}, qp u v = true -> ∀ x ∈ v, x ∉ u
  | [], _, x, hx => by cases hx
  | y :: v, h, x, hx => by
    unfold qp at h
    cases hm : mem1 y u with
    | true => rw [hm] at h; cases h
    | false =>
      rw [hm] at h
      rcases List.mem_cons.1 hx with rfl | hx
      ·intro hu; rw [jh.2 hu] at hm; cases hm
      ·exact GN h x hx
theorem GR {masks : List Nat} {U : List (List Nat)} : ∀ {l : List (List Nat)} {j : Nat}, tV masks U j l = true -> ∀ i u, l[i]? = some u -> ∃ m, masks[j + i]? = some m /\ pU m u 0 (U.take (j + i)) = true
 | [], _, _, i, u, h => by simp at h
 | u0 :: l, j, h, i, u, hi => by
   unfold tV at h
   cases hm : masks[j]? with
   | none => rw [hm] at h; cases h
   | some m =>
     rw [hm] at h
     simp only at h
     cases hb : pU m u0 0 (U.take j) with
     | false => rw [hb] at h; cases h
     | true =>
       rw [hb] at h
       cases i with
       | zero =>
         simp at hi; subst hi
         exact ⟨m, hm, hb⟩
       | succ i =>
         have := GR (j := j + 1) h i u (by simpa using hi)
         rw [show j + 1 + i = j + (i + 1) by omega] at this; exact this
theorem qQ : ∀ {l : List Oper} {i : Nat} {o : Oper} {d : Nat}, l[i]? = some o -> o.dst = some d -> d ∈ dstsOf l
 | [], i, o, d, h, _ => by simp at h
 | o0 :: l, i, o, d, h, hd => by
   cases i with
   | zero =>
     simp at h; subst h
     unfold dstsOf; rw [hd]; simp
   | succ i =>
     have := qQ (l := l) (i := i) (by simpa using h) hd
     unfold dstsOf
     split
     ·exact List.mem_cons_of_mem _ this
     ·exact this
theorem GU : ∀ {l : List Oper}, (dstsOf l).Nodup -> ∀ (i j : Nat) (oi oj : Oper) (d : Nat), l[i]? = some oi -> l[j]? = some oj -> oi.dst = some d -> oj.dst = some d -> i = j
 | [], _, i, j, oi, oj, d, h, _, _, _ => by simp at h
 | o0 :: l, hn, i, j, oi, oj, d, hi, hj, hdi, hdj => by
   have hn' : (dstsOf l).Nodup := by
    unfold dstsOf at hn
    split at hn
    ·exact (List.nodup_cons.1 hn).2
    ·exact hn
   have hno : o0.dst = some d -> d ∉ dstsOf l := by
    intro h0
    unfold dstsOf at hn
    rw [h0] at hn
    exact (List.nodup_cons.1 hn).1
   cases i with
   | zero =>
     simp at hi; subst hi
     cases j with
     | zero => rfl
     | succ j => exact absurd (qQ (l := l) (i := j) (by simpa using hj) hdj) (hno hdi)
   | succ i =>
     cases j with
     | zero =>
       simp at hj; subst hj
       exact absurd (qQ (l := l) (i := i) (by simpa using hi) hdi) (hno hdj)
     | succ j =>
       have := GU hn' i j oi oj d (by simpa using hi) (by simpa using hj) hdi hdj
       omega
theorem Ed {env : List (Option SV)} : ∀ {l : List Nat}, tX env l = true -> ∀ d ∈ l, d < env.length
 | [], _, d, h => by cases h
 | x :: l, h, d, hd => by
   unfold tX at h
   cases hb : inB env x with
   | false => rw [hb] at h; cases h
   | true =>
     rw [hb] at h
     rcases List.mem_cons.1 hd with rfl | hd
     ·exact Gi hb
     ·exact Ed h d hd
theorem qR : ∀ {l : List Nat}, fJ l = true -> l.Nodup
 | [], _ => List.nodup_nil
 | x :: l, h => by
   simp only [fJ, Bool.and_eq_true, Bool.not_eq_true'] at h
   exact List.nodup_cons.2 ⟨fun hx => (by rw [jh.2 hx] at h; cases h.1), qR h.2⟩
theorem Iu (hm : P.follows .mixedOrders = true) (tab : aH P cfg) (sums : fE P cfg) {s' : St2} {ps : List Prop} {N : Act -> World -> Prop} (h : drawn cfg ops.toList s = some (ps, s')) (hp : ∀ p ∈ ps, p)
 (R : Rel c ι w s a) (G : aN P cfg c ι w) (hn : Goes c ι w s.s.M a (fun t => t = s') N) : wpA P ops N ops.size (Array.replicate ops.size false) a { w with drawn := w.drawn + 1 } := by
 unfold drawn at h
 split at h
 ·cases h
 rename_i EZ
 split at h
 ·rename_i masks U hma hU
  cases hb : (tV masks U 0 U && fJ (dstsOf ops.toList) && tX s.s.env (dstsOf ops.toList)) with
  | false => rw [hb] at h; cases h
  | true =>
    rw [hb] at h
    simp only [cond_true] at h
    simp only [Bool.and_eq_true] at hb
    obtain ⟨⟨b1, b2⟩, b3⟩ := hb
    split at h
    ·rename_i recs Pg
     obtain ⟨hpre, hs'⟩ : recs.flatMap (·.e.pre) = ps /\ _ = s' := by simpa using h
     obtain ⟨ml, mo⟩ := BX (d := []) hma rfl (fun k o hk => by simp at hk)
     obtain ⟨rl, _, re⟩ := GK Pg rfl
     have K : y8 cfg ops.toList s masks U recs := {
      aY := EZ
      mask := by simpa using mo
      PL := by simpa using ml
      rlen := by simpa using rl
      each := fun i o hi => by
       obtain ⟨m, u, r, h1, h2, h3, h4, h5, h6, h7⟩ := re i o hi
       simp only [Nat.zero_add] at h1 h2 h3 h4 h6 h7
       exact ⟨m, u, r, h1, h2, h3, h4, h5, h6, h7⟩
      pairs := fun j mj uj k uk hkj hmj huj huk => by
       obtain ⟨m, h1, h2⟩ := GR b1 j uj huj
       rw [Nat.zero_add] at h1 h2
       rw [hmj] at h1; cases h1
       have := Ec h2 k uk (by rw [List.getElem?_take, if_pos hkj]; exact huk)
       rw [Nat.zero_add] at this; exact this
      dst := GU (qR b2)
      inb := fun i o d hi hd => Ed b3 d (qQ hi hd)
      mem := fun i o d hi hd => qQ hi hd }
     have hps : ∀ r ∈ recs, ∀ p ∈ r.e.pre, p := fun r hr p hpr => hp p (by rw [<- hpre]; exact List.mem_flatMap.2 ⟨r, hr, hpr⟩)
     obtain ⟨I, F, fr⟩ := R
     have hw1 : Ext ι w s.s.M ι { w with drawn := w.drawn + 1 } s.s.M := Ext.turned (fun _ => rfl) rfl
     have hD0 : ∀ q, Dl (Array.replicate ops.size false) q = false := fun q => by
      simp only [Dl, Array.getD_eq_getD_getElem?, Array.getElem?_replicate]
      split <;> rfl
     have j0 : J P c cfg ops s recs ι w a (Array.replicate ops.size false) ι { w with drawn := w.drawn + 1 } a s.s.M := {
      size := by simp
      ext := hw1
      inv := I.turned (fun _ => rfl) rfl rfl rfl rfl
      mem := fun id => (qN recs 0 _ (fun q r _ hd => by rw [hD0] at hd; cases hd)).symm
      recs := fun q r d _ hd => by rw [hD0] at hd; cases hd
      base := fun i v hv _ => (F.env i v hv).mono hw1
      closed := fun q o hd => by rw [hD0] at hd; cases hd
      len := F.len
      defers := rfl
      const := G.mono hw1 }
     refine J.any (ops := ops) tab sums K fr hps (fun listed ι' w' a' M j hall => ?_) ops.size (Array.replicate ops.size false) ι _ a s.s.M j0 ?_
     ·have hbm : ∀ q, aZ (2 ^ ops.toList.length - 1) q = true -> Dl listed q = true := fun q hq => by
       rw [GH] at hq
       exact hall q (by simpa using hq)
      have hrlen : recs.length = ops.size := by rw [K.rlen]; simp
      have hM : ∀ id, (bY (2 ^ ops.toList.length - 1) 0 recs (OB ops.toList s)).M.get id = M.get id := by
       intro id
       rw [vM, j.mem]
       refine lY recs 0 _ _ rfl fun q r hq hne => ?_
       have hql := (List.getElem?_eq_some_iff.1 hq).1
       rw [Nat.zero_add, GH] at hne
       rw [hall q (by omega)] at hne
       exact absurd (by simp; omega) hne
      have F' := j.rep (k := recs.length) (i := 0) K (E := mF (dstsOf ops.toList) s.s.env) (fun x v hx => by
       obtain ⟨g1, g2⟩ := xU hx
       exact j.base x v g1 fun q oq hq hd => absurd (K.mem q oq x hq hd) g2) (rU _ _) hbm
      refine hn s' a' w' ι' rfl ?_ ?_ j.defers
      ·subst hs'
       refine ⟨j.inv.turned hM rfl rfl rfl rfl, ⟨?_, fun x v hx => ?_, fun y hy => (List.not_mem_nil hy).elim, fun y hy => (List.not_mem_nil hy).elim⟩, fun q hq => ?_⟩
       ·show (bY _ 0 recs _).env.length <= _
        rw [qP]
        show (mF _ _).length <= _
        rw [rU]; exact j.len
       ·refine (F'.env x v ?_).mono (Ext.turned hM rfl)
        show bG (bY _ 0 (recs.take recs.length) _).env x = some v
        rw [List.take_length]; exact hx
       ·refine (hM q).trans ?_
        rw [j.mem, qN]
        ·exact fr q (Nat.le_trans y7.1 hq)
        ·intro t r ht _ p hpr hpq
         have hq : bump s.next (recs.flatMap (·.e.upd)) <= q := hq
         have := (y7 (u := recs.flatMap (·.e.upd)) (n := s.next)).2 p (List.mem_flatMap.2 ⟨r, List.mem_of_getElem? ht, hpr⟩)
         omega
      ·subst hs'
       exact j.ext.congr (fun _ => rfl) hM
     ·have := List.length_filter_le (fun q => !Dl (Array.replicate ops.size false) q) (List.range ops.size)
      simpa using this
    ·cases h
 ·cases h
theorem Lh {cfg : Cfg} {ops : List Oper} {s s' : St2} {ps : List Prop} (h : drawn cfg ops s = some (ps, s')) : s'.ins = s.ins := by
 unfold drawn at h
 split at h
 ·cases h
 ·split at h
  ·rename_i masks U _ _
   cases hb : (tV masks U 0 U && fJ (dstsOf ops) && tX s.s.env (dstsOf ops)) with
   | false => rw [hb] at h; cases h
   | true =>
     rw [hb] at h
     simp only [cond_true] at h
     split at h
     ·cases h; rfl
     ·cases h
  ·cases h
end
end Go.Vc
set_option linter.unusedVariables false
set_option linter.unusedSimpArgs false
namespace Go.Vc
structure vO (ι : Gh) (w : World) (ι' : Gh) (w' : World) : Prop where
 S : ∀ b, ι.S b -> ι'.S b
 heap : ∀ b, ι.S b -> w'.heap[b]? = w.heap[b]?
theorem Ext.nK {ι ι' : Gh} {w w' : World} {M M' : Store} (x : Ext ι w M ι' w' M') : vO ι w ι' w' := ⟨x.S, x.heap⟩
theorem vO.refl (ι : Gh) (w : World) : vO ι w ι w := ⟨fun _ h => h, fun _ _ => rfl⟩
theorem vO.trans {ι ι' ι'' : Gh} {w w' w'' : World} (x : vO ι w ι' w') (y : vO ι' w' ι'' w'') : vO ι w ι'' w'' :=
 ⟨fun b h => y.S b (x.S b h), fun b h => (y.heap b (x.S b h)).trans (x.heap b h)⟩
theorem aN.kW {P : Program} {cfg : Cfg} {c : Ctx} {ι ι' : Gh} {w w' : World} (G : aN P cfg c ι w) (x : vO ι w ι' w') : aN P cfg c ι' w' := by
 refine ⟨fun g t y h => ?_⟩
 obtain ⟨cs, h1, h2, h3⟩ := G.glob g t y h
 exact ⟨cs, h1.mono (SF.mono x.S) (fun b hb => x.heap b hb.1), ah.mono (SF.mono x.S) (fun b hb => x.heap b hb.1) _ _ _ h2, h3⟩
structure XR (n : Nat) (ι : Gh) (w : World) (M : Store) (ι' : Gh) (w' : World) (M' : Store) : Prop where
 S : ∀ b, ι.S b -> ι'.S b
 heap : ∀ b, ι.S b -> w'.heap[b]? = w.heap[b]?
 low : ∀ id e, id < n -> M.get id = some e -> ι'.base id = ι.base id /\ ι'.cap id = ι.cap id /\ ∃ e', M'.get id = some e' /\ Ev e e'
theorem XR.iJ {n : Nat} {ι ι' : Gh} {w w' : World} {M M' : Store} (x : Ext ι w M ι' w' M') : XR n ι w M ι' w' M' :=
 ⟨x.S, x.heap, fun id e _ he => ⟨(x.base id e he).1, (x.base id e he).2, x.ev id e he⟩⟩
theorem XR.ext {n : Nat} {ι ι' : Gh} {w w' : World} {M M' : Store} (x : XR n ι w M ι' w' M') (h : ∀ id, n <= id -> M.get id = none) : Ext ι w M ι' w' M' := by
 have lt : ∀ {id e}, M.get id = some e -> id < n := fun {id e} he => Nat.lt_of_not_le fun hh => by rw [h id hh] at he; cases he
 exact ⟨x.S, x.heap, fun id e he => ⟨(x.low id e (lt he) he).1, (x.low id e (lt he) he).2.1⟩, fun id e he => (x.low id e (lt he) he).2.2⟩
theorem XR.nK {n : Nat} {ι ι' : Gh} {w w' : World} {M M' : Store} (x : XR n ι w M ι' w' M') : vO ι w ι' w' := ⟨x.S, x.heap⟩
theorem XR.trans {n : Nat} {ι ι' ι'' : Gh} {w w' w'' : World} {M M' M'' : Store} (x : XR n ι w M ι' w' M') (y : XR n ι' w' M' ι'' w'' M'') : XR n ι w M ι'' w'' M'' := by
 refine ⟨fun b h => y.S b (x.S b h), fun b h => (y.heap b (x.S b h)).trans (x.heap b h), fun id e hn he => ?_⟩
 obtain ⟨h1, h2, e', h3, h4⟩ := x.low id e hn he
 obtain ⟨k1, k2, e'', k3, k4⟩ := y.low id e' hn h3
 exact ⟨k1.trans h1, k2.trans h2, e'', k3, h4.trans k4⟩
def mark (D : Nat) : Deferred := { target := .collected D, args := #[] }
def Marked (cfg : Cfg) (ι : Gh) (w w' : World) (d0 d : List Deferred) : Prop :=
 ∃ ms : List Nat, ms.Nodup /\ d = ms.map mark ++ d0 /\ (cfg.els = none ∨ ms = []) /\ ∀ D ∈ ms, w.heap.size <= D /\ ¬ ι.S D /\ w'.heap[D]? = some (.deferred (some []))
section
variable {P : Program} {c : Ctx} {cfg : Cfg}
theorem Marked.of_eq {ι : Gh} {w w' : World} {d0 d : List Deferred} (h : d = d0) : Marked cfg ι w w' d0 d := ⟨[], List.nodup_nil, by rw [h]; rfl, .inr rfl, fun _ h => by cases h⟩
theorem Marked.trans {ι ι' ι'' : Gh} {w w' w'' : World} {M M' M'' : Store} {d0 d1 d2 : List Deferred} (I' : Inv c ι' w' M') (h1 : Marked cfg ι' w w' d0 d1) (h2 : Marked cfg ι'' w' w'' d1 d2)
 (f1 : cfg.els = none -> Frm ι w M ι' w' M') (f2 : cfg.els = none -> Frm ι' w' M' ι'' w'' M'') : Marked cfg ι'' w w'' d0 d2 := by
 obtain ⟨m1, n1, e1, c1, k1⟩ := h1
 obtain ⟨m2, n2, e2, c2, k2⟩ := h2
 have lt1 : ∀ D ∈ m1, D < w'.heap.size := fun D hD => (Array.getElem?_eq_some_iff.1 (k1 D hD).2.2).1
 refine ⟨m2 ++ m1, ?_, by rw [e2, e1, List.map_append, List.append_assoc], ?_, fun D hD => ?_⟩
 ·refine List.nodup_append.2 ⟨n2, n1, fun x hx y hy hxy => ?_⟩
  subst hxy
  have := (k2 x hx).1
  have := lt1 x hy
  omega
 ·rcases c1 with h | h
  ·exact .inl h
  ·rcases c2 with h' | h'
   ·exact .inl h'
   ·exact .inr (by rw [h, h']; rfl)
 ·rcases List.mem_append.1 hD with hD | hD
  ·obtain ⟨g1, g2, g3⟩ := k2 D hD
   refine ⟨?_, g2, g3⟩
   rcases c2 with h | h
   ·exact Nat.le_trans (f1 h).turn.size g1
   ·rw [h] at hD; cases hD
  ·obtain ⟨g1, g2, g3⟩ := k1 D hD
   have he : cfg.els = none := by
    rcases c1 with h | h
    ·exact h
    ·rw [h] at hD; cases hD
   have f := f2 he
   have hnl : ¬ Live ι' M' D := fun hl => by
    obtain ⟨o, hc, ho⟩ := Live.cells I' hl
    rw [hc] at g3; cases g3; exact ho
   refine ⟨g1, fun hS => ?_, ?_⟩
   ·rcases f.newS D hS with h | h | h
    ·exact g2 h
    ·exact hnl h
    ·have := lt1 D hD; omega
   ·rw [f.turn.block D (lt1 D hD) hnl]; exact g3
structure Way (J : JT) (cfg : Cfg) (lp : Nat) (c : Ctx) (ι : Gh) (w : World) (M : Store) (d : List Deferred) (ι' : Gh) (w' : World) (s' : St2) (a' : Act) : Prop where
 rel : Rel c ι' w' s' a'
 j : J s'.ins (Live ι' s'.s.M) ι'.S w'
 xr : XR lp ι w M ι' w' s'.s.M
 frm : cfg.els = none -> Frm ι w M ι' w' s'.s.M
 mks : Marked cfg ι' w w' d a'.defers
theorem Way.refl {J : JT} {lp : Nat} {ι : Gh} {w : World} {s : St2} {a : Act} (R : Rel c ι w s a) (j : J s.ins (Live ι s.s.M) ι.S w) : Way J cfg lp c ι w s.s.M a.defers ι w s a :=
 ⟨R, j, XR.iJ (Ext.refl _ _ _), fun _ => Frm.refl _ _ _, .of_eq rfl⟩
theorem Way.trans {J : JT} {lp : Nat} {ι ι' ι'' : Gh} {w w' w'' : World} {M : Store} {d : List Deferred} {s' s'' : St2} {a' a'' : Act} (x : Way J cfg lp c ι w M d ι' w' s' a') (y : Way J cfg lp c ι' w' s'.s.M a'.defers ι'' w'' s'' a'') :
 Way J cfg lp c ι w M d ι'' w'' s'' a'' :=
 ⟨y.rel, y.j, x.xr.trans y.xr, fun h => (x.frm h).trans (y.frm h), x.mks.trans x.rel.inv y.mks x.frm y.frm⟩
def nU (J : JT) (cfg : Cfg) (lp : Nat) (c : Ctx) (ι : Gh) (w : World) (M : Store) (a : Act) (K : Exit -> St2 -> Prop) (Q : Exit -> Act -> World -> Prop) : Prop :=
 ∀ e s' a' w' ι', K e s' -> Way J cfg lp c ι w M a.defers ι' w' s' a' -> Q e a' w'
theorem nU.trans {J : JT} {lp : Nat} {ι ι' : Gh} {w w' : World} {M : Store} {s' : St2} {a a' : Act} {K : Exit -> St2 -> Prop} {Q : Exit -> Act -> World -> Prop} (h : nU J cfg lp c ι w M a K Q) (x : Way J cfg lp c ι w M a.defers ι' w' s' a') :
 nU J cfg lp c ι' w' s'.s.M a' K Q := fun e s2 a2 w2 ι2 hk y => h e s2 a2 w2 ι2 hk (x.trans y)
def kG (cfg : Cfg) (n : Nat) (k : Keep) : Prop := ∀ {c : Ctx} {ι : Gh} {w : World} {s : St2} {a : Act}, Rel c ι w s a -> ∃ ι', Rel c ι' w (canon cfg n k s) a /\ XR n ι w s.s.M ι' w (canon cfg n k s).s.M
theorem qU {b : Bool} {x y : St2} {l : List Nat} (hx : x.ins = l) (hy : y.ins = l) : (cond b x y).ins = l := by cases b <;> assumption
theorem Ee (cfg : Cfg) : ∀ (l : List (Nat × Nat)) (s : St2), (l.foldl (rD cfg) s).ins = s.ins
 | [], s => rfl
 | x :: r, s => by
   rw [List.foldl_cons, Ee cfg r]
   unfold rD
   repeat' split
   all_goals first | rfl | exact qU rfl rfl
theorem Cc (cfg : Cfg) : ∀ (l : List (Nat × Nat × Nat)) (s : St2), (l.foldl (oC cfg) s).ins = s.ins
 | [], s => rfl
 | x :: r, s => by
   rw [List.foldl_cons, Cc cfg r]
   unfold oC
   repeat' split
   all_goals first | rfl | exact qU rfl rfl
theorem Ef (cfg : Cfg) : ∀ (l : List (Nat × Nat)) (s : St2), (l.foldl (rE cfg) s).ins = s.ins
 | [], s => rfl
 | x :: r, s => by
   rw [List.foldl_cons, Ef cfg r]
   unfold rE
   repeat' split
   all_goals first | rfl | exact qU rfl rfl
theorem Ce (cfg : Cfg) : ∀ (l : List (Nat × Nat × Nat)) (s : St2), (l.foldl (oD cfg) s).ins = s.ins
 | [], s => rfl
 | x :: r, s => by
   rw [List.foldl_cons, Ce cfg r]
   unfold oD
   repeat' split
   all_goals first | rfl | exact qU rfl rfl
theorem GV : ∀ (l : List Nat) (s : St2), (l.foldl wQ s).ins = s.ins
 | [], s => rfl
 | x :: r, s => by
   rw [List.foldl_cons, GV r]
   unfold wQ
   split
   ·split <;> rfl
   ·rfl
theorem xX (cfg : Cfg) (n : Nat) (k : Keep) (s : St2) : (canon cfg n k s).ins = s.ins := by
 unfold canon
 show (qw _ _ _).ins = _
 have h1 : ∀ t : St2, (qw n k.keep t).ins = t.ins := fun t => by
  unfold qw
  exact qU rfl rfl
 rw [h1, GV, Ce, Ef, Cc, Ee]
theorem oH {J : JT} {n : Nat} {k : Keep} (hcn : kG cfg n k) (hJ : JOk J) {ι : Gh} {w : World} {s : St2} {a : Act} (R : Rel c ι w s a) (j : J s.ins (Live ι s.s.M) ι.S w) :
 ∃ ι', Way J cfg n c ι w s.s.M a.defers ι' w (canon cfg n k s) a := by
 obtain ⟨ι', R', x⟩ := hcn R.re
 have f := Frm.vH R.inv R'.inv x.S
 have R2 := Rel.un R.inv R'
 exact ⟨ι', R2, by rw [xX]; exact hJ.go f R2.inv j, x, fun _ => f, .of_eq rfl⟩
def oI : (ts : List Ty) -> aX ts -> Prop
 | [], _ => True
 | [t], x => Valid t x
 | t :: u :: r, x => Valid t x.1 /\ oI (u :: r) x.2
def Nj (P : Program) (gl : Nat -> Option (Sigma Ty.den)) (f : Nat) (q : CU) : Prop :=
 (∀ args w, (callFunc f args).run P w = .ok (.enter f args) w) /\
 ∀ (y : aX q.cs) (c : Ctx) (ι : Gh) (us : List Value) (J : JT), c.yl.isSome = true -> (∀ i T U W, J i T U W -> ∀ b, ¬ c.O b -> U b) -> Inv c ι c.w0 (ay 0 (jE q.cs y)) -> qJ gl ι.S c.w0 -> oI q.cs y -> (∀ p ∈ q.pre y, p) ->
  aP c ι c.w0 (ay 0 (jE q.cs y)) (one .yld :: zU 0 q.cs.length) us -> JOk J -> YOk P J c.yl q.es (q.L y) -> J [0, 0] (Live ι (ay 0 (jE q.cs y))) ι.S c.w0 ->
  Calls P f us.toArray c.w0 fun e w' => (∃ v, e = .returned v) /\ ∃ T U, J [0, (q.L y).length] T U w' ∨ ∃ k, J [1, k] T U w'
def oJ (P : Program) (cfg : Cfg) : Prop := ∀ f q, cfg.seq f = some q -> Nj P cfg.glob f q
theorem zD {J : JT} (hJ : JOk J) {ro : Option Nat} {n lp : Nat} {b : Code} {l : Loop} {x0 : l.X} {B : St2 -> (Exit -> St2 -> Prop) -> Prop} {K : Exit -> St2 -> Prop} {Q : Exit -> Act -> World -> Prop}
 (hB : ∀ {ι w s a} {K' : Exit -> St2 -> Prop} {Q' : Exit -> Act -> World -> Prop}, B s K' -> Rel c ι w s a -> aN P cfg c ι w -> J s.ins (Live ι s.s.M) ι.S w -> nU J cfg lp c ι w s.s.M a K' Q' -> b.wpIn (Fw ro) n P Q' a w)
 (hcn : kG cfg lp l.k) (hs : ∀ x, l.I x0 x -> B (l.st x) (KL cfg lp l x0 x K)) : ∀ (m : Nat) {ι : Gh} {w : World} {x : l.X} {a : Act}, l.I x0 x -> l.mu x < m -> Rel c ι w (l.st x) a -> aN P cfg c ι w -> J (l.st x).ins (Live ι (l.st x).s.M) ι.S w -> nU J cfg lp c ι w (l.st x).s.M a K Q -> Code.roundsIn (Fw ro) n P b Q m a w
 | 0, ι, w, x, a, _, h, _, _, _, _ => (Nat.not_lt_zero _ h).elim
 | m + 1, ι, w, x, a, hI, hmu, R, G, j, hn => by
   show b.wpIn (Fw ro) n P (Exit.then (Code.roundsIn (Fw ro) n P b Q m) Q) a w
   refine hB (hs x hI) R G j fun e s' a' w' ι' hk W => ?_
   cases e with
   | normal =>
     obtain ⟨y, hy, hyI, hymu⟩ := hk
     obtain ⟨ι'', W'⟩ := oH hcn hJ W.rel W.j
     have W2 := W.trans W'
     rw [hy] at W2
     exact zD hJ hB hcn hs m hyI (by omega) W2.rel (G.kW W2.xr.nK) W2.j (hn.trans W2)
   | exit i => exact hn _ s' a' w' ι' hk W
   | goto i => exact hn _ s' a' w' ι' hk W
   | ret => exact hn _ s' a' w' ι' hk W
   | panic ch => exact hn _ s' a' w' ι' hk W
   | outgrown => exact hn _ s' a' w' ι' hk W
def vP (P : Program) (cfg : Cfg) (inl : Inl) (keep : Nat -> Option Loop) (b : Code) : Prop :=
 ∀ {c : Ctx} {J : JT}, sH P cfg c J -> ∀ {ro : Option Nat} {n lp : Nat} {ι : Gh} {w : World} {s : St2} {a : Act} {K : Exit -> St2 -> Prop} {Q : Exit -> Act -> World -> Prop}, (ro = none ∨ eY b = true) -> vc cfg inl keep lp b s K ->
  Rel c ι w s a -> aN P cfg c ι w -> J s.ins (Live ι s.s.M) ι.S w -> nU J cfg lp c ι w s.s.M a K Q -> b.wpIn (Fw ro) n P Q a w
end
end Go.Vc
set_option linter.unusedVariables false
set_option linter.unusedSimpArgs false
namespace Go.Vc
open Go.RowKit
section
variable {P : Program} {c : Ctx} {cfg : Cfg} {ι : Gh} {w : World} {M : Store}
theorem zF : ∀ (ids : List Nat) (M : Store) (j : Nat), (jq M ids).get j = if j ∈ ids then some .dead else M.get j
 | [], M, j => by simp [jq]
 | i :: r, M, j => by
   rw [jq, zF r, Store.dJ]
   by_cases h1 : j ∈ r
   ·simp [h1]
   ·by_cases h2 : j = i <;> simp [h1, h2]
theorem Ci : ∀ (ids : List Nat) {s : St2} {a : Act}, (∀ i ∈ ids, ∃ e, s.s.M.get i = some e) -> Rel c ι w s a ->
 Rel c ι w { s with s := { s.s with M := jq s.s.M ids } } a /\ Ext ι w s.s.M ι w (jq s.s.M ids)
 | [], s, a, _, R => ⟨R, Ext.refl _ _ _⟩
 | i :: r, s, a, h, R => by
   obtain ⟨e, he⟩ := h i (by simp)
   obtain ⟨I, x, _⟩ := R.inv.kill he
   have R1 : Rel c ι w { s with s := { s.s with M := s.s.M.set i .dead } } a := ⟨I, R.rep.ext x, fun j hj => by
    show (s.s.M.set i .dead).get j = none
    rw [Store.dJ]
    split
    ·rename_i hji; subst hji; rw [R.fresh j hj] at he; cases he
    ·exact R.fresh j hj⟩
   obtain ⟨R2, x2⟩ := Ci r (s := { s with s := { s.s with M := s.s.M.set i .dead } }) (fun k hk => by
    show ∃ e, (s.s.M.set i .dead).get k = some e
    rw [Store.dJ]
    split
    ·exact ⟨_, rfl⟩
    ·exact h k (by simp [hk])) R1
   exact ⟨R2, x.trans x2⟩
def CellIs (ι : Gh) (w : World) (M : Store) (id : Nat) (e : Entry) : Prop :=
 ∃ (t : Ty) (x : t.den) (ls : List Leaf) (b : Nat) (cs : List Value) (T : TypeId), e = .obj (explode false t x) /\ M.get id = some (.obj ls) /\ ι.base id = some ⟨b, 0, none⟩ /\ w.heap[b]? = some (.cells cs.toArray T (0, 0)) /\ ah ι.S w t x cs /\ Valid t x /\ qh t = true
theorem Jg (I : Inv c ι w M) {t : Ty} {i : Nat} {x : t.den} (h : qx.cell M t i = some x) : Valid t x /\ CellIs ι w M i (.obj (explode false t x)) := by
 unfold qx.cell at h
 split at h
 ·rename_i ls hm
  cases hnt : qh t with
  | false => rw [hnt] at h; cases h
  | true =>
  rw [hnt] at h
  split at h
  ·rename_i im him
   have him : aG M t ls = some im := him
   split at h
   ·rename_i hr hz
    cases h
    obtain ⟨b, cs, T, h1, h2, h3, h4⟩ := I.ents i _ hm
    obtain ⟨_, c1, c2, e1, e2, e3, e4⟩ := fA I t him h3
    rw [hr] at e2
    have e2 : c2 = [] := e2
    subst e2
    rw [List.append_nil] at e1
    subst e1
    have hp := e4 ι.S (fun _ h => h) (fun id e e0 k hm => by rw [hz] at hm; cases hm)
    exact ⟨e3, t, im.x, ls, b, cs, T, rfl, hm, h1, h2, ah.mono (fun b hb => hb.1) (fun _ _ => rfl) _ _ _ hp, e3, hnt⟩
   ·cases h
  ·cases h
 ·cases h
theorem cells_ok (I : Inv c ι w M) : ∀ {cs : List Ty} {y : aX cs} {ids : List Nat}, qx M cs ids = some y ->
 ids.length = cs.length /\ (jE cs y).length = cs.length /\ oI cs y /\ ∀ (j : Nat) (e : Entry), (jE cs y)[j]? = some e -> ∃ id, ids[j]? = some id /\ CellIs ι w M id e
 | [], y, [], h => ⟨rfl, rfl, trivial, fun j e he => by simp [jE] at he⟩
 | [t], y, [i], h => by
   obtain ⟨h1, h2⟩ := Jg I (show qx.cell M t i = some y from h)
   refine ⟨rfl, rfl, h1, fun j e he => ?_⟩
   cases j with
   | zero => simp [jE] at he; subst he; exact ⟨i, rfl, h2⟩
   | succ j => simp [jE] at he
 | t :: u :: r, y, i :: l, h => by
   simp only [qx] at h
   split at h
   ·rename_i x z hx hz
    cases h
    obtain ⟨h1, h2⟩ := Jg I hx
    obtain ⟨g1, g2, g3, g4⟩ := cells_ok I hz
    refine ⟨by simp [g1], by simp [jE, g2], ⟨h1, g3⟩, fun j e he => ?_⟩
    cases j with
    | zero => simp [jE] at he; subst he; exact ⟨i, rfl, h2⟩
    | succ j => simp only [jE, List.getElem?_cons_succ] at he; exact g4 j e he
   ·cases h
 | [], _, _ :: _, h => by cases h
 | [_], _, [], h => by cases h
 | [_], _, _ :: _ :: _, h => by cases h
 | _ :: _ :: _, _, [], h => by cases h
@[reducible] def Nk (ι : Gh) (w : World) (l : Nat) : Ctx := ⟨w, fun b => ¬ ι.S b, ι.S, 0, Nat.zero_le _, some l⟩
@[reducible] def Ai (ι : Gh) (ids : List Nat) : Gh := ⟨ι.S, fun j => ι.base (ids.getD j 0), fun j => ι.cap (ids.getD j 0)⟩
theorem y9 {ids : List Nat} {j id : Nat} (h : ids[j]? = some id) : ids.getD j 0 = id := by rw [List.getD_eq_getElem?_getD, h]; rfl
theorem EK {l : List Nat} (hn : l.Nodup) {i j : Nat} (hi : i < l.length) (hj : j < l.length) (h : l[i] = l[j]) : i = j := by
 have := List.pairwise_iff_getElem.1 hn
 rcases Nat.lt_trichotomy i j with h1 | h1 | h1
 ·exact absurd h (this i j hi hj h1)
 ·exact h1
 ·exact absurd h.symm (this j i hj hi h1)
theorem OD (I : Inv c ι w M) {ids : List Nat} {es : List Entry} (hn : ids.Nodup) (hc : ∀ (j : Nat) (e : Entry), es[j]? = some e -> ∃ id, ids[j]? = some id /\ CellIs ι w M id e) {w1 : World} (t : Turn w w1 fun _ => False) (l : Nat) :
 Inv (Nk ι w1 l) (Ai ι ids) w1 (ay 0 es) := by
 have hget : ∀ j, Store.get (ay 0 es) j = es[j]? := fun j => by rw [dL, if_pos (Nat.zero_le _), Nat.sub_zero]
 have hin : ∀ {j e k}, Store.get (ay 0 es) j = some e -> (Ai ι ids).blk j = some k -> ∃ id ls, ids[j]? = some id /\ M.get id = some (.obj ls) /\ ι.blk id = some k := by
  intro j e k he hk
  rw [hget] at he
  obtain ⟨id, h1, _, _, ls, _, _, _, _, h2, _⟩ := hc j e he
  refine ⟨id, ls, h1, h2, ?_⟩
  have hk : (ι.base (ids.getD j 0)).map (·.block) = some k := hk
  rw [y9 h1] at hk; exact hk
 refine ⟨⟨rfl, rfl, rfl, Nat.le_refl _, fun _ _ _ => rfl⟩, fun j e he => ?_, fun i j ei ej k hi hj _ _ bi bj => ?_, fun i e k hi _ bi => ?_, fun b hb => Nat.lt_of_lt_of_le (I.stb b hb) t.size, fun b hb => .inl hb⟩
 ·rw [hget] at he
  obtain ⟨id, h1, t', x, ls, b, cs, T, rfl, h3, h4, h5, h6, h7, h8⟩ := hc j e he
  have hb : b < w.heap.size := (Array.getElem?_eq_some_iff.1 h5).1
  refine ⟨b, cs, T, by show ι.base (ids.getD j 0) = _; rw [y9 h1]; exact h4, by rw [t.block b hb (fun h => h)]; exact h5, bU _ _ _ (ah.mono (fun b hb => ⟨hb, fun h => by cases h⟩) (fun b hb => t.block b (I.stb b hb) (fun h => h)) _ _ _ h6) h7, oU _ _ _ h8⟩
 ·obtain ⟨x, lx, x1, x2, x3⟩ := hin hi bi
  obtain ⟨y, ly, y1, y2, y3⟩ := hin hj bj
  have := I.dis x y _ _ k x2 y2 rfl rfl x3 y3
  subst this
  obtain ⟨hi', rfl⟩ := List.getElem?_eq_some_iff.1 x1
  obtain ⟨hj', hh⟩ := List.getElem?_eq_some_iff.1 y1
  exact EK hn hi' hj' hh.symm
 ·obtain ⟨x, lx, x1, x2, x3⟩ := hin hi bi
  have := (I.own x _ k x2 rfl x3).1
  exact ⟨this, .inr this⟩
theorem NP {ids : List Nat} {es : List Entry} (hc : ∀ (j : Nat) (e : Entry), es[j]? = some e -> ∃ id, ids[j]? = some id /\ CellIs ι w M id e) {b : Nat} (h : Live (Ai ι ids) (ay 0 es) b) : ∃ id ∈ ids, ∃ ls, M.get id = some (.obj ls) /\ ι.blk id = some b := by
 obtain ⟨j, e, h1, h2, h3⟩ := h
 rw [dL, if_pos (Nat.zero_le _), Nat.sub_zero] at h1
 obtain ⟨id, g1, _, _, ls, _, _, _, _, g2, _⟩ := hc j e h1
 have h3 : (ι.base (ids.getD j 0)).map (·.block) = some b := h3
 rw [y9 g1] at h3
 exact ⟨id, List.mem_of_getElem? g1, ls, g2, h3⟩
theorem Jh {c' : Ctx} {w1 : World} {ids : List Nat} {es : List Entry} (hl : es.length = ids.length) (hc : ∀ (j : Nat) (e : Entry), es[j]? = some e -> ∃ id, ids[j]? = some id /\ CellIs ι w M id e) :
 ∀ (n i : Nat), i + n = ids.length -> aP c' (Ai ι ids) w1 (ay 0 es) (zU i n) ((ids.drop i).map fun id => Value.pointer (ι.base id))
 | 0, i, h => by
   rw [List.drop_eq_nil_of_le (by omega)]; rfl
 | n + 1, i, h => by
   have hi : i < ids.length := by omega
   rw [List.drop_eq_getElem_cons hi]
   refine ⟨_, _, rfl, aI.one ?_, Jh hl hc n (i + 1) (by omega)⟩
   have he : es[i]? = some (es[i]'(by omega)) := List.getElem?_eq_getElem _
   obtain ⟨id, g1, t, x, ls, b, cs, T, h2, h3, h4, _⟩ := hc i _ he
   have hid : ids[i] = id := by rw [List.getElem?_eq_getElem hi] at g1; exact Option.some.inj g1
   have hg : Store.get (ay 0 es) i = some (.obj (explode false t x)) := by rw [dL, if_pos (Nat.zero_le _), Nat.sub_zero, he, h2]
   simp only [aj, hg]
   refine ⟨b, by show ι.base (ids.getD i 0) = _; rw [y9 g1]; exact h4, by rw [hid, h4]⟩
theorem Ad.OE {S : Nat -> Prop} (hS : ∀ b, S b -> ι.S b) {t : Ty} {x : t.den} {v : Value} (h : Ad S w t x v) : aI c ι w M (.of false t x) v := by
 obtain ⟨⟨cs, h1, h2⟩, h3⟩ := h
 have hp : ah (SF c ι false) w t x cs := ah.mono (fun b hb => ⟨hS b hb, fun hh => by cases hh⟩) (fun _ _ => rfl) _ _ _ h1
 refine ⟨cs, bU (fr := false) t x cs hp h3, ?_⟩
 show match t.isAgg with | true => v = .agg cs.toArray | false => cs = [v] /\ v.oneCell' = true
 cases ha : t.isAgg with
 | true => rw [ha] at h2; exact h2
 | false =>
   rw [ha] at h2
   have h2 : cs = [v] := h2
   exact ⟨h2, ah.one _ _ _ h1 v (by rw [h2]; simp)⟩
def J9 (ps : List Nat) (vs : List Value) (tm : Array Value) : Array Value := (ps.zip vs).foldl (fun t p => t.setIfInBounds p.1 p.2) tm
theorem MH {ps : Array Nat} {vs : List Value} {tm : Array Value} : (ps.zip vs.toArray).foldl (fun tmps (t, a) => tmps.setIfInBounds t a) tm = J9 ps.toList vs tm := by
 rw [<- Array.foldl_toList, Array.toList_zip]; rfl
theorem eP.length {S : Nat -> Prop} : ∀ {ts : List Ty} {x : aX ts} {vs : List Value}, eP S w ts x vs -> vs.length = ts.length
 | [], _, vs, h => by rw [show vs = [] from h]; rfl
 | [_], _, vs, ⟨v, h, _⟩ => by rw [h]; rfl
 | _ :: _ :: _, _, vs, ⟨v, ws, h, _, h'⟩ => by rw [h]; simp [eP.length h']
theorem Eh {S : Nat -> Prop} (hS : ∀ b, S b -> ι.S b) : ∀ {ps : List Nat} {es : List Ty} {x : aX es} {s t : St} {a : Act} {vs : List Value}, qy s ps es x = some t -> bC c ι w s a -> eP S w es x vs ->
 t.M = s.M /\ bC c ι w t { a with tmps := J9 ps vs a.tmps }
 | [], [], x, s, t, a, vs, h, F, hv => by
   cases h
   exact ⟨rfl, F⟩
 | [p], [y], x, s, t, a, vs, h, F, ⟨v, h1, h2⟩ => by
   subst h1
   exact F.put (u := v) h (fun _ => h2.OE hS) (fun hh => absurd (fun x hx => by cases hx) hh)
 | p :: r, y :: u :: l, x, s, t, a, vs, h, F, ⟨v, ws, h1, h2, h3⟩ => by
   subst h1
   have hp : ∀ (p : Nat) (r : List Nat), qy s (p :: r) (y :: u :: l) x = (match fO s [] (some p) (.v (.of false y x.1)) with | some s' => qy s' r (u :: l) x.2 | none => none) := fun p r => by
    cases r <;> rfl
   rw [hp] at h
   split at h
   ·rename_i s' hs
    obtain ⟨hM, F'⟩ := F.put (u := v) hs (fun _ => h2.OE hS) (fun hh => absurd (fun x hx => by cases hx) hh)
    obtain ⟨hM2, F2⟩ := Eh hS h F' (by
     exact h3)
    exact ⟨hM2.trans hM, F2⟩
   ·cases h
 | [], _ :: _, _, _, _, _, _, h, _, _ => by cases h
 | [_], [], _, _, _, _, _, h, _, _ => by cases h
 | _ :: _ :: _, [], _, _, _, _, _, h, _, _ => by cases h
 | _ :: _ :: _, [_], _, _, _, _, _, h, _, _ => by cases h
theorem bC.defers {s : St} {a : Act} (F : bC c ι w s a) (d : List Deferred) : bC c ι w s { a with defers := d } := ⟨F.len, F.env, F.aY, F.xG⟩
structure Grw (ι : Gh) (w : World) (M : Store) (ι' : Gh) (w' : World) (M' : Store) : Prop where
 size : w.heap.size <= w'.heap.size
 S : ∀ b, ι.S b -> ι'.S b
 newL : ∀ b, Live ι' M' b -> Live ι M b ∨ w.heap.size <= b
 newS : ∀ b, ι'.S b -> ι.S b ∨ Live ι M b ∨ w.heap.size <= b
theorem Frm.grw {ι' : Gh} {w' : World} {M' : Store} (f : Frm ι w M ι' w' M') : Grw ι w M ι' w' M' := ⟨f.turn.size, f.S, f.newL, f.newS⟩
theorem Grw.same {w' : World} (h : w.heap.size <= w'.heap.size) : Grw ι w M ι w' M := ⟨h, fun _ h => h, fun _ h => .inl h, fun _ h => .inl h⟩
theorem Grw.trans {ι' ι'' : Gh} {w' w'' : World} {M' M'' : Store} (f : Grw ι w M ι' w' M') (g : Grw ι' w' M' ι'' w'' M'') : Grw ι w M ι'' w'' M'' := by
 refine ⟨Nat.le_trans f.size g.size, fun b hb => g.S b (f.S b hb), fun b hb => ?_, fun b hb => ?_⟩
 ·rcases g.newL b hb with h | h
  ·exact f.newL b h
  ·exact .inr (Nat.le_trans f.size h)
 ·rcases g.newS b hb with h | h | h
  ·exact f.newS b h
  ·exact .inr (f.newL b h)
  ·exact .inr (.inr (Nat.le_trans f.size h))
theorem jP (I : Inv c ι w M) {b : Nat} {o : Obj} (h : w.heap[b]? = some o) (ho : ¬ Je o) : ¬ Live ι M b := fun hl => by
 obtain ⟨o', hc, ho'⟩ := Live.cells I hl
 rw [hc] at h
 exact ho ((Option.some.inj h) ▸ ho')
theorem vS {l : Nat} {o : Obj} : Turn w (w.putObj l o) fun b => b = l := ⟨rfl, rfl, rfl, by simp, fun k _ hn => World.putObj_heap_other hn⟩
def Jump : Exit -> Code -> Prop
 | .ret, .ret => True
 | .exit i, .exit j => i = j
 | _, _ => False
def RJ (c1 : Ctx) (ι : Gh) (w : World) (M : Store) (lp : Nat) (l : Loop) (x0 : l.X) (ins : List Nat) (a : Act) (K : Exit -> St2 -> Prop) (rec : LoopState -> Option Code -> _root_.Go.Loop) : JT := fun i T U W =>
 ∃ (ι' : Gh) (s' : St2), W.heap[w.heap.size]? = some (.deferred (some [])) /\ ¬ ι'.S w.heap.size /\ ¬ ι'.S (w.heap.size + 1) /\ ¬ T w.heap.size /\ ¬ T (w.heap.size + 1) /\ (∀ b, U b -> ι'.S b) /\ (∀ b, ι.S b -> U b) /\
  (∀ b, T b -> b < W.heap.size /\ (c1.w0.heap.size <= b ∨ c1.O b) /\ ¬ ι'.S b /\ ¬ Live ι' s'.s.M b) /\ Rel c1 ι' W s' a /\ s'.ins = ins /\ XR lp ι w M ι' W s'.s.M /\ ∃ st pe, W.heap[w.heap.size + 1]? = some (.loop (rec st pe)) /\
  ((∃ k x, i = [0, k] /\ l.I x0 x /\ l.mu x = k /\ s' = l.st x /\ st = .ready /\ pe = none) ∨ ∃ k e cd, i = [1, k] /\ K e s' /\ Jump e cd /\ st = .done /\ pe = some cd)
theorem Ph {c1 : Ctx} {lp : Nat} {l : Loop} {x0 : l.X} {ins : List Nat} {a : Act} {K : Exit -> St2 -> Prop} {rec : LoopState -> Option Code -> _root_.Go.Loop} (hw0 : c1.w0.heap.size <= w.heap.size) : JOk (RJ c1 ι w M lp l x0 ins a K rec) := by
 intro i T U W T' U' W' h t hU hT' hU' hlt hdis
 obtain ⟨ι', s', hD, hSD, hSl, hTD, hTl, hUS, hSU, hT, R, hins, x, st, pe, hrec, hh⟩ := h
 have hDlt : w.heap.size < W.heap.size := (Array.getElem?_eq_some_iff.1 hD).1
 have vT : w.heap.size + 1 < W.heap.size := (Array.getElem?_eq_some_iff.1 hrec).1
 have hfree : ∀ b, T b -> Inv.Free c1 ι' s'.s.M b := fun b hb => ⟨(hT b hb).2.2.1, (hT b hb).2.1, fun j e h1 h2 h3 => (hT b hb).2.2.2 ⟨j, e, h1, h2, h3⟩⟩
 have hUw : ∀ b, U' b -> (ι'.S b ∨ T b ∨ W.heap.size <= b) /\ b < W'.heap.size := fun b hb => ⟨(hU' b hb).imp (hUS b) id, hlt b (.inr hb)⟩
 obtain ⟨I', x'⟩ := R.inv.widen t hfree hUw
 have nS : ∀ b, b < W.heap.size -> ¬ ι'.S b -> ¬ T b -> ¬ (ι'.S b ∨ U' b) := fun b h1 h2 h3 hh => by
  rcases hh with hh | hh
  ·exact h2 hh
  ·rcases (hUw b hh).1 with h | h | h
   ·exact h2 h
   ·exact h3 h
   ·omega
 have hsz := t.size
 refine ⟨{ ι' with S := fun b => ι'.S b ∨ U' b }, s', by rw [t.block _ hDlt hTD]; exact hD, nS _ hDlt hSD hTD, nS _ vT hSl hTl, fun h => ?_, fun h => ?_, fun b hb => .inr hb, fun b hb => hU b (hSU b hb), fun b hb => ⟨hlt b (.inl hb), ?_, fun hh => ?_, fun hl => ?_⟩,
  ⟨I', R.rep.ext x', R.fresh⟩, hins, x.trans (XR.iJ x'), st, pe, by rw [t.block _ vT hTl]; exact hrec, hh⟩
 ·rcases hT' _ h with h | h
  ·exact hTD h
  ·omega
 ·rcases hT' _ h with h | h
  ·exact hTl h
  ·omega
 ·rcases hT' b hb with h | h
  ·exact (hT b h).2.1
  ·exact .inl (Nat.le_trans (Nat.le_trans hw0 (Nat.le_of_lt hDlt)) h)
 ·rcases hh with hh | hh
  ·rcases hT' b hb with h | h
   ·exact (hT b h).2.2.1 hh
   ·have := R.inv.stb b hh; omega
  ·exact hdis b hb hh
 ·have hl : Live ι' s'.s.M b := hl
  rcases hT' b hb with h | h
  ·exact (hT b h).2.2.2 hl
  ·have := Live.lt R.inv hl; omega
theorem MI {inl : Inl} {keep : Nat -> Option Loop} {A B : Code} (iha : vP P cfg inl keep A) (ihb : vP P cfg inl keep B) (hels : cfg.els = none) (hcan : ∀ n k, kG cfg n k) {c1 : Ctx} {lp : Nat} {l : Loop} {x0 : l.X} {ins : List Nat} {a : Act} {K : Exit -> St2 -> Prop}
 {fn : FuncId} {ps : Array Tmp} {rec : LoopState -> Option Code -> _root_.Go.Loop} (pK : rec = fun st pe => { state := st, pending := pe, fn, tmps := a.tmps, params := ps, assign := A, body := B, defers := w.heap.size }) (hw0 : c1.w0.heap.size <= w.heap.size)
 (hA : eY A = true) (hB : eY B = true) {es : List Ty} {els : List (aX es)} (hps : ps.size = es.length) (G : aN P cfg c1 ι w)
 (qL : ∀ x, l.I x0 x -> l.mu x < els.length -> iW (qy (l.st x).s ps.toList es (els.getD (l.mu x) (zS es))) fun t => vc cfg inl keep (l.st x).next A { l.st x with s := t } (yP (fun s1 => vc cfg inl keep (l.st x).next B s1 (AY cfg lp l x0 x K)) fun _ _ => False)) :
 YOk P (RJ c1 ι w M lp l x0 ins a K rec) (some (w.heap.size + 1)) es els := by
 intro l' hl' n k T U W vs e hJ he hv hTU hdis
 cases hl'
 obtain ⟨ι', s', hD, hSD, hSl, hTD, hTl, hUS, hSU, hT, R, hins, xr, st, pe, hrec, hh⟩ := hJ
 rcases hh with ⟨k', x, hi, hI, hmu, hs', hst, hpe⟩ | ⟨k', _, _, hi, _⟩
 ·have : k = k' := by simpa using hi
  subst this
  subst hs' hst hpe
  have hDlt : w.heap.size < W.heap.size := (Array.getElem?_eq_some_iff.1 hD).1
  have vT : w.heap.size + 1 < W.heap.size := (Array.getElem?_eq_some_iff.1 hrec).1
  have hlt : l.mu x < els.length := by rw [hmu]; exact (List.getElem?_eq_some_iff.1 he).1
  have hgo := qL x hI hlt
  have hge : els.getD (l.mu x) (zS es) = e := by rw [hmu, List.getD_eq_getElem?_getD, he]; rfl
  rw [hge] at hgo
  unfold iW at hgo
  split at hgo
  ·rename_i t ht
   have hsize : vs.toArray.size = (rec .ready none).params.size := by rw [pK]; simp [hv.length, hps]
   have hy := run_yield (P := P) (args := vs.toArray) hrec hsize
   rw [pK] at hy
   simp only at hy
   rw [MH] at hy
   refine ⟨fn, _, A, B, hy, roundIn_of_wpIn trivial ?_⟩
   show A.wpIn (Fw (some (w.heap.size + 1))) n P _ _ W
   obtain ⟨htM, F2⟩ := Eh (c := c1) (ι := ι') (a := { tmps := a.tmps, defers := [] }) hUS ht (R.rep.defers []) hv
   have R2 : Rel c1 ι' W { l.st x with s := t } { tmps := J9 ps.toList vs a.tmps, defers := [] } := ⟨by show Inv c1 ι' W t.M; rw [htM]; exact R.inv, F2, fun j hj => by show t.M.get j = none; rw [htM]; exact R.fresh j hj⟩
   have G1 : aN P cfg c1 ι' W := G.kW xr.nK
   let J1 : JT := fun i _ _ _ => i = (l.st x).ins
   have hJ1 : JOk J1 := fun _ _ _ _ _ _ _ h _ _ _ _ _ _ => h
   have hy1 : ∀ c', sH P cfg c' J1 := fun c' => ⟨hJ1, fun es els hh => by rw [hels] at hh; cases hh⟩
   refine iha (J := J1) (hy1 _) (.inr hA) hgo R2.re G1.re rfl fun e2 s2 a3 w2 ι2 hk Wy2 => ?_
   have R3 : Rel c1 ι2 w2 s2 a3 := Rel.un R2.inv Wy2.rel
   have f2 := Wy2.frm hels
   have nl2 : ¬ Live ι' t.M (w.heap.size + 1) := jP R2.inv hrec (fun h => h)
   have nd2 : ¬ Live ι' t.M w.heap.size := jP R2.inv hD (fun h => h)
   have Ko : w2.heap[w.heap.size + 1]? = some (.loop (rec .ready none)) := by rw [f2.turn.block _ vT nl2]; exact hrec
   have hD2 : w2.heap[w.heap.size]? = some (.deferred (some [])) := by rw [f2.turn.block _ hDlt nd2]; exact hD
   have Pj := (Array.getElem?_eq_some_iff.1 Ko).1
   cases e2 with
   | normal =>
     have hk : vc cfg inl keep (l.st x).next B s2 (AY cfg lp l x0 x K) := hk
     refine ⟨_, run_beginRound Ko (by rw [pK]), ?_⟩
     obtain ⟨busy, Nl⟩ : ∃ busy : _root_.Go.Loop, busy = { rec .ready none with state := .busy } := ⟨_, rfl⟩
     rw [<- Nl]
     have g2 : Grw ι' W t.M ι2 w2 s2.s.M := f2.grw
     have nS2 : ∀ b, b < W.heap.size -> ¬ ι'.S b -> ¬ Live ι' t.M b -> ¬ ι2.S b := fun b h1 h2 h3 h => by
      rcases g2.newS b h with h | h | h
      ·exact h2 h
      ·exact h3 h
      ·omega
     obtain ⟨I4, x4⟩ := R3.inv.nI (vS (l := w.heap.size + 1) (o := .loop busy)) (fun b hb => by
      subst hb
      exact ⟨nS2 _ vT hSl nl2, .inl (by omega), fun j e h1 h2 h3 => jP R3.inv Ko (fun h => h) ⟨j, e, h1, h2, h3⟩⟩)
     have Kq : (w2.putObj (w.heap.size + 1) (.loop busy)).heap[w.heap.size + 1]? = some (.loop busy) := World.putObj_heap_same Pj
     have hD3 : (w2.putObj (w.heap.size + 1) (.loop busy)).heap[w.heap.size]? = some (.deferred (some [])) := (World.putObj_heap_other (by omega)).trans hD2
     have R4 : Rel c1 ι2 (w2.putObj (w.heap.size + 1) (.loop busy)) s2 a3 := ⟨I4, R3.rep.ext x4, R3.fresh⟩
     have xr4 := Wy2.xr.trans (XR.iJ x4)
     refine ihb (J := J1) (hy1 _) (.inr hB) hk R4.re (G1.kW xr4.nK).re Wy2.j fun e3 s3 a4 w3 ι3 hk3 Wy3 => ?_
     have R5 : Rel c1 ι3 w3 s3 a4 := Rel.un R4.inv Wy3.rel
     have f3 := Wy3.frm hels
     have Pm := (Array.getElem?_eq_some_iff.1 Kq).1
     have Kr : w3.heap[w.heap.size + 1]? = some (.loop busy) := by rw [f3.turn.block _ Pm (jP R4.inv Kq (fun h => h))]; exact Kq
     have hD5 : w3.heap[w.heap.size]? = some (.deferred (some [])) := by rw [f3.turn.block _ (by omega) (jP R4.inv hD3 (fun h => h))]; exact hD3
     have Pn := (Array.getElem?_eq_some_iff.1 Kr).1
     have g3 : Grw ι' W t.M ι3 w3 s3.s.M := (g2.trans (Grw.same (by simp))).trans f3.grw
     have nS3 : ∀ b, b < W.heap.size -> ¬ ι'.S b -> ¬ Live ι' t.M b -> ¬ ι3.S b := fun b h1 h2 h3 h => by
      rcases g3.newS b h with h | h | h
      ·exact h2 h
      ·exact h3 h
      ·omega
     have fin : ∀ (jump : Option Code), ∃ W4, (Instr.endRound (w.heap.size + 1) jump).run P w3 = .ok (.bool jump.isNone) W4 /\ W4.heap[w.heap.size + 1]? = some (.loop (rec (if jump.isNone then .ready else .done) jump)) /\ W4.heap[w.heap.size]? = some (.deferred (some [])) /\
      Rel c1 ι3 W4 (backTo (l.st x) s3) a /\ XR lp ι w M ι3 W4 s3.s.M /\ Grw ι' W t.M ι3 W4 s3.s.M /\ (Turn W W4 fun b => ¬ (T b ∨ U b)) := by
      intro jump
      have hend := run_endRound (P := P) jump Kr
      have hbr : ({ busy with state := if jump.isNone then .ready else .done, pending := jump } : _root_.Go.Loop) = rec (if jump.isNone then .ready else .done) jump := by rw [Nl, pK]
      rw [hbr] at hend
      obtain ⟨I6, x6⟩ := R5.inv.nI (vS (l := w.heap.size + 1) (o := .loop (rec (if jump.isNone then .ready else .done) jump))) (fun b hb => by
       subst hb
       exact ⟨nS3 _ vT hSl nl2, .inl (by omega), fun j e h1 h2 h3 => jP R5.inv Kr (fun h => h) ⟨j, e, h1, h2, h3⟩⟩)
      have xr6 := (xr4.trans Wy3.xr).trans (XR.iJ x6)
      have X : Ext ι' W t.M ι3 _ s3.s.M := xr6.ext fun id hid => R2.fresh id hid
      rw [htM] at X
      have F6 := R.rep.ext X
      refine ⟨_, hend, World.putObj_heap_same Pn, (World.putObj_heap_other (by omega)).trans hD5, ⟨I6, ⟨F6.len, F6.env, fun _ h => (by cases h), fun _ h => (by cases h)⟩, R5.fresh⟩, xr.trans (XR.iJ X), g3.trans (Grw.same (by simp)), ?_⟩
      refine ⟨Wy3.frm hels |>.turn.os.trans f2.turn.os, Wy3.frm hels |>.turn.tape.trans f2.turn.tape, Wy3.frm hels |>.turn.output.trans f2.turn.output, Nat.le_trans g3.size (by simp), fun b hb hn => ?_⟩
      have hn := Classical.not_not.1 hn
      have hbl : b ≠ w.heap.size + 1 := fun hh => by
       rw [hh] at hn
       exact hn.elim hTl fun h => hSl (hUS _ h)
      have hnl : ¬ Live ι' t.M b := fun hl => by
       rw [htM] at hl
       exact hn.elim (fun h => (hT b h).2.2.2 hl) fun h => (Live.own R.inv hl).1 (hUS b h)
      have PN : ¬ Live ι2 s2.s.M b := fun hl => by
       rcases f2.newL b hl with h | h
       ·exact hnl h
       ·omega
      rw [World.putObj_heap_other hbl, f3.turn.block b (by simp; exact Nat.lt_of_lt_of_le hb f2.turn.size) PN, World.putObj_heap_other hbl, f2.turn.block b hb hnl]
     have Np : ∀ {ι4 : Gh} {W4 : World} {M4 : Store}, Grw ι' W t.M ι4 W4 M4 -> ∀ b, T b -> b < W4.heap.size /\ (c1.w0.heap.size <= b ∨ c1.O b) /\ ¬ ι4.S b /\ ¬ Live ι4 M4 b := by
      intro ι4 W4 M4 g b hb
      obtain ⟨h1, h2, h3, h4⟩ := hT b hb
      rw [<- htM] at h4
      refine ⟨Nat.lt_of_lt_of_le h1 g.size, h2, fun h => ?_, fun h => ?_⟩
      ·rcases g.newS b h with h | h | h
       ·exact h3 h
       ·exact h4 h
       ·omega
      ·rcases g.newL b h with h | h
       ·exact h4 h
       ·omega
     have E8 : ∀ {ι4 : Gh} {W4 : World} {M4 : Store}, Grw ι' W t.M ι4 W4 M4 -> ∀ b, b < W.heap.size -> ¬ ι'.S b -> ¬ Live ι' t.M b -> ¬ ι4.S b := by
      intro ι4 W4 M4 g b h1 h2 h3 h
      rcases g.newS b h with h | h | h
      ·exact h2 h
      ·exact h3 h
      ·omega
     have Nq : s3.ins = ins := Wy3.j.trans hins
     have stop : ∀ (cd : Code), (∃ e, K e (backTo (l.st x) s3) /\ Jump e cd) -> ∃ v w', (Instr.endRound (w.heap.size + 1) (some cd)).run P w3 = .ok v w' /\ (∃ b, Ending.returned v = .returned (.bool b) /\ RJ c1 ι w M lp l x0 ins a K rec [cond b 0 1, k + 1] T U w' /\ Turn W w' fun b => ¬ (T b ∨ U b)) := by
      intro cd ⟨e4, hK, hj⟩
      obtain ⟨W4, h1, h2, h3, h4, h5, h6, h7⟩ := fin (some cd)
      refine ⟨_, W4, h1, false, rfl, ⟨ι3, backTo (l.st x) s3, h3, E8 h6 _ hDlt hSD nd2, E8 h6 _ vT hSl nl2, hTD, hTl, fun b hb => h6.S b (hUS b hb), hSU, fun b hb => Np h6 b hb, h4, Nq, h5, _, _, h2, .inr ⟨k + 1, e4, cd, rfl, hK, hj, rfl, rfl⟩⟩, h7⟩
     cases e3 with
     | normal =>
       obtain ⟨y, hy0, hyI, hymu⟩ := hk3
       obtain ⟨W4, h1, h2, h3, h4, h5, h6, h7⟩ := fin none
       obtain ⟨ι5, W5⟩ := oH (J := J0) (hcan lp l.k) JQ h4 trivial
       have hci := xX cfg lp l.k (backTo (l.st x) s3)
       rw [hy0] at W5 hci
       have g5 : Grw ι' W t.M ι5 W4 (l.st y).s.M := h6.trans (W5.frm hels).grw
       refine ⟨_, W4, h1, true, rfl, ⟨ι5, l.st y, h3, E8 g5 _ hDlt hSD nd2, E8 g5 _ vT hSl nl2, hTD, hTl, fun b hb => g5.S b (hUS b hb), hSU, fun b hb => Np g5 b hb, W5.rel, hci.trans Nq, h5.trans W5.xr, _, _, h2, .inl ⟨k + 1, y, rfl, hyI, by rw [hymu, hmu], rfl, rfl, rfl⟩⟩, h7⟩
     | ret => exact stop .ret ⟨.ret, hk3, trivial⟩
     | exit i => exact stop (.exit i) ⟨.exit i, hk3, rfl⟩
     | goto i => exact hk3.elim
     | panic ch => exact hk3.elim
     | outgrown => exact hk3.elim
   | exit i => exact hk.elim
   | goto i => exact hk.elim
   | ret => exact hk.elim
   | panic ch => exact hk.elim
   | outgrown => exact hk.elim
  ·exact hgo.elim
 ·simp at hi
theorem Frz.OG {M : Store} {z : List (Nat × Entry)} (hz : Frz M z) {n j : Nat} (hid : ∀ j, n <= j -> M.get j = none) (hj : n <= j) : (M.aK z).get j = none :=
 hz.fresh (nid := n) (m := j + 1) (fun i hi _ => hid i hi) j hj (Nat.lt_succ_self j)
theorem Iw {s : St2} {a : Act} (R : Rel c ι w s a) (t : Ty) (i : Nat) : ∃ ι', Rel c ι' w (nD s t i) a /\ Ext ι w s.s.M ι' w (nD s t i).s.M := by
 unfold nD
 split
 ·rename_i ls hm
  split
  ·rename_i im him
   obtain ⟨b, cs, T, h1, h2, h3, h4⟩ := R.inv.ents i _ hm
   have hok := fA R.inv t him h3
   have hz := hok.1
   obtain ⟨ι1, I1, x1, _⟩ := wY.frozen R.inv hok
   exact ⟨ι1, ⟨I1, R.rep.ext x1, fun j hj => hz.OG R.fresh hj⟩, x1⟩
  ·exact ⟨ι, R, Ext.refl _ _ _⟩
 ·exact ⟨ι, R, Ext.refl _ _ _⟩
theorem xY : ∀ (ts : List Ty) (ids : List Nat) {ι : Gh} {s : St2} {a : Act}, Rel c ι w s a -> ∃ ι', Rel c ι' w (lN ts ids s) a /\ Ext ι w s.s.M ι' w (lN ts ids s).s.M
 | [], _, ι, s, a, R => ⟨ι, R, Ext.refl _ _ _⟩
 | _ :: _, [], ι, s, a, R => ⟨ι, R, Ext.refl _ _ _⟩
 | t :: r, i :: l, ι, s, a, R => by
   obtain ⟨ι1, R1, x1⟩ := Iw R t i
   obtain ⟨ι2, R2, x2⟩ := xY r l R1
   exact ⟨ι2, R2, x1.trans x2⟩
theorem Kt {s : St2} {a : Act} (cfg : Cfg) (g : Operand) (R : Rel c ι w s a) : ∃ ι', Rel c ι' w (nG cfg s g) a /\ Ext ι w s.s.M ι' w (nG cfg s g).s.M := by
 unfold nG
 split
 ·split
  ·exact xY _ _ R
  ·exact ⟨ι, R, Ext.refl _ _ _⟩
 ·exact ⟨ι, R, Ext.refl _ _ _⟩
theorem wz : ∀ (ts : List Ty) (ids : List Nat) (s : St2), (lN ts ids s).ins = s.ins
 | [], _, s => rfl
 | _ :: _, [], s => rfl
 | t :: r, i :: l, s => by
   show (lN r l (nD s t i)).ins = _
   rw [wz r l]
   unfold nD
   split
   ·split <;> rfl
   ·rfl
theorem Iy (cfg : Cfg) (s : St2) (g : Operand) : (nG cfg s g).ins = s.ins := by
 unfold nG
 split
 ·split
  ·exact wz _ _ _
  ·rfl
 ·rfl
theorem MJ {J : JT} {n : Nat} (hJ : JOk J) {ι : Gh} {w : World} {s : St2} {a : Act} (g : Operand) (R : Rel c ι w s a) (j : J s.ins (Live ι s.s.M) ι.S w) :
 ∃ ι', Way J cfg n c ι w s.s.M a.defers ι' w (nG cfg s g) a := by
 obtain ⟨ι', R', x⟩ := Kt cfg g R.re
 have f := Frm.vH R.inv R'.inv x.S
 have R2 := Rel.un R.inv R'
 exact ⟨ι', R2, by rw [Iy]; exact hJ.go f R2.inv j, XR.iJ x, fun _ => f, .of_eq rfl⟩
theorem GX {inl : Inl} {keep : Nat -> Option Loop} (tab : aH P cfg) (sums : fE P cfg) (hseq : oJ P cfg) (hcan : ∀ n k, kG cfg n k) {A B : Code} (iha : vP P cfg inl keep A) (ihb : vP P cfg inl keep B) {J : JT} (hy : sH P cfg c J)
 {n lp : Nat} {g : Operand} {ps : Array Tmp} {s : St2} {a : Act} {K : Exit -> St2 -> Prop} {Q : Exit -> Act -> World -> Prop} (h : match Jv cfg s g, keep (match dH A with | 0 => dH B | k => k) with
 | some ⟨q, y, ids⟩, some l => cond (eY A && (eY B && Nat.beq ps.size q.es.length)) (conj (q.pre y) (∃ x0, (canon cfg lp l.k { s with s := { s.s with M := jq s.s.M ids } } = l.st x0 /\ l.I x0 x0 /\ l.mu x0 = 0) /\
    (∀ x, l.I x0 x -> l.mu x < (q.L y).length -> iW (qy (l.st x).s ps.toList q.es ((q.L y).getD (l.mu x) (zS q.es))) fun t =>
      vc cfg inl keep (l.st x).next A { l.st x with s := t } (yP (fun s1 => vc cfg inl keep (l.st x).next B s1 (AY cfg lp l x0 x K)) fun _ _ => False)) /\
    ∀ x, l.I x0 x -> l.mu x = (q.L y).length -> K .normal (l.st x))) False
 | _, _ => False) (R : Rel c ι w s a) (G : aN P cfg c ι w) (j : J s.ins (Live ι s.s.M) ι.S w) (hn : nU J cfg lp c ι w s.s.M a K Q) :
 (Code.rangeFunc g ps A B).wpIn (Fw none) n P Q a w := by
 split at h
 ·rename_i q y ids l hsa hkeep
  cases hb : (eY A && (eY B && Nat.beq ps.size q.es.length)) with
  | false => rw [hb] at h; exact h.elim
  | true =>
    rw [hb] at h
    simp only [Bool.and_eq_true, Nat.beq_eq] at hb
    obtain ⟨hA, hB, hps⟩ := hb
    obtain ⟨hpre, x0, ⟨hx0, hI0, PO⟩, qL, hdone⟩ := lg.1 h
    unfold Jv at hsa
    split at hsa
    ·rename_i f PS hels hg
     split at hsa
     ·rename_i q' hq
      cases hnd : fJ PS with
      | false => rw [hnd] at hsa; cases hsa
      | true =>
        rw [hnd] at hsa
        simp only [cond_true] at hsa
        split at hsa
        ·rename_i y' hcells
         cases hsa
         have hkn : Holds a [] := fun x hx => by cases hx
         obtain ⟨hf1, hf2⟩ := (iZ R.rep G hkn hg : aj c ι w s.s.M (.fn f ids) _)
         have hf1 : a.eval g = .func (.func f) #[] (ids.map fun id => Value.pointer (ι.base id)).toArray := by simpa using hf1
         have OH := qR hnd
         obtain ⟨hcall, hsq⟩ := hseq f q hq
         have R1 := R.re
         obtain ⟨hlen, hol, hval, hcap⟩ := cells_ok R.inv hcells
         have hin : ∀ i ∈ ids, ∃ e, s.s.M.get i = some e := fun i hi => by
          obtain ⟨e, he, _⟩ := hf2 i hi
          exact ⟨e, he⟩
         obtain ⟨R2, x2⟩ := Ci ids hin R1
         have f2 := Frm.vH R.inv R2.inv x2.S
         obtain ⟨ι0, W0⟩ := oH (J := J0) (hcan lp l.k) JQ R2 trivial
         have hci := xX cfg lp l.k { s with s := { s.s with M := jq s.s.M ids } }
         rw [hx0] at W0 hci
         have f0 : Frm ι w s.s.M ι0 w (l.st x0).s.M := f2.trans (W0.frm hels)
         refine wpIn_rangeFunc fun fn hfn => ?_
         obtain ⟨rec, pK⟩ : ∃ rec : LoopState -> Option Code -> _root_.Go.Loop, rec = fun st pe => { state := st, pending := pe, fn, tmps := a.tmps, params := ps, assign := A, body := B, defers := w.heap.size } := ⟨_, rfl⟩
         obtain ⟨W1, hW1⟩ : ∃ W1, (w.alloc (.deferred (some []))).alloc (.loop (rec .ready none)) = W1 := ⟨_, rfl⟩
         have hL1 : W1.heap[w.heap.size + 1]? = some (.loop (rec .ready none)) := by
          rw [<- hW1]; have := World.alloc_heap_new (w.alloc (.deferred (some []))) (.loop (rec .ready none)); rwa [World.size_alloc] at this
         have t1 : Turn w W1 fun _ => False := by
          rw [<- hW1]; exact (Turn.alloc w _ _).trans (Turn.alloc _ _ _)
         have hK1 : W1.heap[w.heap.size]? = some (.deferred (some [])) := by
          rw [<- hW1]
          exact ((Turn.alloc (w.alloc (.deferred (some []))) _ (fun _ => False)).block _ (by simp) (fun h => h)).trans (World.alloc_heap_new w _)
         refine ⟨w.heap.size + 1, [mark w.heap.size], W1, { target := .fn (.func f) (ids.map fun id => Value.pointer (ι.base id)).toArray, args := #[.func (.yield (w.heap.size + 1)) #[] #[]] }, W1, f,
          #[.func (.yield (w.heap.size + 1)) #[] #[]] ++ (ids.map fun id => Value.pointer (ι.base id)).toArray, W1, ?_, ?_, fun _ _ => trivial, ?_, fun hh => by simp [Fw, Fence.wide] at hh, ?_⟩
         ·rw [<- hW1, pK]; exact run_enterLoop_outer _ _ _ _ _
         ·simp only [resolve, hf1]
          simp [Deferred.ofValue, Act.eval]
         ·simp [invoke, hcall]
         ·refine vG.2 ?_
          have hus : (#[.func (.yield (w.heap.size + 1)) #[] #[]] ++ (ids.map fun id => Value.pointer (ι.base id)).toArray : Array Value) = (.func (.yield (w.heap.size + 1)) #[] #[] :: ids.map fun id => Value.pointer (ι.base id)).toArray := by
           apply Array.ext'; simp
          rw [hus]
          have hS0 : ∀ b, (l.st x0).s.M.get b = (l.st x0).s.M.get b := fun _ => rfl
          have xZ : ∀ b, Live (Ai ι ids) (ay 0 (jE q.cs y)) b -> b < w.heap.size /\ Live ι s.s.M b /\ ¬ ι.S b /\ ¬ Live ι (jq s.s.M ids) b := by
           intro b hb
           obtain ⟨id, hid, ls, hm, hbk⟩ := NP hcap hb
           have hl : Live ι s.s.M b := ⟨id, _, hm, rfl, hbk⟩
           refine ⟨Live.lt R.inv hl, hl, (Live.own R.inv hl).1, fun ⟨i, e, h1, h2, h3⟩ => ?_⟩
           rw [zF] at h1
           split at h1
           ·cases h1; cases h2
           ·rename_i hni
            exact hni (by rw [R.inv.dis i id e _ b h1 hm h2 rfl h3 hbk]; exact hid)
          have fW := W0.frm hels
          have OI : ∀ b, Live (Ai ι ids) (ay 0 (jE q.cs y)) b -> ¬ ι0.S b /\ ¬ Live ι0 (l.st x0).s.M b := by
           intro b hb
           obtain ⟨h1, h2, h3, h4⟩ := xZ b hb
           refine ⟨fun h => ?_, fun h => ?_⟩
           ·rcases fW.newS b h with h | h | h
            ·exact h3 h
            ·exact h4 h
            ·omega
           ·rcases fW.newL b h with h | h
            ·exact h4 h
            ·omega
          obtain ⟨I0', x0'⟩ := W0.rel.inv.nI t1 (fun _ h => h.elim)
          have Nr : ∀ b, ι0.S b -> b < w.heap.size := W0.rel.inv.stb
          refine (hsq y (Nk ι W1 (w.heap.size + 1)) (Ai ι ids) _ (RJ (c.re ι w s.s.M R.inv.kept.lb) ι w s.s.M lp l x0 s.ins a K rec) rfl (fun i T U W hJ b hb => ?_) (OD R.inv OH hcap t1 _) ?_ hval hpre
           ⟨_, _, rfl, aI.one ⟨_, rfl, rfl⟩, Jh (by rw [hol, hlen]) hcap q.cs.length 0 (by rw [hlen]; omega)⟩ (Ph (Nat.le_refl _)) (MI iha ihb hels hcan pK (Nat.le_refl _) hA hB hps G.re qL)
           ⟨ι0, l.st x0, hK1, fun h => ?_, fun h => ?_, fun h => ?_, fun h => ?_, fun b hb => f0.S b hb, fun b hb => hb, fun b hb => ⟨?_, ?_, (OI b hb).1, (OI b hb).2⟩, ⟨I0', W0.rel.rep.ext x0', W0.rel.fresh⟩, hci, ((XR.iJ x2).trans W0.xr).trans (XR.iJ x0'), _, _, hL1, .inl ⟨0, x0, rfl, hI0, PO, rfl, rfl, rfl⟩⟩).mono ?_
          ·obtain ⟨_, _, _, _, _, _, _, _, hSU, _⟩ := hJ
           exact hSU b (Classical.not_not.1 hb)
          ·intro gg t x hgl
           obtain ⟨cs, h1, h2, h3⟩ := G.glob gg t x hgl
           exact ⟨cs, h1.mono (fun b hb => hb.1) (fun b hb => t1.block b (R.inv.stb b hb.1) (fun h => h)), ah.mono (fun b hb => hb.1) (fun b hb => t1.block b (R.inv.stb b hb.1) (fun h => h)) _ _ _ h2, h3⟩
          ·have := Nr _ h; omega
          ·have := Nr _ h; omega
          ·have := (xZ _ h).1; omega
          ·have := (xZ _ h).1; omega
          ·exact Nat.lt_of_lt_of_le (xZ b hb).1 t1.size
          ·exact .inr (xZ b hb).2.1
          ·rintro e w2 ⟨⟨v, rfl⟩, T, U, hJ⟩
           show rangePost (Fw none) n P (w.heap.size + 1) Q _ (.returned v) w2
           have common : ∀ {i : List Nat}, RJ (c.re ι w s.s.M R.inv.kept.lb) ι w s.s.M lp l x0 s.ins a K rec i T U w2 -> ∃ (ι' : Gh) (s' : St2) (w3 : World) (pe : Option Code), (Instr.endLoop (w.heap.size + 1)).run P w2 = .ok pe w3 /\
            Way J cfg lp c ι w s.s.M a.defers ι' w3 s' { a with defers := [mark w.heap.size] ++ a.defers } /\
            ((∃ k x, i = [0, k] /\ l.I x0 x /\ l.mu x = k /\ s' = l.st x /\ pe = none) ∨ ∃ k e cd, i = [1, k] /\ K e s' /\ Jump e cd /\ pe = some cd) := by
            intro i hJ
            obtain ⟨ι', s', hD, hSD, hSl, hTD, hTl, hUS, hSU, hT, R', hins, xr, st, pe, hrec, hh⟩ := hJ
            have hst : st ≠ .busy := by
             rcases hh with ⟨_, _, _, _, _, _, h, _⟩ | ⟨_, _, _, _, _, _, h, _⟩ <;> rw [h] <;> simp
            have hend := run_endLoop (P := P) hrec (by rw [pK]; exact hst)
            have hpe : (rec st pe).pending = pe := by rw [pK]
            have vT := (Array.getElem?_eq_some_iff.1 hrec).1
            obtain ⟨I', x'⟩ := R'.inv.nI (vS (l := w.heap.size + 1) (o := .loop { rec st pe with state := .exhausted })) (fun b hb => by
             subst hb
             exact ⟨hSl, .inl (by show w.heap.size <= _; omega), fun j e h1 h2 h3 => jP R'.inv hrec (fun h => h) ⟨j, e, h1, h2, h3⟩⟩)
            have f := Frm.vH R.inv I' xr.S
            have Iun := R.inv.un I'
            refine ⟨ι', s', _, (rec st pe).pending, hend, ⟨⟨Iun, (bC.ctx (c := c.re ι w s.s.M R.inv.kept.lb) (c' := c) rfl rfl (R'.rep.ext x')).defers _, R'.fresh⟩, ?_, xr.trans (XR.iJ x'), fun _ => f, ⟨[w.heap.size], by simp, rfl, .inl hels, fun D hD' => ?_⟩⟩, ?_⟩
            ·rw [hins]; exact hy.ok.go f Iun j
            ·have : D = w.heap.size := by simpa using hD'
             subst this
             exact ⟨Nat.le_refl _, hSD, (World.putObj_heap_other (by omega)).trans hD⟩
            ·rcases hh with ⟨k, x, h1, h2, h3, h4, _, h5⟩ | ⟨k, e, cd, h1, h2, h3, _, h4⟩
             ·exact .inl ⟨k, x, h1, h2, h3, h4, hpe.trans h5⟩
             ·exact .inr ⟨k, e, cd, h1, h2, h3, hpe.trans h4⟩
           rcases hJ with hJ | ⟨k, hJ⟩
           ·obtain ⟨ι', s', w3, pe, hend, Wy, hh⟩ := common hJ
            rcases hh with ⟨k, x, h1, h2, h3, h4, h5⟩ | ⟨_, _, _, h1, _⟩
            ·have hk : (q.L y).length = k := by simpa using h1
             subst h4 h5
             exact ⟨none, w3, hend, hn .normal _ _ _ _ (hdone x h2 (by rw [h3, hk])) Wy⟩
            ·simp at h1
           ·obtain ⟨ι', s', w3, pe, hend, Wy, hh⟩ := common hJ
            rcases hh with ⟨_, _, h1, _⟩ | ⟨k', e, cd, h1, h2, h3, h4⟩
            ·simp at h1
            ·subst h4
             refine ⟨some cd, w3, hend, ?_⟩
             unfold Jump at h3
             split at h3
             ·exact wpIn_ret (hn .ret _ _ _ _ h2 Wy)
             ·subst h3; exact wpIn_exit (hn (.exit _) _ _ _ _ h2 Wy)
             ·exact h3.elim
        ·cases hsa
     ·cases hsa
    ·cases hsa
 ·exact h.elim
theorem Iz {inl : Inl} {keep : Nat -> Option Loop} (tab : aH P cfg) (sums : fE P cfg) (hseq : oJ P cfg) (hcan : ∀ n k, kG cfg n k) {A B : Code} (iha : vP P cfg inl keep A) (ihb : vP P cfg inl keep B) {J : JT} (hy : sH P cfg c J)
 {n lp : Nat} {g : Operand} {ps : Array Tmp} {s : St2} {a : Act} {K : Exit -> St2 -> Prop} {Q : Exit -> Act -> World -> Prop} (h : vc cfg inl keep lp (.rangeFunc g ps A B) s K) (R : Rel c ι w s a) (G : aN P cfg c ι w) (j : J s.ins (Live ι s.s.M) ι.S w) (hn : nU J cfg lp c ι w s.s.M a K Q) :
 (Code.rangeFunc g ps A B).wpIn (Fw none) n P Q a w := by
 simp only [vc] at h
 obtain ⟨ι', W⟩ := MJ (cfg := cfg) (n := lp) hy.ok g R j
 exact GX tab sums hseq hcan iha ihb hy h W.rel (G.kW W.xr.nK) W.j (hn.trans W)
end
end Go.Vc
set_option linter.unusedVariables false
set_option linter.unusedSimpArgs false
namespace Go.Vc
section
variable {P : Program} {c : Ctx} {cfg : Cfg}
theorem dP {inl : Inl} (hinl : BR P cfg inl) (tab : aH P cfg) (sums : fE P cfg) (hseq : oJ P cfg) (hdr : P.follows .mixedOrders = true) (hcan : ∀ n k, kG cfg n k) {keep : Nat -> Option Loop} :
 ∀ (b : Code), vP P cfg inl keep b := by
 intro b
 induction b with
 | skip => intro c J hy ro n lp ι w s a K Q hd h R G j hn; exact wpIn_skip (hn _ s a w ι h (Way.refl R j))
 | label l => intro c J hy ro n lp ι w s a K Q hd h R G j hn; exact wpIn_label (hn _ s a w ι h (Way.refl R j))
 | ret => intro c J hy ro n lp ι w s a K Q hd h R G j hn; exact wpIn_ret (hn _ s a w ι h (Way.refl R j))
 | exit i => intro c J hy ro n lp ι w s a K Q hd h R G j hn; exact wpIn_exit (hn _ s a w ι h (Way.refl R j))
 | goto i => intro c J hy ro n lp ι w s a K Q hd h R G j hn; exact wpIn_goto (hn _ s a w ι h (Way.refl R j))
 | region id ops draw =>
   intro c J hy ro n lp ι w s a K Q hd h R G j hn
   have goes : BU J cfg c ι w s.s.M a (fun s' => K .normal s') (Q .normal) := fun s' a' w' ι' hk R' j' x f hd => hn _ s' a' w' ι' hk ⟨R', j', XR.iJ x, f, .of_eq hd⟩
   cases draw with
   | false => exact wpIn_region_list (mV hinl tab sums hy _ hd h R G j goes)
   | true =>
     simp only [vc] at h
     cases hs : drawn cfg ops.toList s with
     | none => rw [hs] at h; exact h.elim
     | some q =>
       obtain ⟨ps, s'⟩ := q
       rw [hs] at h
       obtain ⟨hp, hk⟩ := lg.1 h
       refine wpIn_region_any hdr (Lc (N := Q .normal) hd (fun _ _ h => h) _ _ _ _ (Iu hdr tab sums hs hp R.re G.re fun t a' w' ι' ht R' x hd => ?_))
       subst ht
       have f := Frm.vH R.inv R'.inv x.S
       have R2 := Rel.un R.inv R'
       exact goes _ a' w' ι' hk R2 (by rw [Lh hs]; exact hy.ok.go f R2.inv j) x (fun _ => f) hd
 | seq x y ihx ihy =>
   intro c J hy ro n lp ι w s a K Q hd h R G j hn
   have hd1 : ro = none ∨ eY x = true := hd.imp id fun h => by simp only [eY, Bool.and_eq_true] at h; exact h.1
   have hd2 : ro = none ∨ eY y = true := hd.imp id fun h => by simp only [eY, Bool.and_eq_true] at h; exact h.2
   simp only [vc] at h
   cases hkp : keep (dH y + 1000000) with
   | none =>
     rw [hkp] at h
     refine wpIn_seq (ihx hy hd1 h R G j fun e s' a' w' ι' hk W => ?_)
     cases e with
     | normal => exact ihy hy hd2 hk W.rel (G.kW W.xr.nK) W.j (hn.trans W)
     | exit i => exact hn _ s' a' w' ι' hk W
     | goto i => exact hn _ s' a' w' ι' hk W
     | ret => exact hn _ s' a' w' ι' hk W
     | panic ch => exact hn _ s' a' w' ι' hk W
     | outgrown => exact hn _ s' a' w' ι' hk W
   | some kp =>
     rw [hkp] at h
     obtain ⟨h, hs⟩ := h
     refine wpIn_seq (ihx hy hd1 h R G j fun e s' a' w' ι' hk W => ?_)
     cases e with
     | normal =>
       obtain ⟨x0, hx0, hI⟩ := hk
       obtain ⟨ι2, W2⟩ := oH (hcan lp kp.k) hy.ok W.rel W.j
       rw [hx0] at W2
       exact ihy hy hd2 (hs x0 hI) W2.rel ((G.kW W.xr.nK).kW W2.xr.nK) W2.j ((hn.trans W).trans W2)
     | exit i => exact hn _ s' a' w' ι' hk W
     | goto i => exact hn _ s' a' w' ι' hk W
     | ret => exact hn _ s' a' w' ι' hk W
     | panic ch => exact hn _ s' a' w' ι' hk W
     | outgrown => exact hn _ s' a' w' ι' hk W
 | cond x y z ihy ihz =>
   intro c J hy ro n lp ι w s a K Q hd h R G j hn
   have hd1 : ro = none ∨ eY y = true := hd.imp id fun h => by simp only [eY, Bool.and_eq_true] at h; exact h.1
   have hd2 : ro = none ∨ eY z = true := hd.imp id fun h => by simp only [eY, Bool.and_eq_true] at h; exact h.2
   simp only [vc] at h
   cases hx : opb cfg s.s [] x with
   | none => rw [hx] at h; exact h.elim
   | some t =>
     rw [hx] at h
     have hv := NG R.rep G (fun y hy => (List.not_mem_nil hy).elim) hx
     cases t with
     | true => exact wpIn_cond hv (ihy hy hd1 h R G j hn)
     | false => exact wpIn_cond hv (ihz hy hd2 h R G j hn)
 | block id x ih =>
   intro c J hy ro n lp ι w s a K Q hd h R G j hn
   refine wpIn_block (ih hy hd h R G j fun e s' a' w' ι' hk W => ?_)
   cases e with
   | normal => exact hn _ s' a' w' ι' hk W
   | exit i =>
     simp only [KN] at hk
     show if i = id then Q .normal a' w' else Q (.exit i) a' w'
     cases hb : Nat.beq i id with
     | true =>
       rw [hb] at hk
       rw [if_pos (Nat.eq_of_beq_eq_true hb)]
       exact hn _ s' a' w' ι' hk W
     | false =>
       rw [hb] at hk
       rw [if_neg (fun hh => by rw [hh] at hb; simp at hb)]
       exact hn _ s' a' w' ι' hk W
   | goto i => exact hn _ s' a' w' ι' hk W
   | ret => exact hn _ s' a' w' ι' hk W
   | panic ch => exact hn _ s' a' w' ι' hk W
   | outgrown => exact hn _ s' a' w' ι' hk W
 | loop x ih =>
   intro c J hy ro n lp ι w s a K Q hd h R G j hn
   simp only [vc] at h
   cases hk : keep (dH x) with
   | none => rw [hk] at h; exact h.elim
   | some kp =>
     rw [hk] at h
     obtain ⟨y, ⟨hy0, hyI⟩, hs⟩ := h
     have hs := kp.O1 _ hs
     obtain ⟨ι', W⟩ := oH (hcan lp kp.k) hy.ok R j
     rw [hy0] at W
     exact wpIn_loop_rounds (kp.mu y + 1) (zD (cfg := cfg) (c := c) (l := kp) hy.ok (B := fun s' K' => vc cfg inl keep lp x s' K') (fun hb R2 G2 j2 hn2 => ih hy hd hb R2 G2 j2 hn2) (hcan lp kp.k) hs _ hyI (Nat.lt_succ_self _) W.rel (G.kW W.xr.nK) W.j (hn.trans W))
 | rangeFunc g ps x y ihx ihy =>
   intro c J hy ro n lp ι w s a K Q hd h R G j hn
   have hro : ro = none := by
    rcases hd with h | h
    ·exact h
    ·simp [eY] at h
   subst hro
   exact Iz tab sums hseq hcan ihx ihy hy h R G j hn
 | _ => intro c J hy ro n lp ι w s a K Q hd h R G j hn; exact h.elim
theorem x9 {inl : Inl} (hinl : BR P cfg inl) (tab : aH P cfg) (sums : fE P cfg) (hseq : oJ P cfg) (hdr : P.follows .mixedOrders = true) (hcan : ∀ n k, kG cfg n k) {keep : Nat -> Option Loop} : ∀ (b : Code)
 {J : JT} (hy : sH P cfg c J) {n lp : Nat} {ι : Gh} {w : World} {s : St2} {a : Act} {K : Exit -> St2 -> Prop} {Q : Exit -> Act -> World -> Prop} (h : vcB cfg inl keep lp b s K)
 (R : Rel c ι w s a) (G : aN P cfg c ι w) (j : J s.ins (Live ι s.s.M) ι.S w) (hn : nU J cfg lp c ι w s.s.M a K Q), b.wpIn (Fw none) n P Q a w
 | .scope b, J, hy, n, lp, ι, w, s, a, K, Q, h, R, G, j, hn => by
   unfold vcB at h
   split at h
   ·rename_i l hl
    split at h
    ·rename_i rest hr
     rw [wR] at hr
     rw [xM]
     refine wp_scope_jumps l (fun a w => rest.wp P (Exit.jump l (fun _ _ => False) Q) a w) (fun _ _ => 0) hr ?_ fun a w hJ => wp_mono hJ fun e a' w' hq => ?_
     ·rw [<- xM (n := 0)]
      refine dP hinl tab sums hseq hdr hcan b hy (.inl rfl) h R G j fun e s' a' w' ι' hk W => ?_
      cases e with
      | goto l' =>
        cases hb : Nat.beq l' l with
        | false => simp only [hb] at hk; exact hk.elim
        | true =>
          simp only [hb, cond_true] at hk
          refine ⟨Nat.eq_of_beq_eq_true hb, ?_⟩
          show rest.wp P (Exit.jump l (fun _ _ => False) Q) a' w'
          rw [<- xM (n := 0)]
          refine dP hinl tab sums hseq hdr hcan rest hy (.inl rfl) hk W.rel (G.kW W.xr.nK) W.j fun e s2 a2 w2 ι2 hk2 W2 => ?_
          cases e with
          | goto i => exact hk2.elim
          | normal => exact hn _ s2 a2 w2 ι2 hk2 (W.trans W2)
          | exit i => exact hn _ s2 a2 w2 ι2 hk2 (W.trans W2)
          | ret => exact hn _ s2 a2 w2 ι2 hk2 (W.trans W2)
          | panic ch => exact hn _ s2 a2 w2 ι2 hk2 (W.trans W2)
          | outgrown => exact hn _ s2 a2 w2 ι2 hk2 (W.trans W2)
      | normal => exact hn _ s' a' w' ι' hk W
      | exit i => exact hn _ s' a' w' ι' hk W
      | ret => exact hn _ s' a' w' ι' hk W
      | panic ch => exact hn _ s' a' w' ι' hk W
      | outgrown => exact hn _ s' a' w' ι' hk W
     ·cases e with
      | goto i => exact hq.2.elim
      | _ => exact hq
    ·exact h.elim
   ·exact h.elim
 | .seq x y, J, hy, n, lp, ι, w, s, a, K, Q, h, R, G, j, hn => by
   unfold vcB at h
   cases ht : wS y with
   | false => rw [ht] at h; exact dP hinl tab sums hseq hdr hcan _ hy (.inl rfl) h R G j hn
   | true =>
     rw [ht] at h
     refine wpIn_seq (dP hinl tab sums hseq hdr hcan x hy (.inl rfl) h R G j fun e s' a' w' ι' hk W => ?_)
     cases e with
     | normal => exact x9 hinl tab sums hseq hdr hcan y hy hk W.rel (G.kW W.xr.nK) W.j (hn.trans W)
     | exit i => exact hn _ s' a' w' ι' hk W
     | goto i => exact hn _ s' a' w' ι' hk W
     | ret => exact hn _ s' a' w' ι' hk W
     | panic ch => exact hn _ s' a' w' ι' hk W
     | outgrown => exact hn _ s' a' w' ι' hk W
 | .skip, _, hy, _, _, _, _, _, _, _, _, h, R, G, j, hn => dP hinl tab sums hseq hdr hcan _ hy (.inl rfl) h R G j hn
 | .region .., _, hy, _, _, _, _, _, _, _, _, h, R, G, j, hn => dP hinl tab sums hseq hdr hcan _ hy (.inl rfl) h R G j hn
 | .cond .., _, hy, _, _, _, _, _, _, _, _, h, R, G, j, hn => dP hinl tab sums hseq hdr hcan _ hy (.inl rfl) h R G j hn
 | .block .., _, hy, _, _, _, _, _, _, _, _, h, R, G, j, hn => dP hinl tab sums hseq hdr hcan _ hy (.inl rfl) h R G j hn
 | .loop _, _, hy, _, _, _, _, _, _, _, _, h, R, G, j, hn => dP hinl tab sums hseq hdr hcan _ hy (.inl rfl) h R G j hn
 | .rangeFunc .., _, hy, _, _, _, _, _, _, _, _, h, R, G, j, hn => dP hinl tab sums hseq hdr hcan _ hy (.inl rfl) h R G j hn
 | .exit _, _, hy, _, _, _, _, _, _, _, _, h, R, G, j, hn => dP hinl tab sums hseq hdr hcan _ hy (.inl rfl) h R G j hn
 | .label _, _, hy, _, _, _, _, _, _, _, _, h, R, G, j, hn => dP hinl tab sums hseq hdr hcan _ hy (.inl rfl) h R G j hn
 | .goto _, _, hy, _, _, _, _, _, _, _, _, h, R, G, j, hn => dP hinl tab sums hseq hdr hcan _ hy (.inl rfl) h R G j hn
 | .ret, _, hy, _, _, _, _, _, _, _, _, h, R, G, j, hn => dP hinl tab sums hseq hdr hcan _ hy (.inl rfl) h R G j hn
 | .refuse _, _, hy, _, _, _, _, _, _, _, _, h, R, G, j, hn => dP hinl tab sums hseq hdr hcan _ hy (.inl rfl) h R G j hn
theorem yg {n : Nat} {fn : Func} {tmps : Array Value} {R : Ending -> World -> Prop} : ∀ (ms : List Nat) {w : World}, ms.Nodup -> (∀ D ∈ ms, w.heap[D]? = some (.deferred (some []))) ->
 (∀ w', Turn w w' (fun b => b ∈ ms) -> ∃ v, (results fn tmps).run P w' = .ok v w' /\ R (.returned v) w') -> LeavesInM (Fw none) n P fn tmps R (ms.map mark) .returning w
 | [], w, _, _, h => h w (Turn.refl _ _)
 | D :: r, w, hn, hD, h => by
   obtain ⟨h1, h2⟩ := List.nodup_cons.1 hn
   refine ⟨by simp, .inl ⟨D, _, rfl, run_takeDeferred (hD D (by simp)), yg r h2 (fun D' hD' => ?_) fun w' t => h w' ?_⟩⟩
   ·rw [World.putObj_heap_other (fun hh => h1 (by rw [<- hh]; exact hD'))]; exact hD D' (by simp [hD'])
   ·exact ((vS (o := .deferred none)).mono (fun k hk => by simp [hk])).trans (t.mono fun k hk => by simp [hk])
theorem yh {f : Nat} {fn : Func} {b : Code} (hf : P.funcs[f]? = some fn) (hb : fn.body = some b) {args : Array Value} {lp : Nat} {ι : Gh} {w : World} {M : Store} {K : Exit -> St2 -> Prop} {R : Ending -> World -> Prop}
 (h : ∀ Q, nU J0 cfg lp c ι w M { tmps := args ++ Array.replicate (fn.ntmps - args.size) undef, defers := [] } K Q -> b.wpIn (Fw none) 2 P Q { tmps := args ++ Array.replicate (fn.ntmps - args.size) undef, defers := [] } w) (hw : c.w0.heap.size <= w.heap.size)
 (hend : ∀ e s' a' w' ι', K e s' -> Rel c ι' w' s' a' -> XR lp ι w M ι' w' s'.s.M -> (e = .normal ∨ e = .ret) /\ ∃ v, (results fn a'.tmps).run P w' = .ok v w' /\ R (.returned v) w') : Calls P f args w R := by
 refine vG.1 (callsIn_of_wp_marks hf hb trivial (h _ fun e s' a' w' ι' hk W => ?_) rfl)
 obtain ⟨ms, hnd, hms, _, hD⟩ := W.mks
 have hms : a'.defers = ms.map mark := by rw [hms]; simp
 have key : LeavesInM (Fw none) 2 P fn a'.tmps R a'.defers .returning w' := by
  rw [hms]
  refine yg ms hnd (fun D h => (hD D h).2.2) fun w2 t => ?_
  obtain ⟨I2, x2⟩ := W.rel.inv.nI t fun D h => by
   obtain ⟨h1, h2, h3⟩ := hD D h
   exact ⟨h2, .inl (Nat.le_trans hw h1), fun j e g1 g2 g3 => jP W.rel.inv h3 (fun h => h) ⟨j, e, g1, g2, g3⟩⟩
  exact (hend e s' a' w2 ι' hk ⟨I2, W.rel.rep.ext x2, W.rel.fresh⟩ (W.xr.trans (XR.iJ x2))).2
 rcases (hend e s' a' w' ι' hk W.rel W.xr).1 with rfl | rfl
 ·exact key
 ·exact key
def GY (a : Act) (r : ResultVar) : Sem Value := match r with
 | .tmp t => pure (a.tmps.getD t undef)
 | .cell t T => do loadVar T (<- asAddr (a.tmps.getD t undef))
theorem IB {ι : Gh} {w : World} {s : St} {a : Act} (tab : aH P cfg) (I : Inv c ι w s.M) (F : bC c ι w s a) {r : ResultVar} {v : V} (h : yQ cfg s r = some v) :
 ∃ u, aI c ι w s.M v u /\ (GY a r).run P w = .ok u w := by
 cases r with
 | tmp t =>
   simp only [yQ] at h
   split at h
   ·rename_i x he
    cases h
    exact ⟨_, F.env t _ he, rfl⟩
   ·cases h
 | cell t T =>
   simp only [yQ] at h
   split at h
   ·rename_i id off ti he hT
    cases hm : s.M.get id with
    | none => rw [hm] at h; cases h
    | some en =>
      rw [hm] at h
      cases en <;> simp only at h <;> first | (cases h; done) | skip
      rename_i ls
      cases hl : dO ls off ti.size with
      | none => rw [hl] at h; cases h
      | some r =>
        rw [hl] at h
        cases h
        have hv := aI.leaf (x := ⟨false, [.ptr id off]⟩) (l := .ptr id off) rfl (F.env t _ he)
        simp only [aj, hm] at hv
        obtain ⟨b, hb, hv⟩ := hv
        obtain ⟨b', cs, T', h1, h2, h3, _⟩ := I.ents id _ hm
        rw [hb] at h1; cases h1
        obtain ⟨k1, k2⟩ := dW hl h3
        have hv : a.tmps.getD t undef = .pointer (some ⟨b, off, none⟩) := by simpa [Act.eval] using hv
        obtain ⟨u, r1, r2⟩ := ug (P := P) (w := w) (tab T ti hT) (a := ⟨b, off, none⟩) (ds := (cs.drop off).take ti.size) (fun i v hi => by
         rw [Addr.add_lit, cell_of_row w b _ cs.toArray _ (0, 0) h2]
         rw [List.getElem?_take] at hi
         split at hi
         ·rw [List.getElem?_drop] at hi; simpa using hi
         ·cases hi) (by rw [List.length_take, List.length_drop]; omega)
        refine ⟨u, aI.yV (ti := ti) k1 r2, ?_⟩
        show (do loadVar T (<- asAddr (a.tmps.getD t undef))).run P w = _
        rw [hv]
        simp [asAddr, r1]
   ·cases h
theorem yj {ι : Gh} {w : World} {s : St} {a : Act} (tab : aH P cfg) (I : Inv c ι w s.M) (F : bC c ι w s a) : ∀ {rs : List ResultVar} {vs : List V}, qB cfg s rs = some vs ->
 ∃ us, aP c ι w s.M vs us /\ (rs.mapM (GY a)).run P w = .ok us w
 | [], vs, h => by cases h; exact ⟨[], rfl, by simp⟩
 | r :: l, vs, h => by
   unfold qB at h
   split at h
   ·rename_i v vs' hv hvs
    cases h
    obtain ⟨u, k1, k2⟩ := IB tab I F hv
    obtain ⟨us, k3, k4⟩ := yj tab I F hvs
    refine ⟨u :: us, ⟨u, us, rfl, k1, k3⟩, ?_⟩
    rw [List.mapM_cons, Sem.run_bind, k2, Result.andThen_ok, Sem.run_bind, k4, Result.andThen_ok]
    rfl
   ·cases h
theorem aP.length {ι : Gh} {w : World} {M : Store} : ∀ {l : List V} {us : List Value}, aP c ι w M l us -> us.length = l.length
 | [], us, h => by rw [show us = [] from h]; rfl
 | v :: r, us, ⟨u, us', h1, _, h3⟩ => by rw [h1]; simp [h3.length]
theorem zG {ι : Gh} {w : World} {s : St} {a : Act} (tab : aH P cfg) (I : Inv c ι w s.M) (F : bC c ι w s a) {fn : Func} {sv : SV} (h : jf cfg s fn.results.toList = some sv) :
 ∃ v, (results fn a.tmps).run P w = .ok v w /\ ak c ι w s.M sv v := by
 unfold jf at h
 cases hr : qB cfg s fn.results.toList with
 | none => rw [hr] at h; cases h
 | some vs =>
   obtain ⟨us, k1, k2⟩ := yj tab I F hr
   rw [hr] at h
   have e : results fn a.tmps = (do { let vs <- fn.results.mapM (GY a); pure (if h : vs.size = 1 then vs[0] else .tuple vs) }) := by
    unfold results
    congr 1
   have hrun : (results fn a.tmps).run P w = .ok (if h : us.toArray.size = 1 then us.toArray[0] else .tuple us.toArray) w := by
    rw [e, Array.mapM_eq_mapM_toList, Sem.run_bind]
    simp [k2]
   refine ⟨_, hrun, ?_⟩
   match vs, h, k1 with
   | [v], h, ⟨u, us', h1, h2, h3⟩ =>
     cases h
     have h3 : us' = [] := h3
     subst h3 h1
     rw [dif_pos (by simp)]
     exact h2
   | [], h, k1 =>
     cases h
     have k1 : us = [] := k1
     subst k1
     exact ⟨[], by simp, rfl⟩
   | v :: v' :: vs', h, k1 =>
     cases h
     have hl := k1.length
     have hne : ¬ us.toArray.size = 1 := by simp only [List.size_toArray]; rw [hl]; simp
     rw [dif_neg hne]
     exact ⟨us, rfl, k1⟩
theorem Lj {l : List V} : ∀ {k i : Nat} {v : SV}, bG ((l.map fun v => some (SV.v v)) ++ List.replicate k none) i = some v -> ∃ x, l[i]? = some x /\ v = .v x := by
 induction l with
 | nil =>
   intro k i v h
   exfalso
   induction k generalizing i with
   | zero => simp [bG] at h
   | succ k ih =>
     simp only [List.map_nil, List.nil_append, List.replicate_succ] at h ih
     cases i with
     | zero => simp [bG] at h
     | succ i => exact ih h
 | cons x r ih =>
   intro k i v h
   simp only [List.map_cons, List.cons_append] at h
   cases i with
   | zero => simp only [bG] at h; cases h; exact ⟨x, by simp, rfl⟩
   | succ i => obtain ⟨y, h1, h2⟩ := ih h; exact ⟨y, by simpa using h1, h2⟩
theorem Ei {ι : Gh} {w : World} {M : Store} {args : List V} {us : List Value} (h : aP c ι w M args us) (n : Nat) :
 bC c ι w { env := lQ n args, aY := [], M := M } { tmps := us.toArray ++ Array.replicate (n - us.toArray.size) undef, defers := [] } := by
 have hl := h.length
 refine ⟨?_, fun i v hi => ?_, fun _ hx => (List.not_mem_nil hx).elim, fun _ hx => (List.not_mem_nil hx).elim⟩
 ·simp [lQ, Jw, hl]
 ·unfold lQ Jw at hi
  obtain ⟨x, h1, rfl⟩ := Lj hi
  obtain ⟨u, h2, h3⟩ := h.get h1
  have hlt := (List.getElem?_eq_some_iff.1 h2).1
  have : Act.eval { tmps := us.toArray ++ Array.replicate (n - us.toArray.size) undef, defers := [] } (.tmp i) = u := by
   simp only [Act.eval, Array.getD_eq_getD_getElem?]
   rw [Array.getElem?_append_left (by simpa using hlt)]
   simp [h2]
  rw [this]; exact h3
theorem nameB {fn : Func} {b : Code} (h : cond (fn.name == "runtime.NumGoroutine") none fn.body = some b) : (fn.name == "runtime.NumGoroutine") = false /\ fn.body = some b := by
 cases hb : (fn.name == "runtime.NumGoroutine") with
 | true => rw [hb] at h; cases h
 | false => rw [hb] at h; exact ⟨rfl, h⟩
theorem aP.set {ι : Gh} {w : World} {M : Store} {y : V} {u : Value} (hy : aI c ι w M y u) : ∀ {l : List V} {us : List Value} {i : Nat}, aP c ι w M l us -> us[i]? = some u -> aP c ι w M (l.set i y) us
 | [], us, i, h, hu => h
 | x :: r, us, 0, ⟨v, ws, h1, h2, h3⟩, hu => by
   subst h1
   have : v = u := by simpa using hu
   subst this
   exact ⟨v, ws, rfl, hy, h3⟩
 | x :: r, us, i + 1, ⟨v, ws, h1, h2, h3⟩, hu => by
   subst h1
   exact ⟨v, ws, rfl, h2, aP.set hy h3 (by simpa using hu)⟩
theorem nM {w : World} {us : List Value} : ∀ (r : List Nat) {args : List V} {s : St2} {K : List V -> St2 -> Prop} {ι : Gh}, rF r args s K -> Inv c ι w s.s.M -> (∀ j, s.next <= j -> s.s.M.get j = none) -> aP c ι w s.s.M args us ->
 ∃ args' s' ι', K args' s' /\ Inv c ι' w s'.s.M /\ (∀ j, s'.next <= j -> s'.s.M.get j = none) /\ aP c ι' w s'.s.M args' us /\ Ext ι w s.s.M ι' w s'.s.M
 | [], args, s, K, ι, h, I, fr, hv => ⟨args, s, ι, h, I, fr, hv, Ext.refl _ _ _⟩
 | i :: r, args, s, K, ι, h, I, fr, hv => by
   unfold rF at h
   split at h
   ·rename_i lf ha
    split at h
    ·rename_i id k hf
     split at h
     ·rename_i e t fr' l hm
      obtain ⟨u, hu, hr⟩ := hv.get ha
      have hr := (aI.leaf (x := ⟨false, [lf]⟩) (l := lf) rfl hr).weak
      have hfr : ∃ ax, [u] = [Value.slice ax k (ι.cap id)] /\ k <= l.length /\ (0 < ι.cap id -> ax = ι.base id) := by
       generalize lf.weak = lf' at hf hr
       unfold I7 at hf
       split at hf
       ·rename_i id'
        split at hf
        ·rename_i e' t' P6 P7 l' hm'
         cases hf
         simp only [aj, hm'] at hr
         rw [hm] at hm'
         cases hm'
         obtain ⟨ax, h1, h2⟩ := hr
         exact ⟨ax, h1, Nat.le_refl _, h2⟩
        ·cases hf
       ·cases hf
        simp only [aj, hm] at hr
        obtain ⟨ax, h1, h2, h3⟩ := hr
        exact ⟨ax, by simpa using h1, by omega, fun h0 => by rw [h3 h0]; cases ι.base id <;> simp [Addr.add]⟩
       ·cases hf
      obtain ⟨ax, h1, h2, h3⟩ := hfr
      obtain ⟨sp, ι', s1, s2, I', x', hr'⟩ := I.told (fr s.next (Nat.le_refl _)) hm h2 h3
      have hrest := h sp s1 s2
      have hu' : aI c ι' w ((s.s.M.set id .dead).set s.next (.row e t fr' true (l ++ sp))) (one (.sf s.next 0 k)) u := aI.one (by rw [h1]; exact hr')
      obtain ⟨args', s', ι'', k1, k2, k3, k4, k5⟩ := nM r hrest I' (fun j hj => by
       have hj' : s.next + 1 <= j := hj
       show (((s.s.M.set id _).set s.next _).get j) = none
       have hji : j ≠ id := fun hh => by rw [<- hh, fr j (by omega)] at hm; cases hm
       rw [Store.get_set_other _ _ _ _ (by omega), Store.get_set_other _ _ _ _ hji]
       exact fr j (by omega)) (aP.set hu' (hv.mono x') hu)
      exact ⟨args', s', ι'', k1, k2, k3, k4, x'.trans k5⟩
     ·exact nM r h I fr hv
    ·exact nM r h I fr hv
   ·exact nM r h I fr hv
theorem Ji {L : Nat -> List V -> Nat -> Option Loop} (hels : cfg.els = none) (tab : aH P cfg) (sums : fE P cfg) (hseq : oJ P cfg) (hdr : P.follows .mixedOrders = true) (hcan : ∀ n k, kG cfg n k) : ∀ d, BR P cfg (Jy P cfg L d)
 | 0 => fun f vs s K c ι w us h => h.elim
 | d + 1 => by
   intro f vs s K c ι w us h I fr G hv
   unfold Jy at h
   split at h
   ·rename_i fn hf
    split at h
    ·rename_i b hb
     obtain ⟨hname, hbody⟩ := nameB hb
     obtain ⟨vs, s, ι, h, I, fr, hv, x0⟩ := nM (cfg.xp f) h I fr hv
     have G := G.kW x0.nK
     have R : Rel c ι w { s with s := { s.s with env := lQ fn.ntmps vs, aY := [] } } { tmps := us.toArray ++ Array.replicate (fn.ntmps - us.toArray.size) undef, defers := [] } := ⟨I, Ei hv fn.ntmps, fr⟩
     refine Does.mono (R := fun v w' => ∃ ι' s' sv, Inv c ι' w' s'.s.M /\ Ext ι w s.s.M ι' w' s'.s.M /\ (∀ j, s'.next <= j -> s'.s.M.get j = none) /\ ak c ι' w' s'.s.M sv v /\ K sv s')
      (Does.vk hf hname hbody (yh (cfg := cfg) (lp := s.next) (c := c) (ι := ι) (M := s.s.M) (K := fun e s' => match e with
        | .ret | .normal => match jf cfg s'.s fn.results.toList with
          | some v => K v s'
          | none => False
        | _ => False) hf hbody (fun Q hn => x9 (Ji hels tab sums hseq hdr hcan d) tab sums hseq hdr hcan b (sH.none hels) h R G trivial hn) I.kept.size fun e s' a' w' ι' hk R' x => ?_)) (fun v w' ⟨ι', s', sv, y1, y2, y3, y4, y5⟩ => ⟨ι', s', sv, y1, x0.trans y2, y3, y4, y5⟩)
     have x : Ext ι w s.s.M ι' w' s'.s.M := x.ext fr
     have fin : (match jf cfg s'.s fn.results.toList with | some v => K v s' | none => False) -> ∃ v, (results fn a'.tmps).run P w' = .ok v w' /\ ∃ ι' s' sv, Inv c ι' w' s'.s.M /\ Ext ι w s.s.M ι' w' s'.s.M /\ (∀ j, s'.next <= j -> s'.s.M.get j = none) /\ ak c ι' w' s'.s.M sv v /\ K sv s' := by
      intro hk
      cases hr : jf cfg s'.s fn.results.toList with
      | none => rw [hr] at hk; exact hk.elim
      | some sv =>
        rw [hr] at hk
        obtain ⟨v, h1, h2⟩ := zG tab R'.inv R'.rep hr
        exact ⟨v, h1, ι', s', sv, R'.inv, x, R'.fresh, h2, hk⟩
     cases e with
     | normal => exact ⟨.inl rfl, fin hk⟩
     | ret => exact ⟨.inr rfl, fin hk⟩
     | exit _ => exact hk.elim
     | goto _ => exact hk.elim
     | panic _ => exact hk.elim
     | outgrown => exact hk.elim
    ·exact h.elim
   ·exact h.elim
end
end Go.Vc
