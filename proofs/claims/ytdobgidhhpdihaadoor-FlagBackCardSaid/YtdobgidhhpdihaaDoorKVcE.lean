/- What the evaluator makes of some entries it makes of more entries, too. -/
import Derived.Test.YtdobgidhhpdihaaDoorKVcD
import Derived.Orders
import Derived.LoopN
import Derived.ScopeJumps
set_option linter.unusedVariables false
set_option linter.unusedSimpArgs false
namespace Go.Vc
def MLe (M M' : Store) : Prop := ∀ id e, M.get id = some e -> M'.get id = some e
section
variable {c : Cfg} {M M' : Store} (hM : MLe M M')
include hM
theorem fH : ∀ (t : Ty) {ls : List Leaf} {x : Im t}, aF M t ls = some x -> aF M' t ls = some x
 | .int _, ls, x, h => by
   match ls, h with
   | .int _ _ :: _, h => exact h
 | .bool, ls, x, h => by
   match ls, h with
   | .bool _ :: _, h => exact h
   | .kb _ :: _, h => exact h
 | .str, ls, x, h => by
   match ls, h with
   | .str _ :: _, h => exact h
 | .unit, ls, x, h => h
 | .slice e, ls, x, h => by
   match ls, h with
   | l :: r, h =>
     simp only [aF] at h ⊢
     generalize l.weak = l at h ⊢
     cases l <;> simp only at h ⊢ <;> first | exact h | skip
     case own id =>
      cases hg : M.get id with
      | none => rw [hg] at h; cases h
      | some en => rw [hM _ _ hg]; rw [hg] at h; exact h
     case sl id lo n =>
      cases hg : M.get id with
      | none => rw [hg] at h; cases h
      | some en => rw [hM _ _ hg]; rw [hg] at h; exact h
     case asl id off lo n =>
      cases hg : M.get id with
      | none => rw [hg] at h; cases h
      | some en => rw [hM _ _ hg]; rw [hg] at h; exact h
 | .arr n e, ls, x, h => by
   match ls, h with
   | .arr _ _ _ _ :: _, h => exact h
 | .pair a b, ls, x, h => by
   simp only [aF] at h ⊢
   cases h1 : aF M a ls with
   | none => rw [h1] at h; cases h
   | some p =>
     rw [h1] at h
     rw [fH a h1]
     simp only at h ⊢
     cases h2 : aF M b p.rest with
     | none => rw [h2] at h; cases h
     | some q => rw [h2] at h; rw [fH b h2]; exact h
theorem nZ {e : Ty} {x : Leaf} {r} (h : listOf M e x = some r) : listOf M' e x = some r := by
 cases x with
 | own id | sl id lo n | vw id lo n | asl id off lo n =>
   simp only [listOf] at h ⊢
   cases hg : M.get id with
   | none => rw [hg] at h; cases h
   | some en => rw [hM _ _ hg]; rw [hg] at h; exact h
 | _ => exact h
theorem IK {T : Nat} {x : Leaf} {r} (h : oI c M T x = some r) : oI c M' T x = some r := by
 unfold oI at h ⊢
 cases hT : c.ti T with
 | none => rw [hT] at h; cases h
 | some ti =>
   rw [hT] at h
   cases x with
   | ptr id off | iw id i off | iy id dw i off =>
     simp only at h ⊢
     cases hg : M.get id with
     | none => rw [hg] at h; cases h
     | some en => rw [hM _ _ hg]; rw [hg] at h; exact h
   | _ => exact h
theorem GX {T : Nat} {x : Leaf} {y : V} {r} (h : lM c M T x y = some r) : lM c M' T x y = some r := by
 unfold lM at h ⊢
 cases hT : c.ti T with
 | none => rw [hT] at h; cases h
 | some ti =>
   rw [hT] at h
   simp only at h ⊢
   cases hw : Nat.beq (widths y.ls) ti.size with
   | false => rw [hw] at h; cases h
   | true =>
     rw [hw] at h
     simp only [cond_true] at h ⊢
     cases x with
     | ptr id off =>
       simp only at h ⊢
       cases hg : M.get id with
       | none => rw [hg] at h; cases h
       | some en => rw [hM _ _ hg]; rw [hg] at h; exact h
     | iw id i off =>
       simp only at h ⊢
       cases hg : M.get id with
       | none => rw [hg] at h; cases h
       | some en =>
         rw [hM _ _ hg]; rw [hg] at h
         cases en <;> simp only at h ⊢ <;> first | (cases h; done) | skip
         rename_i e t fr ap l
         cases hs : eP (explode fr t (idx l i)) off ti.size y.ls with
         | none => rw [hs] at h; cases h
         | some q =>
           rw [hs] at h
           simp only at h ⊢
           cases hi : aF M t q with
           | none => rw [hi] at h; cases h
           | some im => rw [fH hM t hi]; rw [hi] at h; exact h
     | iy id dw i off =>
       simp only at h ⊢
       cases hg : M.get id with
       | none => rw [hg] at h; cases h
       | some en =>
         rw [hM _ _ hg]; rw [hg] at h
         cases en <;> simp only at h ⊢ <;> first | (cases h; done) | skip
         rename_i ls
         cases hl : lat ls dw with
         | none => rw [hl] at h; cases h
         | some lf =>
           rw [hl] at h
           cases lf <;> simp only at h ⊢ <;> first | (cases h; done) | skip
           rename_i n fr t l
           cases hs : eP (explode fr t (idx l i)) off ti.size y.ls with
           | none => rw [hs] at h; cases h
           | some q =>
             rw [hs] at h
             simp only at h ⊢
             cases hi : aF M t q with
             | none => rw [hi] at h; cases h
             | some im => rw [fH hM t hi]; rw [hi] at h; exact h
     | _ => exact h
theorem Az {T : Nat} {x : Leaf} {i : Int} {r} (h : gq c M T x i = some r) : gq c M' T x i = some r := by
 unfold gq at h ⊢
 cases x with
 | own id | sl id lo n | asl id off lo n | ptr id off =>
   simp only at h ⊢
   cases hg : M.get id with
   | none => rw [hg] at h; cases h
   | some en => rw [hM _ _ hg]; rw [hg] at h; exact h
 | cst fr t y => cases t <;> exact h
 | _ => exact h
theorem IL {x : Leaf} {r} (h : qw M x = some r) : qw M' x = some r := by
 unfold qw at h ⊢
 cases x with
 | own id | sl id lo n | asl id off lo n =>
   simp only at h ⊢
   cases hg : M.get id with
   | none => rw [hg] at h; cases h
   | some en => rw [hM _ _ hg]; rw [hg] at h; exact h
 | _ => exact h
theorem Kz {T : Nat} {x : Leaf} {r} (h : uQ c M T x = some r) : uQ c M' T x = some r := by
 unfold uQ at h ⊢
 cases x <;> simp only at h ⊢ <;> first | exact h | skip
 all_goals
  cases hb : iV c T with
  | false => rw [hb] at h; cases h
  | true => rw [hb] at h; simp only [cond_true] at h ⊢; exact IL hM h
theorem GY {T : Nat} {x : Leaf} {lo hi : Option Int} {r} (h : lT c M T x lo hi = some r) : lT c M' T x lo hi = some r := by
 unfold lT at h ⊢
 cases x with
 | own id =>
   simp only at h ⊢
   cases hg : M.get id with
   | none => rw [hg] at h; cases lo <;> cases hi <;> cases h
   | some en => rw [hM _ _ hg]; rw [hg] at h; exact h
 | sl id lo n | sf id lo n | ptr id off =>
   simp only at h ⊢
   cases hg : M.get id with
   | none => rw [hg] at h; cases h
   | some en => rw [hM _ _ hg]; rw [hg] at h; exact h
 | _ => exact h
theorem DN {nid S T : Nat} {x : Leaf} {r} (h : lU c M nid S T x = some r) : lU c M' nid S T x = some r := by
 unfold lU at h ⊢
 cases hS : c.ti S with
 | none => rw [hS] at h; cases h
 | some si =>
   cases hT : c.ti T with
   | none => rw [hS, hT] at h; cases h
   | some ti =>
     rw [hS, hT] at h
     obtain ⟨td, a1, a2, a3⟩ := ti
     obtain ⟨sd, b1, b2, b3⟩ := si
     have key : ∀ {e : Nat}, (match c.ti e with
      | some ⟨.int .u8, _, _, _⟩ => match listOf M (.int .u8) x with
        | some (_, l) => some (⟨[], .one (.str l), []⟩ : Eff)
        | none => none
      | _ => none) = some r -> (match c.ti e with
      | some ⟨.int .u8, _, _, _⟩ => match listOf M' (.int .u8) x with
        | some (_, l) => some (⟨[], .one (.str l), []⟩ : Eff)
        | none => none
      | _ => none) = some r := by
      intro e h
      split at h <;> first | (cases h; done) | skip
      rename_i he
      cases hl : listOf M (.int .u8) x with
      | none => rw [hl] at h; cases h
      | some y => rw [nZ hM hl]; rw [hl] at h; exact h
     cases x <;> cases td <;> simp only at h ⊢ <;> first | exact h | (cases h; done) | skip
     case own.slice id e =>
      split at h <;> first | (cases h; done) | skip
      cases hg : M.get id with
      | none => rw [hg] at h; cases h
      | some en => rw [hM _ _ hg]; rw [hg] at h; exact h
     all_goals
      cases sd <;> simp only at h ⊢ <;> first | (cases h; done) | skip
      exact key h
theorem EU {nid T U : Nat} {x y : Leaf} {r} (h : nH c M nid T U x y = some r) : nH c M' nid T U x y = some r := by
 unfold nH at h ⊢
 cases hT : c.ti T with
 | none => rw [hT] at h; cases h
 | some ti =>
   rw [hT] at h
   obtain ⟨td, a1, a2, a3⟩ := ti
   cases td <;> simp only at h ⊢ <;> first | (cases h; done) | skip
   rename_i e
   cases he : c.ti e with
   | none => rw [he] at h; cases h
   | some ei =>
     rw [he] at h
     obtain ⟨ed, b1, bytes, b3⟩ := ei
     cases b3 with
     | none => cases h
     | some te =>
       simp only at h ⊢
       cases hb : (Nat.blt 0 te.sz && cond (dN y) (isStr c U && Nat.beq bytes 1) (Nat.beq U T)) with
       | false => rw [hb] at h; cases h
       | true =>
         rw [hb] at h
         simp only [cond_true] at h ⊢
         cases hl : listOf M te y with
         | none => rw [hl] at h; cases h
         | some q =>
           rw [nZ hM hl]; rw [hl] at h
           cases x with
           | own id =>
             simp only at h ⊢
             cases hg : M.get id with
             | none => rw [hg] at h; cases h
             | some en => rw [hM _ _ hg]; rw [hg] at h; exact h
           | sl id lo k =>
             cases lo with
             | zero =>
               simp only at h ⊢
               cases hg : M.get id with
               | none => rw [hg] at h; cases h
               | some en => rw [hM _ _ hg]; rw [hg] at h; exact h
             | succ n => exact h
           | _ => exact h
theorem DR {nid T U : Nat} {x : Leaf} {k : Int} {r} (h : lN c M nid T U x k = some r) : lN c M' nid T U x k = some r := by
 unfold lN at h ⊢
 split at h
 ·rename_i hT
  try simp only [hT]
  split at h
  ·rename_i he
   try simp only [he]
   split at h
   ·rename_i hc
    try simp only [hc]
    split at h
    ·exact h
    ·rename_i id n
     try simp only
     cases hg : M.get id with
     | none => rw [hg] at h; cases h
     | some en => rw [hM _ _ hg]; rw [hg] at h; exact h
    ·cases h
   ·cases h
  ·cases h
 ·cases h
theorem DT {T U : Nat} {x y : Leaf} {r} (h : lQ c M T U x y = some r) : lQ c M' T U x y = some r := by
 unfold lQ at h ⊢
 split at h
 ·rename_i hT
  try simp only [hT]
  split at h
  ·rename_i he hm
   simp only [he, hM _ _ hm]
   split at h
   ·rename_i ht
    subst ht
    simp only [dif_pos]
    cases hl : listOf M _ y with
    | none => rw [hl] at h; simp at h
    | some q => rw [nZ hM hl]; rw [hl] at h; exact h
   ·cases h
  ·cases h
 ·cases h
theorem DU {nid T U : Nat} {x y : Leaf} {r} (h : lS c M nid T U x y = some r) : lS c M' nid T U x y = some r := by
 unfold lS at h ⊢
 split at h
 ·exact DR hM h
 ·cases hs : sameRow x y with
  | false => rw [hs] at h; exact EU hM h
  | true => rw [hs] at h; exact DT hM h
theorem Ei {id : Nat} (h : qx M id = true) : qx M' id = true := by
 obtain ⟨ls, hm⟩ := Dz h
 unfold qx; rw [hM _ _ hm]
theorem KA {T : Nat} {op : BinOp} {a b r : Leaf} (h : rM c M T op a b = some r) : rM c M' T op a b = some r := by
 unfold rM at h ⊢
 split at h
 ·split at h
  ·rename_i id off
   cases hb : qx M id with
   | false => rw [hb] at h; cases h
   | true => rw [Ei hM hb]; rw [hb] at h; exact h
  ·exact h
  ·exact h
  ·rename_i id off id' off'
   split at h
   ·rename_i te hte
    try simp only [hte]
    cases hb : qx M id with
    | false => rw [hb] at h; cases h
    | true => rw [Ei hM hb]; rw [hb] at h; exact h
   ·cases h
  ·cases h
 ·cases h
theorem KC {T : Nat} {x : Leaf} {r} (h : uS c M T x = some r) : uS c M' T x = some r := by
 unfold uS at h ⊢
 cases x <;> simp only at h ⊢ <;> first | exact h | skip
 rename_i id _ _
 cases hg : M.get id with
 | none => rw [hg] at h; cases h
 | some en => rw [hM _ _ hg]; rw [hg] at h; exact h
theorem IQ {T U : Nat} {x y : Leaf} {r} (h : tX c M T U x y = some r) : tX c M' T U x y = some r := by
 unfold tX at h ⊢
 split at h
 ·rename_i hT hc
  try simp only [hT, hc]
  split at h
  ·rename_i he hm
   simp only [he, hM _ _ hm]
   split at h
   ·rename_i ht
    subst ht
    simp only [dif_pos]
    cases hb : (Nat.beq _ _ && (cond (dN y) (isStr c U && Nat.beq _ 1) (Nat.beq U T) && Nat.blt 0 _)) with
    | false => rw [hb] at h; cases h
    | true =>
      rw [hb] at h
      simp only [cond_true] at h ⊢
      split at h
      ·rename_i hl
       simp only [nZ hM hl]; exact h
      ·cases h
   ·cases h
  ·cases h
 ·cases h
theorem GZ {T : Nat} {x : Leaf} {r} (h : qc c M T x = some r) : qc c M' T x = some r := by
 unfold qc at h ⊢
 split at h
 ·rename_i hT hc
  try simp only [hT, hc]
  split at h
  ·rename_i he hm
   simp only [he, hM _ _ hm]; exact h
  ·cases h
 ·cases h
theorem EW {nid T : Nat} {z : Bool} {x : Leaf} {lo : Option Int} {hi mx : Int} {r} (h : nI c M nid T z x lo hi mx = some r) : nI c M' nid T z x lo hi mx = some r := by
 unfold nI at h ⊢
 split at h
 ·rename_i hT
  try simp only [hT]
  split at h
  ·rename_i he
   try simp only [he]
   cases x <;> simp only at h ⊢ <;> first | exact h | skip
   ·rename_i id
    cases hg : M.get id with
    | none => rw [hg] at h; cases h
    | some en => rw [hM _ _ hg]; rw [hg] at h; exact h
   ·rename_i id _ _
    cases hg : M.get id with
    | none => rw [hg] at h; cases h
    | some en => rw [hM _ _ hg]; rw [hg] at h; exact h
  ·cases h
 ·cases h
theorem EX {T : Nat} {x y : Leaf} {ok : Bool} {r} (h : nJ c M T x y ok = some r) : nJ c M' T x y ok = some r := by
 unfold nJ at h ⊢
 split at h
 ·rename_i k v _ _ _ id hT
  split at h
  ·rename_i tk tv tk' tv' l hk hv hm
   rw [hM _ _ hm, hk, hv]
   exact h
  ·cases h
 ·cases h
theorem AA {T : Nat} {x y z : Leaf} {r} (h : jC c M T x y z = some r) : jC c M' T x y z = some r := by
 unfold jC at h ⊢
 split at h
 ·rename_i k v _ _ _ id hT
  split at h
  ·rename_i tk tv tk' tv' l hk hv hm
   rw [hM _ _ hm, hk, hv]
   exact h
  ·cases h
 ·cases h
theorem pF : ∀ {ts : List Ty} {vs : List V} {r}, dD M ts vs = some r -> dD M' ts vs = some r
 | [], [], r, h => h
 | [], _ :: _, r, h => h
 | [t], [], r, h => h
 | [t], [v], r, h => by
   simp only [dD] at h ⊢
   cases hb : (v.agg == t.isAgg) with
   | false => rw [hb] at h; cases h
   | true =>
     rw [hb] at h
     simp only [cond_true] at h ⊢
     cases hi : aF M t v.ls with
     | none => rw [hi] at h; cases h
     | some im => rw [fH hM t hi]; rw [hi] at h; exact h
 | [t], _ :: _ :: _, r, h => h
 | t :: u :: q, [], r, h => h
 | t :: u :: q, v :: vs, r, h => by
   simp only [dD] at h ⊢
   cases hb : (v.agg == t.isAgg) with
   | false => rw [hb] at h; cases h
   | true =>
     rw [hb] at h
     simp only [cond_true] at h ⊢
     cases hi : aF M t v.ls with
     | none => rw [hi] at h; cases h
     | some im =>
       rw [fH hM t hi]; rw [hi] at h
       simp only at h ⊢
       cases hr : dD M (u :: q) vs with
       | none => rw [hr] at h; split at h <;> first | (cases h; done) | (rename_i h1 h2; cases h2)
       | some p => rw [pF hr]; rw [hr] at h; exact h
theorem zJ {t : Ty} {v : V} {x : t.den} (h : cellOf M t v = some x) : cellOf M' t v = some x := by
 unfold cellOf at h ⊢
 split at h
 ·rename_i id
  cases hg : M.get id with
  | none => rw [hg] at h; cases h
  | some e =>
    rw [hM id e hg]; rw [hg] at h
    cases e <;> simp only at h ⊢ <;> first | (cases h; done) | skip
    rename_i ls
    cases hi : aF M t ls with
    | none => rw [hi] at h; cases h
    | some im => rw [fH hM t hi]; rw [hi] at h; exact h
 ·exact h
 ·cases h
theorem zK : ∀ {cs : List Ty} {vs : List V} {r}, jO M cs vs = some r -> jO M' cs vs = some r
 | [], [], _, h => h
 | [], _ :: _, _, h => by cases h
 | [_], [], _, h => by cases h
 | [_], [_], _, h => zJ hM h
 | [_], _ :: _ :: _, _, h => by cases h
 | _ :: _ :: _, [], _, h => by cases h
 | t :: u :: r, v :: vs, _, h => by
   simp only [jO] at h ⊢
   cases h1 : cellOf M t v with
   | none => rw [h1] at h; cases h
   | some x =>
     cases h2 : jO M (u :: r) vs with
     | none => rw [h1, h2] at h; cases h
     | some y => rw [zJ hM h1, zK h2]; rw [h1, h2] at h; exact h
theorem vU : ∀ (k : Nat) (acc l : List Nat) {r : List Entry}, aQ ((reach M k acc l).map M.get) = some r -> reach M' k acc l = reach M k acc l
 | 0, acc, l, r, h => rfl
 | k + 1, acc, [], r, h => rfl
 | k + 1, acc, i :: l, r, h => by
   unfold reach at h ⊢
   cases hm : mem1 i acc with
   | true => rw [hm] at h; exact vU k acc l h
   | false =>
     rw [hm] at h
     simp only [cond_false] at h ⊢
     cases hg : M.get i with
     | some e => rw [hg] at h; rw [hM _ _ hg]; exact vU k _ _ h
     | none =>
       rw [hg] at h
       simp only at h
       obtain ⟨q, hq⟩ := lg M k (acc ++ [i]) l
       rw [hq] at h
       obtain ⟨h1, h2⟩ := kV h
       have hi : i ∈ acc ++ [i] ++ q := by simp
       obtain ⟨j, hj, hji⟩ := List.getElem_of_mem hi
       have hj' : j < r.length := by rw [h1, List.length_map]; exact hj
       have := h2 j r[j] (List.getElem?_eq_getElem hj')
       rw [List.getElem?_map, List.getElem?_eq_getElem hj, hji] at this
       simp [hg] at this
where
 lg (M : Store) : ∀ (k : Nat) (acc l : List Nat), ∃ r, reach M k acc l = acc ++ r
  | 0, acc, l => ⟨[], by simp [reach]⟩
  | k + 1, acc, [] => ⟨[], by simp [reach]⟩
  | k + 1, acc, i :: l => by
    unfold reach
    cases mem1 i acc with
    | true => exact lg M k acc l
    | false =>
      simp only [cond_false]
      split
      ·obtain ⟨r, hr⟩ := lg M k (acc ++ [i]) (l ++ pJ _)
       exact ⟨[i] ++ r, by rw [hr, List.append_assoc]⟩
      ·obtain ⟨r, hr⟩ := lg M k (acc ++ [i]) l
       exact ⟨[i] ++ r, by rw [hr, List.append_assoc]⟩
theorem KD {nid : Nat} {F : List V -> List Entry -> Option Done} {args : List V} {r} (h : yU M nid F args (reach M 40 [] (args.flatMap fun v => fE v.ls)) = some r) : yU M' nid F args (reach M' 40 [] (args.flatMap fun v => fE v.ls)) = some r := by
 unfold yU at h
 cases hes : aQ ((reach M 40 [] (args.flatMap fun v => fE v.ls)).map M.get) with
 | none => rw [hes] at h; cases h
 | some es =>
   rw [hes] at h
   simp only at h
   have hr := vU hM 40 [] _ hes
   rw [hr]
   generalize reach M 40 [] (args.flatMap fun v => fE v.ls) = ids at hes h
   obtain ⟨h1, h2⟩ := kV hes
   have hx : ∀ x ∈ ids, ∃ e, M.get x = some e := by
    intro x hx
    obtain ⟨j, hj, rfl⟩ := List.getElem_of_mem hx
    have hj' : j < es.length := by rw [h1, List.length_map]; exact hj
    have := h2 j es[j] (List.getElem?_eq_getElem hj')
    rw [List.getElem?_map, List.getElem?_eq_getElem hj] at this
    exact ⟨_, by simpa using this⟩
   have hes' : aQ (ids.map M'.get) = some es := by
    have e1 : ids.map M'.get = ids.map M.get := List.map_congr_left fun x hx' => by
     obtain ⟨e, he⟩ := hx x hx'
     rw [he, hM _ _ he]
    rw [e1]; exact hes
   have hcl : ∀ l, (∀ x ∈ l, x ∈ ids) -> jB M' ids l = jB M ids l := by
    intro l
    induction l with
    | nil => intro _; rfl
    | cons x r ih =>
      intro hl
      unfold jB
      rw [ih fun y hy => hl y (by simp [hy])]
      have : Dp M' ids x = Dp M ids x := by
       obtain ⟨e, he⟩ := hx x (hl x (by simp))
       unfold Dp
       rw [he, hM _ _ he]
      rw [this]
   unfold yU
   rw [hes']
   simp only
   rw [hcl ids fun _ h => h]
   exact h
theorem IU {nid f : Nat} {vs : List V} {r} (h : uf c M nid f vs = some r) : uf c M' nid f vs = some r := by
 unfold uf at h ⊢
 cases hf : c.sum f with
 | none => rw [hf] at h; cases h
 | some sm =>
   rw [hf] at h
   cases sm with
   | gen F => exact KD hM h
   | apart =>
     simp only at h ⊢
     split at h
     ·split at h
      ·rename_i h1 h2
       try simp only [h1, h2]
       split at h
       ·rename_i hi hj
        simp only [hM _ _ hi, hM _ _ hj]; exact h
       ·cases h
      ·cases h
     ·cases h
   | pure ts al F =>
     simp only at h ⊢
     cases hi : dD M ts vs with
     | none => rw [hi] at h; cases h
     | some q => rw [pF hM hi]; rw [hi] at h; exact h
   | clo ts cs F =>
     simp only at h ⊢
     cases hi : dD M ts (vs.take ts.length) with
     | none => rw [hi] at h; cases h
     | some q =>
       cases hc : jO M cs (vs.drop ts.length) with
       | none => rw [hi, hc] at h; cases h
       | some y => rw [pF hM hi, zK hM hc]; rw [hi, hc] at h; exact h
end
section
variable {c : Cfg} {s : St} {M' : Store} {cs : List (Nat × Bool)}
theorem KE (x : Operand) : opd c { s with M := M' } cs x = opd c s cs x := by cases x <;> rfl
theorem vV (x : Operand) : opv c { s with M := M' } cs x = opv c s cs x := by unfold opv; rw [KE]
theorem iJ (x : Operand) : opl c { s with M := M' } cs x = opl c s cs x := by unfold opl; rw [vV]
theorem FB (x : Operand) : opi c { s with M := M' } cs x = opi c s cs x := by unfold opi; rw [iJ]
theorem LU (x : Option Operand) : wV c { s with M := M' } cs x = wV c s cs x := by
 cases x with
 | none => rfl
 | some y => simp only [wV, FB]
theorem G5 (l : List Operand) : mM c { s with M := M' } cs l = mM c s cs l := by
 unfold mM
 congr 1
theorem Ej {T : Nat} {fs : List (Nat × Nat)} : ∀ (l : List (Nat × Operand)) (ls : List Leaf), kF c { s with M := M' } cs T fs l ls = kF c s cs T fs l ls
 | [], _ => rfl
 | (i, x) :: r, ls => by
   simp only [kF, vV]
   split
   ·split
    ·congr 1
     split
     ·exact Ej r _
     ·rfl
    ·rfl
   ·rfl
theorem qR (hM : MLe s.M M') {n : Nat} {t : Ty} : ∀ {l : List (Nat × Operand)} {fr : Bool} {xs : List t.den} {fz : List (Nat × Entry)} {r}, iD c s cs n t l fr xs fz = some r -> iD c { s with M := M' } cs n t l fr xs fz = some r
 | [], _, _, _, _, h => h
 | (i, x) :: q, fr, xs, fz, r, h => by
   simp only [iD, vV] at h ⊢
   cases hv : opv c s cs x with
   | none => rw [hv] at h; cases h
   | some v =>
     rw [hv] at h
     simp only at h ⊢
     cases hi : aF s.M t v.ls with
     | none => rw [hi] at h; cases h
     | some im =>
       rw [fH hM t hi]; rw [hi] at h
       simp only at h ⊢
       cases hr : im.rest with
       | cons _ _ => rw [hr] at h; cases h
       | nil =>
         rw [hr] at h
         simp only at h ⊢
         cases hb : Nat.blt i n with
         | false => rw [hb] at h; cases h
         | true => rw [hb] at h; exact qR hM h
theorem og (hM : MLe s.M M') {id : Nat} (h : dH s.M id = true) : dH M' id = true := by
 unfold dH at h ⊢
 cases hg : s.M.get id with
 | none => rw [hg] at h; cases h
 | some e => rw [hM _ _ hg]; rw [hg] at h; exact h
theorem KF (hM : MLe s.M M') {v : V} {id : Nat} (h : jK s.M v = some id) : jK M' v = some id := by
 unfold jK at h ⊢
 split at h
 ·rename_i i
  try simp only
  cases hg : s.M.get i with
  | none => rw [hg] at h; cases h
  | some e => rw [hM _ _ hg]; rw [hg] at h; exact h
 ·cases h
theorem zL (hM : MLe s.M M') : ∀ {vs : List V} {ids : List Nat}, aQ (vs.map (jK s.M)) = some ids -> aQ (vs.map (jK M')) = some ids
 | [], ids, h => h
 | v :: r, ids, h => by
   simp only [List.map_cons] at h ⊢
   cases hv : jK s.M v with
   | none => rw [hv] at h; cases h
   | some i =>
     rw [hv] at h; rw [KF hM hv]
     simp only [aQ] at h ⊢
     cases hr : aQ (r.map (jK s.M)) with
     | none => rw [hr] at h; cases h
     | some q => rw [hr] at h; rw [zL hM hr]; exact h
theorem G6 (hM : MLe s.M M') {off ft : Nat} {l r : Leaf} (h : lV c s.M off ft l = some r) : lV c M' off ft l = some r := by
 unfold lV at h ⊢
 cases hb : sized c ft with
 | false => rw [hb] at h; cases h
 | true =>
   rw [hb] at h
   simp only [cond_true] at h ⊢
   cases l with
   | ptr id o | iw id i o | iy id a i o =>
     simp only at h ⊢
     cases ha : dH s.M id with
     | false => rw [ha] at h; cases h
     | true => rw [og hM ha]; rw [ha] at h; exact h
   | _ => exact h
theorem Nc {x a b : Operand} : ug c { s with M := M' } cs x a b = ug c s cs x a b := by
 unfold ug
 simp only [KE, iJ]
 rfl
theorem LV (hM : MLe s.M M') {nid T : Nat} {op : Op} {e : Eff} (h : dF c s cs nid op T = some e) : dF c { s with M := M' } cs nid op T = some e := by
 have hz := hM
 cases op
 case store T x y =>
  simp only [dF, iJ, vV] at h ⊢
  split at h
  ·rename_i l v hl hv
   try simp only [hl, hv]
   cases he : lM c s.M T l v with
   | none => rw [he] at h; cases h
   | some q => rw [GX hM he]; rw [he] at h; exact h
  ·cases h
 case load T x =>
  simp only [dF, iJ, vV] at h ⊢
  split at h
  ·rename_i l hl
   try simp only [hl]
   cases he : oI c s.M T l with
   | none => rw [he] at h; cases h
   | some q => rw [IK hM he]; rw [he] at h; exact h
  ·cases h
 case build T ps =>
  simp only [dF, Ej] at h ⊢
  split at h
  ·exact h
  ·rename_i n e' _ _ n' t hT
   try simp only [hT]
   split at h
   ·rename_i t' he'
    try simp only [he']
    split at h
    ·rename_i hh
     rw [if_pos hh]
     split at h
     ·rename_i hb; rw [qR hM hb]; exact h
     ·cases h
    ·cases h
   ·cases h
  ·cases h
 case buildSlice T n ps =>
  simp only [dF] at h ⊢
  split at h
  ·rename_i e' _ _ _ hT
   try simp only [hT]
   split at h
   ·rename_i t he'
    try simp only [he']
    cases hb : (Nat.ble (n * t.sz) 16777216 && Nat.blt 0 t.sz) with
    | false => rw [hb] at h; cases h
    | true =>
      rw [hb] at h
      simp only [cond_true] at h ⊢
      split at h
      ·rename_i hb; rw [qR hM hb]; exact h
      ·cases h
   ·cases h
  ·cases h
 case nilCheck x =>
  simp only [dF, iJ] at h ⊢
  split at h
  ·rename_i id o hl
   try simp only [hl]
   cases ha : dH s.M id with
   | false => rw [ha] at h; cases h
   | true => rw [og hM ha]; rw [ha] at h; exact h
  ·rename_i id i o hl
   try simp only [hl]
   cases ha : dH s.M id with
   | false => rw [ha] at h; cases h
   | true => rw [og hM ha]; rw [ha] at h; exact h
  ·rename_i id a i o hl
   try simp only [hl]
   cases ha : dH s.M id with
   | false => rw [ha] at h; cases h
   | true => rw [og hM ha]; rw [ha] at h; exact h
  ·rename_i hl; (try simp only [hl]); exact h
  ·rename_i hl; (try simp only [hl]); exact h
  ·cases h
 case convert S T x =>
  simp only [dF, iJ] at h ⊢
  split at h
  ·rename_i l hl; (try simp only [hl]); exact DN hM h
  ·cases h
 case binOp op T x y T' =>
  simp only [dF, iJ, vV] at h ⊢
  split at h
  ·rename_i a b ha hb
   try simp only [ha, hb]
   cases he : A8 c T op a b with
   | some q => rw [he] at h; exact h
   | none =>
     rw [he] at h
     simp only at h ⊢
     cases hp : rM c s.M T op a b with
     | none => rw [hp] at h; cases h
     | some r => rw [KA hM hp]; rw [hp] at h; exact h
  ·exact h
 case makeFunc f first caps =>
  cases f <;> simp only [dF, G5] at h ⊢ <;> first | (cases h; done) | skip
  cases hb : Nat.beq first.size 0 with
  | false => rw [hb] at h; cases h
  | true =>
    rw [hb] at h
    simp only [cond_true] at h ⊢
    split at h
    ·rename_i vs hvs
     try simp only [hvs]
     cases hc : aQ (vs.map (jK s.M)) with
     | none => rw [hc] at h; cases h
     | some ids => rw [zL hM hc]; rw [hc] at h; exact h
    ·cases h
 case slice T x lo hi mx =>
  cases mx with
  | some mx =>
    cases hi with
    | none => simp only [dF] at h; cases h
    | some hi =>
      simp only [dF, iJ, LU, FB] at h ⊢
      split at h
      ·rename_i l a b m hl ha hb hm
       try simp only [hl, ha, hb, hm]
       exact EW hM h
      ·cases h
  | none =>
  simp only [dF, iJ, LU] at h ⊢
  split at h
  ·rename_i l a b hl ha hb
   try simp only [hl, ha, hb]
   cases he : lT c s.M T l a b with
   | none => rw [he] at h; cases h
   | some q => rw [GY hM he]; rw [he] at h; exact h
  ·cases h
 case fieldAddr T x f =>
  simp only [dF, iJ] at h ⊢
  split at h
  ·rename_i off ft l hf hl
   try simp only [hf, hl]
   cases he : lV c s.M off ft l with
   | none => rw [he] at h; cases h
   | some q => rw [G6 hM he]; rw [he] at h; exact h
  ·cases h
 case sliceToArrayPointer T x =>
  simp only [dF, iJ] at h ⊢
  exact h
 case indexAddr T x i =>
  simp only [dF, iJ, FB] at h ⊢
  split at h
  ·rename_i l n hl hn
   try simp only [hl, hn]
   cases he : gq c s.M T l.weak n with
   | none => rw [he] at h; cases h
   | some q => rw [Az hM he]; rw [he] at h; exact h
  ·cases h
 case makeMap T r =>
  cases r with
  | none => simp only [dF] at h ⊢; exact h
  | some r => simp only [dF] at h; cases h
 case lookup T x y ok =>
  simp only [dF, iJ] at h ⊢
  split at h
  ·rename_i a b ha hb
   try simp only [ha, hb]
   exact EX hM h
  ·cases h
 case mapUpdate T x y z =>
  simp only [dF, iJ] at h ⊢
  split at h
  ·rename_i a b d ha hb hd
   try simp only [ha, hb, hd]
   exact AA hM h
  ·cases h
 case call cl =>
  obtain ⟨ce, args, ts⟩ := cl
  cases ce with
  | invoke _ _ => exact h
  | value f =>
    simp only [dF, iJ, G5] at h ⊢
    split at h
    ·rename_i g caps vs hf ha
     try simp only [hf, ha]
     exact IU hM h
    ·cases h
  | builtin b =>
    cases b <;> simp only [dF, iJ] at h ⊢ <;> first | exact h | skip
    case cap =>
     split at h
     ·rename_i x y ha ht
      try simp only [ha, ht]
      split at h
      ·split at h
       ·rename_i n he; rw [KC hM he]; exact h
       ·cases h
      ·cases h
     ·cases h
    case clear =>
     split at h
     ·rename_i x y ha ht
      try simp only [ha, ht]
      split at h
      ·exact GZ hM h
      ·cases h
     ·cases h
    case copy =>
     split at h
     ·rename_i x y T U ha ht
      try simp only [ha, ht]
      split at h
      ·exact IQ hM h
      ·cases h
     ·cases h
    ·split at h
     ·rename_i x T ha ht
      try simp only [ha, ht]
      split at h
      ·exact DU hM h
      ·cases h
     ·cases h
    ·split at h
     ·rename_i x y T U ha ht
      try simp only [ha, ht]
      split at h
      ·split at h
       ·rename_i n he; rw [Kz hM he]; exact h
       ·cases h
      ·cases h
     ·cases h
 all_goals (simp only [dF, KE, vV, iJ, FB] at h ⊢; exact h)
theorem KG (hM : MLe s.M M') {nid : Nat} {o : Oper} {e : Eff} (h : kG c s cs nid o = some e) : kG c { s with M := M' } cs nid o = some e := by
 unfold kG at h ⊢
 cases he : qA c s cs nid o with
 | none => rw [he] at h; cases h
 | some q =>
   have : qA c { s with M := M' } cs nid o = some q := by
    unfold qA at he ⊢
    split at he
    ·rename_i hop; simp only [Nc]; exact he
    ·exact LV hM he
   rw [this]; rw [he] at h; exact h
end
end Go.Vc
set_option linter.unusedVariables false
set_option linter.unusedSimpArgs false
namespace Go.Vc
theorem mD (m p : Nat) : aY m p = m.testBit p := by
 unfold aY Nat.testBit
 show Nat.beq (1 &&& (m >>> p)) 1 = _
 rw [Nat.one_and_eq_mod_two]
 rcases Nat.mod_two_eq_zero_or_one (m >>> p) with h | h <;> rw [h] <;> rfl
theorem uI (m n p : Nat) : aY (Nat.lor m n) p = (aY m p || aY n p) := by
 rw [mD, mD, mD]; exact Nat.testBit_or m n p
theorem G7 (q p : Nat) : aY (Nat.shiftLeft 1 q) p = decide (q = p) := by
 rw [mD]
 show (1 <<< q).testBit p = _
 rw [Nat.one_shiftLeft, Nat.testBit_two_pow]
theorem G8 (n p : Nat) : aY (2 ^ n - 1) p = decide (p < n) := by
 rw [mD, Nat.testBit_two_pow_sub_one]
theorem Em {acc : List Nat} : ∀ {l : List Nat} {m : Nat}, wY acc l = some m ->
 (∀ p ∈ l, p < acc.length /\ aY m p = true) /\ ∀ p, aY m p = true -> p ∈ l ∨ ∃ q ∈ l, ∃ mq, acc[q]? = some mq /\ aY mq p = true
 | [], m, h => by
   cases h
   exact ⟨fun p hp => (by cases hp), fun p hp => by rw [mD, Nat.zero_testBit] at hp; cases hp⟩
 | q :: r, m, h => by
   unfold wY at h
   split at h
   ·rename_i mq n hq hn
    cases h
    obtain ⟨h1, h2⟩ := Em hn
    refine ⟨fun p hp => ?_, fun p hp => ?_⟩
    ·rcases List.mem_cons.1 hp with rfl | hp
     ·refine ⟨(List.getElem?_eq_some_iff.1 hq).1, ?_⟩
      rw [uI, uI, G7]; simp
     ·refine ⟨(h1 p hp).1, ?_⟩
      rw [uI, (h1 p hp).2]; simp
    ·rw [uI, uI, G7] at hp
     simp only [Bool.or_eq_true, decide_eq_true_eq] at hp
     rcases hp with (rfl | hp) | hp
     ·exact .inl (by simp)
     ·exact .inr ⟨q, by simp, mq, hq, hp⟩
     ·rcases h2 p hp with h | ⟨q', hq', mq', k1, k2⟩
      ·exact .inl (List.mem_cons_of_mem _ h)
      ·exact .inr ⟨q', List.mem_cons_of_mem _ hq', mq', k1, k2⟩
   ·cases h
def yg (l : List Oper) (masks : List Nat) : Prop := ∀ k o, l[k]? = some o -> ∃ m, masks[k]? = some m /\ (∀ p ∈ mO o, p < k /\ aY m p = true) /\
 ∀ p, aY m p = true -> p ∈ mO o ∨ ∃ q ∈ mO o, ∃ mq, masks[q]? = some mq /\ aY mq p = true
theorem CO : ∀ {r : List Oper} {acc masks : List Nat} {d : List Oper}, yY r acc = some masks -> acc.length = d.length -> yg d acc -> masks.length = d.length + r.length /\ yg (d ++ r) masks
 | [], acc, masks, d, h, hl, ho => by
   cases h
   refine ⟨by simp [hl], by rw [List.append_nil]; exact ho⟩
 | o :: r, acc, masks, d, h, hl, ho => by
   unfold yY at h
   cases hm : wY acc (mO o) with
   | none => rw [hm] at h; cases h
   | some m =>
     rw [hm] at h
     obtain ⟨k1, k2⟩ := Em hm
     have := CO (d := d ++ [o]) h (by simp [hl]) (fun k o' hk => by
      by_cases hkd : k < d.length
      ·rw [List.getElem?_append_left hkd] at hk
       obtain ⟨m', q1, q2, q3⟩ := ho k o' hk
       refine ⟨m', by rw [List.getElem?_append_left (by omega)]; exact q1, q2, fun p hp => ?_⟩
       rcases q3 p hp with h | ⟨q, hq, mq, e1, e2⟩
       ·exact .inl h
       ·exact .inr ⟨q, hq, mq, by rw [List.getElem?_append_left (List.getElem?_eq_some_iff.1 e1).1]; exact e1, e2⟩
      ·have hlt := (List.getElem?_eq_some_iff.1 hk).1
       have hke : k = d.length := by simp at hlt; omega
       subst hke
       simp at hk
       subst hk
       refine ⟨m, by rw [<- hl]; simp, fun p hp => ⟨by rw [<- hl]; exact (k1 p hp).1, (k1 p hp).2⟩, fun p hp => ?_⟩
       rcases k2 p hp with h | ⟨q, hq, mq, e1, e2⟩
       ·exact .inl h
       ·exact .inr ⟨q, hq, mq, by rw [List.getElem?_append_left (List.getElem?_eq_some_iff.1 e1).1]; exact e1, e2⟩)
     rw [List.append_assoc] at this
     refine ⟨by rw [this.1]; simp; omega, this.2⟩
theorem zM {l : List Oper} {masks : List Nat} (hm : yg l masks) {D : Nat -> Prop} (hD : ∀ k o, D k -> l[k]? = some o -> ∀ p ∈ mO o, D p) :
 ∀ (k : Nat) (o : Oper) (m : Nat), l[k]? = some o -> masks[k]? = some m -> (∀ p ∈ mO o, D p) -> ∀ p, aY m p = true -> D p := by
 intro k
 induction k using Nat.strongRecOn with
 | _ k ih =>
   intro o m ho hmk hd p hp
   obtain ⟨m', k1, k2, k3⟩ := hm k o ho
   rw [hmk] at k1; cases k1
   rcases k3 p hp with h | ⟨q, hq, mq, e1, e2⟩
   ·exact hd p h
   ·have hqk := (k2 q hq).1
    have hlt := (List.getElem?_eq_some_iff.1 ho).1
    have hoq : l[q]? = some (l[q]'(by omega)) := List.getElem?_eq_getElem (by omega)
    exact ih q hqk _ mq hoq e1 (fun p' hp' => hD q _ (hd q hq) hoq p' hp') p e2
theorem Oj {l : List Oper} {masks : List Nat} (hm : yg l masks) {k : Nat} {o : Oper} {m : Nat} (ho : l[k]? = some o) (hmk : masks[k]? = some m) : ∀ p, aY m p = true -> p < k := by
 refine zM (D := fun p => p < k) hm (fun j o' hj ho' p hp => ?_) k o m ho hmk (fun p hp => ?_)
 ·obtain ⟨_, _, k2, _⟩ := hm j o' ho'
  have := (k2 p hp).1; omega
 ·obtain ⟨_, _, k2, _⟩ := hm k o ho
  exact (k2 p hp).1
def iK : List (Nat × Entry) -> Nat -> Option Entry -> Option Entry
 | [], _, x => x
 | (i, e) :: r, id, x => iK r id (if i = id then some e else x)
theorem AB : ∀ (u : List (Nat × Entry)) (M : Store) (id : Nat), (M.aJ u).get id = iK u id (M.get id)
 | [], _, _ => rfl
 | (i, e) :: r, M, id => by
   rw [Store.aJ, AB r, Store.dM]
   simp only [iK]
   by_cases h : i = id
   ·rw [if_pos h, if_pos h.symm]
   ·rw [if_neg h, if_neg (fun hh => h hh.symm)]
theorem yh {u : List (Nat × Entry)} {id : Nat} : ∀ {x : Option Entry}, (∀ p ∈ u, p.1 ≠ id) -> iK u id x = x := by
 induction u with
 | nil => intro x _; rfl
 | cons p r ih =>
   intro x h
   obtain ⟨i, e⟩ := p
   simp only [iK]
   rw [if_neg (h (i, e) (by simp)), ih (fun q hq => h q (List.mem_cons_of_mem _ hq))]
theorem KH {u : List (Nat × Entry)} {id : Nat} : ∀ {x y : Option Entry}, (∃ p ∈ u, p.1 = id) -> iK u id x = iK u id y := by
 induction u with
 | nil => intro x y ⟨p, hp, _⟩; cases hp
 | cons p r ih =>
   intro x y ⟨q, hq, hqi⟩
   obtain ⟨i, e⟩ := p
   simp only [iK]
   by_cases h : i = id
   ·rw [if_pos h, if_pos h]
   ·rw [if_neg h, if_neg h]
    rcases List.mem_cons.1 hq with rfl | hq
    ·exact absurd hqi h
    ·exact ih ⟨q, hq, hqi⟩
def gAt (D : Nat -> Bool) : Nat -> List Rec -> (Nat -> Option Entry) -> Nat -> Option Entry
 | _, [], f => f
 | j, r :: l, f => gAt D (j + 1) l (if D j = true then fun id => iK r.e.upd id (f id) else f)
theorem pW (D : Nat -> Bool) : ∀ (a b : List Rec) (j : Nat) (f : Nat -> Option Entry), gAt D j (a ++ b) f = gAt D (j + a.length) b (gAt D j a f)
 | [], b, j, f => rfl
 | r :: a, b, j, f => by
   rw [List.cons_append, gAt, pW D a b]
   simp only [gAt, List.length_cons]
   rw [show j + 1 + a.length = j + (a.length + 1) by omega]
theorem mF {D D' : Nat -> Bool} {id : Nat} : ∀ (l : List Rec) (j : Nat) (f f' : Nat -> Option Entry), f id = f' id -> (∀ i r, l[i]? = some r -> D (j + i) ≠ D' (j + i) -> ∀ p ∈ r.e.upd, p.1 ≠ id) -> gAt D j l f id = gAt D' j l f' id
 | [], _, f, f', hf, _ => hf
 | r :: l, j, f, f', hf, h => by
   simp only [gAt]
   refine mF l (j + 1) _ _ ?_ (fun i r' hi hne => h (i + 1) r' (by simpa using hi) (by rw [show j + (i + 1) = j + 1 + i by omega]; exact hne))
   have h0 := h 0 r (by simp)
   simp only [Nat.add_zero] at h0
   by_cases hd : D j = D' j
   ·rw [hd]
    split
    ·show iK r.e.upd id (f id) = iK r.e.upd id (f' id)
     rw [hf]
    ·exact hf
   ·have hno := h0 hd
    split <;> split
    ·rename_i h1 h2; exact absurd (h1.trans h2.symm) hd
    ·show iK r.e.upd id (f id) = f' id
     rw [yh hno]; exact hf
    ·show f id = iK r.e.upd id (f' id)
     rw [yh hno]; exact hf
    ·exact hf
theorem qU {D : Nat -> Bool} {id : Nat} (l : List Rec) (j : Nat) (f : Nat -> Option Entry) (h : ∀ i r, l[i]? = some r -> D (j + i) = true -> ∀ p ∈ r.e.upd, p.1 ≠ id) : gAt D j l f id = f id := by
 rw [mF (D' := fun _ => false) l j f f rfl (fun i r hi hne => h i r hi (by simpa using hne))]
 clear h
 induction l generalizing j f with
 | nil => rfl
 | cons r l ih => simp only [gAt]; rw [ih]; simp
theorem Ol {D D' : Nat -> Bool} {k : Nat} {recs : List Rec} {r : Rec} {f : Nat -> Option Entry} (hr : recs[k]? = some r) (hk : D k = false) (hk' : D' k = true) (hD : ∀ j, j ≠ k -> D' j = D j)
 (PN : ∀ j rj, k < j -> recs[j]? = some rj -> D j = true -> ∀ p ∈ rj.e.upd, ∀ q ∈ r.e.upd, p.1 ≠ q.1) (id : Nat) : gAt D' 0 recs f id = iK r.e.upd id (gAt D 0 recs f id) := by
 obtain ⟨hlt, hrk⟩ := List.getElem?_eq_some_iff.1 hr
 have hsplit : recs = recs.take k ++ (r :: recs.drop (k + 1)) := by
  conv => lhs; rw [<- List.take_append_drop k recs, List.drop_eq_getElem_cons hlt, hrk]
 have hlen : (recs.take k).length = k := by rw [List.length_take]; omega
 by_cases hin : ∃ q ∈ r.e.upd, q.1 = id
 ·obtain ⟨q, hq, hqi⟩ := hin
  have hpost : ∀ (E : Nat -> Bool), (∀ j, j ≠ k -> E j = D j) -> ∀ g, gAt E (k + 1) (recs.drop (k + 1)) g id = g id := by
   intro E hE g
   refine qU _ _ _ fun i ri hi hd p hp => ?_
   rw [List.getElem?_drop] at hi
   rw [hE _ (by omega)] at hd
   have := PN (k + 1 + i) ri (by omega) hi hd p hp q hq
   rw [hqi] at this; exact this
  rw [hsplit, pW, pW, hlen, Nat.zero_add]
  simp only [gAt]
  rw [hpost D' hD, hpost D (fun _ _ => rfl), if_pos hk', if_neg (by rw [hk]; simp)]
  exact KH ⟨q, hq, hqi⟩
 ·have hno : ∀ p ∈ r.e.upd, p.1 ≠ id := fun p hp he => hin ⟨p, hp, he⟩
  rw [yh hno]
  refine mF recs 0 f f rfl fun i ri hi hne => ?_
  rw [Nat.zero_add] at hne
  by_cases hik : i = k
  ·subst hik; rw [hr] at hi; cases hi; exact hno
  ·exact absurd (hD i hik) hne
theorem vW (m : Nat) : ∀ (l : List Rec) (j : Nat) (s : St) (id : Nat), (bZ m j l s).M.get id = gAt (aY m) j l s.M.get id
 | [], _, _, _ => rfl
 | r :: l, j, s, id => by
   simp only [bZ, gAt]
   rw [vW m l]
   refine mF l (j + 1) _ _ ?_ (fun _ _ _ h => absurd rfl h)
   cases hb : aY m j with
   | false => rfl
   | true =>
     simp only [cond_true, if_true]
     rw [<- AB]
     unfold addRec
     split
     ·rfl
     ·split <;> rfl
theorem DV {ids : List Nat} {id : Nat} {e : Entry} : ∀ {M : Store}, (M.del ids).get id = some e -> mem1 id ids = false /\ M.get id = some e
 | [], h => by cases h
 | (i, x) :: r, h => by
   simp only [Store.del] at h
   cases hm : mem1 i ids with
   | true =>
     rw [hm] at h
     simp only [cond_true] at h
     obtain ⟨h1, h2⟩ := DV h
     refine ⟨h1, ?_⟩
     simp only [Store.get]
     cases hb : Nat.beq i id with
     | true => rw [Nat.eq_of_beq_eq_true hb] at hm; rw [h1] at hm; cases hm
     | false => exact h2
   | false =>
     rw [hm] at h
     simp only [cond_false, Store.get] at h ⊢
     cases hb : Nat.beq i id with
     | true => rw [hb] at h; rw [<- Nat.eq_of_beq_eq_true hb]; exact ⟨hm, h⟩
     | false => rw [hb] at h; exact DV h
theorem En {masks : List Nat} {m k : Nat} : ∀ {U : List (List Nat)} {j i id : Nat} {u : List Nat}, U[i]? = some u -> id ∈ u -> j + i ≠ k -> aY m (j + i) = false -> (∀ mj, masks[j + i]? = some mj -> aY mj k = false) -> id ∈ lD masks m k j U
 | [], j, i, id, u, h, _, _, _, _ => by simp at h
 | v :: U, j, i, id, u, h, hid, hne, hb, hm => by
   unfold lD
   cases i with
   | zero =>
     simp at h; subst h
     simp only [Nat.add_zero] at hne hb hm
     rw [kS hne, hb]
     cases hmj : masks[j]? with
     | none => simp [hid]
     | some mj => simp [hm mj hmj, hid]
   | succ i =>
     have := En (masks := masks) (m := m) (k := k) (U := U) (j := j + 1) (i := i) (by simpa using h) hid (by omega) (by rw [show j + 1 + i = j + (i + 1) by omega]; exact hb) (by rw [show j + 1 + i = j + (i + 1) by omega]; exact hm)
     cases hc : (Nat.beq j k || aY m j || (match masks[j]? with | some mj => aY mj k | none => false)) with
     | true => exact this
     | false => exact List.mem_append.2 (.inr this)
theorem qV {s : St} {r : Rec} : (r.dst = none /\ (addRec s r).env = s.env /\ (addRec s r).aX = s.aX) ∨
 (∃ d, r.dst = some d /\ (r.cs = none ∨ r.cs = some []) /\ (addRec s r).env = eG s.env d (some r.e.sv) /\ (addRec s r).aX = s.aX) ∨
 ∃ d cs, r.dst = some d /\ r.cs = some cs /\ (addRec s r).env = eG s.env d none /\ (addRec s r).aX = (d, cs, r.e.sv) :: s.aX := by
 unfold addRec
 cases hd : r.dst with
 | none => exact .inl ⟨rfl, rfl, rfl⟩
 | some d =>
   cases hc : r.cs with
   | none => exact .inr (.inl ⟨d, rfl, .inl rfl, rfl, rfl⟩)
   | some cs =>
     cases cs with
     | nil => exact .inr (.inl ⟨d, rfl, .inr rfl, rfl, rfl⟩)
     | cons x cs => exact .inr (.inr ⟨d, _, rfl, rfl, rfl, rfl⟩)
theorem KI (s : St) (r : Rec) : (addRec s r).env.length = s.env.length := by
 rcases qV (s := s) (r := r) with ⟨_, h, _⟩ | ⟨d, _, _, h, _⟩ | ⟨d, _, _, _, h, _⟩ <;> rw [h] <;> first | rfl | exact gy _ _ _
theorem qW (m : Nat) : ∀ (l : List Rec) (j : Nat) (s : St), (bZ m j l s).env.length = s.env.length
 | [], _, _ => rfl
 | r :: l, j, s => by
   simp only [bZ]
   rw [qW m l]
   cases aY m j with
   | false => rfl
   | true => exact KI s r
theorem yj {m : Nat} : ∀ {l : List Rec} {j : Nat} {s : St} {x : Nat} {v : SV}, bG (bZ m j l s).env x = some v -> bG s.env x = some v ∨ ∃ i r, l[i]? = some r /\ aY m (j + i) = true /\ r.dst = some x /\ v = r.e.sv /\ (r.cs = none ∨ r.cs = some [])
 | [], _, _, _, _, h => .inl h
 | r :: l, j, s, x, v, h => by
   simp only [bZ] at h
   rcases yj h with h | ⟨i, r', h1, h2, h3⟩
   ·cases hb : aY m j with
    | false => rw [hb] at h; exact .inl h
    | true =>
      rw [hb] at h
      simp only [cond_true] at h
      rcases qV (s := s) (r := r) with ⟨_, e, _⟩ | ⟨d, hd, hc, e, _⟩ | ⟨d, _, hd, _, e, _⟩
      ·rw [e] at h; exact .inl h
      ·rw [e, iI] at h
       by_cases hx : x = d
       ·rw [if_pos hx] at h
        split at h
        ·cases h
         exact .inr ⟨0, r, by simp, hb, by rw [hx]; exact hd, rfl, hc⟩
        ·cases h
       ·rw [if_neg hx] at h; exact .inl h
      ·rw [e, iI] at h
       by_cases hx : x = d
       ·rw [if_pos hx] at h; split at h <;> cases h
       ·rw [if_neg hx] at h; exact .inl h
   ·exact .inr ⟨i + 1, r', by simpa using h1, by rw [show j + (i + 1) = j + 1 + i by omega]; exact h2, h3⟩
theorem pG {m : Nat} : ∀ {l : List Rec} {j : Nat} {s : St} {y}, y ∈ (bZ m j l s).aX -> y ∈ s.aX ∨ ∃ i r, l[i]? = some r /\ aY m (j + i) = true /\ r.dst = some y.1 /\ r.cs = some y.2.1 /\ y.2.2 = r.e.sv
 | [], _, _, _, h => .inl h
 | r :: l, j, s, y, h => by
   simp only [bZ] at h
   rcases pG h with h | ⟨i, r', h1, h2, h3⟩
   ·cases hb : aY m j with
    | false => rw [hb] at h; exact .inl h
    | true =>
      rw [hb] at h
      simp only [cond_true] at h
      rcases qV (s := s) (r := r) with ⟨_, _, e⟩ | ⟨d, hd, hc, _, e⟩ | ⟨d, cs, hd, hc, _, e⟩
      ·rw [e] at h; exact .inl h
      ·rw [e] at h; exact .inl h
      ·rw [e] at h
       rcases List.mem_cons.1 h with rfl | h
       ·exact .inr ⟨0, r, by simp, hb, hd, hc, rfl⟩
       ·exact .inl h
   ·exact .inr ⟨i + 1, r', by simpa using h1, by rw [show j + (i + 1) = j + 1 + i by omega]; exact h2, h3⟩
theorem yt : ∀ {ds : List Nat} {env : List (Option SV)} {x : Nat} {v : SV}, bG (mP ds env) x = some v -> bG env x = some v /\ x ∉ ds
 | [], env, x, v, h => ⟨h, by simp⟩
 | d :: r, env, x, v, h => by
   simp only [mP] at h
   obtain ⟨h1, h2⟩ := yt h
   rw [iI] at h1
   by_cases hx : x = d
   ·rw [if_pos hx] at h1; split at h1 <;> cases h1
   ·rw [if_neg hx] at h1
    exact ⟨h1, by simp [hx, h2]⟩
theorem sD : ∀ (ds : List Nat) (env : List (Option SV)), (mP ds env).length = env.length
 | [], _ => rfl
 | d :: r, env => by simp only [mP]; rw [sD, gy]
theorem G9 {m d : Nat} : ∀ {l : List Rec} {j : Nat}, Bh m d j l = true -> ∃ i r, l[i]? = some r /\ aY m (j + i) = true /\ r.dst = some d
 | [], j, h => by cases h
 | r :: l, j, h => by
   unfold Bh at h
   cases hc : (aY m j && OI d r.dst) with
   | true =>
     simp only [Bool.and_eq_true] at hc
     refine ⟨0, r, by simp, hc.1, ?_⟩
     cases hd : r.dst with
     | none => rw [hd] at hc; cases hc.2
     | some x => rw [hd] at hc; rw [Nat.eq_of_beq_eq_true hc.2]
   | false =>
     rw [hc] at h
     obtain ⟨i, r', h1, h2, h3⟩ := G9 h
     exact ⟨i + 1, r', by simpa using h1, by rw [show j + (i + 1) = j + 1 + i by omega]; exact h2, h3⟩
theorem DW {m : Nat} {acc : List Rec} : ∀ {cs : List (Nat × Bool)}, Du m acc cs = true -> ∀ x ∈ cs, ∃ i r, acc[i]? = some r /\ aY m i = true /\ r.dst = some x.1
 | [], _, x, hx => by cases hx
 | y :: cs, h, x, hx => by
   unfold Du at h
   cases hd : Bh m y.1 0 acc with
   | false => rw [hd] at h; cases h
   | true =>
     rw [hd] at h
     rcases List.mem_cons.1 hx with rfl | hx
     ·obtain ⟨i, r, h1, h2, h3⟩ := G9 hd
      exact ⟨i, r, h1, by rw [Nat.zero_add] at h2; exact h2, h3⟩
     ·exact DW h x hx
theorem He {c : Cfg} {ops : List Oper} {base : St} {masks : List Nat} {U : List (List Nat)} {nid : Nat} : ∀ {l : List Oper} {k : Nat} {acc recs : List Rec}, Fj c ops base masks U nid l k acc = some recs -> acc.length = k ->
 recs.length = k + l.length /\ recs.take k = acc /\ ∀ i o, l[i]? = some o -> ∃ m u r, masks[k + i]? = some m /\ U[k + i]? = some u /\ recs[k + i]? = some r /\ yZ c ops (Dt (wipe ops masks (k + i) base) masks U (recs.take (k + i)) m (k + i)) (nid + 8 * (k + i)) o = some r /\
  (∀ p ∈ r.e.upd, p.1 ∈ u) /\ (∀ cs, r.cs = some cs -> Du m (recs.take (k + i)) cs = true) /\ ∀ p ∈ r.e.upd, p.1 < nid ∨ nid + 8 * (k + i) <= p.1 ∨ aY m ((p.1 - nid) / 8) = true
 | [], k, acc, recs, h, hl => by
   cases h
   exact ⟨by simp [hl], by rw [<- hl]; simp, fun i o hi => by simp at hi⟩
 | o :: r, k, acc, recs, h, hl => by
   unfold Fj at h
   split at h
   ·rename_i m u hm hu
    split at h
    ·rename_i rc hrc
     cases hb : (allIn u (rc.e.upd.map (·.1)) && (NI m acc rc.cs && wZ m nid (nid + 8 * k) (rc.e.upd.map (·.1)))) with
     | false => rw [hb] at h; cases h
     | true =>
       rw [hb] at h
       simp only [Bool.and_eq_true] at hb
       obtain ⟨h1, h2, h3⟩ := He (l := r) h (by simp [hl])
       have hk : recs[k]? = some rc := by
        have : (recs.take (k + 1))[k]? = some rc := by rw [h2, <- hl]; simp
        rw [List.getElem?_take] at this
        simpa using this
       have htk : recs.take k = acc := by
        have := congrArg (List.take k) h2
        rw [List.take_take, Nat.min_eq_left (by omega)] at this
        rw [this, <- hl]; simp
       refine ⟨by rw [h1]; simp; omega, htk, fun i o' hi => ?_⟩
       cases i with
       | zero =>
         simp at hi; subst hi
         refine ⟨m, u, rc, hm, hu, hk, by rw [Nat.add_zero, htk]; exact hrc, fun p hp => ?_, fun cs hcs => ?_, fun p hp => Hf hb.2.2 _ (List.mem_map.2 ⟨p, hp, rfl⟩)⟩
         ·exact Eo hb.1 _ (List.mem_map.2 ⟨p, hp, rfl⟩)
         ·rw [Nat.add_zero, htk]
          have := hb.2.1
          rw [hcs] at this; exact this
       | succ i =>
         have := h3 i o' (by simpa using hi)
         rw [show k + 1 + i = k + (i + 1) by omega] at this
         exact this
    ·cases h
   ·cases h
where
 Hf {m n0 n : Nat} : ∀ {l : List Nat}, wZ m n0 n l = true -> ∀ x ∈ l, x < n0 ∨ n <= x ∨ aY m ((x - n0) / 8) = true
  | [], _, x, hx => by cases hx
  | y :: l, h, x, hx => by
    unfold wZ at h
    cases hm : (Nat.blt y n0 || Nat.ble n y || aY m (Nat.div (Nat.sub y n0) 8)) with
    | false => rw [hm] at h; cases h
    | true =>
      rw [hm] at h
      rcases List.mem_cons.1 hx with rfl | hx
      ·simp only [Bool.or_eq_true, Nat.blt_eq, Nat.ble_eq] at hm
       exact or_assoc.1 hm
      ·exact Hf h x hx
 Eo {ids : List Nat} : ∀ {l : List Nat}, allIn ids l = true -> ∀ x ∈ l, x ∈ ids
  | [], _, x, hx => by cases hx
  | y :: l, h, x, hx => by
    unfold allIn at h
    cases hm : mem1 y ids with
    | false => rw [hm] at h; cases h
    | true =>
      rw [hm] at h
      rcases List.mem_cons.1 hx with rfl | hx
      ·exact jo.1 hm
      ·exact Eo h x hx
theorem yu {k : Nat} : ∀ {l : List Oper} {masks : List Nat} {q : Nat} {o : Oper} {d : Nat}, l[q]? = some o -> o.dst = some d -> d ∉ mQ k l masks -> ∃ m, masks[q]? = some m /\ aY m k = true
 | [], _, q, o, d, h, _, _ => by simp at h
 | x :: r, [], 0, o, d, h, hd, hn => by
   simp at h; subst h
   exact absurd (by simp [mQ, hd]) hn
 | x :: r, [], q + 1, o, d, h, hd, hn => by
   have h : r[q]? = some o := by simpa using h
   obtain ⟨m, h1, _⟩ := yu (k := k) (masks := []) h hd (fun hh => hn (by simp only [mQ]; exact List.mem_append.2 (.inr hh)))
   simp at h1
 | x :: r, m :: ms, 0, o, d, h, hd, hn => by
   simp at h; subst h
   refine ⟨m, rfl, ?_⟩
   cases hb : aY m k with
   | true => rfl
   | false => exact absurd (by simp [mQ, hb, hd]) hn
 | x :: r, m :: ms, q + 1, o, d, h, hd, hn => by
   have h : r[q]? = some o := by simpa using h
   have hn' : d ∉ mQ k r ms := fun hh => hn (by
    simp only [mQ]
    cases aY m k with
    | true => exact hh
    | false => exact List.mem_append.2 (.inr hh))
   simpa using yu (masks := ms) h hd hn'
end Go.Vc
set_option linter.unusedVariables false
set_option linter.unusedSimpArgs false
namespace Go.Vc
theorem Ext.congr {ι ι' : Gh} {w w' : World} {M M' N N' : Store} (x : Ext ι w M ι' w' M') (h : ∀ id, N.get id = M.get id) (h' : ∀ id, N'.get id = M'.get id) : Ext ι w N ι' w' N' :=
 ⟨x.S, x.heap, fun id e he => x.base id e (by rw [<- h]; exact he), fun id e he => by
   obtain ⟨e', h1, h2⟩ := x.ev id e (by rw [<- h]; exact he)
   exact ⟨e', by rw [h']; exact h1, h2⟩⟩
theorem Inv.turned {c : Ctx} {ι : Gh} {w w' : World} {M M' : Store} (I : Inv c ι w M) (h : ∀ id, M'.get id = M.get id) (ho : w'.os = w.os) (ht : w'.tape = w.tape) (hu : w'.output = w.output) (hh : w'.heap = w.heap) : Inv c ι w' M' := by
 have x : Ext ι w M ι w' M' := ⟨fun _ h => h, fun b _ => by rw [hh], fun _ _ _ => ⟨rfl, rfl⟩, fun id e he => ⟨e, by rw [h]; exact he, Ev.refl e⟩⟩
 refine ⟨⟨ho.trans I.kept.os, ht.trans I.kept.tape, hu.trans I.kept.output, by rw [hh]; exact I.kept.size, fun b hb hO => by rw [hh]; exact I.kept.block b hb hO⟩, fun id e he => ?_, fun i j ei ej k hi hj => ?_, fun i e k hi => ?_, fun b hb => by rw [hh]; exact I.stb b hb, I.src⟩
 ·rw [h] at he
  exact bH.mono x he (fun _ _ _ => by rw [hh]) (I.ents id e he)
 ·rw [h] at hi hj; exact I.dis i j ei ej k hi hj
 ·rw [h] at hi; exact I.own i e k hi
theorem Ext.turned {ι : Gh} {w w' : World} {M M' : Store} (h : ∀ id, M'.get id = M.get id) (hh : w'.heap = w.heap) : Ext ι w M ι w' M' :=
 ⟨fun _ h => h, fun b _ => by rw [hh], fun _ _ _ => ⟨rfl, rfl⟩, fun id e he => ⟨e, by rw [h]; exact he, Ev.refl e⟩⟩
theorem Jw {s : St} {M' : Store} : ∀ {k : List (Nat × Bool)} {p : Prop}, under { s with M := M' } k p = under s k p
 | [], _ => rfl
 | (d, b) :: r, p => by
   unfold under
   rw [Jw (k := r)]
   rfl
theorem CP {s : St} {M' : Store} {cs : List (Nat × Bool)} : ∀ {ps : List Prop}, ji { s with M := M' } cs ps = ji s cs ps
 | [] => rfl
 | p :: r => by
   unfold ji
   rw [Jw, CP (ps := r)]
theorem nP {c : Cfg} {ops : List Oper} {s : St} {nid : Nat} {o : Oper} {r : Rec} (h : yZ c ops s nid o = some r) : r.dst = o.dst /\
 ((∃ cs e, iZ ops s o.guard = some (some cs) /\ kG c s cs nid o = some e /\ r.cs = some cs /\ r.e.sv = e.sv /\ r.e.upd = e.upd /\ (cs = [] /\ r.e.pre = e.pre ∨ e.upd = [] /\ ji s cs e.pre = some r.e.pre)) ∨
   (iZ ops s o.guard = some none /\ r.cs = none /\ r.e.sv = .tup [] /\ r.e.upd = [])) := by
 unfold yZ at h
 split at h
 ·rename_i cs hc
  split at h
  ·rename_i e he
   split at h
   ·cases h
    exact ⟨rfl, .inl ⟨[], e, hc, he, rfl, rfl, rfl, .inl ⟨rfl, rfl⟩⟩⟩
   ·rename_i x l hu
    split at h
    ·rename_i ps hps
     cases h
     exact ⟨rfl, .inl ⟨_, e, hc, he, rfl, rfl, hu.symm, .inr ⟨hu, hps⟩⟩⟩
    ·cases h
   ·cases h
  ·cases h
 ·rename_i hc
  cases h
  exact ⟨rfl, .inr ⟨hc, rfl, rfl, rfl⟩⟩
 ·cases h
abbrev O4 (ops : List Oper) (s : St2) : St := ⟨mP (dstsOf ops) s.s.env, [], s.s.M⟩
abbrev CQ (ops : List Oper) (masks : List Nat) (k : Nat) (s : St2) : St := wipe ops masks k ⟨s.s.env, [], s.s.M⟩
structure zu (cfg : Cfg) (ops : List Oper) (s : St2) (masks : List Nat) (U : List (List Nat)) (recs : List Rec) : Prop where
 aX : s.s.aX = []
 mask : yg ops masks
 Qg : masks.length = ops.length
 rlen : recs.length = ops.length
 each : ∀ (i : Nat) (o : Oper), ops[i]? = some o -> ∃ m u r, masks[i]? = some m /\ U[i]? = some u /\ recs[i]? = some r /\ yZ cfg ops (Dt (CQ ops masks i s) masks U (recs.take i) m i) (s.next + 8 * i) o = some r /\
  (∀ p ∈ r.e.upd, p.1 ∈ u) /\ (∀ cs, r.cs = some cs -> Du m (recs.take i) cs = true) /\ ∀ p ∈ r.e.upd, p.1 < s.next ∨ s.next + 8 * i <= p.1 ∨ aY m ((p.1 - s.next) / 8) = true
 pairs : ∀ (j mj : Nat) (uj : List Nat) (k : Nat) (uk : List Nat), k < j -> masks[j]? = some mj -> U[j]? = some uj -> U[k]? = some uk -> aY mj k = true ∨ ∀ x ∈ uk, x ∉ uj
 dst : ∀ (i j : Nat) (oi oj : Oper) (d : Nat), ops[i]? = some oi -> ops[j]? = some oj -> oi.dst = some d -> oj.dst = some d -> i = j
 inb : ∀ (i : Nat) (o : Oper) (d : Nat), ops[i]? = some o -> o.dst = some d -> d < s.s.env.length
 mem : ∀ (i : Nat) (o : Oper) (d : Nat), ops[i]? = some o -> o.dst = some d -> d ∈ dstsOf ops
section
variable {P : Program} {c : Ctx} {cfg : Cfg} {ops : Array Oper} {s : St2} {masks : List Nat} {U : List (List Nat)} {recs : List Rec}
abbrev Dl (listed : Array Bool) : Nat -> Bool := fun j => listed.getD j false
structure J (P : Program) (c : Ctx) (cfg : Cfg) (ops : Array Oper) (s : St2) (recs : List Rec) (ι0 : Gh) (w0 : World) (a0 : Act) (listed : Array Bool) (ι : Gh) (w : World) (a : Act) (M : Store) : Prop where
 size : listed.size = ops.size
 ext : Ext ι0 w0 s.s.M ι w M
 inv : Inv c ι w M
 mem : ∀ id, M.get id = gAt (Dl listed) 0 recs s.s.M.get id
 recs : ∀ j r d, recs[j]? = some r -> Dl listed j = true -> r.dst = some d -> (r.cs = none -> a.eval (.tmp d) = undef) /\ ∀ cs, r.cs = some cs -> (Holds a cs -> ak c ι w M r.e.sv (a.eval (.tmp d))) /\ (¬ Holds a cs -> a.eval (.tmp d) = undef)
 base : ∀ i v, bG s.s.env i = some v -> (∀ (q : Nat) (o : Oper), ops.toList[q]? = some o -> o.dst = some i -> Dl listed q = false) -> ak c ι w M v (a.eval (.tmp i))
 closed : ∀ j o, Dl listed j = true -> ops.toList[j]? = some o -> ∀ p ∈ mO o, Dl listed p = true
 len : s.s.env.length <= a.tmps.size
 defers : a.defers = a0.defers
 const : aK P cfg c ι w
variable {ι0 : Gh} {w0 : World} {a0 : Act} {listed : Array Bool} {ι : Gh} {w : World} {a : Act} {M : Store}
theorem J.rep (K : zu cfg ops.toList s masks U recs) (j : J P c cfg ops s recs ι0 w0 a0 listed ι w a M) {m k i : Nat} {E : List (Option SV)} (hE : ∀ x v, bG E x = some v -> ak c ι w M v (a.eval (.tmp x))) (hl : E.length = s.s.env.length) (hm : ∀ p, aY m p = true -> Dl listed p = true) :
 bC c ι w { (Dt ⟨E, [], s.s.M⟩ masks U (recs.take k) m i) with M := M } a := by
 refine ⟨?_, fun x v hx => ?_, fun y hy hk => ?_, fun y hy hk => ?_⟩
 ·show (bZ m 0 (recs.take k) ⟨E, [], s.s.M⟩).env.length <= _
  rw [qW]
  show E.length <= _
  rw [hl]; exact j.len
 ·rcases yj (show bG (bZ m 0 (recs.take k) ⟨E, [], s.s.M⟩).env x = some v from hx) with h | ⟨q, r, h1, h2, h3, h4, h5⟩
  ·exact hE x v h
  ·rw [Nat.zero_add] at h2
   have hr : recs[q]? = some r := by rw [List.getElem?_take] at h1; exact (by split at h1 <;> first | exact h1 | cases h1)
   obtain ⟨k1, k2⟩ := j.recs q r x hr (hm q h2) h3
   rcases h5 with h5 | h5
   ·have ho := (List.getElem?_eq_some_iff.1 hr).1
    have hq : ops.toList[q]? = some (ops.toList[q]'(by rw [<- K.rlen]; exact ho)) := List.getElem?_eq_getElem _
    obtain ⟨m', u', r', _, _, e3, e4, _⟩ := K.each q _ hq
    rw [hr] at e3; cases e3
    rcases (nP e4).2 with ⟨cs, e, _, _, g, _⟩ | ⟨_, _, g, _⟩
    ·rw [h5] at g; cases g
    ·rw [h4, g, k1 h5]; exact ⟨[], rfl, rfl⟩
   ·rw [h4]; exact (k2 [] h5).1 (fun _ hx => by cases hx)
 ·rcases pG (show y ∈ (bZ m 0 (recs.take k) ⟨E, [], s.s.M⟩).aX from hy) with h | ⟨q, r, h1, h2, h3, h4, h5⟩
  ·cases h
  ·rw [Nat.zero_add] at h2
   have hr : recs[q]? = some r := by rw [List.getElem?_take] at h1; exact (by split at h1 <;> first | exact h1 | cases h1)
   rw [h5]; exact ((j.recs q r _ hr (hm q h2) h3).2 _ h4).1 hk
 ·rcases pG (show y ∈ (bZ m 0 (recs.take k) ⟨E, [], s.s.M⟩).aX from hy) with h | ⟨q, r, h1, h2, h3, h4, h5⟩
  ·cases h
  ·rw [Nat.zero_add] at h2
   have hr : recs[q]? = some r := by rw [List.getElem?_take] at h1; exact (by split at h1 <;> first | exact h1 | cases h1)
   exact ((j.recs q r _ hr (hm q h2) h3).2 _ h4).2 hk
theorem J.step (tab : aG P cfg) (sums : fG P cfg) (K : zu cfg ops.toList s masks U recs) (hfr : ∀ q, s.next <= q -> s.s.M.get q = none) (hp : ∀ r ∈ recs, ∀ p ∈ r.e.pre, p) (j : J P c cfg ops s recs ι0 w0 a0 listed ι w a M)
 {i : Nat} (hi : i ∈ Region.ready .any ops listed) {next : Act -> World -> Prop} (hn : ∀ ι' w' a' M', J P c cfg ops s recs ι0 w0 a0 (listed.setIfInBounds i true) ι' w' a' M' -> next a' w') : wpO P ops i next a w := by
 obtain ⟨hun, o, ho, hall⟩ := mem_ready.1 hi
 have hol : ops.toList[i]? = some o := by simpa using ho
 have hlt : i < ops.size := (Array.getElem?_eq_some_iff.1 ho).1
 have hil : i < listed.size := by rw [j.size]; exact hlt
 have hDi : Dl listed i = false := by
  have := hun
  simp only [Dl, Array.getD_eq_getD_getElem?, Array.getElem?_eq_getElem hil] at this ⊢
  exact this
 obtain ⟨m, u, r, e1, e2, e3, e4, e5, e6, e7⟩ := K.each i o hol
 have O5 : ∀ p ∈ mO o, Dl listed p = true := by
  intro p hp
  obtain ⟨e, he, rfl⟩ := List.mem_map.1 hp
  obtain ⟨he1, he2⟩ := List.mem_filter.1 he
  exact hall e (by simpa using he1) he2
 have hclosed : ∀ k ok mk, ops.toList[k]? = some ok -> masks[k]? = some mk -> (∀ p ∈ mO ok, Dl listed p = true) -> ∀ p, aY mk p = true -> Dl listed p = true :=
  zM (D := fun p => Dl listed p = true) K.mask j.closed
 have KJ := hclosed i o m hol e1 O5
 have F := j.rep K (k := i) (i := i) (E := mP (mQ i ops.toList masks) s.s.env) (fun x v hx => by
  obtain ⟨g1, g2⟩ := yt hx
  refine j.base x v g1 fun q oq hq hd => ?_
  obtain ⟨mq, k1, k2⟩ := yu hq hd g2
  cases hDq : Dl listed q with
  | false => rfl
  | true =>
    have := hclosed q oq mq hq k1 (j.closed q _ hDq hq) i k2
    rw [hDi] at this; cases this) (sD _ _) KJ
 have hle : MLe (Dt (CQ ops.toList masks i s) masks U (recs.take i) m i).M M := by
  intro id e he
  obtain ⟨d1, d2⟩ := DV (show (Store.del (bZ m 0 (recs.take i) (CQ ops.toList masks i s)).M (lD masks m i 0 U)).get id = some e from he)
  rw [vW] at d2
  rw [j.mem, <- d2]
  have hsp : recs = recs.take i ++ recs.drop i := (List.take_append_drop i recs).symm
  have hlen : (recs.take i).length = i := by rw [List.length_take, K.rlen]; simp; omega
  have s1 : gAt (aY m) 0 (recs.take i) (CQ ops.toList masks i s).M.get id = gAt (aY m) 0 recs s.s.M.get id := by
   have happ := pW (aY m) (recs.take i) (recs.drop i) 0 s.s.M.get
   rw [<- hsp] at happ
   rw [happ]
   refine (qU _ _ _ fun q rq hq hb => ?_).symm
   have := Oj K.mask hol e1 _ hb
   rw [hlen] at this; omega
  rw [s1]
  refine mF recs 0 _ _ rfl fun q rq hq hne => ?_
  rw [Nat.zero_add] at hne
  intro p hpq hpi
  have vX := (List.getElem?_eq_some_iff.1 hq).1
  have hoq : ops.toList[q]? = some (ops.toList[q]'(by rw [<- K.rlen]; exact vX)) := List.getElem?_eq_getElem _
  obtain ⟨mq, uq, rq', q1, q2, q3, _, q5, _⟩ := K.each q _ hoq
  rw [hq] at q3; cases q3
  have hbq : aY m q = false := by
   cases hb : aY m q with
   | false => rfl
   | true => rw [hb, KJ q hb] at hne; exact absurd rfl hne
  have hDq : Dl listed q = true := by
   cases hd : Dl listed q with
   | true => rfl
   | false => rw [hd, hbq] at hne; exact absurd rfl hne
  have hqi : q ≠ i := fun hh => by rw [hh, hDi] at hDq; cases hDq
  have hmem : id ∈ lD masks m i 0 U := by
   refine En (i := q) q2 (by rw [<- hpi]; exact q5 p hpq) (by omega) (by rw [Nat.zero_add]; exact hbq) fun mj hmj => ?_
   rw [Nat.zero_add, q1] at hmj; cases hmj
   cases hb : aY mq i with
   | false => rfl
   | true =>
     have := hclosed q _ mq hoq q1 (j.closed q _ hDq hoq) i hb
     rw [hDi] at this; cases this
  rw [jo.2 hmem] at d1; cases d1
 have hbel : below (s.next + 8 * i + 8) r.e.upd = true := by
  rcases (nP e4).2 with ⟨cs, e, _, he, _, _, hu, _⟩ | ⟨_, _, _, hu⟩
  ·rw [hu]; exact zH he
  ·rw [hu]; rfl
 have PO : ∀ q rq, recs[q]? = some rq -> ∀ p ∈ rq.e.upd, p.1 < s.next + 8 * q + 8 /\ (p.1 < s.next ∨ s.next + 8 * q <= p.1 ∨ (Dl listed q = true -> Dl listed ((p.1 - s.next) / 8) = true)) := by
  intro q rq hq p hpq
  have vX := (List.getElem?_eq_some_iff.1 hq).1
  have hoq : ops.toList[q]? = some (ops.toList[q]'(by rw [<- K.rlen]; exact vX)) := List.getElem?_eq_getElem _
  obtain ⟨mq, uq, rq', q1, q2, q3, q4, q5, _, q7⟩ := K.each q _ hoq
  rw [hq] at q3; cases q3
  refine ⟨?_, (q7 p hpq).imp_right fun h => h.imp_right fun h hDq => hclosed q _ mq hoq q1 (j.closed q _ hDq hoq) _ h⟩
  have hb : below (s.next + 8 * q + 8) rq.e.upd = true := by
   rcases (nP q4).2 with ⟨cs, e, _, he, _, _, hu, _⟩ | ⟨_, _, _, hu⟩
   ·rw [hu]; exact zH he
   ·rw [hu]; rfl
  exact Ep hb p hpq
 have hfree : ∀ q, s.next + 8 * i <= q -> q < s.next + 8 * i + 8 -> M.get q = none := by
  intro q h1 h2
  rw [j.mem, qU]
  ·exact hfr q (by omega)
  ·intro t rt ht hd p hpt hpq
   rw [Nat.zero_add] at hd
   have hti : t ≠ i := fun hh => by rw [hh, hDi] at hd; cases hd
   obtain ⟨g1, g2⟩ := PO t rt ht p hpt
   rcases g2 with g2 | g2 | g2
   ·omega
   ·omega
   ·have g3 := g2 hd
    have : (p.1 - s.next) / 8 = i := by omega
    rw [this, hDi] at g3; cases g3
 have Nh : ∀ {d}, o.dst = some d -> ∀ q rq d', recs[q]? = some rq -> Dl listed q = true -> rq.dst = some d' -> d' ≠ d := by
  intro d hd q rq d' hq hDq hd' hdd
  have vX := (List.getElem?_eq_some_iff.1 hq).1
  have hoq : ops.toList[q]? = some (ops.toList[q]'(by rw [<- K.rlen]; exact vX)) := List.getElem?_eq_getElem _
  obtain ⟨mq, uq, rq', q1, q2, q3, q4, _⟩ := K.each q _ hoq
  rw [hq] at q3; cases q3
  have hqi : q ≠ i := fun hh => by rw [hh, hDi] at hDq; cases hDq
  exact hqi (K.dst q i _ o d hoq hol ((nP q4).1 ▸ (by rw [hd', hdd])) hd)
 have hholds : ∀ {v : Value} {q rq cs}, recs[q]? = some rq -> Dl listed q = true -> rq.cs = some cs -> (Holds (a.put o.dst v) cs ↔ Holds a cs) := by
  intro v q rq cs hq hDq hcs
  cases hd : o.dst with
  | none => exact Iff.rfl
  | some d =>
    refine mg fun x hx => ?_
    have vX := (List.getElem?_eq_some_iff.1 hq).1
    have hoq : ops.toList[q]? = some (ops.toList[q]'(by rw [<- K.rlen]; exact vX)) := List.getElem?_eq_getElem _
    obtain ⟨mq, uq, rq', q1, q2, q3, q4, _, q6, _⟩ := K.each q _ hoq
    rw [hq] at q3; cases q3
    obtain ⟨t, rt, t1, t2, t3⟩ := DW (q6 cs hcs) x hx
    have ht : recs[t]? = some rt := by rw [List.getElem?_take] at t1; exact (by split at t1 <;> first | exact t1 | cases t1)
    exact Nh hd t rt _ ht (hclosed q _ mq hoq q1 (j.closed q _ hDq hoq) t t2) t3
 have hput : ∀ {v : Value} {d' : Nat}, (∀ d, o.dst = some d -> d' ≠ d) -> (a.put o.dst v).eval (.tmp d') = a.eval (.tmp d') := by
  intro v d' h
  cases hd : o.dst with
  | none => rfl
  | some d => rw [eval_put, if_neg (fun hh => h d hd hh.1)]
 have hset : ∀ q, Dl (listed.setIfInBounds i true) q = (if q = i then true else Dl listed q) := by
  intro q
  by_cases hq : q = i
  ·subst hq
   rw [if_pos rfl]
   simp [Dl, hil]
  ·rw [if_neg hq]
   exact getD_set_ne false (fun hh => hq hh.symm)
 have finish : ∀ (ι' : Gh) (w' : World) (v : Value), Inv c ι' w' (M.aJ r.e.upd) -> Ext ι w M ι' w' (M.aJ r.e.upd) ->
  (∀ d, o.dst = some d -> (r.cs = none -> v = undef) /\ ∀ cs, r.cs = some cs -> (Holds a cs -> ak c ι' w' (M.aJ r.e.upd) r.e.sv v) /\ (¬ Holds a cs -> v = undef)) -> next (a.put o.dst v) w' := by
  intro ι' w' v I' x hv
  refine hn ι' w' _ (M.aJ r.e.upd) ⟨by rw [Array.size_setIfInBounds]; exact j.size, j.ext.trans x, I', fun id => ?_, fun q rq d hq hDq hd => ?_, fun q u hq hnd => ?_, fun q oq hDq hoq p hpq => ?_, by rw [Aw]; exact j.len, by rw [put_defers]; exact j.defers, j.const.mono x⟩
  ·rw [AB, j.mem]
   refine (Ol (k := i) e3 hDi (by rw [hset, if_pos rfl]) (fun q hq => by rw [hset, if_neg hq]) (fun q rq hiq hq hDq p hpq t ht => ?_) id).symm
   have vX := (List.getElem?_eq_some_iff.1 hq).1
   have hoq : ops.toList[q]? = some (ops.toList[q]'(by rw [<- K.rlen]; exact vX)) := List.getElem?_eq_getElem _
   obtain ⟨mq, uq, rq', q1, q2, q3, q4, q5, _⟩ := K.each q _ hoq
   rw [hq] at q3; cases q3
   rcases K.pairs q mq uq i u hiq q1 q2 e2 with hb | hb
   ·have := hclosed q _ mq hoq q1 (j.closed q _ hDq hoq) i hb
    rw [hDi] at this; cases this
   ·intro hh
    exact hb t.1 (e5 t ht) (by rw [<- hh]; exact q5 p hpq)
  ·rw [hset] at hDq
   by_cases hqi : q = i
   ·subst hqi
    rw [e3] at hq; cases hq
    have hod : o.dst = some d := by rw [<- (nP e4).1]; exact hd
    have hsz : d < a.tmps.size := Nat.lt_of_lt_of_le (K.inb q o d hol hod) j.len
    have hev : (a.put o.dst v).eval (.tmp d) = v := by rw [hod, eval_put, if_pos ⟨rfl, hsz⟩]
    rw [hev]
    obtain ⟨h1, h2⟩ := hv d hod
    refine ⟨h1, fun cs hcs => ?_⟩
    have hh : Holds (a.put o.dst v) cs ↔ Holds a cs := by
     rw [hod]
     refine mg fun y hy => ?_
     obtain ⟨t, rt, t1, t2, t3⟩ := DW (e6 cs hcs) y hy
     have ht : recs[t]? = some rt := by rw [List.getElem?_take] at t1; exact (by split at t1 <;> first | exact t1 | cases t1)
     exact Nh hod t rt _ ht (KJ t t2) t3
    exact ⟨fun hk => (h2 cs hcs).1 (hh.1 hk), fun hk => (h2 cs hcs).2 (fun hh' => hk (hh.2 hh'))⟩
   ·rw [if_neg hqi] at hDq
    obtain ⟨h1, h2⟩ := j.recs q rq d hq hDq hd
    rw [hput (fun d' hd' => Nh hd' q rq d hq hDq hd)]
    refine ⟨h1, fun cs hcs => ?_⟩
    have hh := hholds (v := v) hq hDq hcs
    exact ⟨fun hk => ((h2 cs hcs).1 (hh.1 hk)).mono x, fun hk => (h2 cs hcs).2 (fun hh' => hk (hh.2 hh'))⟩
  ·rw [hput (fun d hd hqd => ?_)]
   ·refine (j.base q u hq fun q' o' ho' hd' => ?_).mono x
    have := hnd q' o' ho' hd'
    rw [hset] at this
    by_cases hh : q' = i
    ·rw [if_pos hh] at this; cases this
    ·rw [if_neg hh] at this; exact this
   ·have := hnd i o hol (by rw [hqd]; exact hd)
    rw [hset, if_pos rfl] at this; cases this
  ·rw [hset] at hDq ⊢
   by_cases hpi : p = i
   ·rw [if_pos hpi]
   ·rw [if_neg hpi]
    by_cases hqi : q = i
    ·subst hqi
     rw [hol] at hoq; cases hoq
     exact O5 p hpq
    ·rw [if_neg hqi] at hDq
     exact j.closed q oq hDq hoq p hpq
 unfold wpO
 simp only [ho]
 rcases (nP e4).2 with ⟨cs, e, hc, he, hrc, hsv, hu, hpre⟩ | ⟨hc, hrc, hsv, hu⟩
 ·have hw := pV F (show iZ ops.toList _ o.guard = some (some cs) from hc)
  by_cases hk : Holds a cs
  ·rw [if_pos (hw.2 ⟨cs, rfl, hk⟩)]
   intro Q
   have he' := KG (M' := M) hle he
   have hpe : ∀ p ∈ e.pre, p := by
    have hpr := hp r (List.mem_of_getElem? e3)
    rcases hpre with ⟨_, hh⟩ | ⟨_, hh⟩
    ·rw [hh] at hpr; exact hpr
    ·exact sU F hk (by rw [CP]; exact hh) hpr
   refine (nY tab sums (show Inv c ι w ({ (Dt (CQ ops.toList masks i s) masks U (recs.take i) m i) with M := M } : St).M from j.inv) F j.const hk hfree he' hpe).imp fun v w' ι' I' x hv => ?_
   rw [<- hu] at I' x hv
   rw [<- hsv] at hv
   refine finish ι' w' v I' x fun d _ => ⟨fun hh => (by rw [hrc] at hh; cases hh), fun cs' hcs' => ?_⟩
   rw [hrc] at hcs'; cases hcs'
   exact ⟨fun _ => hv, fun hh => absurd hk hh⟩
  ·have hnw : Region.wanted o (yielded ops a.tmps) = false := by
    cases hh : Region.wanted o (yielded ops a.tmps) with
    | false => rfl
    | true => obtain ⟨cs', h1, h2⟩ := hw.1 hh; cases h1; exact absurd h2 hk
   rw [hnw, if_neg (by simp)]
   have hue : r.e.upd = [] := by
    rcases hpre with ⟨hh, _⟩ | ⟨hh, _⟩
    ·exact absurd (by rw [hh]; exact fun x hx => (List.not_mem_nil hx).elim) hk
    ·rw [hu]; exact hh
   refine finish ι w undef (by rw [hue]; exact j.inv) (by rw [hue]; exact Ext.refl _ _ _) fun d _ => ⟨fun _ => rfl, fun cs' hcs' => ?_⟩
   rw [hrc] at hcs'; cases hcs'
   exact ⟨fun hh => absurd hh hk, fun _ => rfl⟩
 ·have hw := pV F (show iZ ops.toList _ o.guard = some none from hc)
  have hnw : Region.wanted o (yielded ops a.tmps) = false := by
   cases hh : Region.wanted o (yielded ops a.tmps) with
   | false => rfl
   | true => obtain ⟨cs', h1, h2⟩ := hw.1 hh; cases h1
  rw [hnw, if_neg (by simp)]
  refine finish ι w undef (by rw [hu]; exact j.inv) (by rw [hu]; exact Ext.refl _ _ _) fun d _ => ⟨fun _ => rfl, fun cs' hcs' => ?_⟩
  rw [hrc] at hcs'; cases hcs'
where
 Ep {n : Nat} : ∀ {u : List (Nat × Entry)}, below n u = true -> ∀ p ∈ u, p.1 < n
  | [], _, p, hp => by cases hp
  | x :: u, h, p, hp => by
    unfold below at h
    cases hx : Nat.blt x.1 n with
    | false => rw [hx] at h; cases h
    | true =>
      rw [hx] at h
      rcases List.mem_cons.1 hp with rfl | hp
      ·simpa using hx
      ·exact Ep h p hp
theorem J.any (tab : aG P cfg) (sums : fG P cfg) (K : zu cfg ops.toList s masks U recs) (hfr : ∀ q, s.next <= q -> s.s.M.get q = none) (hp : ∀ r ∈ recs, ∀ p ∈ r.e.pre, p) {N : Act -> World -> Prop}
 (hn : ∀ (listed : Array Bool) ι w a M, J P c cfg ops s recs ι0 w0 a0 listed ι w a M -> (∀ q, q < ops.size -> Dl listed q = true) -> N a w) :
 ∀ (fuel : Nat) (listed : Array Bool) (ι : Gh) (w : World) (a : Act) (M : Store), J P c cfg ops s recs ι0 w0 a0 listed ι w a M -> ((List.range ops.size).filter fun q => !Dl listed q).length <= fuel -> wpA P ops N fuel listed a w := by
 have none : ∀ (listed : Array Bool) ι w a M, J P c cfg ops s recs ι0 w0 a0 listed ι w a M -> Region.ready .any ops listed = [] -> ∀ q, q < ops.size -> Dl listed q = true := by
  intro listed ι w a M j hr q
  induction q using Nat.strongRecOn with
  | _ q ih =>
    intro hq
    cases hd : Dl listed q with
    | true => rfl
    | false =>
      exfalso
      have hql : q < listed.size := by rw [j.size]; exact hq
      have : q ∈ Region.ready .any ops listed := by
       refine mem_ready.2 ⟨?_, ops[q], Array.getElem?_eq_getElem hq, fun e he hb => ?_⟩
       ·simp only [Dl, Array.getD_eq_getD_getElem?, Array.getElem?_eq_getElem hql] at hd ⊢; exact hd
       ·obtain ⟨m, _, k2, _⟩ := K.mask q ops[q] (by simp [hq])
        have hmem : e.on ∈ mO ops[q] := List.mem_map.2 ⟨e, List.mem_filter.2 ⟨by simpa using he, hb⟩, rfl⟩
        have hlt := (k2 e.on hmem).1
        exact ih e.on hlt (by omega)
      rw [hr] at this; cases this
 intro fuel
 induction fuel with
 | zero =>
   intro listed ι w a M j hc
   have hall : ∀ q, q < ops.size -> Dl listed q = true := by
    intro q hq
    cases hd : Dl listed q with
    | true => rfl
    | false =>
      have : q ∈ (List.range ops.size).filter fun q => !Dl listed q := List.mem_filter.2 ⟨List.mem_range.2 hq, by rw [hd]; rfl⟩
      rw [List.length_eq_zero_iff.1 (Nat.le_zero.1 hc)] at this; cases this
   refine ⟨?_, hn listed ι w a M j hall⟩
   cases hr : Region.ready .any ops listed with
   | nil => rfl
   | cons q l =>
     obtain ⟨hun, o, ho, _⟩ := mem_ready.1 (show q ∈ Region.ready .any ops listed by rw [hr]; simp)
     have hlt := (Array.getElem?_eq_some_iff.1 ho).1
     have hql : q < listed.size := by rw [j.size]; exact hlt
     have := hall q hlt
     simp only [Dl, Array.getD_eq_getD_getElem?, Array.getElem?_eq_getElem hql, Option.getD_some] at this hun
     rw [this] at hun; cases hun
 | succ fuel ih =>
   intro listed ι w a M j hc
   refine ⟨fun hr => hn listed ι w a M j (none listed ι w a M j hr), fun i hi => ?_⟩
   refine j.step tab sums K hfr hp hi fun ι' w' a' M' j' => ih _ ι' w' a' M' j' ?_
   obtain ⟨hun, o, ho, _⟩ := mem_ready.1 hi
   have hlt := (Array.getElem?_eq_some_iff.1 ho).1
   have hil : i < listed.size := by rw [j.size]; exact hlt
   have hDi : Dl listed i = false := by
    have := hun
    simp only [Dl, Array.getD_eq_getD_getElem?, Array.getElem?_eq_getElem hil] at this ⊢
    exact this
   have hlen : ∀ (l : List Nat), i ∈ l -> (l.filter fun q => !Dl (listed.setIfInBounds i true) q).length + 1 <= (l.filter fun q => !Dl listed q).length := by
    have hle : ∀ (l : List Nat), (l.filter fun q => !Dl (listed.setIfInBounds i true) q).length <= (l.filter fun q => !Dl listed q).length := by
     intro l
     induction l with
     | nil => simp
     | cons q l ihl =>
       by_cases hq : q = i
       ·subst hq
        have h1 : Dl (listed.setIfInBounds q true) q = true := by simp [Dl, hil]
        rw [List.filter_cons_of_neg (by rw [h1]; simp), List.filter_cons_of_pos (by rw [hDi]; rfl), List.length_cons]
        omega
       ·have h1 : Dl (listed.setIfInBounds i true) q = Dl listed q := getD_set_ne false (fun hh => hq hh.symm)
        rw [List.filter_cons, List.filter_cons, h1]
        split
        ·rw [List.length_cons, List.length_cons]; omega
        ·exact ihl
    intro l hl
    induction l with
    | nil => cases hl
    | cons q l ihl =>
      by_cases hq : q = i
      ·subst hq
       have h1 : Dl (listed.setIfInBounds q true) q = true := by simp [Dl, hil]
       rw [List.filter_cons_of_neg (by rw [h1]; simp), List.filter_cons_of_pos (by rw [hDi]; rfl), List.length_cons]
       have := hle l
       omega
      ·have h1 : Dl (listed.setIfInBounds i true) q = Dl listed q := getD_set_ne false (fun hh => hq hh.symm)
       have := ihl ((List.mem_cons.1 hl).resolve_left (fun hh => hq hh.symm))
       rw [List.filter_cons, List.filter_cons, h1]
       split
       ·rw [List.length_cons, List.length_cons]; omega
       ·exact this
   have := hlen (List.range ops.size) (List.mem_range.2 hlt)
   omega
theorem Es {m : Nat} {u : List Nat} : ∀ {l : List (List Nat)} {k : Nat}, qg m u k l = true -> ∀ i v, l[i]? = some v -> aY m (k + i) = true ∨ ∀ x ∈ v, x ∉ u
 | [], _, _, i, v, h => by simp at h
 | v0 :: l, k, h, i, v, hi => by
   unfold qg at h
   cases hb : (aY m k || qB u v0) with
   | false => rw [hb] at h; cases h
   | true =>
     rw [hb] at h
     cases i with
     | zero =>
       simp at hi; subst hi
       rw [Bool.or_eq_true] at hb
       exact hb.imp id fun h => Hg h
     | succ i =>
       have := Es (k := k + 1) h i v (by simpa using hi)
       rw [show k + 1 + i = k + (i + 1) by omega] at this; exact this
where
 Hg {u : List Nat} : ∀ {v : List Nat}, qB u v = true -> ∀ x ∈ v, x ∉ u
  | [], _, x, hx => by cases hx
  | y :: v, h, x, hx => by
    unfold qB at h
    cases hm : mem1 y u with
    | true => rw [hm] at h; cases h
    | false =>
      rw [hm] at h
      rcases List.mem_cons.1 hx with rfl | hx
      ·intro hu; rw [jo.2 hu] at hm; cases hm
      ·exact Hg h x hx
theorem Hl {masks : List Nat} {U : List (List Nat)} : ∀ {l : List (List Nat)} {j : Nat}, um masks U j l = true -> ∀ i u, l[i]? = some u -> ∃ m, masks[j + i]? = some m /\ qg m u 0 (U.take (j + i)) = true
 | [], _, _, i, u, h => by simp at h
 | u0 :: l, j, h, i, u, hi => by
   unfold um at h
   cases hm : masks[j]? with
   | none => rw [hm] at h; cases h
   | some m =>
     rw [hm] at h
     simp only at h
     cases hb : qg m u0 0 (U.take j) with
     | false => rw [hb] at h; cases h
     | true =>
       rw [hb] at h
       cases i with
       | zero =>
         simp at hi; subst hi
         exact ⟨m, hm, hb⟩
       | succ i =>
         have := Hl (j := j + 1) h i u (by simpa using hi)
         rw [show j + 1 + i = j + (i + 1) by omega] at this; exact this
theorem qX : ∀ {l : List Oper} {i : Nat} {o : Oper} {d : Nat}, l[i]? = some o -> o.dst = some d -> d ∈ dstsOf l
 | [], i, o, d, h, _ => by simp at h
 | o0 :: l, i, o, d, h, hd => by
   cases i with
   | zero =>
     simp at h; subst h
     unfold dstsOf; rw [hd]; simp
   | succ i =>
     have := qX (l := l) (i := i) (by simpa using h) hd
     unfold dstsOf
     split
     ·exact List.mem_cons_of_mem _ this
     ·exact this
theorem Ho : ∀ {l : List Oper}, (dstsOf l).Nodup -> ∀ (i j : Nat) (oi oj : Oper) (d : Nat), l[i]? = some oi -> l[j]? = some oj -> oi.dst = some d -> oj.dst = some d -> i = j
 | [], _, i, j, oi, oj, d, h, _, _, _ => by simp at h
 | o0 :: l, hn, i, j, oi, oj, d, hi, hj, hdi, hdj => by
   have hn' : (dstsOf l).Nodup := by
    unfold dstsOf at hn
    split at hn
    ·exact (List.nodup_cons.1 hn).2
    ·exact hn
   have hno : o0.dst = some d -> d ∉ dstsOf l := by
    intro h0
    unfold dstsOf at hn
    rw [h0] at hn
    exact (List.nodup_cons.1 hn).1
   cases i with
   | zero =>
     simp at hi; subst hi
     cases j with
     | zero => rfl
     | succ j => exact absurd (qX (l := l) (i := j) (by simpa using hj) hdj) (hno hdi)
   | succ i =>
     cases j with
     | zero =>
       simp at hj; subst hj
       exact absurd (qX (l := l) (i := i) (by simpa using hi) hdi) (hno hdj)
     | succ j =>
       have := Ho hn' i j oi oj d (by simpa using hi) (by simpa using hj) hdi hdj
       omega
theorem Et {env : List (Option SV)} : ∀ {l : List Nat}, uo env l = true -> ∀ d ∈ l, d < env.length
 | [], _, d, h => by cases h
 | x :: l, h, d, hd => by
   unfold uo at h
   cases hb : inB env x with
   | false => rw [hb] at h; cases h
   | true =>
     rw [hb] at h
     rcases List.mem_cons.1 hd with rfl | hd
     ·exact Gz hb
     ·exact Et h d hd
theorem qY : ∀ {l : List Nat}, fM l = true -> l.Nodup
 | [], _ => List.nodup_nil
 | x :: l, h => by
   simp only [fM, Bool.and_eq_true, Bool.not_eq_true'] at h
   exact List.nodup_cons.2 ⟨fun hx => (by rw [jo.2 hx] at h; cases h.1), qY h.2⟩
theorem IV (hm : P.follows .mixedOrders = true) (tab : aG P cfg) (sums : fG P cfg) {s' : St2} {ps : List Prop} {N : Act -> World -> Prop} (h : drawn cfg ops.toList s = some (ps, s')) (hp : ∀ p ∈ ps, p)
 (R : Rel c ι w s a) (G : aK P cfg c ι w) (hn : Goes c ι w s.s.M a (fun t => t = s') N) : wpA P ops N ops.size (Array.replicate ops.size false) a { w with drawn := w.drawn + 1 } := by
 unfold drawn at h
 split at h
 ·cases h
 rename_i Fz
 split at h
 ·rename_i masks U hma hU
  cases hb : (um masks U 0 U && fM (dstsOf ops.toList) && uo s.s.env (dstsOf ops.toList)) with
  | false => rw [hb] at h; cases h
  | true =>
    rw [hb] at h
    simp only [cond_true] at h
    simp only [Bool.and_eq_true] at hb
    obtain ⟨⟨b1, b2⟩, b3⟩ := hb
    split at h
    ·rename_i recs PS
     obtain ⟨hpre, hs'⟩ : recs.flatMap (·.e.pre) = ps /\ _ = s' := by simpa using h
     obtain ⟨ml, mo⟩ := CO (d := []) hma rfl (fun k o hk => by simp at hk)
     obtain ⟨rl, _, re⟩ := He PS rfl
     have K : zu cfg ops.toList s masks U recs := {
      aX := Fz
      mask := by simpa using mo
      Qg := by simpa using ml
      rlen := by simpa using rl
      each := fun i o hi => by
       obtain ⟨m, u, r, h1, h2, h3, h4, h5, h6, h7⟩ := re i o hi
       simp only [Nat.zero_add] at h1 h2 h3 h4 h6 h7
       exact ⟨m, u, r, h1, h2, h3, h4, h5, h6, h7⟩
      pairs := fun j mj uj k uk hkj hmj huj huk => by
       obtain ⟨m, h1, h2⟩ := Hl b1 j uj huj
       rw [Nat.zero_add] at h1 h2
       rw [hmj] at h1; cases h1
       have := Es h2 k uk (by rw [List.getElem?_take, if_pos hkj]; exact huk)
       rw [Nat.zero_add] at this; exact this
      dst := Ho (qY b2)
      inb := fun i o d hi hd => Et b3 d (qX hi hd)
      mem := fun i o d hi hd => qX hi hd }
     have hps : ∀ r ∈ recs, ∀ p ∈ r.e.pre, p := fun r hr p hpr => hp p (by rw [<- hpre]; exact List.mem_flatMap.2 ⟨r, hr, hpr⟩)
     obtain ⟨I, F, fr⟩ := R
     have hw1 : Ext ι w s.s.M ι { w with drawn := w.drawn + 1 } s.s.M := Ext.turned (fun _ => rfl) rfl
     have hD0 : ∀ q, Dl (Array.replicate ops.size false) q = false := fun q => by
      simp only [Dl, Array.getD_eq_getD_getElem?, Array.getElem?_replicate]
      split <;> rfl
     have j0 : J P c cfg ops s recs ι w a (Array.replicate ops.size false) ι { w with drawn := w.drawn + 1 } a s.s.M := {
      size := by simp
      ext := hw1
      inv := I.turned (fun _ => rfl) rfl rfl rfl rfl
      mem := fun id => (qU recs 0 _ (fun q r _ hd => by rw [hD0] at hd; cases hd)).symm
      recs := fun q r d _ hd => by rw [hD0] at hd; cases hd
      base := fun i v hv _ => (F.env i v hv).mono hw1
      closed := fun q o hd => by rw [hD0] at hd; cases hd
      len := F.len
      defers := rfl
      const := G.mono hw1 }
     refine J.any (ops := ops) tab sums K fr hps (fun listed ι' w' a' M j hall => ?_) ops.size (Array.replicate ops.size false) ι _ a s.s.M j0 ?_
     ·have hbm : ∀ q, aY (2 ^ ops.toList.length - 1) q = true -> Dl listed q = true := fun q hq => by
       rw [G8] at hq
       exact hall q (by simpa using hq)
      have hrlen : recs.length = ops.size := by rw [K.rlen]; simp
      have hM : ∀ id, (bZ (2 ^ ops.toList.length - 1) 0 recs (O4 ops.toList s)).M.get id = M.get id := by
       intro id
       rw [vW, j.mem]
       refine mF recs 0 _ _ rfl fun q r hq hne => ?_
       have hql := (List.getElem?_eq_some_iff.1 hq).1
       rw [Nat.zero_add, G8] at hne
       rw [hall q (by omega)] at hne
       exact absurd (by simp; omega) hne
      have F' := j.rep (k := recs.length) (i := 0) K (E := mP (dstsOf ops.toList) s.s.env) (fun x v hx => by
       obtain ⟨g1, g2⟩ := yt hx
       exact j.base x v g1 fun q oq hq hd => absurd (K.mem q oq x hq hd) g2) (sD _ _) hbm
      refine hn s' a' w' ι' rfl ?_ ?_ j.defers
      ·subst hs'
       refine ⟨j.inv.turned hM rfl rfl rfl rfl, ⟨?_, fun x v hx => ?_, fun y hy => (List.not_mem_nil hy).elim, fun y hy => (List.not_mem_nil hy).elim⟩, fun q hq => ?_⟩
       ·show (bZ _ 0 recs _).env.length <= _
        rw [qW]
        show (mP _ _).length <= _
        rw [sD]; exact j.len
       ·refine (F'.env x v ?_).mono (Ext.turned hM rfl)
        show bG (bZ _ 0 (recs.take recs.length) _).env x = some v
        rw [List.take_length]; exact hx
       ·refine (hM q).trans ?_
        rw [j.mem, qU]
        ·exact fr q (Nat.le_trans zq.1 hq)
        ·intro t r ht _ p hpr hpq
         have hq : bump s.next (recs.flatMap (·.e.upd)) <= q := hq
         have := (zq (u := recs.flatMap (·.e.upd)) (n := s.next)).2 p (List.mem_flatMap.2 ⟨r, List.mem_of_getElem? ht, hpr⟩)
         omega
      ·subst hs'
       exact j.ext.congr (fun _ => rfl) hM
     ·have := List.length_filter_le (fun q => !Dl (Array.replicate ops.size false) q) (List.range ops.size)
      simpa using this
    ·cases h
 ·cases h
theorem LW {cfg : Cfg} {ops : List Oper} {s s' : St2} {ps : List Prop} (h : drawn cfg ops s = some (ps, s')) : s'.ins = s.ins := by
 unfold drawn at h
 split at h
 ·cases h
 ·split at h
  ·rename_i masks U _ _
   cases hb : (um masks U 0 U && fM (dstsOf ops) && uo s.s.env (dstsOf ops)) with
   | false => rw [hb] at h; cases h
   | true =>
     rw [hb] at h
     simp only [cond_true] at h
     split at h
     ·cases h; rfl
     ·cases h
  ·cases h
end
end Go.Vc
set_option linter.unusedVariables false
set_option linter.unusedSimpArgs false
namespace Go.Vc
structure vY (ι : Gh) (w : World) (ι' : Gh) (w' : World) : Prop where
 S : ∀ b, ι.S b -> ι'.S b
 heap : ∀ b, ι.S b -> w'.heap[b]? = w.heap[b]?
theorem Ext.nR {ι ι' : Gh} {w w' : World} {M M' : Store} (x : Ext ι w M ι' w' M') : vY ι w ι' w' := ⟨x.S, x.heap⟩
theorem vY.refl (ι : Gh) (w : World) : vY ι w ι w := ⟨fun _ h => h, fun _ _ => rfl⟩
theorem vY.trans {ι ι' ι'' : Gh} {w w' w'' : World} (x : vY ι w ι' w') (y : vY ι' w' ι'' w'') : vY ι w ι'' w'' :=
 ⟨fun b h => y.S b (x.S b h), fun b h => (y.heap b (x.S b h)).trans (x.heap b h)⟩
theorem aK.lq {P : Program} {cfg : Cfg} {c : Ctx} {ι ι' : Gh} {w w' : World} (G : aK P cfg c ι w) (x : vY ι w ι' w') : aK P cfg c ι' w' := by
 refine ⟨fun g t y h => ?_⟩
 obtain ⟨cs, h1, h2, h3⟩ := G.glob g t y h
 exact ⟨cs, h1.mono (SF.mono x.S) (fun b hb => x.heap b hb.1), ah.mono (SF.mono x.S) (fun b hb => x.heap b hb.1) _ _ _ h2, h3⟩
structure XR (n : Nat) (ι : Gh) (w : World) (M : Store) (ι' : Gh) (w' : World) (M' : Store) : Prop where
 S : ∀ b, ι.S b -> ι'.S b
 heap : ∀ b, ι.S b -> w'.heap[b]? = w.heap[b]?
 low : ∀ id e, id < n -> M.get id = some e -> ι'.base id = ι.base id /\ ι'.cap id = ι.cap id /\ ∃ e', M'.get id = some e' /\ Ev e e'
theorem XR.iL {n : Nat} {ι ι' : Gh} {w w' : World} {M M' : Store} (x : Ext ι w M ι' w' M') : XR n ι w M ι' w' M' :=
 ⟨x.S, x.heap, fun id e _ he => ⟨(x.base id e he).1, (x.base id e he).2, x.ev id e he⟩⟩
theorem XR.ext {n : Nat} {ι ι' : Gh} {w w' : World} {M M' : Store} (x : XR n ι w M ι' w' M') (h : ∀ id, n <= id -> M.get id = none) : Ext ι w M ι' w' M' := by
 have lt : ∀ {id e}, M.get id = some e -> id < n := fun {id e} he => Nat.lt_of_not_le fun hh => by rw [h id hh] at he; cases he
 exact ⟨x.S, x.heap, fun id e he => ⟨(x.low id e (lt he) he).1, (x.low id e (lt he) he).2.1⟩, fun id e he => (x.low id e (lt he) he).2.2⟩
theorem XR.nR {n : Nat} {ι ι' : Gh} {w w' : World} {M M' : Store} (x : XR n ι w M ι' w' M') : vY ι w ι' w' := ⟨x.S, x.heap⟩
theorem XR.trans {n : Nat} {ι ι' ι'' : Gh} {w w' w'' : World} {M M' M'' : Store} (x : XR n ι w M ι' w' M') (y : XR n ι' w' M' ι'' w'' M'') : XR n ι w M ι'' w'' M'' := by
 refine ⟨fun b h => y.S b (x.S b h), fun b h => (y.heap b (x.S b h)).trans (x.heap b h), fun id e hn he => ?_⟩
 obtain ⟨h1, h2, e', h3, h4⟩ := x.low id e hn he
 obtain ⟨k1, k2, e'', k3, k4⟩ := y.low id e' hn h3
 exact ⟨k1.trans h1, k2.trans h2, e'', k3, h4.trans k4⟩
def mark (D : Nat) : Deferred := { target := .collected D, args := #[] }
def Marked (cfg : Cfg) (ι : Gh) (w w' : World) (d0 d : List Deferred) : Prop :=
 ∃ ms : List Nat, ms.Nodup /\ d = ms.map mark ++ d0 /\ (cfg.els = none ∨ ms = []) /\ ∀ D ∈ ms, w.heap.size <= D /\ ¬ ι.S D /\ w'.heap[D]? = some (.deferred (some []))
section
variable {P : Program} {c : Ctx} {cfg : Cfg}
theorem Marked.of_eq {ι : Gh} {w w' : World} {d0 d : List Deferred} (h : d = d0) : Marked cfg ι w w' d0 d := ⟨[], List.nodup_nil, by rw [h]; rfl, .inr rfl, fun _ h => by cases h⟩
theorem Marked.trans {ι ι' ι'' : Gh} {w w' w'' : World} {M M' M'' : Store} {d0 d1 d2 : List Deferred} (I' : Inv c ι' w' M') (h1 : Marked cfg ι' w w' d0 d1) (h2 : Marked cfg ι'' w' w'' d1 d2)
 (f1 : cfg.els = none -> Frm ι w M ι' w' M') (f2 : cfg.els = none -> Frm ι' w' M' ι'' w'' M'') : Marked cfg ι'' w w'' d0 d2 := by
 obtain ⟨m1, n1, e1, c1, k1⟩ := h1
 obtain ⟨m2, n2, e2, c2, k2⟩ := h2
 have lt1 : ∀ D ∈ m1, D < w'.heap.size := fun D hD => (Array.getElem?_eq_some_iff.1 (k1 D hD).2.2).1
 refine ⟨m2 ++ m1, ?_, by rw [e2, e1, List.map_append, List.append_assoc], ?_, fun D hD => ?_⟩
 ·refine List.nodup_append.2 ⟨n2, n1, fun x hx y hy hxy => ?_⟩
  subst hxy
  have := (k2 x hx).1
  have := lt1 x hy
  omega
 ·rcases c1 with h | h
  ·exact .inl h
  ·rcases c2 with h' | h'
   ·exact .inl h'
   ·exact .inr (by rw [h, h']; rfl)
 ·rcases List.mem_append.1 hD with hD | hD
  ·obtain ⟨g1, g2, g3⟩ := k2 D hD
   refine ⟨?_, g2, g3⟩
   rcases c2 with h | h
   ·exact Nat.le_trans (f1 h).turn.size g1
   ·rw [h] at hD; cases hD
  ·obtain ⟨g1, g2, g3⟩ := k1 D hD
   have he : cfg.els = none := by
    rcases c1 with h | h
    ·exact h
    ·rw [h] at hD; cases hD
   have f := f2 he
   have hnl : ¬ Live ι' M' D := fun hl => by
    obtain ⟨o, hc, ho⟩ := Live.cells I' hl
    rw [hc] at g3; cases g3; exact ho
   refine ⟨g1, fun hS => ?_, ?_⟩
   ·rcases f.newS D hS with h | h | h
    ·exact g2 h
    ·exact hnl h
    ·have := lt1 D hD; omega
   ·rw [f.turn.block D (lt1 D hD) hnl]; exact g3
structure Way (J : JT) (cfg : Cfg) (lp : Nat) (c : Ctx) (ι : Gh) (w : World) (M : Store) (d : List Deferred) (ι' : Gh) (w' : World) (s' : St2) (a' : Act) : Prop where
 rel : Rel c ι' w' s' a'
 j : J s'.ins (Live ι' s'.s.M) ι'.S w'
 xr : XR lp ι w M ι' w' s'.s.M
 frm : cfg.els = none -> Frm ι w M ι' w' s'.s.M
 mks : Marked cfg ι' w w' d a'.defers
theorem Way.refl {J : JT} {lp : Nat} {ι : Gh} {w : World} {s : St2} {a : Act} (R : Rel c ι w s a) (j : J s.ins (Live ι s.s.M) ι.S w) : Way J cfg lp c ι w s.s.M a.defers ι w s a :=
 ⟨R, j, XR.iL (Ext.refl _ _ _), fun _ => Frm.refl _ _ _, .of_eq rfl⟩
theorem Way.trans {J : JT} {lp : Nat} {ι ι' ι'' : Gh} {w w' w'' : World} {M : Store} {d : List Deferred} {s' s'' : St2} {a' a'' : Act} (x : Way J cfg lp c ι w M d ι' w' s' a') (y : Way J cfg lp c ι' w' s'.s.M a'.defers ι'' w'' s'' a'') :
 Way J cfg lp c ι w M d ι'' w'' s'' a'' :=
 ⟨y.rel, y.j, x.xr.trans y.xr, fun h => (x.frm h).trans (y.frm h), x.mks.trans x.rel.inv y.mks x.frm y.frm⟩
def oh (J : JT) (cfg : Cfg) (lp : Nat) (c : Ctx) (ι : Gh) (w : World) (M : Store) (a : Act) (K : Exit -> St2 -> Prop) (Q : Exit -> Act -> World -> Prop) : Prop :=
 ∀ e s' a' w' ι', K e s' -> Way J cfg lp c ι w M a.defers ι' w' s' a' -> Q e a' w'
theorem oh.trans {J : JT} {lp : Nat} {ι ι' : Gh} {w w' : World} {M : Store} {s' : St2} {a a' : Act} {K : Exit -> St2 -> Prop} {Q : Exit -> Act -> World -> Prop} (h : oh J cfg lp c ι w M a K Q) (x : Way J cfg lp c ι w M a.defers ι' w' s' a') :
 oh J cfg lp c ι' w' s'.s.M a' K Q := fun e s2 a2 w2 ι2 hk y => h e s2 a2 w2 ι2 hk (x.trans y)
def kQ (cfg : Cfg) (n : Nat) (k : Keep) : Prop := ∀ {c : Ctx} {ι : Gh} {w : World} {s : St2} {a : Act}, Rel c ι w s a -> ∃ ι', Rel c ι' w (canon cfg n k s) a /\ XR n ι w s.s.M ι' w (canon cfg n k s).s.M
theorem qZ {b : Bool} {x y : St2} {l : List Nat} (hx : x.ins = l) (hy : y.ins = l) : (cond b x y).ins = l := by cases b <;> assumption
theorem Eu (cfg : Cfg) : ∀ (l : List (Nat × Nat)) (s : St2), (l.foldl (rO cfg) s).ins = s.ins
 | [], s => rfl
 | x :: r, s => by
   rw [List.foldl_cons, Eu cfg r]
   unfold rO
   repeat' split
   all_goals first | rfl | exact qZ rfl rfl
theorem CS (cfg : Cfg) : ∀ (l : List (Nat × Nat × Nat)) (s : St2), (l.foldl (oL cfg) s).ins = s.ins
 | [], s => rfl
 | x :: r, s => by
   rw [List.foldl_cons, CS cfg r]
   unfold oL
   repeat' split
   all_goals first | rfl | exact qZ rfl rfl
theorem Ew (cfg : Cfg) : ∀ (l : List (Nat × Nat)) (s : St2), (l.foldl (rP cfg) s).ins = s.ins
 | [], s => rfl
 | x :: r, s => by
   rw [List.foldl_cons, Ew cfg r]
   unfold rP
   repeat' split
   all_goals first | rfl | exact qZ rfl rfl
theorem CU (cfg : Cfg) : ∀ (l : List (Nat × Nat × Nat)) (s : St2), (l.foldl (oM cfg) s).ins = s.ins
 | [], s => rfl
 | x :: r, s => by
   rw [List.foldl_cons, CU cfg r]
   unfold oM
   repeat' split
   all_goals first | rfl | exact qZ rfl rfl
theorem Hq : ∀ (l : List Nat) (s : St2), (l.foldl xg s).ins = s.ins
 | [], s => rfl
 | x :: r, s => by
   rw [List.foldl_cons, Hq r]
   unfold xg
   split
   ·split <;> rfl
   ·rfl
theorem yw (cfg : Cfg) (n : Nat) (k : Keep) (s : St2) : (canon cfg n k s).ins = s.ins := by
 unfold canon
 show (qC _ _ _).ins = _
 have h1 : ∀ t : St2, (qC n k.keep t).ins = t.ins := fun t => by
  unfold qC
  exact qZ rfl rfl
 rw [h1, Hq, CU, Ew, CS, Eu]
theorem oO {J : JT} {n : Nat} {k : Keep} (hcn : kQ cfg n k) (hJ : JOk J) {ι : Gh} {w : World} {s : St2} {a : Act} (R : Rel c ι w s a) (j : J s.ins (Live ι s.s.M) ι.S w) :
 ∃ ι', Way J cfg n c ι w s.s.M a.defers ι' w (canon cfg n k s) a := by
 obtain ⟨ι', R', x⟩ := hcn R.re
 have f := Frm.vS R.inv R'.inv x.S
 have R2 := Rel.un R.inv R'
 exact ⟨ι', R2, by rw [yw]; exact hJ.go f R2.inv j, x, fun _ => f, .of_eq rfl⟩
def oP : (ts : List Ty) -> aW ts -> Prop
 | [], _ => True
 | [t], x => Valid t x
 | t :: u :: r, x => Valid t x.1 /\ oP (u :: r) x.2
def NR (P : Program) (gl : Nat -> Option (Sigma Ty.den)) (f : Nat) (q : Dj) : Prop :=
 (∀ args w, (callFunc f args).run P w = .ok (.enter f args) w) /\
 ∀ (y : aW q.cs) (c : Ctx) (ι : Gh) (us : List Value) (J : JT), c.yl.isSome = true -> (∀ i T U W, J i T U W -> ∀ b, ¬ c.O b -> U b) -> Inv c ι c.w0 (ay 0 (jL q.cs y)) -> qO gl ι.S c.w0 -> oP q.cs y -> (∀ p ∈ q.pre y, p) ->
  aN c ι c.w0 (ay 0 (jL q.cs y)) (one .yld :: Ah 0 q.cs.length) us -> JOk J -> YOk P J c.yl q.es (q.L y) -> J [0, 0] (Live ι (ay 0 (jL q.cs y))) ι.S c.w0 ->
  Calls P f us.toArray c.w0 fun e w' => (∃ v, e = .returned v) /\ ∃ T U, J [0, (q.L y).length] T U w' ∨ ∃ k, J [1, k] T U w'
def oQ (P : Program) (cfg : Cfg) : Prop := ∀ f q, cfg.seq f = some q -> NR P cfg.glob f q
theorem zN {J : JT} (hJ : JOk J) {ro : Option Nat} {n lp : Nat} {b : Code} {l : Loop} {x0 : l.X} {B : St2 -> (Exit -> St2 -> Prop) -> Prop} {K : Exit -> St2 -> Prop} {Q : Exit -> Act -> World -> Prop}
 (hB : ∀ {ι w s a} {K' : Exit -> St2 -> Prop} {Q' : Exit -> Act -> World -> Prop}, B s K' -> Rel c ι w s a -> aK P cfg c ι w -> J s.ins (Live ι s.s.M) ι.S w -> oh J cfg lp c ι w s.s.M a K' Q' -> b.wpIn (Fw ro) n P Q' a w)
 (hcn : kQ cfg lp l.k) (hs : ∀ x, l.I x0 x -> B (l.st x) (Lm cfg lp l x0 x K)) : ∀ (m : Nat) {ι : Gh} {w : World} {x : l.X} {a : Act}, l.I x0 x -> l.mu x < m -> Rel c ι w (l.st x) a -> aK P cfg c ι w -> J (l.st x).ins (Live ι (l.st x).s.M) ι.S w -> oh J cfg lp c ι w (l.st x).s.M a K Q -> Code.roundsIn (Fw ro) n P b Q m a w
 | 0, ι, w, x, a, _, h, _, _, _, _ => (Nat.not_lt_zero _ h).elim
 | m + 1, ι, w, x, a, hI, hmu, R, G, j, hn => by
   show b.wpIn (Fw ro) n P (Exit.then (Code.roundsIn (Fw ro) n P b Q m) Q) a w
   refine hB (hs x hI) R G j fun e s' a' w' ι' hk W => ?_
   cases e with
   | normal =>
     obtain ⟨y, hy, hyI, hymu⟩ := hk
     obtain ⟨ι'', W'⟩ := oO hcn hJ W.rel W.j
     have W2 := W.trans W'
     rw [hy] at W2
     exact zN hJ hB hcn hs m hyI (by omega) W2.rel (G.lq W2.xr.nR) W2.j (hn.trans W2)
   | exit i => exact hn _ s' a' w' ι' hk W
   | goto i => exact hn _ s' a' w' ι' hk W
   | ret => exact hn _ s' a' w' ι' hk W
   | panic ch => exact hn _ s' a' w' ι' hk W
   | outgrown => exact hn _ s' a' w' ι' hk W
def vZ (P : Program) (cfg : Cfg) (inl : Inl) (keep : Nat -> Option Loop) (b : Code) : Prop :=
 ∀ {c : Ctx} {J : JT}, sV P cfg c J -> ∀ {ro : Option Nat} {n lp : Nat} {ι : Gh} {w : World} {s : St2} {a : Act} {K : Exit -> St2 -> Prop} {Q : Exit -> Act -> World -> Prop}, (ro = none ∨ fB b = true) -> vc cfg inl keep lp b s K ->
  Rel c ι w s a -> aK P cfg c ι w -> J s.ins (Live ι s.s.M) ι.S w -> oh J cfg lp c ι w s.s.M a K Q -> b.wpIn (Fw ro) n P Q a w
end
end Go.Vc
set_option linter.unusedVariables false
set_option linter.unusedSimpArgs false
namespace Go.Vc
open Go.RowKit
section
variable {P : Program} {c : Ctx} {cfg : Cfg} {ι : Gh} {w : World} {M : Store}
theorem zO : ∀ (ids : List Nat) (M : Store) (j : Nat), (jD M ids).get j = if j ∈ ids then some .dead else M.get j
 | [], M, j => by simp [jD]
 | i :: r, M, j => by
   rw [jD, zO r, Store.dM]
   by_cases h1 : j ∈ r
   ·simp [h1]
   ·by_cases h2 : j = i <;> simp [h1, h2]
theorem CV : ∀ (ids : List Nat) {s : St2} {a : Act}, (∀ i ∈ ids, ∃ e, s.s.M.get i = some e) -> Rel c ι w s a ->
 Rel c ι w { s with s := { s.s with M := jD s.s.M ids } } a /\ Ext ι w s.s.M ι w (jD s.s.M ids)
 | [], s, a, _, R => ⟨R, Ext.refl _ _ _⟩
 | i :: r, s, a, h, R => by
   obtain ⟨e, he⟩ := h i (by simp)
   obtain ⟨I, x, _⟩ := R.inv.kill he
   have R1 : Rel c ι w { s with s := { s.s with M := s.s.M.set i .dead } } a := ⟨I, R.rep.ext x, fun j hj => by
    show (s.s.M.set i .dead).get j = none
    rw [Store.dM]
    split
    ·rename_i hji; subst hji; rw [R.fresh j hj] at he; cases he
    ·exact R.fresh j hj⟩
   obtain ⟨R2, x2⟩ := CV r (s := { s with s := { s.s with M := s.s.M.set i .dead } }) (fun k hk => by
    show ∃ e, (s.s.M.set i .dead).get k = some e
    rw [Store.dM]
    split
    ·exact ⟨_, rfl⟩
    ·exact h k (by simp [hk])) R1
   exact ⟨R2, x.trans x2⟩
def CellIs (ι : Gh) (w : World) (M : Store) (id : Nat) (e : Entry) : Prop :=
 ∃ (t : Ty) (x : t.den) (ls : List Leaf) (b : Nat) (cs : List Value) (T : TypeId), e = .obj (explode false t x) /\ M.get id = some (.obj ls) /\ ι.base id = some ⟨b, 0, none⟩ /\ w.heap[b]? = some (.cells cs.toArray T (0, 0)) /\ ah ι.S w t x cs /\ Valid t x /\ qp t = true
theorem Jy (I : Inv c ι w M) {t : Ty} {i : Nat} {x : t.den} (h : qE.cell M t i = some x) : Valid t x /\ CellIs ι w M i (.obj (explode false t x)) := by
 unfold qE.cell at h
 split at h
 ·rename_i ls hm
  cases hnt : qp t with
  | false => rw [hnt] at h; cases h
  | true =>
  rw [hnt] at h
  split at h
  ·rename_i im him
   have him : aF M t ls = some im := him
   split at h
   ·rename_i hr hz
    cases h
    obtain ⟨b, cs, T, h1, h2, h3, h4⟩ := I.ents i _ hm
    obtain ⟨_, c1, c2, e1, e2, e3, e4⟩ := fC I t him h3
    rw [hr] at e2
    have e2 : c2 = [] := e2
    subst e2
    rw [List.append_nil] at e1
    subst e1
    have hp := e4 ι.S (fun _ h => h) (fun id e e0 k hm => by rw [hz] at hm; cases hm)
    exact ⟨e3, t, im.x, ls, b, cs, T, rfl, hm, h1, h2, ah.mono (fun b hb => hb.1) (fun _ _ => rfl) _ _ _ hp, e3, hnt⟩
   ·cases h
  ·cases h
 ·cases h
theorem cells_ok (I : Inv c ι w M) : ∀ {cs : List Ty} {y : aW cs} {ids : List Nat}, qE M cs ids = some y ->
 ids.length = cs.length /\ (jL cs y).length = cs.length /\ oP cs y /\ ∀ (j : Nat) (e : Entry), (jL cs y)[j]? = some e -> ∃ id, ids[j]? = some id /\ CellIs ι w M id e
 | [], y, [], h => ⟨rfl, rfl, trivial, fun j e he => by simp [jL] at he⟩
 | [t], y, [i], h => by
   obtain ⟨h1, h2⟩ := Jy I (show qE.cell M t i = some y from h)
   refine ⟨rfl, rfl, h1, fun j e he => ?_⟩
   cases j with
   | zero => simp [jL] at he; subst he; exact ⟨i, rfl, h2⟩
   | succ j => simp [jL] at he
 | t :: u :: r, y, i :: l, h => by
   simp only [qE] at h
   split at h
   ·rename_i x z hx hz
    cases h
    obtain ⟨h1, h2⟩ := Jy I hx
    obtain ⟨g1, g2, g3, g4⟩ := cells_ok I hz
    refine ⟨by simp [g1], by simp [jL, g2], ⟨h1, g3⟩, fun j e he => ?_⟩
    cases j with
    | zero => simp [jL] at he; subst he; exact ⟨i, rfl, h2⟩
    | succ j => simp only [jL, List.getElem?_cons_succ] at he; exact g4 j e he
   ·cases h
 | [], _, _ :: _, h => by cases h
 | [_], _, [], h => by cases h
 | [_], _, _ :: _ :: _, h => by cases h
 | _ :: _ :: _, _, [], h => by cases h
@[reducible] def NS (ι : Gh) (w : World) (l : Nat) : Ctx := ⟨w, fun b => ¬ ι.S b, ι.S, 0, Nat.zero_le _, some l⟩
@[reducible] def AL (ι : Gh) (ids : List Nat) : Gh := ⟨ι.S, fun j => ι.base (ids.getD j 0), fun j => ι.cap (ids.getD j 0)⟩
theorem zx {ids : List Nat} {j id : Nat} (h : ids[j]? = some id) : ids.getD j 0 = id := by rw [List.getD_eq_getElem?_getD, h]; rfl
theorem EY {l : List Nat} (hn : l.Nodup) {i j : Nat} (hi : i < l.length) (hj : j < l.length) (h : l[i] = l[j]) : i = j := by
 have := List.pairwise_iff_getElem.1 hn
 rcases Nat.lt_trichotomy i j with h1 | h1 | h1
 ·exact absurd h (this i j hi hj h1)
 ·exact h1
 ·exact absurd h.symm (this j i hj hi h1)
theorem O6 (I : Inv c ι w M) {ids : List Nat} {es : List Entry} (hn : ids.Nodup) (hc : ∀ (j : Nat) (e : Entry), es[j]? = some e -> ∃ id, ids[j]? = some id /\ CellIs ι w M id e) {w1 : World} (t : Turn w w1 fun _ => False) (l : Nat) :
 Inv (NS ι w1 l) (AL ι ids) w1 (ay 0 es) := by
 have hget : ∀ j, Store.get (ay 0 es) j = es[j]? := fun j => by rw [dO, if_pos (Nat.zero_le _), Nat.sub_zero]
 have hin : ∀ {j e k}, Store.get (ay 0 es) j = some e -> (AL ι ids).blk j = some k -> ∃ id ls, ids[j]? = some id /\ M.get id = some (.obj ls) /\ ι.blk id = some k := by
  intro j e k he hk
  rw [hget] at he
  obtain ⟨id, h1, _, _, ls, _, _, _, _, h2, _⟩ := hc j e he
  refine ⟨id, ls, h1, h2, ?_⟩
  have hk : (ι.base (ids.getD j 0)).map (·.block) = some k := hk
  rw [zx h1] at hk; exact hk
 refine ⟨⟨rfl, rfl, rfl, Nat.le_refl _, fun _ _ _ => rfl⟩, fun j e he => ?_, fun i j ei ej k hi hj _ _ bi bj => ?_, fun i e k hi _ bi => ?_, fun b hb => Nat.lt_of_lt_of_le (I.stb b hb) t.size, fun b hb => .inl hb⟩
 ·rw [hget] at he
  obtain ⟨id, h1, t', x, ls, b, cs, T, rfl, h3, h4, h5, h6, h7, h8⟩ := hc j e he
  have hb : b < w.heap.size := (Array.getElem?_eq_some_iff.1 h5).1
  refine ⟨b, cs, T, by show ι.base (ids.getD j 0) = _; rw [zx h1]; exact h4, by rw [t.block b hb (fun h => h)]; exact h5, bV _ _ _ (ah.mono (fun b hb => ⟨hb, fun h => by cases h⟩) (fun b hb => t.block b (I.stb b hb) (fun h => h)) _ _ _ h6) h7, o9 _ _ _ h8⟩
 ·obtain ⟨x, lx, x1, x2, x3⟩ := hin hi bi
  obtain ⟨y, ly, y1, y2, y3⟩ := hin hj bj
  have := I.dis x y _ _ k x2 y2 rfl rfl x3 y3
  subst this
  obtain ⟨hi', rfl⟩ := List.getElem?_eq_some_iff.1 x1
  obtain ⟨hj', hh⟩ := List.getElem?_eq_some_iff.1 y1
  exact EY hn hi' hj' hh.symm
 ·obtain ⟨x, lx, x1, x2, x3⟩ := hin hi bi
  have := (I.own x _ k x2 rfl x3).1
  exact ⟨this, .inr this⟩
theorem Om {ids : List Nat} {es : List Entry} (hc : ∀ (j : Nat) (e : Entry), es[j]? = some e -> ∃ id, ids[j]? = some id /\ CellIs ι w M id e) {b : Nat} (h : Live (AL ι ids) (ay 0 es) b) : ∃ id ∈ ids, ∃ ls, M.get id = some (.obj ls) /\ ι.blk id = some b := by
 obtain ⟨j, e, h1, h2, h3⟩ := h
 rw [dO, if_pos (Nat.zero_le _), Nat.sub_zero] at h1
 obtain ⟨id, g1, _, _, ls, _, _, _, _, g2, _⟩ := hc j e h1
 have h3 : (ι.base (ids.getD j 0)).map (·.block) = some b := h3
 rw [zx g1] at h3
 exact ⟨id, List.mem_of_getElem? g1, ls, g2, h3⟩
theorem Jz {c' : Ctx} {w1 : World} {ids : List Nat} {es : List Entry} (hl : es.length = ids.length) (hc : ∀ (j : Nat) (e : Entry), es[j]? = some e -> ∃ id, ids[j]? = some id /\ CellIs ι w M id e) :
 ∀ (n i : Nat), i + n = ids.length -> aN c' (AL ι ids) w1 (ay 0 es) (Ah i n) ((ids.drop i).map fun id => Value.pointer (ι.base id))
 | 0, i, h => by
   rw [List.drop_eq_nil_of_le (by omega)]; rfl
 | n + 1, i, h => by
   have hi : i < ids.length := by omega
   rw [List.drop_eq_getElem_cons hi]
   refine ⟨_, _, rfl, aH.one ?_, Jz hl hc n (i + 1) (by omega)⟩
   have he : es[i]? = some (es[i]'(by omega)) := List.getElem?_eq_getElem _
   obtain ⟨id, g1, t, x, ls, b, cs, T, h2, h3, h4, _⟩ := hc i _ he
   have hid : ids[i] = id := by rw [List.getElem?_eq_getElem hi] at g1; exact Option.some.inj g1
   have hg : Store.get (ay 0 es) i = some (.obj (explode false t x)) := by rw [dO, if_pos (Nat.zero_le _), Nat.sub_zero, he, h2]
   simp only [aj, hg]
   refine ⟨b, by show ι.base (ids.getD i 0) = _; rw [zx g1]; exact h4, by rw [hid, h4]⟩
theorem Au.O7 {S : Nat -> Prop} (hS : ∀ b, S b -> ι.S b) {t : Ty} {x : t.den} {v : Value} (h : Au S w t x v) : aH c ι w M (.of false t x) v := by
 obtain ⟨⟨cs, h1, h2⟩, h3⟩ := h
 have hp : ah (SF c ι false) w t x cs := ah.mono (fun b hb => ⟨hS b hb, fun hh => by cases hh⟩) (fun _ _ => rfl) _ _ _ h1
 refine ⟨cs, bV (fr := false) t x cs hp h3, ?_⟩
 show match t.isAgg with | true => v = .agg cs.toArray | false => cs = [v] /\ v.oneCell' = true
 cases ha : t.isAgg with
 | true => rw [ha] at h2; exact h2
 | false =>
   rw [ha] at h2
   have h2 : cs = [v] := h2
   exact ⟨h2, ah.one _ _ _ h1 v (by rw [h2]; simp)⟩
def KL (ps : List Nat) (vs : List Value) (tm : Array Value) : Array Value := (ps.zip vs).foldl (fun t p => t.setIfInBounds p.1 p.2) tm
theorem Nj {ps : Array Nat} {vs : List Value} {tm : Array Value} : (ps.zip vs.toArray).foldl (fun tmps (t, a) => tmps.setIfInBounds t a) tm = KL ps.toList vs tm := by
 rw [<- Array.foldl_toList, Array.toList_zip]; rfl
theorem eX.length {S : Nat -> Prop} : ∀ {ts : List Ty} {x : aW ts} {vs : List Value}, eX S w ts x vs -> vs.length = ts.length
 | [], _, vs, h => by rw [show vs = [] from h]; rfl
 | [_], _, vs, ⟨v, h, _⟩ => by rw [h]; rfl
 | _ :: _ :: _, _, vs, ⟨v, ws, h, _, h'⟩ => by rw [h]; simp [eX.length h']
theorem Ey {S : Nat -> Prop} (hS : ∀ b, S b -> ι.S b) : ∀ {ps : List Nat} {es : List Ty} {x : aW es} {s t : St} {a : Act} {vs : List Value}, qF s ps es x = some t -> bC c ι w s a -> eX S w es x vs ->
 t.M = s.M /\ bC c ι w t { a with tmps := KL ps vs a.tmps }
 | [], [], x, s, t, a, vs, h, F, hv => by
   cases h
   exact ⟨rfl, F⟩
 | [p], [y], x, s, t, a, vs, h, F, ⟨v, h1, h2⟩ => by
   subst h1
   exact F.put (u := v) h (fun _ => h2.O7 hS) (fun hh => absurd (fun x hx => by cases hx) hh)
 | p :: r, y :: u :: l, x, s, t, a, vs, h, F, ⟨v, ws, h1, h2, h3⟩ => by
   subst h1
   have hp : ∀ (p : Nat) (r : List Nat), qF s (p :: r) (y :: u :: l) x = (match fQ s [] (some p) (.v (.of false y x.1)) with | some s' => qF s' r (u :: l) x.2 | none => none) := fun p r => by
    cases r <;> rfl
   rw [hp] at h
   split at h
   ·rename_i s' hs
    obtain ⟨hM, F'⟩ := F.put (u := v) hs (fun _ => h2.O7 hS) (fun hh => absurd (fun x hx => by cases hx) hh)
    obtain ⟨hM2, F2⟩ := Ey hS h F' (by
     exact h3)
    exact ⟨hM2.trans hM, F2⟩
   ·cases h
 | [], _ :: _, _, _, _, _, _, h, _, _ => by cases h
 | [_], [], _, _, _, _, _, h, _, _ => by cases h
 | _ :: _ :: _, [], _, _, _, _, _, h, _, _ => by cases h
 | _ :: _ :: _, [_], _, _, _, _, _, h, _, _ => by cases h
theorem bC.defers {s : St} {a : Act} (F : bC c ι w s a) (d : List Deferred) : bC c ι w s { a with defers := d } := ⟨F.len, F.env, F.aX, F.xR⟩
structure Grw (ι : Gh) (w : World) (M : Store) (ι' : Gh) (w' : World) (M' : Store) : Prop where
 size : w.heap.size <= w'.heap.size
 S : ∀ b, ι.S b -> ι'.S b
 newL : ∀ b, Live ι' M' b -> Live ι M b ∨ w.heap.size <= b
 newS : ∀ b, ι'.S b -> ι.S b ∨ Live ι M b ∨ w.heap.size <= b
theorem Frm.grw {ι' : Gh} {w' : World} {M' : Store} (f : Frm ι w M ι' w' M') : Grw ι w M ι' w' M' := ⟨f.turn.size, f.S, f.newL, f.newS⟩
theorem Grw.same {w' : World} (h : w.heap.size <= w'.heap.size) : Grw ι w M ι w' M := ⟨h, fun _ h => h, fun _ h => .inl h, fun _ h => .inl h⟩
theorem Grw.trans {ι' ι'' : Gh} {w' w'' : World} {M' M'' : Store} (f : Grw ι w M ι' w' M') (g : Grw ι' w' M' ι'' w'' M'') : Grw ι w M ι'' w'' M'' := by
 refine ⟨Nat.le_trans f.size g.size, fun b hb => g.S b (f.S b hb), fun b hb => ?_, fun b hb => ?_⟩
 ·rcases g.newL b hb with h | h
  ·exact f.newL b h
  ·exact .inr (Nat.le_trans f.size h)
 ·rcases g.newS b hb with h | h | h
  ·exact f.newS b h
  ·exact .inr (f.newL b h)
  ·exact .inr (.inr (Nat.le_trans f.size h))
theorem jV (I : Inv c ι w M) {b : Nat} {o : Obj} (h : w.heap[b]? = some o) (ho : ¬ Jv o) : ¬ Live ι M b := fun hl => by
 obtain ⟨o', hc, ho'⟩ := Live.cells I hl
 rw [hc] at h
 exact ho ((Option.some.inj h) ▸ ho')
theorem wo {l : Nat} {o : Obj} : Turn w (w.putObj l o) fun b => b = l := ⟨rfl, rfl, rfl, by simp, fun k _ hn => World.putObj_heap_other hn⟩
def Jump : Exit -> Code -> Prop
 | .ret, .ret => True
 | .exit i, .exit j => i = j
 | _, _ => False
def RJ (c1 : Ctx) (ι : Gh) (w : World) (M : Store) (lp : Nat) (l : Loop) (x0 : l.X) (ins : List Nat) (a : Act) (K : Exit -> St2 -> Prop) (rec : LoopState -> Option Code -> _root_.Go.Loop) : JT := fun i T U W =>
 ∃ (ι' : Gh) (s' : St2), W.heap[w.heap.size]? = some (.deferred (some [])) /\ ¬ ι'.S w.heap.size /\ ¬ ι'.S (w.heap.size + 1) /\ ¬ T w.heap.size /\ ¬ T (w.heap.size + 1) /\ (∀ b, U b -> ι'.S b) /\ (∀ b, ι.S b -> U b) /\
  (∀ b, T b -> b < W.heap.size /\ (c1.w0.heap.size <= b ∨ c1.O b) /\ ¬ ι'.S b /\ ¬ Live ι' s'.s.M b) /\ Rel c1 ι' W s' a /\ s'.ins = ins /\ XR lp ι w M ι' W s'.s.M /\ ∃ st pe, W.heap[w.heap.size + 1]? = some (.loop (rec st pe)) /\
  ((∃ k x, i = [0, k] /\ l.I x0 x /\ l.mu x = k /\ s' = l.st x /\ st = .ready /\ pe = none) ∨ ∃ k e cd, i = [1, k] /\ K e s' /\ Jump e cd /\ st = .done /\ pe = some cd)
theorem PU {c1 : Ctx} {lp : Nat} {l : Loop} {x0 : l.X} {ins : List Nat} {a : Act} {K : Exit -> St2 -> Prop} {rec : LoopState -> Option Code -> _root_.Go.Loop} (hw0 : c1.w0.heap.size <= w.heap.size) : JOk (RJ c1 ι w M lp l x0 ins a K rec) := by
 intro i T U W T' U' W' h t hU hT' hU' hlt hdis
 obtain ⟨ι', s', hD, hSD, hSl, hTD, hTl, hUS, hSU, hT, R, hins, x, st, pe, hrec, hh⟩ := h
 have hDlt : w.heap.size < W.heap.size := (Array.getElem?_eq_some_iff.1 hD).1
 have wu : w.heap.size + 1 < W.heap.size := (Array.getElem?_eq_some_iff.1 hrec).1
 have hfree : ∀ b, T b -> Inv.Free c1 ι' s'.s.M b := fun b hb => ⟨(hT b hb).2.2.1, (hT b hb).2.1, fun j e h1 h2 h3 => (hT b hb).2.2.2 ⟨j, e, h1, h2, h3⟩⟩
 have hUw : ∀ b, U' b -> (ι'.S b ∨ T b ∨ W.heap.size <= b) /\ b < W'.heap.size := fun b hb => ⟨(hU' b hb).imp (hUS b) id, hlt b (.inr hb)⟩
 obtain ⟨I', x'⟩ := R.inv.widen t hfree hUw
 have nS : ∀ b, b < W.heap.size -> ¬ ι'.S b -> ¬ T b -> ¬ (ι'.S b ∨ U' b) := fun b h1 h2 h3 hh => by
  rcases hh with hh | hh
  ·exact h2 hh
  ·rcases (hUw b hh).1 with h | h | h
   ·exact h2 h
   ·exact h3 h
   ·omega
 have hsz := t.size
 refine ⟨{ ι' with S := fun b => ι'.S b ∨ U' b }, s', by rw [t.block _ hDlt hTD]; exact hD, nS _ hDlt hSD hTD, nS _ wu hSl hTl, fun h => ?_, fun h => ?_, fun b hb => .inr hb, fun b hb => hU b (hSU b hb), fun b hb => ⟨hlt b (.inl hb), ?_, fun hh => ?_, fun hl => ?_⟩,
  ⟨I', R.rep.ext x', R.fresh⟩, hins, x.trans (XR.iL x'), st, pe, by rw [t.block _ wu hTl]; exact hrec, hh⟩
 ·rcases hT' _ h with h | h
  ·exact hTD h
  ·omega
 ·rcases hT' _ h with h | h
  ·exact hTl h
  ·omega
 ·rcases hT' b hb with h | h
  ·exact (hT b h).2.1
  ·exact .inl (Nat.le_trans (Nat.le_trans hw0 (Nat.le_of_lt hDlt)) h)
 ·rcases hh with hh | hh
  ·rcases hT' b hb with h | h
   ·exact (hT b h).2.2.1 hh
   ·have := R.inv.stb b hh; omega
  ·exact hdis b hb hh
 ·have hl : Live ι' s'.s.M b := hl
  rcases hT' b hb with h | h
  ·exact (hT b h).2.2.2 hl
  ·have := Live.lt R.inv hl; omega
theorem Nk {inl : Inl} {keep : Nat -> Option Loop} {A B : Code} (iha : vZ P cfg inl keep A) (ihb : vZ P cfg inl keep B) (hels : cfg.els = none) (hcan : ∀ n k, kQ cfg n k) {c1 : Ctx} {lp : Nat} {l : Loop} {x0 : l.X} {ins : List Nat} {a : Act} {K : Exit -> St2 -> Prop}
 {fn : FuncId} {ps : Array Tmp} {rec : LoopState -> Option Code -> _root_.Go.Loop} (pX : rec = fun st pe => { state := st, pending := pe, fn, tmps := a.tmps, params := ps, assign := A, body := B, defers := w.heap.size }) (hw0 : c1.w0.heap.size <= w.heap.size)
 (hA : fB A = true) (hB : fB B = true) {es : List Ty} {els : List (aW es)} (hps : ps.size = es.length) (G : aK P cfg c1 ι w)
 (qQ : ∀ x, l.I x0 x -> l.mu x < els.length -> jc (qF (l.st x).s ps.toList es (els.getD (l.mu x) (Af es))) fun t => vc cfg inl keep (l.st x).next A { l.st x with s := t } (y7 (fun s1 => vc cfg inl keep (l.st x).next B s1 (Bo cfg lp l x0 x K)) fun _ _ => False)) :
 YOk P (RJ c1 ι w M lp l x0 ins a K rec) (some (w.heap.size + 1)) es els := by
 intro l' hl' n k T U W vs e hJ he hv hTU hdis
 cases hl'
 obtain ⟨ι', s', hD, hSD, hSl, hTD, hTl, hUS, hSU, hT, R, hins, xr, st, pe, hrec, hh⟩ := hJ
 rcases hh with ⟨k', x, hi, hI, hmu, hs', hst, hpe⟩ | ⟨k', _, _, hi, _⟩
 ·have : k = k' := by simpa using hi
  subst this
  subst hs' hst hpe
  have hDlt : w.heap.size < W.heap.size := (Array.getElem?_eq_some_iff.1 hD).1
  have wu : w.heap.size + 1 < W.heap.size := (Array.getElem?_eq_some_iff.1 hrec).1
  have hlt : l.mu x < els.length := by rw [hmu]; exact (List.getElem?_eq_some_iff.1 he).1
  have hgo := qQ x hI hlt
  have hge : els.getD (l.mu x) (Af es) = e := by rw [hmu, List.getD_eq_getElem?_getD, he]; rfl
  rw [hge] at hgo
  unfold jc at hgo
  split at hgo
  ·rename_i t ht
   have hsize : vs.toArray.size = (rec .ready none).params.size := by rw [pX]; simp [hv.length, hps]
   have hy := run_yield (P := P) (args := vs.toArray) hrec hsize
   rw [pX] at hy
   simp only at hy
   rw [Nj] at hy
   refine ⟨fn, _, A, B, hy, roundIn_of_wpIn trivial ?_⟩
   show A.wpIn (Fw (some (w.heap.size + 1))) n P _ _ W
   obtain ⟨htM, F2⟩ := Ey (c := c1) (ι := ι') (a := { tmps := a.tmps, defers := [] }) hUS ht (R.rep.defers []) hv
   have R2 : Rel c1 ι' W { l.st x with s := t } { tmps := KL ps.toList vs a.tmps, defers := [] } := ⟨by show Inv c1 ι' W t.M; rw [htM]; exact R.inv, F2, fun j hj => by show t.M.get j = none; rw [htM]; exact R.fresh j hj⟩
   have G1 : aK P cfg c1 ι' W := G.lq xr.nR
   let J1 : JT := fun i _ _ _ => i = (l.st x).ins
   have hJ1 : JOk J1 := fun _ _ _ _ _ _ _ h _ _ _ _ _ _ => h
   have hy1 : ∀ c', sV P cfg c' J1 := fun c' => ⟨hJ1, fun es els hh => by rw [hels] at hh; cases hh⟩
   refine iha (J := J1) (hy1 _) (.inr hA) hgo R2.re G1.re rfl fun e2 s2 a3 w2 ι2 hk Wy2 => ?_
   have R3 : Rel c1 ι2 w2 s2 a3 := Rel.un R2.inv Wy2.rel
   have f2 := Wy2.frm hels
   have nl2 : ¬ Live ι' t.M (w.heap.size + 1) := jV R2.inv hrec (fun h => h)
   have nd2 : ¬ Live ι' t.M w.heap.size := jV R2.inv hD (fun h => h)
   have KN : w2.heap[w.heap.size + 1]? = some (.loop (rec .ready none)) := by rw [f2.turn.block _ wu nl2]; exact hrec
   have hD2 : w2.heap[w.heap.size]? = some (.deferred (some [])) := by rw [f2.turn.block _ hDlt nd2]; exact hD
   have PV := (Array.getElem?_eq_some_iff.1 KN).1
   cases e2 with
   | normal =>
     have hk : vc cfg inl keep (l.st x).next B s2 (Bo cfg lp l x0 x K) := hk
     refine ⟨_, run_beginRound KN (by rw [pX]), ?_⟩
     obtain ⟨busy, NT⟩ : ∃ busy : _root_.Go.Loop, busy = { rec .ready none with state := .busy } := ⟨_, rfl⟩
     rw [<- NT]
     have g2 : Grw ι' W t.M ι2 w2 s2.s.M := f2.grw
     have nS2 : ∀ b, b < W.heap.size -> ¬ ι'.S b -> ¬ Live ι' t.M b -> ¬ ι2.S b := fun b h1 h2 h3 h => by
      rcases g2.newS b h with h | h | h
      ·exact h2 h
      ·exact h3 h
      ·omega
     obtain ⟨I4, x4⟩ := R3.inv.nO (wo (l := w.heap.size + 1) (o := .loop busy)) (fun b hb => by
      subst hb
      exact ⟨nS2 _ wu hSl nl2, .inl (by omega), fun j e h1 h2 h3 => jV R3.inv KN (fun h => h) ⟨j, e, h1, h2, h3⟩⟩)
     have KO : (w2.putObj (w.heap.size + 1) (.loop busy)).heap[w.heap.size + 1]? = some (.loop busy) := World.putObj_heap_same PV
     have hD3 : (w2.putObj (w.heap.size + 1) (.loop busy)).heap[w.heap.size]? = some (.deferred (some [])) := (World.putObj_heap_other (by omega)).trans hD2
     have R4 : Rel c1 ι2 (w2.putObj (w.heap.size + 1) (.loop busy)) s2 a3 := ⟨I4, R3.rep.ext x4, R3.fresh⟩
     have xr4 := Wy2.xr.trans (XR.iL x4)
     refine ihb (J := J1) (hy1 _) (.inr hB) hk R4.re (G1.lq xr4.nR).re Wy2.j fun e3 s3 a4 w3 ι3 hk3 Wy3 => ?_
     have R5 : Rel c1 ι3 w3 s3 a4 := Rel.un R4.inv Wy3.rel
     have f3 := Wy3.frm hels
     have PW := (Array.getElem?_eq_some_iff.1 KO).1
     have KP : w3.heap[w.heap.size + 1]? = some (.loop busy) := by rw [f3.turn.block _ PW (jV R4.inv KO (fun h => h))]; exact KO
     have hD5 : w3.heap[w.heap.size]? = some (.deferred (some [])) := by rw [f3.turn.block _ (by omega) (jV R4.inv hD3 (fun h => h))]; exact hD3
     have PX := (Array.getElem?_eq_some_iff.1 KP).1
     have g3 : Grw ι' W t.M ι3 w3 s3.s.M := (g2.trans (Grw.same (by simp))).trans f3.grw
     have nS3 : ∀ b, b < W.heap.size -> ¬ ι'.S b -> ¬ Live ι' t.M b -> ¬ ι3.S b := fun b h1 h2 h3 h => by
      rcases g3.newS b h with h | h | h
      ·exact h2 h
      ·exact h3 h
      ·omega
     have fin : ∀ (jump : Option Code), ∃ W4, (Instr.endRound (w.heap.size + 1) jump).run P w3 = .ok (.bool jump.isNone) W4 /\ W4.heap[w.heap.size + 1]? = some (.loop (rec (if jump.isNone then .ready else .done) jump)) /\ W4.heap[w.heap.size]? = some (.deferred (some [])) /\
      Rel c1 ι3 W4 (backTo (l.st x) s3) a /\ XR lp ι w M ι3 W4 s3.s.M /\ Grw ι' W t.M ι3 W4 s3.s.M /\ (Turn W W4 fun b => ¬ (T b ∨ U b)) := by
      intro jump
      have hend := run_endRound (P := P) jump KP
      have hbr : ({ busy with state := if jump.isNone then .ready else .done, pending := jump } : _root_.Go.Loop) = rec (if jump.isNone then .ready else .done) jump := by rw [NT, pX]
      rw [hbr] at hend
      obtain ⟨I6, x6⟩ := R5.inv.nO (wo (l := w.heap.size + 1) (o := .loop (rec (if jump.isNone then .ready else .done) jump))) (fun b hb => by
       subst hb
       exact ⟨nS3 _ wu hSl nl2, .inl (by omega), fun j e h1 h2 h3 => jV R5.inv KP (fun h => h) ⟨j, e, h1, h2, h3⟩⟩)
      have xr6 := (xr4.trans Wy3.xr).trans (XR.iL x6)
      have X : Ext ι' W t.M ι3 _ s3.s.M := xr6.ext fun id hid => R2.fresh id hid
      rw [htM] at X
      have F6 := R.rep.ext X
      refine ⟨_, hend, World.putObj_heap_same PX, (World.putObj_heap_other (by omega)).trans hD5, ⟨I6, ⟨F6.len, F6.env, fun _ h => (by cases h), fun _ h => (by cases h)⟩, R5.fresh⟩, xr.trans (XR.iL X), g3.trans (Grw.same (by simp)), ?_⟩
      refine ⟨Wy3.frm hels |>.turn.os.trans f2.turn.os, Wy3.frm hels |>.turn.tape.trans f2.turn.tape, Wy3.frm hels |>.turn.output.trans f2.turn.output, Nat.le_trans g3.size (by simp), fun b hb hn => ?_⟩
      have hn := Classical.not_not.1 hn
      have hbl : b ≠ w.heap.size + 1 := fun hh => by
       rw [hh] at hn
       exact hn.elim hTl fun h => hSl (hUS _ h)
      have hnl : ¬ Live ι' t.M b := fun hl => by
       rw [htM] at hl
       exact hn.elim (fun h => (hT b h).2.2.2 hl) fun h => (Live.own R.inv hl).1 (hUS b h)
      have Qh : ¬ Live ι2 s2.s.M b := fun hl => by
       rcases f2.newL b hl with h | h
       ·exact hnl h
       ·omega
      rw [World.putObj_heap_other hbl, f3.turn.block b (by simp; exact Nat.lt_of_lt_of_le hb f2.turn.size) Qh, World.putObj_heap_other hbl, f2.turn.block b hb hnl]
     have NU : ∀ {ι4 : Gh} {W4 : World} {M4 : Store}, Grw ι' W t.M ι4 W4 M4 -> ∀ b, T b -> b < W4.heap.size /\ (c1.w0.heap.size <= b ∨ c1.O b) /\ ¬ ι4.S b /\ ¬ Live ι4 M4 b := by
      intro ι4 W4 M4 g b hb
      obtain ⟨h1, h2, h3, h4⟩ := hT b hb
      rw [<- htM] at h4
      refine ⟨Nat.lt_of_lt_of_le h1 g.size, h2, fun h => ?_, fun h => ?_⟩
      ·rcases g.newS b h with h | h | h
       ·exact h3 h
       ·exact h4 h
       ·omega
      ·rcases g.newL b h with h | h
       ·exact h4 h
       ·omega
     have FC : ∀ {ι4 : Gh} {W4 : World} {M4 : Store}, Grw ι' W t.M ι4 W4 M4 -> ∀ b, b < W.heap.size -> ¬ ι'.S b -> ¬ Live ι' t.M b -> ¬ ι4.S b := by
      intro ι4 W4 M4 g b h1 h2 h3 h
      rcases g.newS b h with h | h | h
      ·exact h2 h
      ·exact h3 h
      ·omega
     have NV : s3.ins = ins := Wy3.j.trans hins
     have stop : ∀ (cd : Code), (∃ e, K e (backTo (l.st x) s3) /\ Jump e cd) -> ∃ v w', (Instr.endRound (w.heap.size + 1) (some cd)).run P w3 = .ok v w' /\ (∃ b, Ending.returned v = .returned (.bool b) /\ RJ c1 ι w M lp l x0 ins a K rec [cond b 0 1, k + 1] T U w' /\ Turn W w' fun b => ¬ (T b ∨ U b)) := by
      intro cd ⟨e4, hK, hj⟩
      obtain ⟨W4, h1, h2, h3, h4, h5, h6, h7⟩ := fin (some cd)
      refine ⟨_, W4, h1, false, rfl, ⟨ι3, backTo (l.st x) s3, h3, FC h6 _ hDlt hSD nd2, FC h6 _ wu hSl nl2, hTD, hTl, fun b hb => h6.S b (hUS b hb), hSU, fun b hb => NU h6 b hb, h4, NV, h5, _, _, h2, .inr ⟨k + 1, e4, cd, rfl, hK, hj, rfl, rfl⟩⟩, h7⟩
     cases e3 with
     | normal =>
       obtain ⟨y, hy0, hyI, hymu⟩ := hk3
       obtain ⟨W4, h1, h2, h3, h4, h5, h6, h7⟩ := fin none
       obtain ⟨ι5, W5⟩ := oO (J := J0) (hcan lp l.k) Ku h4 trivial
       have hci := yw cfg lp l.k (backTo (l.st x) s3)
       rw [hy0] at W5 hci
       have g5 : Grw ι' W t.M ι5 W4 (l.st y).s.M := h6.trans (W5.frm hels).grw
       refine ⟨_, W4, h1, true, rfl, ⟨ι5, l.st y, h3, FC g5 _ hDlt hSD nd2, FC g5 _ wu hSl nl2, hTD, hTl, fun b hb => g5.S b (hUS b hb), hSU, fun b hb => NU g5 b hb, W5.rel, hci.trans NV, h5.trans W5.xr, _, _, h2, .inl ⟨k + 1, y, rfl, hyI, by rw [hymu, hmu], rfl, rfl, rfl⟩⟩, h7⟩
     | ret => exact stop .ret ⟨.ret, hk3, trivial⟩
     | exit i => exact stop (.exit i) ⟨.exit i, hk3, rfl⟩
     | goto i => exact hk3.elim
     | panic ch => exact hk3.elim
     | outgrown => exact hk3.elim
   | exit i => exact hk.elim
   | goto i => exact hk.elim
   | ret => exact hk.elim
   | panic ch => exact hk.elim
   | outgrown => exact hk.elim
  ·exact hgo.elim
 ·simp at hi
theorem Frz.O8 {M : Store} {z : List (Nat × Entry)} (hz : Frz M z) {n j : Nat} (hid : ∀ j, n <= j -> M.get j = none) (hj : n <= j) : (M.aJ z).get j = none :=
 hz.fresh (nid := n) (m := j + 1) (fun i hi _ => hid i hi) j hj (Nat.lt_succ_self j)
theorem IW {s : St2} {a : Act} (R : Rel c ι w s a) (t : Ty) (i : Nat) : ∃ ι', Rel c ι' w (nK s t i) a /\ Ext ι w s.s.M ι' w (nK s t i).s.M := by
 unfold nK
 split
 ·rename_i ls hm
  split
  ·rename_i im him
   obtain ⟨b, cs, T, h1, h2, h3, h4⟩ := R.inv.ents i _ hm
   have hok := fC R.inv t him h3
   have hz := hok.1
   obtain ⟨ι1, I1, x1, _⟩ := xC.frozen R.inv hok
   exact ⟨ι1, ⟨I1, R.rep.ext x1, fun j hj => hz.O8 R.fresh hj⟩, x1⟩
  ·exact ⟨ι, R, Ext.refl _ _ _⟩
 ·exact ⟨ι, R, Ext.refl _ _ _⟩
theorem yx : ∀ (ts : List Ty) (ids : List Nat) {ι : Gh} {s : St2} {a : Act}, Rel c ι w s a -> ∃ ι', Rel c ι' w (lW ts ids s) a /\ Ext ι w s.s.M ι' w (lW ts ids s).s.M
 | [], _, ι, s, a, R => ⟨ι, R, Ext.refl _ _ _⟩
 | _ :: _, [], ι, s, a, R => ⟨ι, R, Ext.refl _ _ _⟩
 | t :: r, i :: l, ι, s, a, R => by
   obtain ⟨ι1, R1, x1⟩ := IW R t i
   obtain ⟨ι2, R2, x2⟩ := yx r l R1
   exact ⟨ι2, R2, x1.trans x2⟩
theorem KQ {s : St2} {a : Act} (cfg : Cfg) (g : Operand) (R : Rel c ι w s a) : ∃ ι', Rel c ι' w (nM cfg s g) a /\ Ext ι w s.s.M ι' w (nM cfg s g).s.M := by
 unfold nM
 split
 ·split
  ·exact yx _ _ R
  ·exact ⟨ι, R, Ext.refl _ _ _⟩
 ·exact ⟨ι, R, Ext.refl _ _ _⟩
theorem wK : ∀ (ts : List Ty) (ids : List Nat) (s : St2), (lW ts ids s).ins = s.ins
 | [], _, s => rfl
 | _ :: _, [], s => rfl
 | t :: r, i :: l, s => by
   show (lW r l (nK s t i)).ins = _
   rw [wK r l]
   unfold nK
   split
   ·split <;> rfl
   ·rfl
theorem IX (cfg : Cfg) (s : St2) (g : Operand) : (nM cfg s g).ins = s.ins := by
 unfold nM
 split
 ·split
  ·exact wK _ _ _
  ·rfl
 ·rfl
theorem Nl {J : JT} {n : Nat} (hJ : JOk J) {ι : Gh} {w : World} {s : St2} {a : Act} (g : Operand) (R : Rel c ι w s a) (j : J s.ins (Live ι s.s.M) ι.S w) :
 ∃ ι', Way J cfg n c ι w s.s.M a.defers ι' w (nM cfg s g) a := by
 obtain ⟨ι', R', x⟩ := KQ cfg g R.re
 have f := Frm.vS R.inv R'.inv x.S
 have R2 := Rel.un R.inv R'
 exact ⟨ι', R2, by rw [IX]; exact hJ.go f R2.inv j, XR.iL x, fun _ => f, .of_eq rfl⟩
theorem Hr {inl : Inl} {keep : Nat -> Option Loop} (tab : aG P cfg) (sums : fG P cfg) (hseq : oQ P cfg) (hcan : ∀ n k, kQ cfg n k) {A B : Code} (iha : vZ P cfg inl keep A) (ihb : vZ P cfg inl keep B) {J : JT} (hy : sV P cfg c J)
 {n lp : Nat} {g : Operand} {ps : Array Tmp} {s : St2} {a : Act} {K : Exit -> St2 -> Prop} {Q : Exit -> Act -> World -> Prop} (h : match JR cfg s g, keep (match dJ A with | 0 => dJ B | k => k) with
 | some ⟨q, y, ids⟩, some l => cond (fB A && (fB B && Nat.beq ps.size q.es.length)) (conj (q.pre y) (∃ x0, (canon cfg lp l.k { s with s := { s.s with M := jD s.s.M ids } } = l.st x0 /\ l.I x0 x0 /\ l.mu x0 = 0) /\
    (∀ x, l.I x0 x -> l.mu x < (q.L y).length -> jc (qF (l.st x).s ps.toList q.es ((q.L y).getD (l.mu x) (Af q.es))) fun t =>
      vc cfg inl keep (l.st x).next A { l.st x with s := t } (y7 (fun s1 => vc cfg inl keep (l.st x).next B s1 (Bo cfg lp l x0 x K)) fun _ _ => False)) /\
    ∀ x, l.I x0 x -> l.mu x = (q.L y).length -> K .normal (l.st x))) False
 | _, _ => False) (R : Rel c ι w s a) (G : aK P cfg c ι w) (j : J s.ins (Live ι s.s.M) ι.S w) (hn : oh J cfg lp c ι w s.s.M a K Q) :
 (Code.rangeFunc g ps A B).wpIn (Fw none) n P Q a w := by
 split at h
 ·rename_i q y ids l hsa hkeep
  cases hb : (fB A && (fB B && Nat.beq ps.size q.es.length)) with
  | false => rw [hb] at h; exact h.elim
  | true =>
    rw [hb] at h
    simp only [Bool.and_eq_true, Nat.beq_eq] at hb
    obtain ⟨hA, hB, hps⟩ := hb
    obtain ⟨hpre, x0, ⟨hx0, hI0, Qi⟩, qQ, hdone⟩ := lG.1 h
    unfold JR at hsa
    split at hsa
    ·rename_i f Qj hels hg
     split at hsa
     ·rename_i q' hq
      cases hnd : fM Qj with
      | false => rw [hnd] at hsa; cases hsa
      | true =>
        rw [hnd] at hsa
        simp only [cond_true] at hsa
        split at hsa
        ·rename_i y' hcells
         cases hsa
         have hkn : Holds a [] := fun x hx => by cases hx
         obtain ⟨hf1, hf2⟩ := (je R.rep G hkn hg : aj c ι w s.s.M (.fn f ids) _)
         have hf1 : a.eval g = .func (.func f) #[] (ids.map fun id => Value.pointer (ι.base id)).toArray := by simpa using hf1
         have O9 := qY hnd
         obtain ⟨hcall, hsq⟩ := hseq f q hq
         have R1 := R.re
         obtain ⟨hlen, hol, hval, hcap⟩ := cells_ok R.inv hcells
         have hin : ∀ i ∈ ids, ∃ e, s.s.M.get i = some e := fun i hi => by
          obtain ⟨e, he, _⟩ := hf2 i hi
          exact ⟨e, he⟩
         obtain ⟨R2, x2⟩ := CV ids hin R1
         have f2 := Frm.vS R.inv R2.inv x2.S
         obtain ⟨ι0, W0⟩ := oO (J := J0) (hcan lp l.k) Ku R2 trivial
         have hci := yw cfg lp l.k { s with s := { s.s with M := jD s.s.M ids } }
         rw [hx0] at W0 hci
         have f0 : Frm ι w s.s.M ι0 w (l.st x0).s.M := f2.trans (W0.frm hels)
         refine wpIn_rangeFunc fun fn hfn => ?_
         obtain ⟨rec, pX⟩ : ∃ rec : LoopState -> Option Code -> _root_.Go.Loop, rec = fun st pe => { state := st, pending := pe, fn, tmps := a.tmps, params := ps, assign := A, body := B, defers := w.heap.size } := ⟨_, rfl⟩
         obtain ⟨W1, hW1⟩ : ∃ W1, (w.alloc (.deferred (some []))).alloc (.loop (rec .ready none)) = W1 := ⟨_, rfl⟩
         have hL1 : W1.heap[w.heap.size + 1]? = some (.loop (rec .ready none)) := by
          rw [<- hW1]; have := World.alloc_heap_new (w.alloc (.deferred (some []))) (.loop (rec .ready none)); rwa [World.size_alloc] at this
         have t1 : Turn w W1 fun _ => False := by
          rw [<- hW1]; exact (Turn.alloc w _ _).trans (Turn.alloc _ _ _)
         have hK1 : W1.heap[w.heap.size]? = some (.deferred (some [])) := by
          rw [<- hW1]
          exact ((Turn.alloc (w.alloc (.deferred (some []))) _ (fun _ => False)).block _ (by simp) (fun h => h)).trans (World.alloc_heap_new w _)
         refine ⟨w.heap.size + 1, [mark w.heap.size], W1, { target := .fn (.func f) (ids.map fun id => Value.pointer (ι.base id)).toArray, args := #[.func (.yield (w.heap.size + 1)) #[] #[]] }, W1, f,
          #[.func (.yield (w.heap.size + 1)) #[] #[]] ++ (ids.map fun id => Value.pointer (ι.base id)).toArray, W1, ?_, ?_, fun _ _ => trivial, ?_, fun hh => by simp [Fw, Fence.wide] at hh, ?_⟩
         ·rw [<- hW1, pX]; exact run_enterLoop_outer _ _ _ _ _
         ·simp only [resolve, hf1]
          simp [Deferred.ofValue, Act.eval]
         ·simp [invoke, hcall]
         ·refine vP.2 ?_
          have hus : (#[.func (.yield (w.heap.size + 1)) #[] #[]] ++ (ids.map fun id => Value.pointer (ι.base id)).toArray : Array Value) = (.func (.yield (w.heap.size + 1)) #[] #[] :: ids.map fun id => Value.pointer (ι.base id)).toArray := by
           apply Array.ext'; simp
          rw [hus]
          have hS0 : ∀ b, (l.st x0).s.M.get b = (l.st x0).s.M.get b := fun _ => rfl
          have yA : ∀ b, Live (AL ι ids) (ay 0 (jL q.cs y)) b -> b < w.heap.size /\ Live ι s.s.M b /\ ¬ ι.S b /\ ¬ Live ι (jD s.s.M ids) b := by
           intro b hb
           obtain ⟨id, hid, ls, hm, hbk⟩ := Om hcap hb
           have hl : Live ι s.s.M b := ⟨id, _, hm, rfl, hbk⟩
           refine ⟨Live.lt R.inv hl, hl, (Live.own R.inv hl).1, fun ⟨i, e, h1, h2, h3⟩ => ?_⟩
           rw [zO] at h1
           split at h1
           ·cases h1; cases h2
           ·rename_i hni
            exact hni (by rw [R.inv.dis i id e _ b h1 hm h2 rfl h3 hbk]; exact hid)
          have fW := W0.frm hels
          have Pe : ∀ b, Live (AL ι ids) (ay 0 (jL q.cs y)) b -> ¬ ι0.S b /\ ¬ Live ι0 (l.st x0).s.M b := by
           intro b hb
           obtain ⟨h1, h2, h3, h4⟩ := yA b hb
           refine ⟨fun h => ?_, fun h => ?_⟩
           ·rcases fW.newS b h with h | h | h
            ·exact h3 h
            ·exact h4 h
            ·omega
           ·rcases fW.newL b h with h | h
            ·exact h4 h
            ·omega
          obtain ⟨I0', x0'⟩ := W0.rel.inv.nO t1 (fun _ h => h.elim)
          have NW : ∀ b, ι0.S b -> b < w.heap.size := W0.rel.inv.stb
          refine (hsq y (NS ι W1 (w.heap.size + 1)) (AL ι ids) _ (RJ (c.re ι w s.s.M R.inv.kept.lb) ι w s.s.M lp l x0 s.ins a K rec) rfl (fun i T U W hJ b hb => ?_) (O6 R.inv O9 hcap t1 _) ?_ hval hpre
           ⟨_, _, rfl, aH.one ⟨_, rfl, rfl⟩, Jz (by rw [hol, hlen]) hcap q.cs.length 0 (by rw [hlen]; omega)⟩ (PU (Nat.le_refl _)) (Nk iha ihb hels hcan pX (Nat.le_refl _) hA hB hps G.re qQ)
           ⟨ι0, l.st x0, hK1, fun h => ?_, fun h => ?_, fun h => ?_, fun h => ?_, fun b hb => f0.S b hb, fun b hb => hb, fun b hb => ⟨?_, ?_, (Pe b hb).1, (Pe b hb).2⟩, ⟨I0', W0.rel.rep.ext x0', W0.rel.fresh⟩, hci, ((XR.iL x2).trans W0.xr).trans (XR.iL x0'), _, _, hL1, .inl ⟨0, x0, rfl, hI0, Qi, rfl, rfl, rfl⟩⟩).mono ?_
          ·obtain ⟨_, _, _, _, _, _, _, _, hSU, _⟩ := hJ
           exact hSU b (Classical.not_not.1 hb)
          ·intro gg t x hgl
           obtain ⟨cs, h1, h2, h3⟩ := G.glob gg t x hgl
           exact ⟨cs, h1.mono (fun b hb => hb.1) (fun b hb => t1.block b (R.inv.stb b hb.1) (fun h => h)), ah.mono (fun b hb => hb.1) (fun b hb => t1.block b (R.inv.stb b hb.1) (fun h => h)) _ _ _ h2, h3⟩
          ·have := NW _ h; omega
          ·have := NW _ h; omega
          ·have := (yA _ h).1; omega
          ·have := (yA _ h).1; omega
          ·exact Nat.lt_of_lt_of_le (yA b hb).1 t1.size
          ·exact .inr (yA b hb).2.1
          ·rintro e w2 ⟨⟨v, rfl⟩, T, U, hJ⟩
           show rangePost (Fw none) n P (w.heap.size + 1) Q _ (.returned v) w2
           have common : ∀ {i : List Nat}, RJ (c.re ι w s.s.M R.inv.kept.lb) ι w s.s.M lp l x0 s.ins a K rec i T U w2 -> ∃ (ι' : Gh) (s' : St2) (w3 : World) (pe : Option Code), (Instr.endLoop (w.heap.size + 1)).run P w2 = .ok pe w3 /\
            Way J cfg lp c ι w s.s.M a.defers ι' w3 s' { a with defers := [mark w.heap.size] ++ a.defers } /\
            ((∃ k x, i = [0, k] /\ l.I x0 x /\ l.mu x = k /\ s' = l.st x /\ pe = none) ∨ ∃ k e cd, i = [1, k] /\ K e s' /\ Jump e cd /\ pe = some cd) := by
            intro i hJ
            obtain ⟨ι', s', hD, hSD, hSl, hTD, hTl, hUS, hSU, hT, R', hins, xr, st, pe, hrec, hh⟩ := hJ
            have hst : st ≠ .busy := by
             rcases hh with ⟨_, _, _, _, _, _, h, _⟩ | ⟨_, _, _, _, _, _, h, _⟩ <;> rw [h] <;> simp
            have hend := run_endLoop (P := P) hrec (by rw [pX]; exact hst)
            have hpe : (rec st pe).pending = pe := by rw [pX]
            have wu := (Array.getElem?_eq_some_iff.1 hrec).1
            obtain ⟨I', x'⟩ := R'.inv.nO (wo (l := w.heap.size + 1) (o := .loop { rec st pe with state := .exhausted })) (fun b hb => by
             subst hb
             exact ⟨hSl, .inl (by show w.heap.size <= _; omega), fun j e h1 h2 h3 => jV R'.inv hrec (fun h => h) ⟨j, e, h1, h2, h3⟩⟩)
            have f := Frm.vS R.inv I' xr.S
            have Iun := R.inv.un I'
            refine ⟨ι', s', _, (rec st pe).pending, hend, ⟨⟨Iun, (bC.ctx (c := c.re ι w s.s.M R.inv.kept.lb) (c' := c) rfl rfl (R'.rep.ext x')).defers _, R'.fresh⟩, ?_, xr.trans (XR.iL x'), fun _ => f, ⟨[w.heap.size], by simp, rfl, .inl hels, fun D hD' => ?_⟩⟩, ?_⟩
            ·rw [hins]; exact hy.ok.go f Iun j
            ·have : D = w.heap.size := by simpa using hD'
             subst this
             exact ⟨Nat.le_refl _, hSD, (World.putObj_heap_other (by omega)).trans hD⟩
            ·rcases hh with ⟨k, x, h1, h2, h3, h4, _, h5⟩ | ⟨k, e, cd, h1, h2, h3, _, h4⟩
             ·exact .inl ⟨k, x, h1, h2, h3, h4, hpe.trans h5⟩
             ·exact .inr ⟨k, e, cd, h1, h2, h3, hpe.trans h4⟩
           rcases hJ with hJ | ⟨k, hJ⟩
           ·obtain ⟨ι', s', w3, pe, hend, Wy, hh⟩ := common hJ
            rcases hh with ⟨k, x, h1, h2, h3, h4, h5⟩ | ⟨_, _, _, h1, _⟩
            ·have hk : (q.L y).length = k := by simpa using h1
             subst h4 h5
             exact ⟨none, w3, hend, hn .normal _ _ _ _ (hdone x h2 (by rw [h3, hk])) Wy⟩
            ·simp at h1
           ·obtain ⟨ι', s', w3, pe, hend, Wy, hh⟩ := common hJ
            rcases hh with ⟨_, _, h1, _⟩ | ⟨k', e, cd, h1, h2, h3, h4⟩
            ·simp at h1
            ·subst h4
             refine ⟨some cd, w3, hend, ?_⟩
             unfold Jump at h3
             split at h3
             ·exact wpIn_ret (hn .ret _ _ _ _ h2 Wy)
             ·subst h3; exact wpIn_exit (hn (.exit _) _ _ _ _ h2 Wy)
             ·exact h3.elim
        ·cases hsa
     ·cases hsa
    ·cases hsa
 ·exact h.elim
theorem IY {inl : Inl} {keep : Nat -> Option Loop} (tab : aG P cfg) (sums : fG P cfg) (hseq : oQ P cfg) (hcan : ∀ n k, kQ cfg n k) {A B : Code} (iha : vZ P cfg inl keep A) (ihb : vZ P cfg inl keep B) {J : JT} (hy : sV P cfg c J)
 {n lp : Nat} {g : Operand} {ps : Array Tmp} {s : St2} {a : Act} {K : Exit -> St2 -> Prop} {Q : Exit -> Act -> World -> Prop} (h : vc cfg inl keep lp (.rangeFunc g ps A B) s K) (R : Rel c ι w s a) (G : aK P cfg c ι w) (j : J s.ins (Live ι s.s.M) ι.S w) (hn : oh J cfg lp c ι w s.s.M a K Q) :
 (Code.rangeFunc g ps A B).wpIn (Fw none) n P Q a w := by
 simp only [vc] at h
 obtain ⟨ι', W⟩ := Nl (cfg := cfg) (n := lp) hy.ok g R j
 exact Hr tab sums hseq hcan iha ihb hy h W.rel (G.lq W.xr.nR) W.j (hn.trans W)
end
end Go.Vc
set_option linter.unusedVariables false
set_option linter.unusedSimpArgs false
namespace Go.Vc
section
variable {P : Program} {c : Ctx} {cfg : Cfg}
theorem dS {inl : Inl} (hinl : CG P cfg inl) (tab : aG P cfg) (sums : fG P cfg) (hseq : oQ P cfg) (hdr : P.follows .mixedOrders = true) (hcan : ∀ n k, kQ cfg n k) {keep : Nat -> Option Loop} :
 ∀ (b : Code), vZ P cfg inl keep b := by
 intro b
 induction b with
 | skip => intro c J hy ro n lp ι w s a K Q hd h R G j hn; exact wpIn_skip (hn _ s a w ι h (Way.refl R j))
 | label l => intro c J hy ro n lp ι w s a K Q hd h R G j hn; exact wpIn_label (hn _ s a w ι h (Way.refl R j))
 | ret => intro c J hy ro n lp ι w s a K Q hd h R G j hn; exact wpIn_ret (hn _ s a w ι h (Way.refl R j))
 | exit i => intro c J hy ro n lp ι w s a K Q hd h R G j hn; exact wpIn_exit (hn _ s a w ι h (Way.refl R j))
 | goto i => intro c J hy ro n lp ι w s a K Q hd h R G j hn; exact wpIn_goto (hn _ s a w ι h (Way.refl R j))
 | region id ops draw =>
   intro c J hy ro n lp ι w s a K Q hd h R G j hn
   have goes : CJ J cfg c ι w s.s.M a (fun s' => K .normal s') (Q .normal) := fun s' a' w' ι' hk R' j' x f hd => hn _ s' a' w' ι' hk ⟨R', j', XR.iL x, f, .of_eq hd⟩
   cases draw with
   | false => exact wpIn_region_list (mZ hinl tab sums hy _ hd h R G j goes)
   | true =>
     simp only [vc] at h
     cases hs : drawn cfg ops.toList s with
     | none => rw [hs] at h; exact h.elim
     | some q =>
       obtain ⟨ps, s'⟩ := q
       rw [hs] at h
       obtain ⟨hp, hk⟩ := lG.1 h
       refine wpIn_region_any hdr (LQ (N := Q .normal) hd (fun _ _ h => h) _ _ _ _ (IV hdr tab sums hs hp R.re G.re fun t a' w' ι' ht R' x hd => ?_))
       subst ht
       have f := Frm.vS R.inv R'.inv x.S
       have R2 := Rel.un R.inv R'
       exact goes _ a' w' ι' hk R2 (by rw [LW hs]; exact hy.ok.go f R2.inv j) x (fun _ => f) hd
 | seq x y ihx ihy =>
   intro c J hy ro n lp ι w s a K Q hd h R G j hn
   have hd1 : ro = none ∨ fB x = true := hd.imp id fun h => by simp only [fB, Bool.and_eq_true] at h; exact h.1
   have hd2 : ro = none ∨ fB y = true := hd.imp id fun h => by simp only [fB, Bool.and_eq_true] at h; exact h.2
   simp only [vc] at h
   cases hkp : keep (dJ y + 1000000) with
   | none =>
     rw [hkp] at h
     refine wpIn_seq (ihx hy hd1 h R G j fun e s' a' w' ι' hk W => ?_)
     cases e with
     | normal => exact ihy hy hd2 hk W.rel (G.lq W.xr.nR) W.j (hn.trans W)
     | exit i => exact hn _ s' a' w' ι' hk W
     | goto i => exact hn _ s' a' w' ι' hk W
     | ret => exact hn _ s' a' w' ι' hk W
     | panic ch => exact hn _ s' a' w' ι' hk W
     | outgrown => exact hn _ s' a' w' ι' hk W
   | some kp =>
     rw [hkp] at h
     obtain ⟨h, hs⟩ := h
     refine wpIn_seq (ihx hy hd1 h R G j fun e s' a' w' ι' hk W => ?_)
     cases e with
     | normal =>
       obtain ⟨x0, hx0, hI⟩ := hk
       obtain ⟨ι2, W2⟩ := oO (hcan lp kp.k) hy.ok W.rel W.j
       rw [hx0] at W2
       exact ihy hy hd2 (hs x0 hI) W2.rel ((G.lq W.xr.nR).lq W2.xr.nR) W2.j ((hn.trans W).trans W2)
     | exit i => exact hn _ s' a' w' ι' hk W
     | goto i => exact hn _ s' a' w' ι' hk W
     | ret => exact hn _ s' a' w' ι' hk W
     | panic ch => exact hn _ s' a' w' ι' hk W
     | outgrown => exact hn _ s' a' w' ι' hk W
 | cond x y z ihy ihz =>
   intro c J hy ro n lp ι w s a K Q hd h R G j hn
   have hd1 : ro = none ∨ fB y = true := hd.imp id fun h => by simp only [fB, Bool.and_eq_true] at h; exact h.1
   have hd2 : ro = none ∨ fB z = true := hd.imp id fun h => by simp only [fB, Bool.and_eq_true] at h; exact h.2
   simp only [vc] at h
   cases hx : opb cfg s.s [] x with
   | none => rw [hx] at h; exact h.elim
   | some t =>
     rw [hx] at h
     have hv := Oe R.rep G (fun y hy => (List.not_mem_nil hy).elim) hx
     cases t with
     | true => exact wpIn_cond hv (ihy hy hd1 h R G j hn)
     | false => exact wpIn_cond hv (ihz hy hd2 h R G j hn)
 | block id x ih =>
   intro c J hy ro n lp ι w s a K Q hd h R G j hn
   refine wpIn_block (ih hy hd h R G j fun e s' a' w' ι' hk W => ?_)
   cases e with
   | normal => exact hn _ s' a' w' ι' hk W
   | exit i =>
     simp only [Lp] at hk
     show if i = id then Q .normal a' w' else Q (.exit i) a' w'
     cases hb : Nat.beq i id with
     | true =>
       rw [hb] at hk
       rw [if_pos (Nat.eq_of_beq_eq_true hb)]
       exact hn _ s' a' w' ι' hk W
     | false =>
       rw [hb] at hk
       rw [if_neg (fun hh => by rw [hh] at hb; simp at hb)]
       exact hn _ s' a' w' ι' hk W
   | goto i => exact hn _ s' a' w' ι' hk W
   | ret => exact hn _ s' a' w' ι' hk W
   | panic ch => exact hn _ s' a' w' ι' hk W
   | outgrown => exact hn _ s' a' w' ι' hk W
 | loop x ih =>
   intro c J hy ro n lp ι w s a K Q hd h R G j hn
   simp only [vc] at h
   cases hk : keep (dJ x) with
   | none => rw [hk] at h; exact h.elim
   | some kp =>
     rw [hk] at h
     obtain ⟨y, ⟨hy0, hyI⟩, hs⟩ := h
     have hs := kp.PD _ hs
     obtain ⟨ι', W⟩ := oO (hcan lp kp.k) hy.ok R j
     rw [hy0] at W
     exact wpIn_loop_rounds (kp.mu y + 1) (zN (cfg := cfg) (c := c) (l := kp) hy.ok (B := fun s' K' => vc cfg inl keep lp x s' K') (fun hb R2 G2 j2 hn2 => ih hy hd hb R2 G2 j2 hn2) (hcan lp kp.k) hs _ hyI (Nat.lt_succ_self _) W.rel (G.lq W.xr.nR) W.j (hn.trans W))
 | rangeFunc g ps x y ihx ihy =>
   intro c J hy ro n lp ι w s a K Q hd h R G j hn
   have hro : ro = none := by
    rcases hd with h | h
    ·exact h
    ·simp [fB] at h
   subst hro
   exact IY tab sums hseq hcan ihx ihy hy h R G j hn
 | _ => intro c J hy ro n lp ι w s a K Q hd h R G j hn; exact h.elim
theorem yB {inl : Inl} (hinl : CG P cfg inl) (tab : aG P cfg) (sums : fG P cfg) (hseq : oQ P cfg) (hdr : P.follows .mixedOrders = true) (hcan : ∀ n k, kQ cfg n k) {keep : Nat -> Option Loop} : ∀ (b : Code)
 {J : JT} (hy : sV P cfg c J) {n lp : Nat} {ι : Gh} {w : World} {s : St2} {a : Act} {K : Exit -> St2 -> Prop} {Q : Exit -> Act -> World -> Prop} (h : vcB cfg inl keep lp b s K)
 (R : Rel c ι w s a) (G : aK P cfg c ι w) (j : J s.ins (Live ι s.s.M) ι.S w) (hn : oh J cfg lp c ι w s.s.M a K Q), b.wpIn (Fw none) n P Q a w
 | .scope b, J, hy, n, lp, ι, w, s, a, K, Q, h, R, G, j, hn => by
   unfold vcB at h
   split at h
   ·rename_i l hl
    split at h
    ·rename_i rest hr
     rw [xk] at hr
     rw [xZ]
     refine wp_scope_jumps l (fun a w => rest.wp P (Exit.jump l (fun _ _ => False) Q) a w) (fun _ _ => 0) hr ?_ fun a w hJ => wp_mono hJ fun e a' w' hq => ?_
     ·rw [<- xZ (n := 0)]
      refine dS hinl tab sums hseq hdr hcan b hy (.inl rfl) h R G j fun e s' a' w' ι' hk W => ?_
      cases e with
      | goto l' =>
        cases hb : Nat.beq l' l with
        | false => simp only [hb] at hk; exact hk.elim
        | true =>
          simp only [hb, cond_true] at hk
          refine ⟨Nat.eq_of_beq_eq_true hb, ?_⟩
          show rest.wp P (Exit.jump l (fun _ _ => False) Q) a' w'
          rw [<- xZ (n := 0)]
          refine dS hinl tab sums hseq hdr hcan rest hy (.inl rfl) hk W.rel (G.lq W.xr.nR) W.j fun e s2 a2 w2 ι2 hk2 W2 => ?_
          cases e with
          | goto i => exact hk2.elim
          | normal => exact hn _ s2 a2 w2 ι2 hk2 (W.trans W2)
          | exit i => exact hn _ s2 a2 w2 ι2 hk2 (W.trans W2)
          | ret => exact hn _ s2 a2 w2 ι2 hk2 (W.trans W2)
          | panic ch => exact hn _ s2 a2 w2 ι2 hk2 (W.trans W2)
          | outgrown => exact hn _ s2 a2 w2 ι2 hk2 (W.trans W2)
      | normal => exact hn _ s' a' w' ι' hk W
      | exit i => exact hn _ s' a' w' ι' hk W
      | ret => exact hn _ s' a' w' ι' hk W
      | panic ch => exact hn _ s' a' w' ι' hk W
      | outgrown => exact hn _ s' a' w' ι' hk W
     ·cases e with
      | goto i => exact hq.2.elim
      | _ => exact hq
    ·exact h.elim
   ·exact h.elim
 | .seq x y, J, hy, n, lp, ι, w, s, a, K, Q, h, R, G, j, hn => by
   unfold vcB at h
   cases ht : xq y with
   | false => rw [ht] at h; exact dS hinl tab sums hseq hdr hcan _ hy (.inl rfl) h R G j hn
   | true =>
     rw [ht] at h
     refine wpIn_seq (dS hinl tab sums hseq hdr hcan x hy (.inl rfl) h R G j fun e s' a' w' ι' hk W => ?_)
     cases e with
     | normal => exact yB hinl tab sums hseq hdr hcan y hy hk W.rel (G.lq W.xr.nR) W.j (hn.trans W)
     | exit i => exact hn _ s' a' w' ι' hk W
     | goto i => exact hn _ s' a' w' ι' hk W
     | ret => exact hn _ s' a' w' ι' hk W
     | panic ch => exact hn _ s' a' w' ι' hk W
     | outgrown => exact hn _ s' a' w' ι' hk W
 | .skip, _, hy, _, _, _, _, _, _, _, _, h, R, G, j, hn => dS hinl tab sums hseq hdr hcan _ hy (.inl rfl) h R G j hn
 | .region .., _, hy, _, _, _, _, _, _, _, _, h, R, G, j, hn => dS hinl tab sums hseq hdr hcan _ hy (.inl rfl) h R G j hn
 | .cond .., _, hy, _, _, _, _, _, _, _, _, h, R, G, j, hn => dS hinl tab sums hseq hdr hcan _ hy (.inl rfl) h R G j hn
 | .block .., _, hy, _, _, _, _, _, _, _, _, h, R, G, j, hn => dS hinl tab sums hseq hdr hcan _ hy (.inl rfl) h R G j hn
 | .loop _, _, hy, _, _, _, _, _, _, _, _, h, R, G, j, hn => dS hinl tab sums hseq hdr hcan _ hy (.inl rfl) h R G j hn
 | .rangeFunc .., _, hy, _, _, _, _, _, _, _, _, h, R, G, j, hn => dS hinl tab sums hseq hdr hcan _ hy (.inl rfl) h R G j hn
 | .exit _, _, hy, _, _, _, _, _, _, _, _, h, R, G, j, hn => dS hinl tab sums hseq hdr hcan _ hy (.inl rfl) h R G j hn
 | .label _, _, hy, _, _, _, _, _, _, _, _, h, R, G, j, hn => dS hinl tab sums hseq hdr hcan _ hy (.inl rfl) h R G j hn
 | .goto _, _, hy, _, _, _, _, _, _, _, _, h, R, G, j, hn => dS hinl tab sums hseq hdr hcan _ hy (.inl rfl) h R G j hn
 | .ret, _, hy, _, _, _, _, _, _, _, _, h, R, G, j, hn => dS hinl tab sums hseq hdr hcan _ hy (.inl rfl) h R G j hn
 | .refuse _, _, hy, _, _, _, _, _, _, _, _, h, R, G, j, hn => dS hinl tab sums hseq hdr hcan _ hy (.inl rfl) h R G j hn
theorem yC {n : Nat} {fn : Func} {tmps : Array Value} {R : Ending -> World -> Prop} : ∀ (ms : List Nat) {w : World}, ms.Nodup -> (∀ D ∈ ms, w.heap[D]? = some (.deferred (some []))) ->
 (∀ w', Turn w w' (fun b => b ∈ ms) -> ∃ v, (results fn tmps).run P w' = .ok v w' /\ R (.returned v) w') -> LeavesInM (Fw none) n P fn tmps R (ms.map mark) .returning w
 | [], w, _, _, h => h w (Turn.refl _ _)
 | D :: r, w, hn, hD, h => by
   obtain ⟨h1, h2⟩ := List.nodup_cons.1 hn
   refine ⟨by simp, .inl ⟨D, _, rfl, run_takeDeferred (hD D (by simp)), yC r h2 (fun D' hD' => ?_) fun w' t => h w' ?_⟩⟩
   ·rw [World.putObj_heap_other (fun hh => h1 (by rw [<- hh]; exact hD'))]; exact hD D' (by simp [hD'])
   ·exact ((wo (o := .deferred none)).mono (fun k hk => by simp [hk])).trans (t.mono fun k hk => by simp [hk])
theorem yD {f : Nat} {fn : Func} {b : Code} (hf : P.funcs[f]? = some fn) (hb : fn.body = some b) {args : Array Value} {lp : Nat} {ι : Gh} {w : World} {M : Store} {K : Exit -> St2 -> Prop} {R : Ending -> World -> Prop}
 (h : ∀ Q, oh J0 cfg lp c ι w M { tmps := args ++ Array.replicate (fn.ntmps - args.size) undef, defers := [] } K Q -> b.wpIn (Fw none) 2 P Q { tmps := args ++ Array.replicate (fn.ntmps - args.size) undef, defers := [] } w) (hw : c.w0.heap.size <= w.heap.size)
 (hend : ∀ e s' a' w' ι', K e s' -> Rel c ι' w' s' a' -> XR lp ι w M ι' w' s'.s.M -> (e = .normal ∨ e = .ret) /\ ∃ v, (results fn a'.tmps).run P w' = .ok v w' /\ R (.returned v) w') : Calls P f args w R := by
 refine vP.1 (callsIn_of_wp_marks hf hb trivial (h _ fun e s' a' w' ι' hk W => ?_) rfl)
 obtain ⟨ms, hnd, hms, _, hD⟩ := W.mks
 have hms : a'.defers = ms.map mark := by rw [hms]; simp
 have key : LeavesInM (Fw none) 2 P fn a'.tmps R a'.defers .returning w' := by
  rw [hms]
  refine yC ms hnd (fun D h => (hD D h).2.2) fun w2 t => ?_
  obtain ⟨I2, x2⟩ := W.rel.inv.nO t fun D h => by
   obtain ⟨h1, h2, h3⟩ := hD D h
   exact ⟨h2, .inl (Nat.le_trans hw h1), fun j e g1 g2 g3 => jV W.rel.inv h3 (fun h => h) ⟨j, e, g1, g2, g3⟩⟩
  exact (hend e s' a' w2 ι' hk ⟨I2, W.rel.rep.ext x2, W.rel.fresh⟩ (W.xr.trans (XR.iL x2))).2
 rcases (hend e s' a' w' ι' hk W.rel W.xr).1 with rfl | rfl
 ·exact key
 ·exact key
def Ht (a : Act) (r : ResultVar) : Sem Value := match r with
 | .tmp t => pure (a.tmps.getD t undef)
 | .cell t T => do loadVar T (<- asAddr (a.tmps.getD t undef))
theorem IZ {ι : Gh} {w : World} {s : St} {a : Act} (tab : aG P cfg) (I : Inv c ι w s.M) (F : bC c ι w s a) {r : ResultVar} {v : V} (h : y8 cfg s r = some v) :
 ∃ u, aH c ι w s.M v u /\ (Ht a r).run P w = .ok u w := by
 cases r with
 | tmp t =>
   simp only [y8] at h
   split at h
   ·rename_i x he
    cases h
    exact ⟨_, F.env t _ he, rfl⟩
   ·cases h
 | cell t T =>
   simp only [y8] at h
   split at h
   ·rename_i id off ti he hT
    cases hm : s.M.get id with
    | none => rw [hm] at h; cases h
    | some en =>
      rw [hm] at h
      cases en <;> simp only at h <;> first | (cases h; done) | skip
      rename_i ls
      cases hl : dR ls off ti.size with
      | none => rw [hl] at h; cases h
      | some r =>
        rw [hl] at h
        cases h
        have hv := aH.leaf (x := ⟨false, [.ptr id off]⟩) (l := .ptr id off) rfl (F.env t _ he)
        simp only [aj, hm] at hv
        obtain ⟨b, hb, hv⟩ := hv
        obtain ⟨b', cs, T', h1, h2, h3, _⟩ := I.ents id _ hm
        rw [hb] at h1; cases h1
        obtain ⟨k1, k2⟩ := dZ hl h3
        have hv : a.tmps.getD t undef = .pointer (some ⟨b, off, none⟩) := by simpa [Act.eval] using hv
        obtain ⟨u, r1, r2⟩ := uD (P := P) (w := w) (tab T ti hT) (a := ⟨b, off, none⟩) (ds := (cs.drop off).take ti.size) (fun i v hi => by
         rw [Addr.add_lit, cell_of_row w b _ cs.toArray _ (0, 0) h2]
         rw [List.getElem?_take] at hi
         split at hi
         ·rw [List.getElem?_drop] at hi; simpa using hi
         ·cases hi) (by rw [List.length_take, List.length_drop]; omega)
        refine ⟨u, aH.zk (ti := ti) k1 r2, ?_⟩
        show (do loadVar T (<- asAddr (a.tmps.getD t undef))).run P w = _
        rw [hv]
        simp [asAddr, r1]
   ·cases h
theorem yE {ι : Gh} {w : World} {s : St} {a : Act} (tab : aG P cfg) (I : Inv c ι w s.M) (F : bC c ι w s a) : ∀ {rs : List ResultVar} {vs : List V}, qH cfg s rs = some vs ->
 ∃ us, aN c ι w s.M vs us /\ (rs.mapM (Ht a)).run P w = .ok us w
 | [], vs, h => by cases h; exact ⟨[], rfl, by simp⟩
 | r :: l, vs, h => by
   unfold qH at h
   split at h
   ·rename_i v vs' hv hvs
    cases h
    obtain ⟨u, k1, k2⟩ := IZ tab I F hv
    obtain ⟨us, k3, k4⟩ := yE tab I F hvs
    refine ⟨u :: us, ⟨u, us, rfl, k1, k3⟩, ?_⟩
    rw [List.mapM_cons, Sem.run_bind, k2, Result.andThen_ok, Sem.run_bind, k4, Result.andThen_ok]
    rfl
   ·cases h
theorem aN.length {ι : Gh} {w : World} {M : Store} : ∀ {l : List V} {us : List Value}, aN c ι w M l us -> us.length = l.length
 | [], us, h => by rw [show us = [] from h]; rfl
 | v :: r, us, ⟨u, us', h1, _, h3⟩ => by rw [h1]; simp [h3.length]
theorem zQ {ι : Gh} {w : World} {s : St} {a : Act} (tab : aG P cfg) (I : Inv c ι w s.M) (F : bC c ι w s a) {fn : Func} {sv : SV} (h : jl cfg s fn.results.toList = some sv) :
 ∃ v, (results fn a.tmps).run P w = .ok v w /\ ak c ι w s.M sv v := by
 unfold jl at h
 cases hr : qH cfg s fn.results.toList with
 | none => rw [hr] at h; cases h
 | some vs =>
   obtain ⟨us, k1, k2⟩ := yE tab I F hr
   rw [hr] at h
   have e : results fn a.tmps = (do { let vs <- fn.results.mapM (Ht a); pure (if h : vs.size = 1 then vs[0] else .tuple vs) }) := by
    unfold results
    congr 1
   have hrun : (results fn a.tmps).run P w = .ok (if h : us.toArray.size = 1 then us.toArray[0] else .tuple us.toArray) w := by
    rw [e, Array.mapM_eq_mapM_toList, Sem.run_bind]
    simp [k2]
   refine ⟨_, hrun, ?_⟩
   match vs, h, k1 with
   | [v], h, ⟨u, us', h1, h2, h3⟩ =>
     cases h
     have h3 : us' = [] := h3
     subst h3 h1
     rw [dif_pos (by simp)]
     exact h2
   | [], h, k1 =>
     cases h
     have k1 : us = [] := k1
     subst k1
     exact ⟨[], by simp, rfl⟩
   | v :: v' :: vs', h, k1 =>
     cases h
     have hl := k1.length
     have hne : ¬ us.toArray.size = 1 := by simp only [List.size_toArray]; rw [hl]; simp
     rw [dif_neg hne]
     exact ⟨us, rfl, k1⟩
theorem LX {l : List V} : ∀ {k i : Nat} {v : SV}, bG ((l.map fun v => some (SV.v v)) ++ List.replicate k none) i = some v -> ∃ x, l[i]? = some x /\ v = .v x := by
 induction l with
 | nil =>
   intro k i v h
   exfalso
   induction k generalizing i with
   | zero => simp [bG] at h
   | succ k ih =>
     simp only [List.map_nil, List.nil_append, List.replicate_succ] at h ih
     cases i with
     | zero => simp [bG] at h
     | succ i => exact ih h
 | cons x r ih =>
   intro k i v h
   simp only [List.map_cons, List.cons_append] at h
   cases i with
   | zero => simp only [bG] at h; cases h; exact ⟨x, by simp, rfl⟩
   | succ i => obtain ⟨y, h1, h2⟩ := ih h; exact ⟨y, by simpa using h1, h2⟩
theorem Ez {ι : Gh} {w : World} {M : Store} {args : List V} {us : List Value} (h : aN c ι w M args us) (n : Nat) :
 bC c ι w { env := lX n args, aX := [], M := M } { tmps := us.toArray ++ Array.replicate (n - us.toArray.size) undef, defers := [] } := by
 have hl := h.length
 refine ⟨?_, fun i v hi => ?_, fun _ hx => (List.not_mem_nil hx).elim, fun _ hx => (List.not_mem_nil hx).elim⟩
 ·simp [lX, JU, hl]
 ·unfold lX JU at hi
  obtain ⟨x, h1, rfl⟩ := LX hi
  obtain ⟨u, h2, h3⟩ := h.get h1
  have hlt := (List.getElem?_eq_some_iff.1 h2).1
  have : Act.eval { tmps := us.toArray ++ Array.replicate (n - us.toArray.size) undef, defers := [] } (.tmp i) = u := by
   simp only [Act.eval, Array.getD_eq_getD_getElem?]
   rw [Array.getElem?_append_left (by simpa using hlt)]
   simp [h2]
  rw [this]; exact h3
theorem nameB {fn : Func} {b : Code} (h : cond (fn.name == "runtime.NumGoroutine") none fn.body = some b) : (fn.name == "runtime.NumGoroutine") = false /\ fn.body = some b := by
 cases hb : (fn.name == "runtime.NumGoroutine") with
 | true => rw [hb] at h; cases h
 | false => rw [hb] at h; exact ⟨rfl, h⟩
theorem aN.set {ι : Gh} {w : World} {M : Store} {y : V} {u : Value} (hy : aH c ι w M y u) : ∀ {l : List V} {us : List Value} {i : Nat}, aN c ι w M l us -> us[i]? = some u -> aN c ι w M (l.set i y) us
 | [], us, i, h, hu => h
 | x :: r, us, 0, ⟨v, ws, h1, h2, h3⟩, hu => by
   subst h1
   have : v = u := by simpa using hu
   subst this
   exact ⟨v, ws, rfl, hy, h3⟩
 | x :: r, us, i + 1, ⟨v, ws, h1, h2, h3⟩, hu => by
   subst h1
   exact ⟨v, ws, rfl, h2, aN.set hy h3 (by simpa using hu)⟩
theorem nT {w : World} {us : List Value} : ∀ (r : List Nat) {args : List V} {s : St2} {K : List V -> St2 -> Prop} {ι : Gh}, rQ r args s K -> Inv c ι w s.s.M -> (∀ j, s.next <= j -> s.s.M.get j = none) -> aN c ι w s.s.M args us ->
 ∃ args' s' ι', K args' s' /\ Inv c ι' w s'.s.M /\ (∀ j, s'.next <= j -> s'.s.M.get j = none) /\ aN c ι' w s'.s.M args' us /\ Ext ι w s.s.M ι' w s'.s.M
 | [], args, s, K, ι, h, I, fr, hv => ⟨args, s, ι, h, I, fr, hv, Ext.refl _ _ _⟩
 | i :: r, args, s, K, ι, h, I, fr, hv => by
   unfold rQ at h
   split at h
   ·rename_i lf ha
    split at h
    ·rename_i id k hf
     split at h
     ·rename_i e t fr' l hm
      obtain ⟨u, hu, hr⟩ := hv.get ha
      have hr := (aH.leaf (x := ⟨false, [lf]⟩) (l := lf) rfl hr).weak
      have hfr : ∃ ax, [u] = [Value.slice ax k (ι.cap id)] /\ k <= l.length /\ (0 < ι.cap id -> ax = ι.base id) := by
       generalize lf.weak = lf' at hf hr
       unfold Jo at hf
       split at hf
       ·rename_i id'
        split at hf
        ·rename_i e' t' Qr Qs l' hm'
         cases hf
         simp only [aj, hm'] at hr
         rw [hm] at hm'
         cases hm'
         obtain ⟨ax, h1, h2⟩ := hr
         exact ⟨ax, h1, Nat.le_refl _, h2⟩
        ·cases hf
       ·cases hf
        simp only [aj, hm] at hr
        obtain ⟨ax, h1, h2, h3⟩ := hr
        exact ⟨ax, by simpa using h1, by omega, fun h0 => by rw [h3 h0]; cases ι.base id <;> simp [Addr.add]⟩
       ·cases hf
      obtain ⟨ax, h1, h2, h3⟩ := hfr
      obtain ⟨sp, ι', s1, s2, I', x', hr'⟩ := I.told (fr s.next (Nat.le_refl _)) hm h2 h3
      have hrest := h sp s1 s2
      have hu' : aH c ι' w ((s.s.M.set id .dead).set s.next (.row e t fr' true (l ++ sp))) (one (.sf s.next 0 k)) u := aH.one (by rw [h1]; exact hr')
      obtain ⟨args', s', ι'', k1, k2, k3, k4, k5⟩ := nT r hrest I' (fun j hj => by
       have hj' : s.next + 1 <= j := hj
       show (((s.s.M.set id _).set s.next _).get j) = none
       have hji : j ≠ id := fun hh => by rw [<- hh, fr j (by omega)] at hm; cases hm
       rw [Store.get_set_other _ _ _ _ (by omega), Store.get_set_other _ _ _ _ hji]
       exact fr j (by omega)) (aN.set hu' (hv.mono x') hu)
      exact ⟨args', s', ι'', k1, k2, k3, k4, x'.trans k5⟩
     ·exact nT r h I fr hv
    ·exact nT r h I fr hv
   ·exact nT r h I fr hv
theorem JA {L : Nat -> List V -> Nat -> Option Loop} (hels : cfg.els = none) (tab : aG P cfg) (sums : fG P cfg) (hseq : oQ P cfg) (hdr : P.follows .mixedOrders = true) (hcan : ∀ n k, kQ cfg n k) : ∀ d, CG P cfg (JV P cfg L d)
 | 0 => fun f vs s K c ι w us h => h.elim
 | d + 1 => by
   intro f vs s K c ι w us h I fr G hv
   unfold JV at h
   split at h
   ·rename_i fn hf
    split at h
    ·rename_i b hb
     obtain ⟨hname, hbody⟩ := nameB hb
     obtain ⟨vs, s, ι, h, I, fr, hv, x0⟩ := nT (cfg.xp f) h I fr hv
     have G := G.lq x0.nR
     have R : Rel c ι w { s with s := { s.s with env := lX fn.ntmps vs, aX := [] } } { tmps := us.toArray ++ Array.replicate (fn.ntmps - us.toArray.size) undef, defers := [] } := ⟨I, Ez hv fn.ntmps, fr⟩
     refine Does.mono (R := fun v w' => ∃ ι' s' sv, Inv c ι' w' s'.s.M /\ Ext ι w s.s.M ι' w' s'.s.M /\ (∀ j, s'.next <= j -> s'.s.M.get j = none) /\ ak c ι' w' s'.s.M sv v /\ K sv s')
      (Does.vM hf hname hbody (yD (cfg := cfg) (lp := s.next) (c := c) (ι := ι) (M := s.s.M) (K := fun e s' => match e with
        | .ret | .normal => match jl cfg s'.s fn.results.toList with
          | some v => K v s'
          | none => False
        | _ => False) hf hbody (fun Q hn => yB (JA hels tab sums hseq hdr hcan d) tab sums hseq hdr hcan b (sV.none hels) h R G trivial hn) I.kept.size fun e s' a' w' ι' hk R' x => ?_)) (fun v w' ⟨ι', s', sv, y1, y2, y3, y4, y5⟩ => ⟨ι', s', sv, y1, x0.trans y2, y3, y4, y5⟩)
     have x : Ext ι w s.s.M ι' w' s'.s.M := x.ext fr
     have fin : (match jl cfg s'.s fn.results.toList with | some v => K v s' | none => False) -> ∃ v, (results fn a'.tmps).run P w' = .ok v w' /\ ∃ ι' s' sv, Inv c ι' w' s'.s.M /\ Ext ι w s.s.M ι' w' s'.s.M /\ (∀ j, s'.next <= j -> s'.s.M.get j = none) /\ ak c ι' w' s'.s.M sv v /\ K sv s' := by
      intro hk
      cases hr : jl cfg s'.s fn.results.toList with
      | none => rw [hr] at hk; exact hk.elim
      | some sv =>
        rw [hr] at hk
        obtain ⟨v, h1, h2⟩ := zQ tab R'.inv R'.rep hr
        exact ⟨v, h1, ι', s', sv, R'.inv, x, R'.fresh, h2, hk⟩
     cases e with
     | normal => exact ⟨.inl rfl, fin hk⟩
     | ret => exact ⟨.inr rfl, fin hk⟩
     | exit _ => exact hk.elim
     | goto _ => exact hk.elim
     | panic _ => exact hk.elim
     | outgrown => exact hk.elim
    ·exact h.elim
   ·exact h.elim
end
end Go.Vc
