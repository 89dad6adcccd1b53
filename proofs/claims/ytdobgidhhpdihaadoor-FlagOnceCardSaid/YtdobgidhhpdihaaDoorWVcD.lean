/- Entries under other numbers; what a callee hands back. -/
import Derived.Test.YtdobgidhhpdihaaDoorWVcC
import Derived.Lib.Overlaps
import Derived.RangeFuncSeq
import Derived.TacticsIn
import Derived.OrdersIn
import Derived.LoopNIn
set_option linter.unusedVariables false
set_option linter.unusedSimpArgs false
namespace Go.Vc
structure Ren (al : Bool) (f : Nat -> Nat) (R : Nat -> Prop) (c : Ctx) (ι : Gh) (w : World) (M : Store) (c' : Ctx) (ι' : Gh) (w' : World) (M' : Store) : Prop where
 fr : c'.lb <= c.lb
 yl : ∀ l, c.yl = some l -> c'.yl = some l
 S : ∀ b, ι.S b -> (al = true ∨ c.lb <= b) -> ι'.S b
 heap : ∀ b, ι.S b -> w'.heap[b]? = w.heap[b]?
 ent : ∀ id e, R id -> M.get id = some e -> M'.get (f id) = some (aT f e) /\ ι'.base (f id) = ι.base id /\ ι'.cap (f id) = ι.cap id
section
variable {al : Bool} {f : Nat -> Nat} {R : Nat -> Prop} {c c' : Ctx} {ι ι' : Gh} {w w' : World} {M M' : Store}
theorem JJ (l : Leaf) : (iU f l).width = l.width := by cases l <;> rfl
theorem pY : ∀ (ls : List Leaf) (off : Nat), lat (ls.map (iU f)) off = (lat ls off).map (iU f)
 | [], off => by simp [lat]
 | l :: r, 0 => by simp [lat]
 | l :: r, off + 1 => by
   simp only [List.map_cons, lat, JJ]
   cases Nat.ble l.width (off + 1) with
   | true => exact pY r _
   | false => rfl
theorem Ren.sf (x : Ren al f R c ι w M c' ι' w' M') {fr : Bool} (h : al = true ∨ fr = true) : ∀ b, SF c ι fr b -> SF c' ι' fr b := by
 intro b hb
 refine ⟨x.S b hb.1 (h.elim .inl fun hf => .inr (hb.2 hf)), fun hf => Nat.le_trans x.fr (hb.2 hf)⟩
theorem Ren.F7 (x : Ren al f R c ι w M c' ι' w' M') {fr : Bool} (h : al = true ∨ fr = true) {t : Ty} {y : t.den} {cs : List Value} (hp : ah (SF c ι fr) w t y cs) : ah (SF c' ι' fr) w' t y cs :=
 ah.mono (x.sf h) (fun b hb => x.heap b hb.1) _ _ _ hp
theorem aj.ren (x : Ren al f R c ι w M c' ι' w' M') {l : Leaf} {cs : List Value} (hf : al = true ∨ AB l = true) (hR : ∀ id ∈ jV l, R id) (h : aj c ι w M l cs) : aj c' ι' w' M' (iU f l) cs := by
 have one : ∀ {cs : List Value} {v : Value}, cs = [v] -> (∀ u ∈ cs, u.oneCell' = true) -> ∃ v, cs = [v] /\ v.oneCell' = true := fun {cs v} h1 h2 => ⟨v, h1, h2 v (by rw [h1]; simp)⟩
 cases l with
 | int k n => exact h
 | bool b => exact h
 | kb b => exact h
 | str l => exact h
 | psl fr t l => exact ⟨x.F7 hf h.1, h.2⟩
 | arr n fr t l => exact ⟨x.F7 hf h.1, h.2⟩
 | cZ => exact h
 | dG => exact h
 | cO => exact h
 | l7 => exact h
 | yld => obtain ⟨l, h1, h2⟩ := h; exact ⟨l, x.yl l h1, h2⟩
 | hid id =>
   simp only [aj, iU] at h ⊢
   cases he : M.get id with
   | none => rw [he] at h; exact h.elim
   | some e =>
     obtain ⟨h1, h2, h3⟩ := x.ent id e (hR id (by simp [jV])) he
     rw [he] at h; rw [h1, h2]
     cases e <;> simp only [aT] at h ⊢ <;> exact h
 | own id =>
   simp only [aj, iU] at h ⊢
   cases he : M.get id with
   | none => rw [he] at h; exact h.elim
   | some e =>
     obtain ⟨h1, h2, h3⟩ := x.ent id e (hR id (by simp [jV])) he
     rw [he] at h; rw [h1, h2, h3]
     cases e <;> simp only [aT] at h ⊢ <;> exact h
 | sl id lo n =>
   simp only [aj, iU] at h ⊢
   cases he : M.get id with
   | none => rw [he] at h; exact h.elim
   | some e =>
     obtain ⟨h1, h2, h3⟩ := x.ent id e (hR id (by simp [jV])) he
     rw [he] at h; rw [h1, h2, h3]
     cases e <;> simp only [aT] at h ⊢ <;> exact h
 | vw id lo n =>
   have low : n = 0 -> ∀ p : Option Addr × Nat, cs = [Value.slice p.1 n p.2] -> n <= p.2 -> aj c' ι' w' M' (iU f (.vw id lo n)) cs := fun h0 p e1 e2 => by
    simp only [aj, iU]
    split <;> first | exact ⟨p, e1, e2, fun h => by omega⟩ | exact ⟨_, e1, rfl⟩
   cases he : M.get id with
   | none =>
     simp only [aj, he] at h
     obtain ⟨p, e1, e2, e3⟩ := h
     exact low (by rcases Nat.eq_zero_or_pos n with h | h; exact h; exact (e3 h).elim) p e1 e2
   | some e =>
     obtain ⟨h1, h2, h3⟩ := x.ent id e (hR id (by simp [jV])) he
     simp only [aj, iU, he, h1, h2] at h ⊢
     cases e <;> simp only [aT] at h ⊢ <;> exact h
 | sf id lo n =>
   simp only [aj, iU] at h ⊢
   cases he : M.get id with
   | none => rw [he] at h; exact h.elim
   | some e =>
     obtain ⟨h1, h2, h3⟩ := x.ent id e (hR id (by simp [jV])) he
     rw [he] at h; rw [h1, h2, h3]
     cases e <;> simp only [aT] at h ⊢ <;> exact h
 | asl id off lo n =>
   simp only [aj, iU] at h ⊢
   cases he : M.get id with
   | none => rw [he] at h; exact h.elim
   | some e =>
     obtain ⟨h1, h2, h3⟩ := x.ent id e (hR id (by simp [jV])) he
     rw [he] at h; rw [h1, h2]
     cases e <;> simp only [aT] at h ⊢ <;> first | exact h | skip
     rename_i ls
     rw [pY]
     cases hl : lat ls off with
     | none => rw [hl] at h; exact h.elim
     | some q => rw [hl] at h; cases q <;> simp only [Option.map_some, iU] at h ⊢ <;> exact h
 | ptr id off =>
   simp only [aj, iU] at h ⊢
   cases he : M.get id with
   | none => rw [he] at h; exact h.elim
   | some e =>
     obtain ⟨h1, h2, h3⟩ := x.ent id e (hR id (by simp [jV])) he
     rw [he] at h; rw [h1, h2]
     cases e <;> simp only [aT] at h ⊢ <;> exact h
 | ig id i off =>
   simp only [aj, iU] at h ⊢
   cases he : M.get id with
   | none => rw [he] at h; exact h.elim
   | some e =>
     obtain ⟨h1, h2, h3⟩ := x.ent id e (hR id (by simp [jV])) he
     rw [he] at h; rw [h1, h2]
     cases e <;> simp only [aT] at h ⊢ <;> exact h
 | iq id dh i off =>
   simp only [aj, iU] at h ⊢
   cases he : M.get id with
   | none => rw [he] at h; exact h.elim
   | some e =>
     obtain ⟨h1, h2, h3⟩ := x.ent id e (hR id (by simp [jV])) he
     rw [he] at h; rw [h1, h2]
     cases e <;> simp only [aT] at h ⊢ <;> first | exact h | skip
     rename_i ls
     rw [pY]
     cases hl : lat ls dh with
     | none => rw [hl] at h; exact h.elim
     | some q => rw [hl] at h; cases q <;> simp only [Option.map_some, iU] at h ⊢ <;> exact h
 | cst fr t y =>
   obtain ⟨ad, pcs, h1, h2, h3, h4⟩ := h
   have hal : al = true ∨ fr = true := hf.elim .inl fun h => by simp [AB] at h
   exact ⟨ad, pcs, h1, h2.mono (x.sf hal) (fun b hb => x.heap b hb.1), x.F7 hal h3, h4⟩
 | fn g caps =>
   obtain ⟨h1, h2⟩ := h
   refine ⟨?_, fun id hid => ?_⟩
   ·rw [h1, List.map_map]
    have e1 : caps.map ((fun id => Value.pointer (ι'.base id)) ∘ f) = caps.map (fun id => Value.pointer (ι.base id)) := by
     refine List.map_congr_left fun id hid => ?_
     obtain ⟨e, he, _⟩ := h2 id hid
     simp only [Function.comp]
     rw [(x.ent id e (hR id (by simpa [jV] using hid)) he).2.1]
    rw [e1]
   ·obtain ⟨i, hi, rfl⟩ := List.mem_map.1 hid
    obtain ⟨e, he, hk⟩ := h2 i hi
    refine ⟨_, (x.ent i e (hR i (by simpa [jV] using hi)) he).1, ?_⟩
    rcases hk with rfl | ⟨ls, rfl⟩
    ·exact .inl rfl
    ·exact .inr ⟨_, rfl⟩
theorem aF.ren (x : Ren al f R c ι w M c' ι' w' M') : ∀ {ls : List Leaf} {cs : List Value}, (al = true ∨ iw ls = true) -> (∀ id ∈ fC ls, R id) -> aF c ι w M ls cs -> aF c' ι' w' M' (ls.map (iU f)) cs
 | [], _, _, _, h => h
 | l :: r, cs, hf, hR, ⟨c1, c2, h1, h2, h3⟩ => by
   have h1f : al = true ∨ AB l = true := hf.elim .inl fun h => by simp only [iw, Bool.and_eq_true] at h; exact .inr h.1
   have h2f : al = true ∨ iw r = true := hf.elim .inl fun h => by simp only [iw, Bool.and_eq_true] at h; exact .inr h.2
   exact ⟨c1, c2, h1, h2.ren x h1f (fun id hid => hR id (by simp [fC, hid])), aF.ren x h2f (fun id hid => hR id (by simp [fC, hid])) h3⟩
theorem aI.ren (x : Ren al f R c ι w M c' ι' w' M') {y : V} {v : Value} (hf : al = true ∨ iw y.ls = true) (hR : ∀ id ∈ fC y.ls, R id) (h : aI c ι w M y v) : aI c' ι' w' M' (CW f y) v := by
 obtain ⟨cs, h1, h2⟩ := h
 exact ⟨cs, h1.ren x hf hR, h2⟩
theorem aP.ren (x : Ren al f R c ι w M c' ι' w' M') : ∀ {l : List V} {vs : List Value}, (al = true ∨ (l.all fun y => iw y.ls) = true) -> (∀ id ∈ l.flatMap fun y => fC y.ls, R id) -> aP c ι w M l vs -> aP c' ι' w' M' (l.map (CW f)) vs
 | [], _, _, _, h => h
 | y :: r, vs, hf, hR, ⟨v, ws, h1, h2, h3⟩ => by
   have h1f : al = true ∨ iw y.ls = true := hf.elim .inl fun h => by simp only [List.all_cons, Bool.and_eq_true] at h; exact .inr h.1
   have h2f : al = true ∨ (r.all fun y => iw y.ls) = true := hf.elim .inl fun h => by simp only [List.all_cons, Bool.and_eq_true] at h; exact .inr h.2
   refine ⟨v, ws, h1, h2.ren x h1f (fun id hid => hR id ?_), aP.ren x h2f (fun id hid => hR id ?_) h3⟩
   ·rw [List.flatMap_cons]; exact List.mem_append.2 (.inl hid)
   ·rw [List.flatMap_cons]; exact List.mem_append.2 (.inr hid)
theorem ak.ren (x : Ren al f R c ι w M c' ι' w' M') {y : SV} {v : Value} (hf : al = true ∨ tC y = true) (hR : ∀ id ∈ Fp y, R id) (h : ak c ι w M y v) : ak c' ι' w' M' (uK f y) v := by
 cases y with
 | v y => exact aI.ren x hf hR h
 | tup l =>
   obtain ⟨vs, h1, h2⟩ := h
   exact ⟨vs, h1, h2.ren x hf hR⟩
theorem bH.ren (x : Ren al f R c ι w M c' ι' w' M') {id : Nat} {e : Entry} (he : M.get id = some e) (hid : R id) (hf : al = true ∨ tH e = true) (hR : ∀ id ∈ o9 e, R id)
 (hw : e.live = true -> ∀ k, ι.blk id = some k -> w'.heap[k]? = w.heap[k]?) (h : bH c ι w M id e) : bH c' ι' w' M' (f id) (aT f e) := by
 obtain ⟨_, b1, b2⟩ := x.ent id e hid he
 cases e with
 | row e t fr ap l =>
   obtain ⟨xs, h1, h2, h3⟩ := h
   refine ⟨xs, x.F7 hf h1, h2, ?_⟩
   rw [b1, b2]
   have h3' := h3.mono (sp' := eH c' ι' w' fr t l.length (ι.cap id)) (fun k hk => hw rfl k hk) (fun ys hy => hy.gen (x.sf hf) (fun b hb => x.heap b hb.1))
   refine ⟨h3'.1, ?_⟩
   rcases h3'.2 with hn | ⟨g, cur, fz, k1, k2, k3⟩
   ·exact .inl hn
   ·refine .inr ⟨g, cur, fz, k1, Nat.le_trans ?_ k2, k3⟩
    cases fr
    ·exact Nat.le_refl _
    ·exact x.fr
 | frz t fr l =>
   obtain ⟨h1, h2⟩ := h
   refine ⟨?_, h2⟩
   rw [b1, b2]; exact x.F7 hf h1
 | obj ls =>
   obtain ⟨b, cs, T, h1, h2, h3, h4⟩ := h
   refine ⟨b, cs, T, by rw [b1]; exact h1, by rw [hw rfl b (by rw [Gh.blk, h1]; rfl)]; exact h2, h3.ren x hf hR, h4.map fun l => by cases l <;> rfl⟩
 | hid q =>
   cases q with
   | map k v l =>
     obtain ⟨b, es, ck, h1, h2, h3⟩ := h
     exact ⟨b, es, ck, by rw [b1]; exact h1, by rw [hw rfl b (by rw [Gh.blk, h1]; rfl)]; exact h2, h3⟩
   | iter l p =>
     obtain ⟨b, h1, h2, h3⟩ := h
     exact ⟨b, by rw [b1]; exact h1, by rw [hw rfl b (by rw [Gh.blk, h1]; rfl)]; exact h2, h3⟩
 | dead => trivial
theorem iF (e : Entry) : (aT f e).live = e.live := by cases e <;> rfl
end
theorem dL {es : List Entry} : ∀ {n j : Nat}, Store.get (ay n es) j = if n <= j then es[j - n]? else none := by
 induction es with
 | nil => intro n j; simp [ay, Store.get]
 | cons e r ih =>
   intro n j
   simp only [ay, Store.get]
   by_cases h : n = j
   ·subst h; simp
   ·rw [kL h, cond_false, ih]
    by_cases h1 : n <= j
    ·rw [if_pos h1, if_pos (by omega), show j - n = (j - (n + 1)) + 1 by omega, List.getElem?_cons_succ]
    ·rw [if_neg h1, if_neg (by omega)]
theorem xI {es : List Entry} : ∀ {M : Store} {n j : Nat}, (∀ i, n <= i -> i < n + es.length -> M.get i = none) -> (M.aK (ay n es)).get j = if n <= j /\ j < n + es.length then es[j - n]? else M.get j := by
 induction es with
 | nil =>
   intro M n j h
   simp only [ay, Store.aK, List.length_nil]
   rw [if_neg (by omega)]
 | cons e r ih =>
   intro M n j h
   simp only [ay, Store.aK]
   rw [ih (fun i hi hi2 => by rw [Store.get_set_other _ _ _ _ (by omega)]; exact h i (by omega) (by rw [List.length_cons]; omega))]
   simp only [List.length_cons]
   by_cases h1 : n = j
   ·subst h1
    rw [if_neg (by omega), Store.get_set_same, if_pos (by omega)]; simp
   ·by_cases h2 : n <= j /\ j < n + (r.length + 1)
    ·rw [if_pos (by omega), if_pos h2, show j - n = (j - (n + 1)) + 1 by omega, List.getElem?_cons_succ]
    ·rw [if_neg (by omega), if_neg h2, Store.get_set_other _ _ _ _ (by omega)]
section
variable {c : Ctx} {ι : Gh} {w : World} {M : Store}
theorem Inv.call (I : Inv c ι w M) {S : Nat -> Prop} {w' : World} {es : List Entry} {ι1 : Gh} {al : Bool} {nid : Nat} (hSl : al = true -> ∀ b, S b -> ι.S b)
 (J : Inv (Ctx.of w S) ι1 w' (ay 0 es)) (hfr : al = true ∨ es.all tH = true) (hid : ∀ j, nid <= j -> j < nid + es.length -> M.get j = none) :
 ∃ ι', Inv c ι' w' (M.aK (ay nid (es.map (aT fun i => nid + i)))) /\ Ext ι w M ι' w' (M.aK (ay nid (es.map (aT fun i => nid + i)))) /\
  Ren al (fun i => nid + i) (fun _ => True) (Ctx.of w S) ι1 w' (ay 0 es) c ι' w' (M.aK (ay nid (es.map (aT fun i => nid + i)))) := by
 let ι' : Gh := { S := fun b => ι.S b ∨ (ι1.S b /\ (al = true ∨ w.heap.size <= b)), base := fun i => if nid <= i /\ i < nid + es.length then ι1.base (i - nid) else ι.base i, cap := fun i => if nid <= i /\ i < nid + es.length then ι1.cap (i - nid) else ι.cap i }
 have hsame : ∀ b, b < w.heap.size -> w'.heap[b]? = w.heap[b]? := fun b hb => J.kept.block b hb (fun h => h)
 have hget : ∀ j, (M.aK (ay nid (es.map (aT fun i => nid + i)))).get j = if nid <= j /\ j < nid + es.length then (es.map (aT fun i => nid + i))[j - nid]? else M.get j := fun j => by rw [xI (by rw [List.length_map]; exact hid), List.length_map]
 have hlt : ∀ j e, M.get j = some e -> ¬ (nid <= j /\ j < nid + es.length) := fun j e he h => by rw [hid j h.1 h.2] at he; cases he
 have hbo : ∀ j, ¬ (nid <= j /\ j < nid + es.length) -> ι'.blk j = ι.blk j := fun j h => by simp [Gh.blk, ι', h]
 have hbn : ∀ j, (nid <= j /\ j < nid + es.length) -> ι'.blk j = ι1.blk (j - nid) := fun j h => by simp [Gh.blk, ι', h]
 have x : Ext ι w M ι' w' (M.aK (ay nid (es.map (aT fun i => nid + i)))) := by
  refine ⟨fun b hb => .inl hb, fun b hb => hsame b (I.stb b hb), fun id e he => ?_, fun id e he => ⟨e, ?_, Ev.refl e⟩⟩
  ·simp [ι', hlt id e he]
  ·rw [hget, if_neg (hlt id e he)]; exact he
 have rn : Ren al (fun i => nid + i) (fun _ => True) (Ctx.of w S) ι1 w' (ay 0 es) c ι' w' (M.aK (ay nid (es.map (aT fun i => nid + i)))) := by
  refine ⟨I.kept.lb, fun _ h => (by cases h), fun b hb h => .inr ⟨hb, h⟩, fun _ _ => rfl, fun id e _ he => ?_⟩
  rw [dL, if_pos (Nat.zero_le _), Nat.sub_zero] at he
  have hlen := (List.getElem?_eq_some_iff.1 he).1
  refine ⟨?_, ?_, ?_⟩
  ·rw [hget, if_pos (by omega), show nid + id - nid = id by omega, List.getElem?_map, he]; rfl
  ·show (if nid <= nid + id /\ nid + id < nid + es.length then ι1.base (nid + id - nid) else _) = _
   rw [if_pos (by omega), show nid + id - nid = id by omega]
  ·show (if nid <= nid + id /\ nid + id < nid + es.length then ι1.cap (nid + id - nid) else _) = _
   rw [if_pos (by omega), show nid + id - nid = id by omega]
 have new : ∀ {j ej}, (nid <= j /\ j < nid + es.length) -> (M.aK (ay nid (es.map (aT fun i => nid + i)))).get j = some ej -> ∃ e, Store.get (ay 0 es) (j - nid) = some e /\ ej = aT (fun i => nid + i) e := by
  intro j ej h hj
  rw [hget, if_pos h, List.getElem?_map] at hj
  cases he : es[j - nid]? with
  | none => rw [he] at hj; cases hj
  | some e => rw [he] at hj; cases hj; exact ⟨e, by rw [dL, if_pos (Nat.zero_le _), Nat.sub_zero]; exact he, rfl⟩
 have F8 : ∀ {j ej k}, (nid <= j /\ j < nid + es.length) -> (M.aK (ay nid (es.map (aT fun i => nid + i)))).get j = some ej -> ej.live = true -> ι'.blk j = some k -> ¬ ι1.S k /\ w.heap.size <= k := by
  intro j ej k h hj hl hk
  obtain ⟨e, he, rfl⟩ := new h hj
  rw [hbn j h] at hk
  rw [iF] at hl
  obtain ⟨h1, h2⟩ := J.own _ e k he hl hk
  exact ⟨h1, h2.elim id fun h => h.elim⟩
 have xJ : ∀ {j ej}, ¬ (nid <= j /\ j < nid + es.length) -> (M.aK (ay nid (es.map (aT fun i => nid + i)))).get j = some ej -> M.get j = some ej := by
  intro j ej h hj
  rw [hget, if_neg h] at hj; exact hj
 refine ⟨ι', ⟨?_, fun j ej hj => ?_, fun i j ei ej k hi hj li lj bi bj => ?_, fun i ei k hi li bi => ?_, fun b hb => ?_, fun b hb => ?_⟩, x, rn⟩
 ·exact ⟨J.kept.os.trans I.kept.os, J.kept.tape.trans I.kept.tape, J.kept.output.trans I.kept.output, Nat.le_trans I.kept.size J.kept.size, fun b hb hO =>
   (hsame b (Nat.lt_of_lt_of_le hb I.kept.size)).trans (I.kept.block b hb hO)⟩
 ·by_cases h : nid <= j /\ j < nid + es.length
  ·obtain ⟨e, he, rfl⟩ := new h hj
   have := bH.ren rn he trivial (hfr.elim .inl fun hh => .inr (by
    rw [dL, if_pos (Nat.zero_le _), Nat.sub_zero] at he
    exact List.all_eq_true.1 hh e (List.mem_of_getElem? he))) (fun _ _ => trivial) (fun _ _ _ => rfl) (J.ents _ e he)
   simpa [show nid + (j - nid) = j by omega] using this
  ·have he := xJ h hj
   exact bH.mono x he (fun hl k hk => hsame k ((I.ents j ej he).eF hl k hk)) (I.ents j ej he)
 ·by_cases h1 : nid <= i /\ i < nid + es.length
  ·obtain ⟨n1, n2⟩ := F8 h1 hi li bi
   by_cases h2 : nid <= j /\ j < nid + es.length
   ·obtain ⟨e1, g1, rfl⟩ := new h1 hi
    obtain ⟨e2, g2, rfl⟩ := new h2 hj
    rw [hbn i h1] at bi; rw [hbn j h2] at bj
    rw [iF] at li lj
    have := J.dis _ _ e1 e2 k g1 g2 li lj bi bj
    omega
   ·have g := xJ h2 hj
    rw [hbo j h2] at bj
    have := (I.ents j ej g).eF lj k bj
    omega
  ·have g := xJ h1 hi
   rw [hbo i h1] at bi
   by_cases h2 : nid <= j /\ j < nid + es.length
   ·obtain ⟨n1, n2⟩ := F8 h2 hj lj bj
    have := (I.ents i ei g).eF li k bi
    omega
   ·have g' := xJ h2 hj
    rw [hbo j h2] at bj
    exact I.dis i j ei ej k g g' li lj bi bj
 ·by_cases h1 : nid <= i /\ i < nid + es.length
  ·obtain ⟨n1, n2⟩ := F8 h1 hi li bi
   refine ⟨fun hS' => ?_, .inl (Nat.le_trans I.kept.size n2)⟩
   rcases hS' with hS' | hS'
   ·have := I.stb k hS'; omega
   ·exact n1 hS'.1
  ·have g := xJ h1 hi
   rw [hbo i h1] at bi
   obtain ⟨o1, o2⟩ := I.own i ei k g li bi
   have hk := (I.ents i ei g).eF li k bi
   refine ⟨fun hS' => ?_, o2⟩
   rcases hS' with hS' | ⟨hS', ha⟩
   ·exact o1 hS'
   ·rcases J.src k hS' with h | h | h
    ·rcases ha with ha | ha
     ·exact o1 (hSl ha k h)
     ·omega
    ·have : w.heap.size <= k := h; omega
    ·exact h
 ·rcases hb with hb | hb
  ·exact Nat.lt_of_lt_of_le (I.stb b hb) J.kept.size
  ·exact J.stb b hb.1
 ·rcases hb with hb | ⟨hb, ha⟩
  ·exact I.src b hb
  ·rcases J.src b hb with h | h | h
   ·rcases ha with ha | ha
    ·exact I.src b (hSl ha b h)
    ·exact .inr (.inl (Nat.le_trans I.kept.size ha))
   ·exact .inr (.inl (Nat.le_trans I.kept.size h))
   ·exact h.elim
end
end Go.Vc
set_option linter.unusedVariables false
set_option linter.unusedSimpArgs false
namespace Go.Vc
theorem jh {x : Nat} : ∀ {l : List Nat}, mem1 x l = true ↔ x ∈ l
 | [] => by simp [mem1]
 | y :: r => by
   unfold mem1
   by_cases h : x = y
   ·subst h; simp
   ·rw [kL h, cond_false, jh]; simp [h]
theorem rO : ∀ {l : List Nat}, fJ l = true -> l.Nodup
 | [], _ => List.nodup_nil
 | x :: r, h => by
   simp only [fJ, Bool.and_eq_true, Bool.not_eq_true'] at h
   refine List.nodup_cons.2 ⟨fun hx => ?_, rO h.2⟩
   rw [jh.2 hx] at h; cases h.1
theorem uZ {ids : List Nat} : ∀ {l : List Nat}, allIn ids l = true -> ∀ x ∈ l, x ∈ ids
 | [], _ => fun x hx => by cases hx
 | y :: r, h => by
   unfold allIn at h
   cases hm : mem1 y ids with
   | false => rw [hm] at h; cases h
   | true =>
     rw [hm] at h
     intro x hx
     rcases List.mem_cons.1 hx with rfl | hx
     ·exact jh.1 hm
     ·exact uZ h x hx
theorem vg {M : Store} {ids : List Nat} : ∀ {l : List Nat}, jm M ids l = true -> ∀ x ∈ l, ∀ e, M.get x = some e -> ∀ y ∈ o9 e, y ∈ ids
 | [], _ => fun x hx => by cases hx
 | z :: r, h => by
   unfold jm at h
   intro x hx e he
   cases hz : CX M ids z with
   | false => rw [hz] at h; cases h
   | true =>
     rw [hz] at h
     rcases List.mem_cons.1 hx with rfl | hx
     ·unfold CX at hz; rw [he] at hz; exact uZ hz
     ·exact vg h x hx e he
theorem lV {x : Nat} : ∀ {ids : List Nat}, x ∈ ids -> ids[posOf x ids]? = some x
 | [], h => by cases h
 | y :: r, h => by
   unfold posOf
   by_cases hx : x = y
   ·subst hx; simp
   ·rw [kL hx, cond_false, List.getElem?_cons_succ]
    exact lV ((List.mem_cons.1 h).resolve_left hx)
theorem ji : ∀ {ids : List Nat} (_ : ids.Nodup) {j x : Nat} (_ : ids[j]? = some x), posOf x ids = j
 | [], _, j, x, h => by simp at h
 | y :: r, hn, 0, x, h => by simp at h; subst h; simp [posOf]
 | y :: r, hn, j + 1, x, h => by
   have h' : r[j]? = some x := by simpa using h
   have hx : x ∈ r := List.mem_of_getElem? h'
   have hne : x ≠ y := fun hh => (List.nodup_cons.1 hn).1 (hh ▸ hx)
   unfold posOf
   rw [kL hne, cond_false, ji (List.nodup_cons.1 hn).2 h']
theorem kP {α : Type} : ∀ {l : List (Option α)} {r : List α}, aS l = some r -> r.length = l.length /\ ∀ (i : Nat) x, r[i]? = some x -> l[i]? = some (some x)
 | [], r, h => by cases h; exact ⟨rfl, fun i x h => by simp at h⟩
 | none :: l, r, h => by cases h
 | some y :: l, r, h => by
   unfold aS at h
   cases hl : aS l with
   | none => rw [hl] at h; cases h
   | some z =>
     rw [hl] at h; cases h
     obtain ⟨h1, h2⟩ := kP hl
     refine ⟨by simp [h1], fun i x hx => ?_⟩
     cases i with
     | zero => simp at hx; subst hx; rfl
     | succ i => simpa using h2 i x (by simpa using hx)
theorem xK : ∀ {ids : List Nat} {es : List Entry} {M : Store} {j : Nat}, ids.Nodup -> es.length = ids.length -> (M.aK (rZ ids es)).get j = if j ∈ ids then es[posOf j ids]? else M.get j
 | [], es, M, j, _, hl => by simp [rZ, Store.aK]
 | i :: r, [], M, j, _, hl => by simp at hl
 | i :: r, e :: es, M, j, hn, hl => by
   simp only [rZ, Store.aK]
   have hn := List.nodup_cons.1 hn
   rw [xK hn.2 (by simpa using hl)]
   by_cases hj : j = i
   ·subst hj
    rw [if_neg hn.1, if_pos (by simp), Store.get_set_same]; simp [posOf]
   ·by_cases hr : j ∈ r
    ·rw [if_pos hr, if_pos (by simp [hr])]
     rw [show posOf j (i :: r) = posOf j r + 1 from by simp only [posOf]; rw [kL hj, cond_false], List.getElem?_cons_succ]
    ·rw [if_neg hr, if_neg (by simp [hj, hr]), Store.get_set_other _ _ _ _ hj]
def KY (c : Ctx) (ι : Gh) (es : List Entry) (d : Done) (v : Value) (w' : World) : Prop :=
 ∃ ι' : Gh, Inv c ι' w' (ay 0 (d.back ++ d.made)) /\ (∀ b, ι.S b -> ι'.S b) /\ (∀ b, ι.S b -> w'.heap[b]? = c.w0.heap[b]?) /\
  (∀ j, j < es.length -> ι'.base j = ι.base j /\ ι'.cap j = ι.cap j) /\ (∀ (j : Nat) e, es[j]? = some e -> ∃ e', d.back[j]? = some e' /\ Ev e e') /\
  ak c ι' w' (ay 0 (d.back ++ d.made)) d.res v
section
variable {c : Ctx} {ι : Gh} {w : World} {M : Store}
def kF (I : Inv c ι w M) (ids : List Nat) : Ctx := ⟨w, fun k => ∃ i ∈ ids, ∃ e, M.get i = some e /\ e.live = true /\ ι.blk i = some k, ι.S, c.lb, I.kept.lb, c.yl⟩
def mP (ι : Gh) (ids : List Nat) : Gh := { S := ι.S, base := fun j => ι.base (ids.getD j 0), cap := fun j => ι.cap (ids.getD j 0) }
theorem Inv.hand (I : Inv c ι w M) {ids : List Nat} {es0 : List Entry} (hn : ids.Nodup) (hes : aS (ids.map M.get) = some es0) (hc : ∀ x ∈ ids, ∀ e, M.get x = some e -> ∀ y ∈ o9 e, y ∈ ids) :
 Inv (kF I ids) (mP ι ids) w (ay 0 (es0.map (aT fun i => posOf i ids))) /\ Ren true (fun i => posOf i ids) (fun i => i ∈ ids) c ι w M (kF I ids) (mP ι ids) w (ay 0 (es0.map (aT fun i => posOf i ids))) := by
 obtain ⟨hlen, hget⟩ := kP hes
 have hlen : es0.length = ids.length := by simpa using hlen
 have hat : ∀ (j : Nat) (e : Entry), es0[j]? = some e -> ∃ x, ids[j]? = some x /\ M.get x = some e := by
  intro j e he
  have := hget j e he
  rw [List.getElem?_map] at this
  cases hx : ids[j]? with
  | none => rw [hx] at this; cases this
  | some x => rw [hx] at this; exact ⟨x, rfl, by simpa using this⟩
 have hgd : ∀ (j x : Nat), ids[j]? = some x -> ids.getD j 0 = x := fun j x h => by rw [List.getD_eq_getElem?_getD, h]; rfl
 have hM : ∀ j, Store.get (ay 0 (es0.map (aT fun i => posOf i ids))) j = (es0[j]?).map (aT fun i => posOf i ids) := fun j => by rw [dL, if_pos (Nat.zero_le _), Nat.sub_zero, List.getElem?_map]
 have rn : Ren true (fun i => posOf i ids) (fun i => i ∈ ids) c ι w M (kF I ids) (mP ι ids) w (ay 0 (es0.map (aT fun i => posOf i ids))) := by
  refine ⟨Nat.le_refl _, fun _ h => h, fun b hb _ => hb, fun _ _ => rfl, fun id e hid he => ?_⟩
  have hp := lV hid
  have hpl := (List.getElem?_eq_some_iff.1 hp).1
  obtain ⟨x, hx, hx2⟩ := hat (posOf id ids) (es0[posOf id ids]'(by omega)) (List.getElem?_eq_getElem (by omega))
  rw [hp] at hx; cases hx
  rw [he] at hx2
  refine ⟨?_, ?_, ?_⟩
  ·rw [hM, List.getElem?_eq_getElem (by omega)]
   have : es0[posOf id ids]'(by omega) = e := by cases hx2; rfl
   rw [Option.map_some, this]
  ·show ι.base (ids.getD (posOf id ids) 0) = _; rw [hgd _ _ hp]
  ·show ι.cap (ids.getD (posOf id ids) 0) = _; rw [hgd _ _ hp]
 have back : ∀ {j ej}, Store.get (ay 0 (es0.map (aT fun i => posOf i ids))) j = some ej -> ∃ x e, ids[j]? = some x /\ M.get x = some e /\ ej = aT (fun i => posOf i ids) e /\ (mP ι ids).blk j = ι.blk x := by
  intro j ej h
  rw [hM] at h
  cases he : es0[j]? with
  | none => rw [he] at h; cases h
  | some e =>
    rw [he] at h; cases h
    obtain ⟨x, hx, hx2⟩ := hat j e he
    exact ⟨x, e, hx, hx2, rfl, by simp only [Gh.blk, mP]; rw [hgd _ _ hx]⟩
 refine ⟨⟨⟨rfl, rfl, rfl, Nat.le_refl _, fun _ _ _ => rfl⟩, fun j ej hj => ?_, fun i j ei ej k hi hj li lj bi bj => ?_, fun i ei k hi li bi => ?_, I.stb, fun b hb => .inl hb⟩, rn⟩
 ·obtain ⟨x, e, h1, h2, rfl, _⟩ := back hj
  have hx : x ∈ ids := List.mem_of_getElem? h1
  have := bH.ren rn h2 hx (.inl rfl) (hc x hx e h2) (fun _ _ _ => rfl) (I.ents x e h2)
  rw [ji hn h1] at this
  exact this
 ·obtain ⟨x, e, h1, h2, rfl, h4⟩ := back hi
  obtain ⟨y, e', k1, k2, rfl, k4⟩ := back hj
  rw [h4] at bi; rw [k4] at bj
  rw [iF] at li lj
  have := I.dis x y e e' k h2 k2 li lj bi bj
  subst this
  rw [<- ji hn h1, <- ji hn k1]
 ·obtain ⟨x, e, h1, h2, rfl, h4⟩ := back hi
  rw [h4] at bi
  rw [iF] at li
  exact ⟨(I.own x e k h2 li bi).1, .inr ⟨x, List.mem_of_getElem? h1, e, h2, li, bi⟩⟩
theorem Ev.ren {f g : Nat -> Nat} {a b : Entry} (h : Ev (aT f a) b) : Ev a (aT g b) := by
 cases a <;> cases b <;> simp only [Ev, aT] at h ⊢ <;> first | exact h | skip
 intro off N fr t l hl
 obtain ⟨fr', l', h'⟩ := h off N fr t l (by rw [pY, hl]; rfl)
 exact ⟨fr', l', by rw [pY, h']; rfl⟩
theorem Inv.back (I : Inv c ι w M) {ids : List Nat} {es0 : List Entry} (hn : ids.Nodup) (hes : aS (ids.map M.get) = some es0) {d : Done} {v : Value} {w' : World}
 (hR : KY (kF I ids) (mP ι ids) (es0.map (aT fun i => posOf i ids)) d v w') (hbl : d.back.length = ids.length) {nid : Nat} (hid : ∀ j, nid <= j -> j < nid + d.made.length -> M.get j = none) :
 ∃ ι', Inv c ι' w' (M.aK (rZ ids (d.back.map (aT (fD ids nid))) ++ ay nid (d.made.map (aT (fD ids nid))))) /\ Ext ι w M ι' w' (M.aK (rZ ids (d.back.map (aT (fD ids nid))) ++ ay nid (d.made.map (aT (fD ids nid))))) /\
  ak c ι' w' (M.aK (rZ ids (d.back.map (aT (fD ids nid))) ++ ay nid (d.made.map (aT (fD ids nid))))) (uK (fD ids nid) d.res) v := by
 obtain ⟨ι2, J, hS, hheap, hbase, hev, hres⟩ := hR
 obtain ⟨hlen, hget⟩ := kP hes
 have hlen : es0.length = ids.length := by simpa using hlen
 have hMx : ∀ x ∈ ids, ∃ e, M.get x = some e := by
  intro x hx
  have hp := lV hx
  have hpl := (List.getElem?_eq_some_iff.1 hp).1
  have := hget (posOf x ids) (es0[posOf x ids]'(by omega)) (List.getElem?_eq_getElem (by omega))
  rw [List.getElem?_map, hp] at this
  exact ⟨_, by simpa using this⟩
 have hnew : ∀ x ∈ ids, ¬ (nid <= x /\ x < nid + d.made.length) := fun x hx h => by
  obtain ⟨e, he⟩ := hMx x hx
  rw [hid x h.1 h.2] at he; cases he
 have hz : (d.back.map (aT (fD ids nid))).length = ids.length := by rw [List.length_map]; exact hbl
 have hM' : ∀ j, (M.aK (rZ ids (d.back.map (aT (fD ids nid))) ++ ay nid (d.made.map (aT (fD ids nid))))).get j =
  if nid <= j /\ j < nid + d.made.length then (d.made.map (aT (fD ids nid)))[j - nid]? else if j ∈ ids then (d.back.map (aT (fD ids nid)))[posOf j ids]? else M.get j := by
  intro j
  rw [Store.iO, xI (fun i h1 h2 => ?_), List.length_map, xK hn hz]
  rw [List.length_map] at h2
  rw [xK hn hz, if_neg (fun hi => hnew i hi ⟨h1, h2⟩)]
  exact hid i h1 h2
 generalize P5 : M.aK (rZ ids (d.back.map (aT (fD ids nid))) ++ ay nid (d.made.map (aT (fD ids nid)))) = M' at hM'
 let ι' : Gh := { S := ι2.S, base := fun i => if nid <= i /\ i < nid + d.made.length then ι2.base (ids.length + (i - nid)) else ι.base i, cap := fun i => if nid <= i /\ i < nid + d.made.length then ι2.cap (ids.length + (i - nid)) else ι.cap i }
 have hgd : ∀ (j x : Nat), ids[j]? = some x -> ids.getD j 0 = x := fun j x h => by rw [List.getD_eq_getElem?_getD, h]; rfl
 have gl : ∀ (i x : Nat), ids[i]? = some x -> fD ids nid i = x := fun i x h => by unfold fD; simp only [h]
 have gh : ∀ i, ids.length <= i -> fD ids nid i = nid + (i - ids.length) := fun i h => by unfold fD; simp only [List.getElem?_eq_none h]
 have hM2 : ∀ i, Store.get (ay 0 (d.back ++ d.made)) i = (d.back ++ d.made)[i]? := fun i => by rw [dL, if_pos (Nat.zero_le _), Nat.sub_zero]
 have rn : Ren true (fD ids nid) (fun _ => True) (kF I ids) ι2 w' (ay 0 (d.back ++ d.made)) c ι' w' M' := by
  refine ⟨Nat.le_refl _, fun _ h => h, fun b hb _ => hb, fun _ _ => rfl, fun i e _ he => ?_⟩
  rw [hM2] at he
  by_cases hi : i < ids.length
  ·have hx : ids[i]? = some ids[i] := List.getElem?_eq_getElem hi
   have hmem : ids[i] ∈ ids := List.getElem_mem hi
   rw [List.getElem?_append_left (by omega)] at he
   obtain ⟨b1, b2⟩ := hbase i (by rw [List.length_map]; omega)
   have q1 : (mP ι ids).base i = ι.base ids[i] := by show ι.base (ids.getD i 0) = _; rw [hgd i _ hx]
   have q2 : (mP ι ids).cap i = ι.cap ids[i] := by show ι.cap (ids.getD i 0) = _; rw [hgd i _ hx]
   rw [gl i _ hx]
   refine ⟨?_, ?_, ?_⟩
   ·rw [hM', if_neg (hnew _ hmem), if_pos hmem, ji hn hx, List.getElem?_map, he]; rfl
   ·show (if _ then _ else ι.base ids[i]) = _
    rw [if_neg (hnew _ hmem), b1, q1]
   ·show (if _ then _ else ι.cap ids[i]) = _
    rw [if_neg (hnew _ hmem), b2, q2]
  ·have hlt := (List.getElem?_eq_some_iff.1 he).1
   rw [List.length_append] at hlt
   rw [List.getElem?_append_right (by omega)] at he
   rw [gh i (by omega)]
   have hr : nid <= nid + (i - ids.length) /\ nid + (i - ids.length) < nid + d.made.length := by omega
   have e1 : ids.length + (nid + (i - ids.length) - nid) = i := by omega
   refine ⟨?_, ?_, ?_⟩
   ·rw [hM', if_pos hr, List.getElem?_map, show nid + (i - ids.length) - nid = i - d.back.length by omega, he]; rfl
   ·show (if _ then ι2.base _ else _) = _
    rw [if_pos hr, e1]
   ·show (if _ then ι2.cap _ else _) = _
    rw [if_pos hr, e1]
 have kind : ∀ {j ej}, M'.get j = some ej -> (∃ i e, Store.get (ay 0 (d.back ++ d.made)) i = some e /\ ej = aT (fD ids nid) e /\ fD ids nid i = j) ∨ (j ∉ ids /\ ¬ (nid <= j /\ j < nid + d.made.length) /\ M.get j = some ej) := by
  intro j ej hj
  rw [hM'] at hj
  by_cases h1 : nid <= j /\ j < nid + d.made.length
  ·rw [if_pos h1, List.getElem?_map] at hj
   cases he : d.made[j - nid]? with
   | none => rw [he] at hj; cases hj
   | some e =>
     rw [he] at hj; cases hj
     refine .inl ⟨ids.length + (j - nid), e, ?_, rfl, ?_⟩
     ·rw [hM2, List.getElem?_append_right (by omega), show ids.length + (j - nid) - d.back.length = j - nid by omega]; exact he
     ·rw [gh _ (by omega)]; omega
  ·rw [if_neg h1] at hj
   by_cases h2 : j ∈ ids
   ·rw [if_pos h2, List.getElem?_map] at hj
    have hp := lV h2
    have hpl := (List.getElem?_eq_some_iff.1 hp).1
    cases he : d.back[posOf j ids]? with
    | none => rw [he] at hj; cases hj
    | some e =>
      rw [he] at hj; cases hj
      exact .inl ⟨posOf j ids, e, by rw [hM2, List.getElem?_append_left (by omega)]; exact he, rfl, gl _ _ hp⟩
   ·rw [if_neg h2] at hj; exact .inr ⟨h2, h1, hj⟩
 have JK : ∀ {i e}, Store.get (ay 0 (d.back ++ d.made)) i = some e -> ι'.blk (fD ids nid i) = ι2.blk i := fun {i e} he => by simp only [Gh.blk]; rw [(rn.ent i e trivial he).2.1]
 have JL : ∀ {j}, ¬ (nid <= j /\ j < nid + d.made.length) -> ι'.blk j = ι.blk j := fun {j} h => by simp [Gh.blk, ι', h]
 have other : ∀ {j ej k}, j ∉ ids -> M.get j = some ej -> ej.live = true -> ι.blk j = some k -> k < w.heap.size /\ ¬ (kF I ids).O k := by
  intro j ej k hj he hl hk
  refine ⟨(I.ents j ej he).eF hl k hk, fun ⟨i, hi, e, h1, h2, h3⟩ => ?_⟩
  have := I.dis i j e ej k h1 he h2 hl h3 hk
  subst this
  exact hj hi
 have same : ∀ {k}, k < w.heap.size -> ¬ (kF I ids).O k -> w'.heap[k]? = w.heap[k]? := fun {k} h1 h2 => J.kept.block k h1 h2
 have hO : ∀ {k}, (kF I ids).O k -> c.w0.heap.size <= k ∨ c.O k := fun {k} ⟨i, _, e, h1, h2, h3⟩ => (I.own i e k h1 h2 h3).2
 have x : Ext ι w M ι' w' M' := by
  refine ⟨hS, hheap, fun id e he => ?_, fun id e he => ?_⟩
  ·have : ¬ (nid <= id /\ id < nid + d.made.length) := fun h => by rw [hid id h.1 h.2] at he; cases he
   simp [ι', this]
  ·have h1 : ¬ (nid <= id /\ id < nid + d.made.length) := fun h => by rw [hid id h.1 h.2] at he; cases he
   by_cases h2 : id ∈ ids
   ·have hp := lV h2
    have hpl := (List.getElem?_eq_some_iff.1 hp).1
    have hge := hget (posOf id ids) (es0[posOf id ids]'(by omega)) (List.getElem?_eq_getElem (by omega))
    rw [List.getElem?_map, hp] at hge
    have hge : M.get id = some (es0[posOf id ids]'(by omega)) := by simpa using hge
    rw [he] at hge
    obtain ⟨e', k1, k2⟩ := hev (posOf id ids) (aT (fun i => posOf i ids) e) (by rw [List.getElem?_map, List.getElem?_eq_getElem (by omega), Option.map_some]; congr 2; cases hge; rfl)
    refine ⟨aT (fD ids nid) e', ?_, k2.ren⟩
    rw [hM', if_neg h1, if_pos h2, List.getElem?_map, k1]; rfl
   ·exact ⟨e, by rw [hM', if_neg h1, if_neg h2]; exact he, Ev.refl _⟩
 refine ⟨ι', ⟨?_, fun j ej hj => ?_, fun i j ei ej k hi hj li lj bi bj => ?_, fun i ei k hi li bi => ?_, J.stb, fun b hb => ?_⟩, x, hres.ren rn (.inl rfl) (fun _ _ => trivial)⟩
 ·refine ⟨J.kept.os.trans I.kept.os, J.kept.tape.trans I.kept.tape, J.kept.output.trans I.kept.output, Nat.le_trans I.kept.size J.kept.size, fun b hb hbO => ?_⟩
  rw [same (Nat.lt_of_lt_of_le hb I.kept.size) (fun h => by rcases hO h with h | h <;> first | omega | exact hbO h)]
  exact I.kept.block b hb hbO
 ·rcases kind hj with ⟨i, e, h1, rfl, rfl⟩ | ⟨h1, h2, h3⟩
  ·exact bH.ren rn h1 trivial (.inl rfl) (fun _ _ => trivial) (fun _ _ _ => rfl) (J.ents i e h1)
  ·exact bH.mono x h3 (fun hl k hk => (fun h => same h.1 h.2) (other h1 h3 hl hk)) (I.ents j ej h3)
 ·rcases kind hi with ⟨a, e, h1, rfl, rfl⟩ | ⟨h1, h2, h3⟩
  ·rw [JK h1] at bi
   rw [iF] at li
   rcases kind hj with ⟨b, e', k1, rfl, rfl⟩ | ⟨k1, k2, k3⟩
   ·rw [JK k1] at bj
    rw [iF] at lj
    rw [J.dis a b e e' k h1 k1 li lj bi bj]
   ·rw [JL k2] at bj
    obtain ⟨o1, o2⟩ := other k1 k3 lj bj
    rcases (J.own a e k h1 li bi).2 with h | h
    ·have : w.heap.size <= k := h; omega
    ·exact (o2 h).elim
  ·rw [JL h2] at bi
   rcases kind hj with ⟨b, e', k1, rfl, rfl⟩ | ⟨k1, k2, k3⟩
   ·rw [JK k1] at bj
    rw [iF] at lj
    obtain ⟨o1, o2⟩ := other h1 h3 li bi
    rcases (J.own b e' k k1 lj bj).2 with h | h
    ·have : w.heap.size <= k := h; omega
    ·exact (o2 h).elim
   ·rw [JL k2] at bj
    exact I.dis i j ei ej k h3 k3 li lj bi bj
 ·rcases kind hi with ⟨a, e, h1, rfl, rfl⟩ | ⟨h1, h2, h3⟩
  ·rw [JK h1] at bi
   rw [iF] at li
   obtain ⟨o1, o2⟩ := J.own a e k h1 li bi
   refine ⟨o1, ?_⟩
   rcases o2 with h | h
   ·exact .inl (Nat.le_trans I.kept.size h)
   ·exact hO h
  ·rw [JL h2] at bi
   obtain ⟨o1, o2⟩ := I.own i ei k h3 li bi
   obtain ⟨p1, p2⟩ := other h1 h3 li bi
   refine ⟨fun hk => ?_, o2⟩
   rcases J.src k hk with h | h | h
   ·exact o1 h
   ·have : w.heap.size <= k := h; omega
   ·exact p2 h
 ·rcases J.src b hb with h | h | h
  ·exact I.src b h
  ·exact .inr (.inl (Nat.le_trans I.kept.size h))
  ·exact .inr (hO h)
end
end Go.Vc
set_option linter.unusedVariables false
set_option linter.unusedSimpArgs false
namespace Go.Vc
def Ad (S : Nat -> Prop) (w : World) (t : Ty) (x : t.den) (v : Value) : Prop :=
 (∃ cs, ah S w t x cs /\ (match t.isAgg with | true => v = .agg cs.toArray | false => cs = [v])) /\ Valid t x
def eP (S : Nat -> Prop) (w : World) : (ts : List Ty) -> aX ts -> List Value -> Prop
 | [], _, vs => vs = []
 | [t], x, vs => ∃ v, vs = [v] /\ Ad S w t x v
 | t :: u :: r, x, vs => ∃ v ws, vs = v :: ws /\ Ad S w t x.1 v /\ eP S w (u :: r) x.2 ws
def Does (P : Program) (f : Nat) (args : Array Value) (w : World) (R : Value -> World -> Prop) : Prop :=
 ∀ (o : Oper) (a : Act) (next : Act -> World -> Prop) (Q : Exit -> Act -> World -> Prop), (∀ v w', R v w' -> next (a.put o.dst v) w') -> o.upon P a next Q ((callFunc f args).run P w)
theorem Does.mono {P : Program} {f : Nat} {args : Array Value} {w : World} {R R' : Value -> World -> Prop} (h : Does P f args w R) (hr : ∀ v w', R v w' -> R' v w') : Does P f args w R' :=
 fun o a next Q hn => h o a next Q fun v w' hv => hn v w' (hr v w' hv)
theorem Does.vk {P : Program} {f : Nat} {fn : Func} {b : Code} {args : Array Value} {w : World} {R : Value -> World -> Prop} (hf : P.funcs[f]? = some fn) (hn : (fn.name == "runtime.NumGoroutine") = false) (hb : fn.body = some b)
 (h : Calls P f args w fun e w' => match e with | .returned v => R v w' | _ => False) : Does P f args w R := by
 intro o a next Q hk
 have hr : (callFunc f args).run P w = .ok (.enter f args) w := by
  have h1 : fn.name ≠ "runtime.NumGoroutine" := by simpa using hn
  simp [callFunc, run_program, hf, h1, hb]
 rw [hr, Oper.upon_enter]
 intro cs
 obtain ⟨e, w', fr, h1, h2⟩ := h cs
 refine ⟨e, w', fr, ?_, h2⟩
 cases e with
 | returned v => exact hk v w' h1
 | panicked _ => exact h1.elim
 | outgrown => exact h1.elim
def qJ (gl : Nat -> Option (Sigma Ty.den)) (S : Nat -> Prop) (w : World) : Prop :=
 ∀ g t x, gl g = some ⟨t, x⟩ -> ∃ cs, At S w ⟨g, 0, none⟩ cs /\ ah S w t x cs /\ Valid t x
def BK (P : Program) (gl : Nat -> Option (Sigma Ty.den)) (f : Nat) (ts : List Ty) (F : aX ts -> Done) : Prop :=
 ∀ (x : aX ts) (vs : List Value) (w : World) (S : Nat -> Prop), (∀ b, S b -> b < w.heap.size) -> qJ gl S w -> eP S w ts x vs -> (∀ p ∈ (F x).pre, p) ->
  Does P f vs.toArray w fun v w' => ∃ ι', Inv (Ctx.of w S) ι' w' (ay 0 (F x).made) /\ ak (Ctx.of w S) ι' w' (ay 0 (F x).made) (F x).res v
def F9 (S : Nat -> Prop) (w : World) (t : Ty) (x : t.den) (v : Value) : Prop := ∃ ad pcs, v = .pointer (some ad) /\ At S w ad pcs /\ ah S w t x pcs /\ Valid t x
def qc (S : Nat -> Prop) (w : World) : (cs : List Ty) -> aX cs -> List Value -> Prop
 | [], _, vs => vs = []
 | [t], x, vs => ∃ v, vs = [v] /\ F9 S w t x v
 | t :: u :: r, x, vs => ∃ v ws, vs = v :: ws /\ F9 S w t x.1 v /\ qc S w (u :: r) x.2 ws
def O7 (P : Program) (gl : Nat -> Option (Sigma Ty.den)) (f : Nat) (ts cs : List Ty) (F : aX ts -> aX cs -> Done) : Prop :=
 ∀ (x : aX ts) (y : aX cs) (vs ps : List Value) (w : World) (S : Nat -> Prop), (∀ b, S b -> b < w.heap.size) -> qJ gl S w -> eP S w ts x vs -> qc S w cs y ps -> (∀ p ∈ (F x y).pre, p) ->
  Does P f (vs ++ ps).toArray w fun v w' => ∃ ι', Inv (Ctx.of w S) ι' w' (ay 0 (F x y).made) /\ ak (Ctx.of w S) ι' w' (ay 0 (F x y).made) (F x y).res v
def Apart (w : World) (v1 v2 : Value) : Prop := ∃ a n cp b m cq, v1 = .slice a n cp /\ v2 = .slice b m cq /\
 (n = 0 ∨ m = 0 ∨ ∃ g o cur e h p dur d, a = some ⟨g, o, none⟩ /\ b = some ⟨h, p, none⟩ /\ g ≠ h /\ w.heap[g]? = some (.cells cur e (0, 0)) /\ w.heap[h]? = some (.cells dur d (0, 0)) /\ 0 < dur.size)
def NH (P : Program) (f : Nat) : Prop := ∀ (w : World) (v1 v2 : Value), Apart w v1 v2 -> Does P f #[v1, v2] w fun v w' => v = .bool false /\ w' = w
def LVal : Leaf -> Prop
 | .int k x => Valid (.int k) x
 | .str l => Valid .str l
 | .psl _ t l => Valid (.slice t) l
 | .arr n _ t l => Valid (.arr n t) l
 | .cst _ t x => Valid t x
 | _ => True
def PK : Entry -> Prop
 | .row _ t _ _ l => Valid (.slice t) l
 | .frz t _ l => Valid (.slice t) l
 | .obj ls => ∀ l ∈ ls, LVal l
 | .hid (.iter l _) => Valid .str l
 | .hid (.map k v l) => ∀ p ∈ l, Valid k p.1 /\ Valid v p.2
 | .dead => True
def Nc (P : Program) (gl : Nat -> Option (Sigma Ty.den)) (f : Nat) (F : List V -> List Entry -> Option Done) : Prop :=
 ∀ (args : List V) (es : List Entry) (d : Done), F args es = some d -> ∀ (c : Ctx) (ι : Gh) (us : List Value), Inv c ι c.w0 (ay 0 es) -> (∀ b, ι.S b -> c.S0 b) -> qJ gl ι.S c.w0 -> aP c ι c.w0 (ay 0 es) args us -> (∀ p ∈ d.pre, p) ->
  Does P f us.toArray c.w0 fun v w' => KY c ι es d v w'
def kU (P : Program) (gl : Nat -> Option (Sigma Ty.den)) (f : Nat) : Sum -> Prop
 | .pure ts _ F => BK P gl f ts F
 | .gen F => Nc P gl f F
 | .clo ts cs F => O7 P gl f ts cs F
 | .apart => NH P f
def fE (P : Program) (cfg : Cfg) : Prop := ∀ f s, cfg.sum f = some s -> kU P cfg.glob f s
section
variable {P : Program} {c : Ctx} {ι : Gh} {w : World} {M : Store} {cfg : Cfg}
theorem aI.arg (I : Inv c ι w M) {t : Ty} {v : V} {u : Value} (hag : (v.agg == t.isAgg) = true) (hv : aI c ι w M v u) {im : Im t} (h : aG M t v.ls = some im) (hr : im.rest = []) :
 Frz M im.frz /\ ∀ S' : Nat -> Prop, (∀ b, ι.S b -> S' b) -> (∀ id e e0 k, (id, e) ∈ im.frz -> M.get id = some e0 -> e0.live = true -> ι.blk id = some k -> S' k) -> Ad S' w t im.x u := by
 obtain ⟨cs, h1, h2⟩ := hv
 obtain ⟨f1, c1, c2, g1, g2, g3, g4⟩ := fA I t h h1
 rw [hr] at g2
 have g2 : c2 = [] := g2
 subst g2
 rw [List.append_nil] at g1
 subst g1
 refine ⟨f1, fun S' hS hk => ⟨⟨cs, ah.mono (fun b hb => hb.1) (fun _ _ => rfl) _ _ _ (g4 S' hS hk), ?_⟩, g3⟩⟩
 have hag : v.agg = t.isAgg := by simpa using hag
 rw [<- hag]
 cases ha : v.agg with
 | true => rw [ha] at h2; exact h2
 | false => rw [ha] at h2; exact h2.1
theorem mQ (I : Inv c ι w M) : ∀ {ts : List Ty} {vs : List V} {us : List Value} {fr : Bool} {x : aX ts} {z : List (Nat × Entry)}, dA M ts vs = some (fr, x, z) -> aP c ι w M vs us ->
 Frz M z /\ ∀ S' : Nat -> Prop, (∀ b, ι.S b -> S' b) -> (∀ id e e0 k, (id, e) ∈ z -> M.get id = some e0 -> e0.live = true -> ι.blk id = some k -> S' k) -> eP S' w ts x us
 | [], [], us, fr, x, z, h, hv => by
   cases h
   exact ⟨fun _ _ h => (by cases h), fun _ _ _ => hv⟩
 | [t], [v], us, fr, x, z, h, ⟨u, us', h1, h2, h3⟩ => by
   simp only [dA] at h
   cases hag : (v.agg == t.isAgg) with
   | false => rw [hag] at h; cases h
   | true =>
     rw [hag] at h
     simp only [cond_true] at h
     cases him : aG M t v.ls with
     | none => rw [him] at h; cases h
     | some im =>
       rw [him] at h
       simp only at h
       cases hr : im.rest with
       | cons _ _ => rw [hr] at h; cases h
       | nil =>
         rw [hr] at h
         cases h
         obtain ⟨k1, k2⟩ := h2.arg I hag him hr
         exact ⟨k1, fun S' hS hk => ⟨u, by rw [h1, show us' = [] from h3], k2 S' hS hk⟩⟩
 | t :: t' :: r, v :: vs, us, fr, x, z, h, ⟨u, us', h1, h2, h3⟩ => by
   simp only [dA] at h
   cases hag : (v.agg == t.isAgg) with
   | false => rw [hag] at h; cases h
   | true =>
     rw [hag] at h
     simp only [cond_true] at h
     cases him : aG M t v.ls with
     | none => rw [him] at h; cases h
     | some im =>
       rw [him] at h
       simp only at h
       cases hr : im.rest with
       | cons _ _ => rw [hr] at h; cases h
       | nil =>
         rw [hr] at h
         cases hrec : dA M (t' :: r) vs with
         | none => rw [hrec] at h; cases h
         | some q =>
           obtain ⟨fr', x', z'⟩ := q
           rw [hrec] at h
           cases h
           obtain ⟨k1, k2⟩ := h2.arg I hag him hr
           obtain ⟨k3, k4⟩ := mQ I hrec h3
           refine ⟨fun id e hx => (List.mem_append.1 hx).elim (k1 id e) (k3 id e), fun S' hS hk => ⟨u, us', h1, ?_, ?_⟩⟩
           ·exact k2 S' hS fun id e e0 k hx => hk id e e0 k (List.mem_append.2 (.inl hx))
           ·exact k4 S' hS fun id e e0 k hx => hk id e e0 k (List.mem_append.2 (.inr hx))
theorem Frz.get {z : List (Nat × Entry)} (hz : Frz M z) {id : Nat} {e : Entry} (h : (id, e) ∈ z) : M.get id ≠ none := by
 obtain ⟨x, hx⟩ := (hz id e h).some
 rw [hx]; simp
theorem Frz.fresh {z : List (Nat × Entry)} (hz : Frz M z) {nid m : Nat} (hid : ∀ j, nid <= j -> j < m -> M.get j = none) : ∀ j, nid <= j -> j < m -> (M.aK z).get j = none := by
 intro j hj hm
 rw [gB]
 ·exact hid j hj hm
 ·rw [List.all_eq_true]
  rintro ⟨id, e⟩ hx
  have hne : id ≠ j := fun hh => hz.get hx (by rw [hh]; exact hid j hj hm)
  rw [kL hne]; rfl
theorem pG {n : Nat} {z : List (Nat × Entry)} {es : List Entry} {g : Entry -> Entry} (h : below (n + 8) (z ++ ay n (es.map g)) = true) : es.length <= 8 := by
 have h2 : below (n + 8) (ay n (es.map g)) = true := by
  induction z with
  | nil => exact h
  | cons x r ih =>
    rw [List.cons_append] at h
    unfold below at h
    cases hx : Nat.blt x.1 (n + 8) with
    | false => rw [hx] at h; cases h
    | true => rw [hx] at h; exact ih h
 have key : ∀ (es : List Entry) (i : Nat), below (n + 8) (ay i (es.map g)) = true -> i <= n + 8 -> i + es.length <= n + 8 := by
  intro es
  induction es with
  | nil => intro i _ hi; simpa using hi
  | cons e r ih =>
    intro i h hi
    simp only [List.map_cons, ay] at h
    unfold below at h
    cases hx : Nat.blt i (n + 8) with
    | false => rw [hx] at h; cases h
    | true =>
      rw [hx] at h
      have hx : i < n + 8 := by simpa using hx
      have := ih (i + 1) h (by omega)
      rw [List.length_cons]; omega
 have := key es n h2 (by omega)
 omega
theorem BL (I : Inv c ι w M) {t : Ty} {v : V} {x : t.den} {u : Value} (h : cellOf M t v = some x) (hv : aI c ι w M v u) : F9 (fun b => b < w.heap.size) w t x u := by
 unfold cellOf at h
 split at h
 ·rename_i id
  cases hg : M.get id with
  | none => rw [hg] at h; cases h
  | some e =>
    rw [hg] at h
    cases e <;> simp only at h <;> first | (cases h; done) | skip
    rename_i ls
    cases hi : aG M t ls with
    | none => rw [hi] at h; cases h
    | some im =>
      rw [hi] at h
      simp only at h
      cases hr : im.rest with
      | cons _ _ => rw [hr] at h; cases h
      | nil =>
        rw [hr] at h
        cases h
        have hl := aI.leaf (x := ⟨false, [.ptr id 0]⟩) (l := .ptr id 0) rfl hv
        simp only [aj, hg] at hl
        obtain ⟨b, hb, hu⟩ := hl
        have hu : u = .pointer (some ⟨b, 0, none⟩) := by simpa using hu
        obtain ⟨b', cs, T, h1, h2, h3, _⟩ := I.ents id _ hg
        rw [hb] at h1; cases h1
        obtain ⟨f1, c1, c2, g1, g2, g3, g4⟩ := fA I t hi h3
        rw [hr] at g2
        have g2 : c2 = [] := g2
        subst g2
        rw [List.append_nil] at g1
        subst g1
        have hp := g4 (fun b => b < w.heap.size) I.stb (fun id e e0 k _ he hl hk => (I.ents id e0 he).eF hl k hk)
        refine ⟨⟨b, 0, none⟩, cs, hu, ⟨(Array.getElem?_eq_some_iff.1 h2).1, fun i v hv => ?_⟩, ah.mono (fun b hb => hb.1) (fun _ _ => rfl) _ _ _ hp, g3⟩
        have hadd : (⟨b, 0, none⟩ : Addr).add i = ⟨b, i, none⟩ := by unfold Addr.add; split <;> simp_all
        rw [hadd]
        simp only [World.cell?, h2]
        simpa using hv
 ·rename_i fr t' y
  split at h
  ·rename_i ht; subst ht
   cases h
   have hl := aI.leaf (x := ⟨false, [.cst fr t' y]⟩) (l := .cst fr t' y) rfl hv
   obtain ⟨ad, pcs, h1, h2, h3, h4⟩ := hl
   exact ⟨ad, pcs, by simpa using h1, h2.mono (fun b hb => I.stb b hb.1) (fun _ _ => rfl), ah.mono (fun b hb => I.stb b hb.1) (fun _ _ => rfl) _ _ _ h3, h4⟩
  ·cases h
 ·cases h
theorem BM (I : Inv c ι w M) : ∀ {cs : List Ty} {vs : List V} {y : aX cs} {us : List Value}, jH M cs vs = some y -> aP c ι w M vs us -> qc (fun b => b < w.heap.size) w cs y us
 | [], [], y, us, h, hv => hv
 | [], _ :: _, _, _, h, _ => by cases h
 | [_], [], _, _, h, _ => by cases h
 | [t], [v], y, us, h, ⟨u, us', h1, h2, h3⟩ => by
   have h3 : us' = [] := h3
   subst h3
   exact ⟨u, h1, BL I h h2⟩
 | [_], _ :: _ :: _, _, _, h, _ => by cases h
 | _ :: _ :: _, [], _, _, h, _ => by cases h
 | t :: t' :: r, v :: vs, y, us, h, ⟨u, us', h1, h2, h3⟩ => by
   simp only [jH] at h
   cases k1 : cellOf M t v with
   | none => rw [k1] at h; cases h
   | some x =>
     cases k2 : jH M (t' :: r) vs with
     | none => rw [k1, k2] at h; cases h
     | some z =>
       rw [k1, k2] at h; cases h
       exact ⟨u, us', h1, BL I k1 h2, BM I k2 h3⟩
theorem aP.parts : ∀ (n : Nat) {vs : List V} {us : List Value}, aP c ι w M vs us -> ∃ u1 u2, us = u1 ++ u2 /\ aP c ι w M (vs.take n) u1 /\ aP c ι w M (vs.drop n) u2
 | 0, vs, us, h => ⟨[], us, rfl, rfl, h⟩
 | n + 1, [], us, h => ⟨[], us, rfl, rfl, h⟩
 | n + 1, v :: vs, us, ⟨u, us', h1, h2, h3⟩ => by
   obtain ⟨u1, u2, e, k1, k2⟩ := aP.parts n h3
   exact ⟨u :: u1, u2, by rw [h1, e]; rfl, ⟨u, u1, rfl, h2, k1⟩, k2⟩
theorem aN.BN (G : aN P cfg c ι w) {S : Nat -> Prop} (h : ∀ b, ι.S b -> S b) : qJ cfg.glob S w := fun g t x hg => by
 obtain ⟨cs, h1, h2, h3⟩ := G.glob g t x hg
 exact ⟨cs, h1.mono (fun b hb => h b hb.1) (fun _ _ => rfl), ah.mono (fun b hb => h b hb.1) (fun _ _ => rfl) _ _ _ h2, h3⟩
theorem Gf (G : aN P cfg c ι w) (sums : fE P cfg) (I : Inv c ι w M) {nid f : Nat} (hid : ∀ j, nid <= j -> j < nid + 8 -> M.get j = none) {vs : List V} {us : List Value} (hv : aP c ι w M vs us)
 {e : Eff} (h : tJ cfg M nid f vs = some e) (hbl : below (nid + 8) e.upd = true) (hp : ∀ p ∈ e.pre, p) :
 Does P f us.toArray w fun v w' => ∃ ι', Inv c ι' w' (M.aK e.upd) /\ Ext ι w M ι' w' (M.aK e.upd) /\ ak c ι' w' (M.aK e.upd) e.sv v := by
 unfold tJ at h
 cases hs : cfg.sum f with
 | none => rw [hs] at h; cases h
 | some sm =>
   have hok := sums f sm hs
   rw [hs] at h
   cases sm with
   | gen F =>
     simp only at h
     generalize reach M 40 [] (vs.flatMap fun v => fC v.ls) = ids at h
     unfold yK at h
     cases hes : aS (ids.map M.get) with
     | none => rw [hes] at h; cases h
     | some es0 =>
       rw [hes] at h
       simp only at h
       cases hb : (fJ ids && (allIn ids (vs.flatMap fun v => fC v.ls) && jm M ids ids)) with
       | false => rw [hb] at h; cases h
       | true =>
         rw [hb] at h
         simp only [cond_true] at h
         simp only [Bool.and_eq_true] at hb
         obtain ⟨hn, hin, hcl⟩ := hb
         have hn := rO hn
         cases hF : F (vs.map (CW fun i => posOf i ids)) (es0.map (aT fun i => posOf i ids)) with
         | none => rw [hF] at h; cases h
         | some d =>
           rw [hF] at h
           simp only at h
           cases hbk : Nat.beq d.back.length ids.length with
           | false => rw [hbk] at h; cases h
           | true =>
             rw [hbk] at h
             cases h
             have hbk := Nat.eq_of_beq_eq_true hbk
             obtain ⟨I1, rn⟩ := I.hand hn hes (vg hcl)
             have hv1 := hv.ren rn (.inl rfl) (fun id hid => uZ hin id hid)
             refine Does.mono (hok _ _ d hF (kF I ids) (mP ι ids) us I1 (fun b hb => hb) (G.BN fun b hb => hb) hv1 hp) fun v w' hR => ?_
             have O8 : ∀ j, nid <= j -> j < nid + d.made.length -> M.get j = none := fun j h1 h2 => hid j h1 (by
              have := pG hbl
              omega)
             exact I.back hn hes hR hbk O8
   | apart =>
     simp only at h
     split at h
     ·rename_i x y
      obtain ⟨u, us1, e1, e2, v, us2, e3, e4, e5⟩ := hv
      have e5 : us2 = [] := e5
      subst e5 e3 e1
      have hx := (aI.leaf (x := ⟨false, [x]⟩) (l := x) rfl e2).weak
      have hy := (aI.leaf (x := ⟨false, [y]⟩) (l := y) rfl e4).weak
      split at h
      ·rename_i i r j q hi hj
       split at h
       ·rename_i ei t fi li ej u' fj lj hmi hmj
        cases hb : (Nat.blt 0 t.sz && (Nat.blt 0 u'.sz && !(Nat.beq i j))) with
        | false => rw [hb] at h; cases h
        | true =>
          rw [hb] at h
          cases h
          simp only [Bool.and_eq_true, Bool.not_eq_true'] at hb
          obtain ⟨b1, b2, b3⟩ := hb
          have b1 : 0 < t.sz := by simpa using b1
          have b2 : 0 < u'.sz := by simpa using b2
          have hij : i ≠ j := fun hh => by rw [hh] at b3; simp at b3
          obtain ⟨a, cp, k1, k2, k3⟩ := yY I hi hx hmi
          obtain ⟨a', cp', k1', k2', k3'⟩ := yY I hj hy hmj
          refine Does.mono (hok w u v ⟨a, _, cp, a', _, cp', k1, k1', ?_⟩) fun v' w' hv' => ?_
          ·by_cases n0 : jc li.length r = 0
           ·exact .inl n0
           ·by_cases m0 : jc lj.length q = 0
            ·exact .inr (.inl m0)
            ·obtain ⟨g, cur, fz, z1, z2, z3, z4, z5, z6⟩ := k3 (by omega)
             obtain ⟨g', cur', fz', y1, y2, y3, y4, y5, y6⟩ := k3' (by omega)
             have z6 := z6 rfl
             have y6 := y6 rfl
             subst z6 y6
             refine .inr (.inr ⟨g, _, cur, _, g', _, cur', _, z2, y2, fun hg => ?_, z3, y3, ?_⟩)
             ·subst hg
              exact hij (I.dis i j _ _ g hmi hmj rfl rfl (by rw [Gh.blk, z1]; rfl) (by rw [Gh.blk, y1]; rfl))
             ·have : 1 * u'.sz <= lj.length * u'.sz := Nat.mul_le_mul_right _ (by omega)
              omega
          ·obtain ⟨rfl, rfl⟩ := hv'
           exact ⟨ι, I, Ext.refl _ _ _, ak.one rfl⟩
       ·cases h
      ·cases h
     ·cases h
   | clo ts cs F =>
     simp only at h
     cases him : dA M ts (vs.take ts.length) with
     | none => rw [him] at h; cases h
     | some q =>
       obtain ⟨fr, x, z⟩ := q
       cases hc : jH M cs (vs.drop ts.length) with
       | none => rw [him, hc] at h; cases h
       | some y =>
         rw [him, hc] at h
         simp only at h
         cases hfr : (tC (F x y).res && (F x y).made.all tH) with
         | false => rw [hfr] at h; cases h
         | true =>
           rw [hfr] at h
           simp only [cond_true] at h
           cases h
           simp only [Bool.and_eq_true] at hfr
           obtain ⟨u1, u2, rfl, hv1, hv2⟩ := aP.parts ts.length hv
           obtain ⟨hz, hargs⟩ := mQ I him hv1
           refine Does.mono (hok x y u1 u2 w (fun b => b < w.heap.size) (fun _ h => h) (G.BN I.stb) (hargs _ I.stb fun id e e0 k _ he hl hk => (I.ents id e0 he).eF hl k hk) (BM I hc hv2) hp) fun v w' hR => ?_
           obtain ⟨ι2, J, hres⟩ := hR
           obtain ⟨ι', I', x', rn⟩ := Inv.call I (al := false) (nid := nid) (fun h => by cases h) J (.inr hfr.2) (fun j h1 h2 => hid j h1 (by have := pG (z := []) hbl; omega))
           exact ⟨ι', I', x', hres.ren rn (.inr hfr.1) (fun _ _ => trivial)⟩
   | pure ts al F =>
     simp only at h
     cases him : dA M ts vs with
     | none => rw [him] at h; cases h
     | some q =>
       obtain ⟨fr, x, z⟩ := q
       rw [him] at h
       simp only at h
       obtain ⟨hz, hargs⟩ := mQ I him hv
       cases al with
       | true =>
         simp only [Bool.true_or, cond_true] at h
         cases h
         obtain ⟨ι1, I1, x1, hS, hb, hc⟩ := Inv.rG z I hz
         refine Does.mono (hok x us w ι1.S I1.stb (G.BN x1.S) (hargs ι1.S x1.S fun id e e0 k hm he hl hk => (hS k).2 (.inr ⟨id, e, e0, hm, he, hl, hk⟩)) hp) fun v w' hR => ?_
         obtain ⟨ι2, J, hres⟩ := hR
         obtain ⟨ι', I', x', rn⟩ := Inv.call I1 (al := true) (nid := nid) (fun _ b hb => hb) J (.inl rfl) (hz.fresh fun j h1 h2 => hid j h1 (by have := pG hbl; omega))
         refine ⟨ι', ?_, ?_, ?_⟩
         ·rw [Store.iO]; exact I'
         ·rw [Store.iO]; exact x1.trans x'
         ·rw [Store.iO]; exact hres.ren rn (.inl rfl) (fun _ _ => trivial)
       | false =>
         cases hfr : (tC (F x).res && (F x).made.all tH) with
         | false => rw [hfr] at h; cases h
         | true =>
           rw [hfr] at h
           simp only [Bool.false_or, cond_true, cond_false, List.nil_append] at h
           cases h
           simp only [Bool.and_eq_true] at hfr
           refine Does.mono (hok x us w (fun b => ι.S b ∨ ∃ id e e0, (id, e) ∈ z /\ M.get id = some e0 /\ e0.live = true /\ ι.blk id = some b) (fun b hb => ?_) (G.BN fun b hb => .inl hb) (hargs _ (fun b hb => .inl hb) fun id e e0 k hm he hl hk => .inr ⟨id, e, e0, hm, he, hl, hk⟩) hp) fun v w' hR => ?_
           ·rcases hb with hb | ⟨id, e, e0, hm, he, hl, hk⟩
            ·exact I.stb b hb
            ·exact (I.ents id e0 he).eF hl b hk
           ·obtain ⟨ι2, J, hres⟩ := hR
            obtain ⟨ι', I', x', rn⟩ := Inv.call I (al := false) (nid := nid) (fun h => by cases h) J (.inr hfr.2) (fun j h1 h2 => hid j h1 (by have := pG (z := []) hbl; omega))
            exact ⟨ι', I', x', hres.ren rn (.inr hfr.1) (fun _ _ => trivial)⟩
theorem aP.append : ∀ {l m : List V} {us ws : List Value}, aP c ι w M l us -> aP c ι w M m ws -> aP c ι w M (l ++ m) (us ++ ws)
 | [], m, us, ws, h, k => by rw [show us = [] from h]; exact k
 | v :: r, m, us, ws, ⟨u, us', h1, h2, h3⟩, k => ⟨u, us' ++ ws, by rw [h1]; rfl, h2, h3.append k⟩
theorem Gg (I : Inv c ι w M) : ∀ {caps : List Nat}, (∀ id ∈ caps, ∃ e, M.get id = some e /\ (e = .dead ∨ ∃ ls, e = .obj ls)) -> aP c ι w M (caps.map fun i => one (.ptr i 0)) (caps.map fun id => Value.pointer (ι.base id))
 | [], _ => rfl
 | id :: r, h => by
   refine ⟨_, _, rfl, aI.one ?_, Gg I fun i hi => h i (by simp [hi])⟩
   obtain ⟨e, he, hk⟩ := h id (by simp)
   simp only [aj, he]
   rcases hk with rfl | ⟨ls, rfl⟩
   ·exact ⟨_, rfl, rfl⟩
   ·obtain ⟨b, cs, T, h1, _⟩ := I.ents id _ he
    exact ⟨b, h1, by rw [h1]⟩
theorem BO {s : St} {a : Act} (I : Inv c ι w s.M) (F : bC c ι w s a) (G : aN P cfg c ι w) {cs : List (Nat × Bool)} (hk : Holds a cs) {f : Operand} {args : Array Operand} {ts : Array TypeId} {o : Oper} (ho : o.op = .call ⟨.value f, args, ts⟩)
 {g : Nat} {caps : List Nat} {vs : List V} (hf : opl cfg s cs f = some (.fn g caps)) (ha : mg cfg s cs args.toList = some vs) :
 ∃ us : List Value, aP c ι w s.M (vs ++ caps.map fun i => one (.ptr i 0)) us /\ (execOp a.eval o).run P w = (callFunc g us.toArray).run P w := by
 obtain ⟨h1, h2⟩ := (iZ F G hk hf : aj c ι w s.M (.fn g caps) _)
 have h1 : a.eval f = .func (.func g) #[] (caps.map fun id => Value.pointer (ι.base id)).toArray := by simpa using h1
 have h3 := uY (fun x v hv => yZ F G hk hv) ha
 refine ⟨args.toList.map a.eval ++ caps.map fun id => Value.pointer (ι.base id), h3.append (Gg I h2), ?_⟩
 have e1 : args.map a.eval ++ (caps.map fun id => Value.pointer (ι.base id)).toArray = (args.toList.map a.eval ++ caps.map fun id => Value.pointer (ι.base id)).toArray := by
  apply Array.ext'; simp
 rw [<- e1]
 simp [execOp, ho, resolve, Deferred.ofValue, invoke, h1]
theorem Du {s : St} {a : Act} {o : Oper} (sums : fE P cfg) (I : Inv c ι w s.M) (F : bC c ι w s a) (G : aN P cfg c ι w) {cs : List (Nat × Bool)} (hk : Holds a cs) {nid : Nat} (hid : ∀ j, nid <= j -> j < nid + 8 -> s.M.get j = none) {ty : Nat}
 (hn : uo o.op = false) {e : Eff} (h : dB cfg s cs nid o.op ty = some e) (hbl : below (nid + 8) e.upd = true) (hp : ∀ p ∈ e.pre, p) : au P c ι w s.M a o e.sv e.upd := by
 generalize hoo : o.op = op at h hn
 cases op <;> simp only [uo] at hn <;> first | (cases hn; done) | skip
 rename_i cl
 obtain ⟨ce, args, ts⟩ := cl
 cases ce <;> simp only [uo] at hn <;> first | (cases hn; done) | skip
 rename_i f
 simp only [dB] at h
 split at h
 ·rename_i g caps vs hf ha
  obtain ⟨us, k1, k2⟩ := BO I F G hk hoo hf ha
  intro next Q hnx
  unfold Oper.wp
  rw [k2]
  exact Gf G sums I hid k1 h hbl hp o a next Q fun v w' ⟨ι', i1, i2, i3⟩ => hnx v w' ι' i1 i2 i3
 ·cases h
end
end Go.Vc
set_option linter.unusedVariables false
set_option linter.unusedSimpArgs false
namespace Go.Vc
theorem lg : ∀ {ps : List Prop} {q : Prop}, conj ps q ↔ (∀ p ∈ ps, p) /\ q
 | [], q => by simp [conj]
 | p :: r, q => by
   simp only [conj, lg (ps := r)]
   constructor
   ·rintro ⟨h1, h2, h3⟩
    exact ⟨fun x hx => (List.mem_cons.1 hx).elim (fun h => by rw [h]; exact h1) (h2 x), h3⟩
   ·rintro ⟨h1, h2⟩
    exact ⟨h1 p (by simp), fun x hx => h1 x (by simp [hx]), h2⟩
section
variable {P : Program} {c : Ctx} {ι ι' : Gh} {w w' : World} {a : Act} {o : Oper} {cfg : Cfg} {s : St}
theorem aN.mono {M M' : Store} (G : aN P cfg c ι w) (x : Ext ι w M ι' w' M') : aN P cfg c ι' w' := by
 refine ⟨fun g t y h => ?_⟩
 obtain ⟨cs, h1, h2, h3⟩ := G.glob g t y h
 exact ⟨cs, h1.mono (SF.mono x.S) (fun b hb => x.heap b hb.1), ah.mono (SF.mono x.S) (fun b hb => x.heap b hb.1) _ _ _ h2, h3⟩
theorem bC.ext {M' : Store} (F : bC c ι w s a) (x : Ext ι w s.M ι' w' M') : bC c ι' w' { s with M := M' } a :=
 ⟨F.len, fun i v h => (F.env i v h).mono x, fun y hy hk => (F.aY y hy hk).mono x, F.xG⟩
theorem iG : ∀ (l : List (Option SV)) (d i : Nat) (x : Option SV), bG (eu l d x) i = if i = d then (if d < l.length then x else none) else bG l i
 | [], d, i, x => by simp [eu, bG]
 | y :: r, 0, 0, x => by simp [eu, bG]
 | y :: r, 0, i + 1, x => by simp [eu, bG]
 | y :: r, d + 1, 0, x => by simp [eu, bG]
 | y :: r, d + 1, i + 1, x => by simp only [eu, bG, iG r d i x, List.length_cons]; simp
theorem gq : ∀ (l : List (Option SV)) (d : Nat) (x : Option SV), (eu l d x).length = l.length
 | [], d, x => rfl
 | y :: r, 0, x => rfl
 | y :: r, d + 1, x => by simp [eu, gq r d x]
theorem Gi : ∀ {l : List (Option SV)} {d : Nat}, inB l d = true -> d < l.length
 | [], d, h => by cases h
 | y :: r, 0, h => by simp
 | y :: r, d + 1, h => by simpa using Gi (l := r) (d := d) h
theorem vC {d : Nat} : ∀ {k : List (Nat × Bool)}, uM d k = true -> ∀ x ∈ k, x.1 ≠ d
 | [], _ => fun x hx => by cases hx
 | y :: r, h => by
   unfold uM at h
   cases hb : Nat.beq y.1 d with
   | true => rw [hb] at h; cases h
   | false =>
     rw [hb] at h
     intro x hx
     rcases List.mem_cons.1 hx with rfl | hx
     ·intro he; rw [he] at hb; simp at hb
     ·exact vC h x hx
theorem Gj {d : Nat} : ∀ {l : List (Nat × List (Nat × Bool) × SV)}, AP d l = true -> ∀ x ∈ l, x.1 ≠ d /\ ∀ y ∈ x.2.1, y.1 ≠ d
 | [], _ => fun x hx => by cases hx
 | (i, k, v) :: r, h => by
   unfold AP at h
   cases hb : Nat.beq i d with
   | true => rw [hb] at h; cases h
   | false =>
     cases hk : uM d k with
     | false => rw [hb, hk] at h; cases h
     | true =>
       rw [hb, hk] at h
       intro x hx
       rcases List.mem_cons.1 hx with rfl | hx
       ·exact ⟨fun he => by have he : i = d := he; rw [he] at hb; simp at hb, vC hk⟩
       ·exact Gj h x hx
theorem eval_put (a : Act) (d i : Nat) (u : Value) : (a.put (some d) u).eval (.tmp i) = if i = d /\ d < a.tmps.size then u else a.eval (.tmp i) := by
 show (a.tmps.setIfInBounds d u).getD i undef = _
 simp only [Act.eval, Array.getD_eq_getD_getElem?, Array.getElem?_setIfInBounds]
 by_cases h : d = i
 ·subst h
  by_cases hs : d < a.tmps.size
  ·simp [hs]
  ·simp [hs, Array.getElem?_eq_none (Nat.le_of_not_lt hs)]
 ·simp [h, Ne.symm h]
theorem Ae (a : Act) (d : Option Nat) (u : Value) : (a.put d u).tmps.size = a.tmps.size := by
 cases d <;> simp [Act.put]
theorem put_defers (a : Act) (d : Option Nat) (u : Value) : (a.put d u).defers = a.defers := by
 cases d <;> simp [Act.put]
theorem lW {d : Nat} {u : Value} {k : List (Nat × Bool)} (h : ∀ x ∈ k, x.1 ≠ d) : Holds (a.put (some d) u) k ↔ Holds a k := by
 constructor <;> intro hk x hx
 ·have := hk x hx
  rw [eval_put, if_neg (fun hh => h x hx hh.1)] at this; exact this
 ·rw [eval_put, if_neg (fun hh => h x hx hh.1)]; exact hk x hx
theorem bC.put (F : bC c ι w s a) {cs : List (Nat × Bool)} {dst : Option Nat} {v : SV} {t : St} {u : Value} (h : fO s cs dst v = some t) (hv : Holds a cs -> ak c ι w s.M v u) (hu : ¬ Holds a cs -> u = undef) :
 t.M = s.M /\ bC c ι w t (a.put dst u) := by
 cases dst with
 | none => cases h; exact ⟨rfl, F⟩
 | some d =>
   unfold fO at h
   simp only at h
   cases hfc : AP d s.aY with
   | false => rw [hfc] at h; cases h
   | true =>
     rw [hfc] at h
     simp only [cond_true] at h
     have hfree := Gj hfc
     have EZ : ∀ x ∈ s.aY, Holds (a.put (some d) u) x.2.1 -> ak c ι w s.M x.2.2 ((a.put (some d) u).eval (.tmp x.1)) := fun x hx hk => by
      rw [eval_put, if_neg (fun hh => (hfree x hx).1 hh.1)]
      exact F.aY x hx ((lW (hfree x hx).2).1 hk)
     have Nh : ∀ x ∈ s.aY, ¬ Holds (a.put (some d) u) x.2.1 -> (a.put (some d) u).eval (.tmp x.1) = undef := fun x hx hk => by
      rw [eval_put, if_neg (fun hh => (hfree x hx).1 hh.1)]
      exact F.xG x hx (fun hh => hk ((lW (hfree x hx).2).2 hh))
     cases cs with
     | nil =>
       cases h
       refine ⟨rfl, by rw [gq, Ae]; exact F.len, fun i v' hi => ?_, EZ, Nh⟩
       rw [iG] at hi
       rw [eval_put]
       by_cases hid : i = d
       ·rw [if_pos hid] at hi
        split at hi
        ·rename_i hlt
         cases hi
         rw [if_pos ⟨hid, Nat.lt_of_lt_of_le hlt F.len⟩]
         exact hv (fun x hx => by cases hx)
        ·cases hi
       ·rw [if_neg hid] at hi
        rw [if_neg (fun hh => hid hh.1)]
        exact F.env i v' hi
     | cons k1 kr =>
       simp only at h
       cases hb : (uM d (k1 :: kr) && inB s.env d) with
       | false => rw [hb] at h; cases h
       | true =>
         rw [hb] at h
         cases h
         simp only [Bool.and_eq_true] at hb
         have hlt := Nat.lt_of_lt_of_le (Gi hb.2) F.len
         refine ⟨rfl, by rw [gq, Ae]; exact F.len, fun i v' hi => ?_, fun x hx hk => ?_, fun x hx hk => ?_⟩
         ·rw [iG] at hi
          by_cases hid : i = d
          ·rw [if_pos hid] at hi; split at hi <;> cases hi
          ·rw [if_neg hid] at hi
           rw [eval_put, if_neg (fun hh => hid hh.1)]
           exact F.env i v' hi
         ·rcases List.mem_cons.1 hx with rfl | hx
          ·rw [eval_put, if_pos ⟨rfl, hlt⟩]
           exact hv ((lW (vC hb.1)).1 hk)
          ·exact EZ x hx hk
         ·rcases List.mem_cons.1 hx with rfl | hx
          ·rw [eval_put, if_pos ⟨rfl, hlt⟩]
           exact hu (fun hh => hk ((lW (vC hb.1)).2 hh))
          ·exact Nh x hx hk
theorem JM {ops : Array Oper} {j d : Nat} {oj : Oper} (hj : ops.toList[j]? = some oj) (hd : oj.dst = some d) (b : Bool) : (yielded ops a.tmps j == some b) = true ↔ a.eval (.tmp d) = .bool b := by
 have hj' : ops[j]? = some oj := by simpa using hj
 simp only [yielded, hj', Option.bind_some, hd, Act.eval, Array.getD_eq_getD_getElem?]
 cases h : a.tmps[d]? with
 | none => simp [undef]
 | some v => cases v <;> simp
theorem vF {M : Store} {x : Bool} {v : Value} (h : ak c ι w M (.v ⟨false, [.bool x]⟩) v) : v = .bool x := by
 have := aI.leaf (x := ⟨false, [.bool x]⟩) (l := .bool x) rfl h
 simpa [aj] using this
theorem BP {M : Store} {x : Bool} {v : Value} (h : ak c ι w M (.v ⟨false, [.kb x]⟩) v) : v = .bool x := by
 have := aI.leaf (x := ⟨false, [.kb x]⟩) (l := .kb x) rfl h
 simpa [aj] using this
theorem NI {M : Store} {v : Value} (h : ak c ι w M (.tup []) v) : v = undef := by
 obtain ⟨vs, h1, h2⟩ := h
 rw [h1, show vs = [] from h2]; rfl
theorem qK (b : Bool) : undef ≠ .bool b := by intro h; cases h
theorem pI (F : bC c ι w s a) {ops : Array Oper} {r : Option (List (Nat × Bool))} (h : iV ops.toList s o.guard = some r) :
 (Region.wanted o (yielded ops a.tmps) = true ↔ ∃ cs, r = some cs /\ Holds a cs) := by
 unfold Region.wanted
 cases hg : o.guard with
 | none => rw [hg] at h; cases h; simp [Holds]
 | some jb =>
   obtain ⟨j, b⟩ := jb
   rw [hg] at h
   unfold iV at h
   simp only at h ⊢
   cases hj : ops.toList[j]? with
   | none => rw [hj] at h; cases h
   | some oj =>
     rw [hj] at h
     simp only at h
     cases hd : oj.dst with
     | none => rw [hd] at h; cases h
     | some d =>
       rw [hd] at h
       simp only at h
       rw [JM hj hd]
       split at h
       ·rename_i k x hs
        cases h
        constructor
        ·intro he
         refine ⟨_, rfl, fun y hy => ?_⟩
         rcases List.mem_cons.1 hy with rfl | hy
         ·exact he
         ·by_cases hk : Holds a k
          ·exact hk y hy
          ·rw [F.qI hs hk] at he; exact absurd he (qK b)
        ·rintro ⟨cs, hcs, hk⟩
         cases hcs
         exact hk (d, b) (by simp)
       ·rename_i k b' hs
        cases hbb : (b' == b) with
        | true =>
          rw [hbb] at h; cases h
          have hbb : b' = b := by simpa using hbb
          subst hbb
          constructor
          ·intro he
           refine ⟨_, rfl, ?_⟩
           by_cases hk : Holds a k
           ·exact hk
           ·rw [F.qI hs hk] at he; exact absurd he (qK _)
          ·rintro ⟨cs, hcs, hk⟩
           cases hcs
           exact BP (F.slot hs hk)
        | false =>
          rw [hbb] at h; cases h
          have hbb : b' ≠ b := by simpa using hbb
          constructor
          ·intro he
           by_cases hk : Holds a k
           ·have := BP (F.slot hs hk)
            rw [this] at he; exact absurd (by simpa using he) hbb
           ·rw [F.qI hs hk] at he; exact absurd he (qK _)
          ·rintro ⟨cs, hcs, _⟩; cases hcs
       ·rename_i k hs
        cases h
        constructor
        ·intro he
         have hu : a.eval (.tmp d) = undef := by
          by_cases hk : Holds a k
          ·exact NI (F.slot hs hk)
          ·exact F.qI hs hk
         rw [hu] at he; exact absurd he (qK _)
        ·rintro ⟨cs, hcs, _⟩; cases hcs
       ·cases h
theorem KZ {M : Store} {t : Bool} {x y r : Leaf} {u : Value} (hx : t = true -> aj c ι w M x [u]) (hy : t = false -> aj c ι w M y [u]) (h : ET t x y = some r) : aj c ι w M r [u] := by
 have asb : ∀ {x y : Leaf} {r : Leaf}, (t = true -> aj c ι w M x [u]) -> (t = false -> aj c ι w M y [u]) -> (match x.asB, y.asB with | some x, some y => some (Leaf.bool (cond t x y)) | _, _ => none) = some r -> aj c ι w M r [u] := by
  intro x y r hx hy h
  split at h
  ·rename_i p q hp hq
   cases h
   cases t with
   | true => have := pX hp (hx rfl); rw [this]; rfl
   | false => have := pX hq (hy rfl); rw [this]; rfl
  ·cases h
 unfold ET at h
 split at h
 ·rename_i k a k' b
  split at h
  ·rename_i hk; subst hk
   cases h
   cases t with
   | true => exact hx rfl
   | false => exact hy rfl
  ·cases h
 ·cases h
  cases t with
  | true => exact hx rfl
  | false => exact hy rfl
 ·exact asb hx hy h
theorem DY {x p q : Operand} (ho : o.op = .pick x p q) {b : Bool} (hb : a.eval x = .bool b) : (execOp a.eval o).run P w = .ok (.value (a.eval (cond b p q))) w := by
 cases b <;> simp [execOp, ho, hb, asBool]
theorem Gl (I : Inv c ι w s.M) (F : bC c ι w s a) (G : aN P cfg c ι w) {cs : List (Nat × Bool)} (hk : Holds a cs) {x p q : Operand} (ho : o.op = .pick x p q) {e : Eff} (h : tK cfg s cs x p q = some e) :
 au P c ι w s.M a o e.sv e.upd := by
 unfold tK at h
 split at h
 ·rename_i d
  split at h
  ·rename_i k t hs
   cases hb : uJ k cs with
   | false => rw [hb] at h; cases h
   | true =>
     rw [hb] at h
     simp only [cond_true] at h
     have hv := BP (F.slot hs (pF hb hk))
     cases hd : opd cfg s cs (cond t p q) with
     | none => rw [hd] at h; cases h
     | some v =>
       rw [hd] at h; cases h
       exact au.pure I (DY ho hv) (um F G hk hd)
  ·rename_i k t hs
   cases hb : uJ k cs with
   | false => rw [hb] at h; cases h
   | true =>
     rw [hb] at h
     simp only [cond_true] at h
     have hv := vF (F.slot hs (pF hb hk))
     split at h
     ·rename_i la lb hla hlb
      cases hp : ET t la lb with
      | none => rw [hp] at h; cases h
      | some r =>
        rw [hp] at h; cases h
        refine au.pure I (DY ho hv) (ak.one (KZ (fun ht => ?_) (fun ht => ?_) hp))
        ·subst ht
         exact iZ F G (fun y hy => (List.mem_cons.1 hy).elim (fun h => by rw [h]; exact hv) (hk y)) hla
        ·subst ht
         exact iZ F G (fun y hy => (List.mem_cons.1 hy).elim (fun h => by rw [h]; exact hv) (hk y)) hlb
     ·cases h
  ·cases h
 ·cases h
end
end Go.Vc
set_option linter.unusedVariables false
set_option linter.unusedSimpArgs false
namespace Go.Vc
structure Rel (c : Ctx) (ι : Gh) (w : World) (s : St2) (a : Act) : Prop where
 inv : Inv c ι w s.s.M
 rep : bC c ι w s.s a
 fresh : ∀ j, s.next <= j -> s.s.M.get j = none
section
variable {P : Program} {c : Ctx} {ι ι' : Gh} {w w' : World} {a : Act} {o : Oper} {cfg : Cfg}
theorem au.imp {M : Store} {sv : SV} {u : List (Nat × Entry)} (h : au P c ι w M a o sv u) {next Q} (hn : ∀ v w' ι', Inv c ι' w' (M.aK u) -> Ext ι w M ι' w' (M.aK u) -> ak c ι' w' (M.aK u) sv v -> next (a.put o.dst v) w') : o.wp P a w next Q := h next Q hn
theorem nP {s : St} (tab : aH P cfg) (sums : fE P cfg) (I : Inv c ι w s.M) (F : bC c ι w s a) (G : aN P cfg c ι w) {cs : List (Nat × Bool)} (hk : Holds a cs) {nid : Nat} (hid : ∀ j, nid <= j -> j < nid + 8 -> s.M.get j = none)
 {e : Eff} (h : jX cfg s cs nid o = some e) (hp : ∀ p ∈ e.pre, p) : au P c ι w s.M a o e.sv e.upd := by
 have key : ∀ e, dB cfg s cs nid o.op o.type = some e -> below (nid + 8) e.upd = true -> (∀ p ∈ e.pre, p) -> au P c ι w s.M a o e.sv e.upd := by
  intro e h hbl hp
  cases hn : uo o.op with
  | true => exact JI tab I F G hk (hid nid (Nat.le_refl _) (by omega)) hn h hp
  | false => exact Du sums I F G hk hid hn h hbl hp
 unfold jX at h
 cases he : qo cfg s cs nid o with
 | none => rw [he] at h; cases h
 | some e' =>
   rw [he] at h
   simp only at h
   cases hb : below (nid + 8) e'.upd with
   | false => rw [hb] at h; cases h
   | true =>
     rw [hb] at h; cases h
     unfold qo at he
     split at he
     ·rename_i x p q ho
      exact Gl I F G hk ho he
     ·exact key _ he hb hp
theorem zu {s : St} {cs : List (Nat × Bool)} {nid : Nat} {e : Eff} (h : jX cfg s cs nid o = some e) : below (nid + 8) e.upd = true := by
 unfold jX at h
 cases he : qo cfg s cs nid o with
 | none => rw [he] at h; cases h
 | some e' =>
   rw [he] at h
   simp only at h
   cases hb : below (nid + 8) e'.upd with
   | false => rw [hb] at h; cases h
   | true => rw [hb] at h; cases h; exact hb
theorem y7 : ∀ {u : List (Nat × Entry)} {n : Nat}, n <= bump n u /\ ∀ p ∈ u, p.1 < bump n u
 | [], n => ⟨Nat.le_refl _, fun p hp => by cases hp⟩
 | x :: r, n => by
   unfold bump
   obtain ⟨h1, h2⟩ := y7 (u := r) (n := cond (Nat.ble n x.1) (x.1 + 1) n)
   have h3 : n <= cond (Nat.ble n x.1) (x.1 + 1) n /\ x.1 < cond (Nat.ble n x.1) (x.1 + 1) n := by
    cases hb : Nat.ble n x.1 with
    | true => have := Nat.le_of_ble_eq_true hb; simp; omega
    | false =>
      have : ¬ n <= x.1 := fun h => by rw [Nat.ble_eq_true_of_le h] at hb; cases hb
      simp; omega
   refine ⟨by omega, fun p hp => ?_⟩
   rcases List.mem_cons.1 hp with rfl | hp
   ·omega
   ·exact h2 p hp
theorem BQ {n : Nat} : ∀ {u : List (Nat × Entry)} {M : Store}, (∀ p ∈ u, p.1 < n) -> (∀ j, n <= j -> M.get j = none) -> ∀ j, n <= j -> (M.aK u).get j = none
 | [], M, _, h => h
 | x :: r, M, hb, h => by
   have hx := hb x (by simp)
   exact BQ (M := M.set x.1 x.2) (fun p hp => hb p (List.mem_cons_of_mem _ hp)) fun j hj => by rw [Store.get_set_other _ _ _ _ (by omega)]; exact h j hj
theorem Gm {n : Nat} {u : List (Nat × Entry)} {M : Store} (h : ∀ j, n <= j -> M.get j = none) : ∀ j, bump n u <= j -> (M.aK u).get j = none := by
 obtain ⟨h1, h2⟩ := y7 (u := u) (n := n)
 exact BQ h2 fun j hj => h j (by omega)
theorem Gn {s : St} (F : bC c ι w s a) : ∀ {k : List (Nat × Bool)} {p q : Prop}, under s k p = some q -> Holds a k -> q -> p
 | [], p, q, h, _, hq => by cases h; exact hq
 | (d, b) :: r, p, q, h, hk, hq => by
   unfold under at h
   split at h
   ·rename_i k' x hs
    cases hu : under s r p with
    | none => rw [hu] at h; cases h
    | some q' =>
      rw [hu] at h
      cases h
      have hd := hk (d, b) (by simp)
      refine Gn F hu (fun y hy => hk y (by simp [hy])) (hq ?_)
      by_cases hk' : Holds a k'
      ·have := vF (F.slot hs hk')
       rw [this] at hd
       simpa using hd
      ·rw [F.qI hs hk'] at hd; exact absurd hd (qK _)
   ·cases h
theorem sG {s : St} (F : bC c ι w s a) {cs : List (Nat × Bool)} (hk : Holds a cs) : ∀ {ps qs : List Prop}, jd s cs ps = some qs -> (∀ q ∈ qs, q) -> ∀ p ∈ ps, p
 | [], qs, _, _ => fun p hp => by cases hp
 | p :: r, qs, h, hq => by
   unfold jd at h
   split at h
   ·rename_i q l hu hr
    cases h
    intro x hx
    rcases List.mem_cons.1 hx with rfl | hx
    ·exact Gn F hu (fun y hy => hk y (by simpa using hy)) (hq q (by simp))
    ·exact sG F hk hr (fun y hy => hq y (by simp [hy])) x hx
   ·cases h
def Goes (c : Ctx) (ι : Gh) (w : World) (M : Store) (a : Act) (K : St2 -> Prop) (next : Act -> World -> Prop) : Prop :=
 ∀ s' a' w' ι', K s' -> Rel c ι' w' s' a' -> Ext ι w M ι' w' s'.s.M -> a'.defers = a.defers -> next a' w'
theorem Goes.trans {M M' : Store} {a' : Act} {K : St2 -> Prop} {next : Act -> World -> Prop} (h : Goes c ι w M a K next) (x : Ext ι w M ι' w' M') (hd : a'.defers = a.defers) : Goes c ι' w' M' a' K next :=
 fun s a2 w2 ι2 hk hr hx hd2 => h s a2 w2 ι2 hk hr (x.trans hx) (hd2.trans hd)
theorem Gp {s s' : St2} (tab : aH P cfg) (sums : fE P cfg) (R : Rel c ι w s a) (G : aN P cfg c ι w) {ops : Array Oper} {ps : List Prop} (h : tN cfg ops.toList s o = some (ps, s')) (hp : ∀ p ∈ ps, p)
 {next : Act -> World -> Prop} {Q : Exit -> Act -> World -> Prop} (hn : Goes c ι w s.s.M a (fun t => t = s') next) :
 if Region.wanted o (yielded ops a.tmps) then o.wp P a w next Q else next (a.put o.dst undef) w := by
 obtain ⟨I, F, fr⟩ := R
 unfold tN at h
 cases hc : iV ops.toList s.s o.guard with
 | none => rw [hc] at h; cases h
 | some r =>
   have hw := pI F hc
   rw [hc] at h
   cases r with
   | none =>
     simp only at h
     cases ht : fO s.s [] o.dst (.tup []) with
     | none => rw [ht] at h; cases h
     | some t =>
       rw [ht] at h
       cases h
       have hnw : Region.wanted o (yielded ops a.tmps) = false := by
        cases hh : Region.wanted o (yielded ops a.tmps) with
        | false => rfl
        | true => obtain ⟨cs, hcs, _⟩ := hw.1 hh; cases hcs
       rw [hnw, if_neg (by simp)]
       obtain ⟨hM, F'⟩ := F.put (u := undef) ht (fun _ => ⟨[], rfl, rfl⟩) (fun _ => rfl)
       refine hn _ _ _ ι rfl ⟨by rw [hM]; exact I, F', fun j hj => by rw [hM]; exact fr j hj⟩ (by rw [hM]; exact Ext.refl _ _ _) (put_defers ..)
   | some cs =>
     simp only at h
     cases he : jX cfg s.s cs s.next o with
     | none => rw [he] at h; cases h
     | some e =>
       rw [he] at h
       simp only at h
       split at h
       ·
        cases ht : fO { s.s with M := s.s.M.aK e.upd } [] o.dst e.sv with
        | none => rw [ht] at h; cases h
        | some t =>
          rw [ht] at h
          cases h
          have hkn : Holds a [] := fun x hx => by cases hx
          rw [hw.2 ⟨[], rfl, hkn⟩, if_pos rfl]
          refine (nP tab sums I F G hkn (fun j h1 _ => fr j h1) he hp).imp fun v w' ι' I' x hv => ?_
          obtain ⟨hM, F'⟩ := (F.ext x).put (u := v) ht (fun _ => hv) (fun hh => absurd hkn hh)
          have hb := Gm (u := e.upd) fr
          exact hn _ _ _ ι' rfl ⟨by rw [hM]; exact I', F', fun j hj => by rw [hM]; exact hb j hj⟩ (by rw [hM]; exact x) (put_defers ..)
       ·
        rename_i k1 kr hup
        split at h
        ·rename_i qs t hu ht
         cases h
         by_cases hk : Holds a (k1 :: kr)
         ·rw [hw.2 ⟨_, rfl, hk⟩, if_pos rfl]
          refine (nP tab sums I F G hk (fun j h1 _ => fr j h1) he (sG F hk hu hp)).imp fun v w' ι' I' x hv => ?_
          rw [hup] at I' x hv
          obtain ⟨hM, F'⟩ := (F.ext x).put (u := v) ht (fun _ => hv) (fun hh => absurd hk hh)
          exact hn _ _ _ ι' rfl ⟨by rw [hM]; exact I', F', fun j hj => by rw [hM]; exact fr j hj⟩ (by rw [hM]; exact x) (put_defers ..)
         ·have hnw : Region.wanted o (yielded ops a.tmps) = false := by
           cases hh : Region.wanted o (yielded ops a.tmps) with
           | false => rfl
           | true => obtain ⟨cs, hcs, hk'⟩ := hw.1 hh; cases hcs; exact absurd hk' hk
          rw [hnw, if_neg (by simp)]
          obtain ⟨hM, F'⟩ := F.put (u := undef) ht (fun hh => absurd hh hk) (fun _ => rfl)
          refine hn _ _ _ ι rfl ⟨by rw [hM]; exact I, F', fun j hj => by rw [hM]; exact fr j hj⟩ (by rw [hM]; exact Ext.refl _ _ _) (put_defers ..)
        ·cases h
       ·cases h
end
end Go.Vc
set_option linter.unusedVariables false
set_option linter.unusedSimpArgs false
namespace Go.Vc
def Fw (ro : Option Nat) : Fence := { Fence.wide with round := ro }
section
variable {ro : Option Nat} {n m : Nat} {P : Program} {Q : Exit -> Act -> World -> Prop} {a : Act} {w : World}
theorem vG {f : FuncId} {args : Array Value} {R : Ending -> World -> Prop} : CallsIn (Fw ro) n P f args w R ↔ Calls P f args w R := callsIn_wide
theorem xM {c : Code} : c.wpIn (Fw none) n P Q a w ↔ c.wp P Q a w := wpIn_wide
theorem La {row : String} {args : Array Value} {R : Value -> World -> Prop} (h : Rows P row args w R) : RowsIn (Fw ro) n P row args w R := fun c cs _ => by
 obtain ⟨v, w', r, s⟩ := h c cs
 exact ⟨v, w', r, stepsIn_wide.2 s⟩
theorem NJ {o : Oper} {next : Act -> World -> Prop} {r : Result Next} (h : o.upon P a next Q r) : o.uponIn (Fw ro) n P a next Q r := by
 cases r with
 | ok x w' =>
   cases x with
   | value v => exact h
   | skip => exact h
   | defer d => exact h
   | enter f args => exact ⟨fun hh => by simp [Fw, Fence.wide] at hh, vG.2 h⟩
   | row r args => exact ⟨fun hh => by simp [Fw, Fence.wide] at hh, La h⟩
   | round l f t x y => exact h.elim
   | _ => exact h.elim
 | halt x w' => cases x <;> exact h
theorem Gq {o : Oper} {ρ : Operand -> Value} (h : ro = none ∨ gJ o = true) : Oper.semAt ro ρ o = execOp ρ o := by
 rcases h with rfl | h
 ·rfl
 ·refine Oper.semAt_eq _ _ _ fun c hc => ?_
  unfold gJ at h
  rw [hc] at h
  cases h
theorem JO {o : Oper} {next : Act -> World -> Prop} (hd : ro = none ∨ gJ o = true) (h : o.wp P a w next Q) : o.wpIn (Fw ro) n P a w next Q := by
 refine ⟨fun _ _ => trivial, ?_⟩
 show o.uponIn (Fw ro) n P a next Q ((Oper.semAt ro a.eval o).run P w)
 rw [Gq hd]
 exact NJ h
def wpO (P : Program) (ops : Array Oper) (i : Nat) (K : Act -> World -> Prop) (a : Act) (w : World) : Prop :=
 match ops[i]? with
 | none => K a w
 | some o => if Region.wanted o (yielded ops a.tmps) then ∀ Q, o.wp P a w K Q else K (a.put o.dst undef) w
def wpA (P : Program) (ops : Array Oper) (N : Act -> World -> Prop) : Nat -> Array Bool -> Act -> World -> Prop
 | 0, listed, a, w => Region.ready .any ops listed = [] /\ N a w
 | fuel + 1, listed, a, w => (Region.ready .any ops listed = [] -> N a w) /\ ∀ i ∈ Region.ready .any ops listed, wpO P ops i (wpA P ops N fuel (listed.setIfInBounds i true)) a w
theorem OA {ops : Array Oper} {i : Nat} {K K' : Act -> World -> Prop} (hd : ro = none ∨ ops.toList.all gJ = true) (hk : ∀ a w, K a w -> K' a w) (h : wpO P ops i K a w) : wpOpIn (Fw ro) n P ops Q i K' a w := by
 unfold wpO at h
 unfold wpOpIn
 cases ho : ops[i]? with
 | none => rw [ho] at h; exact hk _ _ h
 | some o =>
   rw [ho] at h
   simp only at h ⊢
   split
   ·rename_i hw
    rw [if_pos hw] at h
    exact Oper.wpIn_mono hk (JO (hd.imp id fun hh => List.all_eq_true.1 hh o (by
     have := Array.mem_of_getElem? ho
     simpa using this)) (h Q))
   ·rename_i hw
    rw [if_neg hw] at h
    exact ⟨fun _ _ => trivial, hk _ _ h⟩
theorem Lc {ops : Array Oper} {N : Act -> World -> Prop} (hd : ro = none ∨ ops.toList.all gJ = true) (hN : ∀ a w, N a w -> Q .normal a w) : ∀ (fuel : Nat) (listed : Array Bool) (a : Act) (w : World), wpA P ops N fuel listed a w -> wpAnyIn (Fw ro) n P .any ops Q fuel listed a w
 | 0, _, _, _, h => ⟨h.1, hN _ _ h.2⟩
 | fuel + 1, _, _, _, h => ⟨fun hr => hN _ _ (h.1 hr), fun i hi => OA hd (fun a w hh => Lc hd hN fuel _ a w hh) (h.2 i hi)⟩
end
def Live (ι : Gh) (M : Store) (b : Nat) : Prop := ∃ id e, M.get id = some e /\ e.live = true /\ ι.blk id = some b
@[reducible] def Ctx.re (c : Ctx) (ι : Gh) (w : World) (M : Store) (h : c.lb <= w.heap.size) : Ctx := ⟨w, Live ι M, ι.S, c.lb, h, c.yl⟩
section
variable {c c' : Ctx} {ι ι' ι'' : Gh} {w w' w'' : World} {M M' M'' : Store}
theorem SF.ctx (h : c'.lb = c.lb) : SF c' ι = SF c ι := by unfold SF; rw [h]
theorem aj.ctx (h : c'.lb = c.lb) (hy : c'.yl = c.yl) : aj c' ι w M = aj c ι w M := by
 funext l cs
 cases l <;> simp only [aj, SF.ctx (ι := ι) h, hy]
theorem aF.ctx (h : c'.lb = c.lb) (hy : c'.yl = c.yl) : aF c' ι w M = aF c ι w M := by
 funext ls
 induction ls with
 | nil => rfl
 | cons l r ih => funext cs; simp only [aF, aj.ctx h hy, ih]
theorem aI.ctx (h : c'.lb = c.lb) (hy : c'.yl = c.yl) : aI c' ι w M = aI c ι w M := by
 funext x v; simp only [aI, aF.ctx h hy]
theorem aP.ctx (h : c'.lb = c.lb) (hy : c'.yl = c.yl) : aP c' ι w M = aP c ι w M := by
 funext l
 induction l with
 | nil => rfl
 | cons x r ih => funext vs; simp only [aP, aI.ctx h hy, ih]
theorem ak.ctx (h : c'.lb = c.lb) (hy : c'.yl = c.yl) : ak c' ι w M = ak c ι w M := by
 funext x v; cases x <;> simp only [ak, aI.ctx h hy, aP.ctx h hy]
theorem bH.ctx (h : c'.lb = c.lb) (hy : c'.yl = c.yl) : bH c' ι w M = bH c ι w M := by
 funext id e
 have hs : eH c' ι w = eH c ι w := by funext fr t n cap ys; simp only [eH, SF.ctx (ι := ι) h]
 cases e <;> simp only [bH, aF.ctx h hy, SF.ctx (ι := ι) h, h, hs]
theorem Inv.re (I : Inv c ι w M) : Inv (c.re ι w M I.kept.lb) ι w M := by
 refine ⟨⟨rfl, rfl, rfl, Nat.le_refl _, fun _ _ _ => rfl⟩, fun id e h => ?_, I.dis, fun i e k h1 h2 h3 => ⟨(I.own i e k h1 h2 h3).1, .inr ⟨i, e, h1, h2, h3⟩⟩, I.stb, fun b hb => .inl hb⟩
 rw [bH.ctx (c' := c.re ι w M I.kept.lb) (c := c) rfl rfl]
 exact I.ents id e h
theorem Inv.un (I0 : Inv c ι w M) (I : Inv (c.re ι w M I0.kept.lb) ι' w' M') : Inv c ι' w' M' := by
 have hO : ∀ k, Live ι M k -> c.w0.heap.size <= k ∨ c.O k := fun k ⟨i, e, h1, h2, h3⟩ => (I0.own i e k h1 h2 h3).2
 have hsz := I0.kept.size
 have hsz' : w.heap.size <= w'.heap.size := I.kept.size
 refine ⟨⟨I.kept.os.trans I0.kept.os, I.kept.tape.trans I0.kept.tape, I.kept.output.trans I0.kept.output, Nat.le_trans hsz hsz', fun b hb hn => ?_⟩, fun id e h => ?_, I.dis, fun i e k h1 h2 h3 => ?_, I.stb, fun b hb => ?_⟩
 ·rw [I.kept.block b (Nat.lt_of_lt_of_le hb hsz) (fun hl => by rcases hO b hl with h | h <;> first | omega | exact hn h)]
  exact I0.kept.block b hb hn
 ·rw [<- bH.ctx (c' := c.re ι w M I0.kept.lb) (c := c) rfl rfl]
  exact I.ents id e h
 ·obtain ⟨g1, g2⟩ := I.own i e k h1 h2 h3
  exact ⟨g1, g2.elim (fun h => .inl (Nat.le_trans hsz h)) (hO k)⟩
 ·rcases I.src b hb with h | h | h
  ·exact I0.src b h
  ·exact .inr (.inl (Nat.le_trans hsz h))
  ·exact .inr (hO b h)
theorem bC.ctx (h : c'.lb = c.lb) (hy : c'.yl = c.yl) {s : St} {a : Act} (F : bC c ι w s a) : bC c' ι w s a :=
 ⟨F.len, fun i v hv => by rw [ak.ctx h hy]; exact F.env i v hv, fun x hx hk => by rw [ak.ctx h hy]; exact F.aY x hx hk, F.xG⟩
theorem aN.ctx {P : Program} {cfg : Cfg} (h : c'.lb = c.lb) (G : aN P cfg c ι w) : aN P cfg c' ι w :=
 ⟨fun g t x hg => by rw [SF.ctx (ι := ι) h]; exact G.glob g t x hg⟩
theorem aN.re {P : Program} {cfg : Cfg} (G : aN P cfg c ι w) {ι1 : Gh} {w1 : World} {M1 : Store} {h : c.lb <= w1.heap.size} : aN P cfg (c.re ι1 w1 M1 h) ι w := aN.ctx (c := c) rfl G
theorem Rel.re {s : St2} {a : Act} (R : Rel c ι w s a) : Rel (c.re ι w s.s.M R.inv.kept.lb) ι w s a := ⟨R.inv.re, bC.ctx (c := c) (c' := c.re ι w s.s.M R.inv.kept.lb) rfl rfl R.rep, R.fresh⟩
theorem Rel.un {s' : St2} {a : Act} (I0 : Inv c ι w M) (R : Rel (c.re ι w M I0.kept.lb) ι' w' s' a) : Rel c ι' w' s' a := ⟨I0.un R.inv, bC.ctx (c := c.re ι w M I0.kept.lb) (c' := c) rfl rfl R.rep, R.fresh⟩
theorem Live.lt (I : Inv c ι w M) {b : Nat} (h : Live ι M b) : b < w.heap.size := by
 obtain ⟨id, e, h1, h2, h3⟩ := h
 exact (I.ents id e h1).eF h2 b h3
def Je : Obj -> Prop
 | .cells .. | .map .. | .stringIter .. => True
 | _ => False
theorem Live.cells (I : Inv c ι w M) {b : Nat} (h : Live ι M b) : ∃ o, w.heap[b]? = some o /\ Je o := by
 obtain ⟨id, e, h1, h2, h3⟩ := h
 have hE := I.ents id e h1
 cases e with
 | row e t fr ap l =>
   obtain ⟨xs, _, _, _, h⟩ := hE
   rcases h with ⟨hn, _⟩ | ⟨g, cur, fz, hb, _, hg, _⟩
   ·rw [Gh.blk, hn] at h3; cases h3
   ·rw [Gh.blk, hb] at h3
    have : g = b := by simpa using h3
    subst this; exact ⟨_, hg, trivial⟩
 | obj ls =>
   obtain ⟨g, cs, T, hb, hg, _⟩ := hE
   rw [Gh.blk, hb] at h3
   have : g = b := by simpa using h3
   subst this; exact ⟨_, hg, trivial⟩
 | hid q =>
   cases q with
   | map k v l =>
     obtain ⟨g, es, ck, hb, hg, _⟩ := hE
     rw [Gh.blk, hb] at h3
     have : g = b := by simpa using h3
     subst this; exact ⟨_, hg, trivial⟩
   | iter l p =>
     obtain ⟨g, hb, hg, _⟩ := hE
     rw [Gh.blk, hb] at h3
     have : g = b := by simpa using h3
     subst this; exact ⟨_, hg, trivial⟩
 | frz t fr l => cases h2
 | dead => cases h2
theorem Live.own (I : Inv c ι w M) {b : Nat} (h : Live ι M b) : ¬ ι.S b /\ (c.w0.heap.size <= b ∨ c.O b) := by
 obtain ⟨id, e, h1, h2, h3⟩ := h
 exact I.own id e b h1 h2 h3
structure Frm (ι : Gh) (w : World) (M : Store) (ι' : Gh) (w' : World) (M' : Store) : Prop where
 turn : Turn w w' (Live ι M)
 S : ∀ b, ι.S b -> ι'.S b
 newL : ∀ b, Live ι' M' b -> Live ι M b ∨ w.heap.size <= b
 newS : ∀ b, ι'.S b -> ι.S b ∨ Live ι M b ∨ w.heap.size <= b
theorem Frm.refl (ι : Gh) (w : World) (M : Store) : Frm ι w M ι w M := ⟨Turn.refl _ _, fun _ h => h, fun _ h => .inl h, fun _ h => .inl h⟩
theorem Frm.vH (I : Inv c ι w M) (I' : Inv (c.re ι w M I.kept.lb) ι' w' M') (hS : ∀ b, ι.S b -> ι'.S b) : Frm ι w M ι' w' M' :=
 ⟨⟨I'.kept.os, I'.kept.tape, I'.kept.output, I'.kept.size, fun k hk hn => I'.kept.block k hk hn⟩, hS, fun b hb => (Live.own I' hb).2.symm, fun b hb => (I'.src b hb).imp id fun h => h.symm⟩
theorem Frm.trans (f : Frm ι w M ι' w' M') (g : Frm ι' w' M' ι'' w'' M'') : Frm ι w M ι'' w'' M'' := by
 have hsz := f.turn.size
 refine ⟨⟨g.turn.os.trans f.turn.os, g.turn.tape.trans f.turn.tape, g.turn.output.trans f.turn.output, Nat.le_trans hsz g.turn.size, fun k hk hn => ?_⟩, fun b hb => g.S b (f.S b hb), fun b hb => ?_, fun b hb => ?_⟩
 ·rw [g.turn.block k (Nat.lt_of_lt_of_le hk hsz) (fun hl => by rcases f.newL k hl with h | h <;> first | exact hn h | omega)]
  exact f.turn.block k hk hn
 ·rcases g.newL b hb with h | h
  ·exact f.newL b h
  ·exact .inr (Nat.le_trans hsz h)
 ·rcases g.newS b hb with h | h | h
  ·exact f.newS b h
  ·exact .inr (f.newL b h)
  ·exact .inr (.inr (Nat.le_trans hsz h))
abbrev JT := List Nat -> (Nat -> Prop) -> (Nat -> Prop) -> World -> Prop
def JOk (J : JT) : Prop := ∀ i T U W T' U' W', J i T U W -> Turn W W' T -> (∀ b, U b -> U' b) -> (∀ b, T' b -> T b ∨ W.heap.size <= b) -> (∀ b, U' b -> U b ∨ T b ∨ W.heap.size <= b) ->
 (∀ b, T' b ∨ U' b -> b < W'.heap.size) -> (∀ b, T' b -> ¬ U' b) -> J i T' U' W'
theorem JOk.go {J : JT} (hJ : JOk J) {i : List Nat} (f : Frm ι w M ι' w' M') (I' : Inv c' ι' w' M') (h : J i (Live ι M) ι.S w) : J i (Live ι' M') ι'.S w' :=
 hJ _ _ _ _ _ _ _ h f.turn f.S f.newL f.newS (fun b hb => hb.elim (Live.lt I') (I'.stb b)) (fun b hb => (Live.own I' hb).1)
def J0 : JT := fun _ _ _ _ => True
theorem JQ : JOk J0 := fun _ _ _ _ _ _ _ _ _ _ _ _ _ _ => trivial
def YOk (P : Program) (J : JT) (yl : Option Nat) (es : List Ty) (els : List (aX es)) : Prop :=
 ∀ l, yl = some l -> ∀ (n k : Nat) (T U : Nat -> Prop) (W : World) (vs : List Value) (x : aX es), J [0, k] T U W -> els[k]? = some x -> eP U W es x vs -> (∀ b, T b ∨ U b -> b < W.heap.size) -> (∀ b, T b -> ¬ U b) ->
  YieldAt (Fw none) n P l vs.toArray W fun e W' => ∃ b, e = .returned (.bool b) /\ J [cond b 0 1, k + 1] T U W' /\ Turn W W' fun b => ¬ (T b ∨ U b)
structure sH (P : Program) (cfg : Cfg) (c : Ctx) (J : JT) : Prop where
 ok : JOk J
 yes : ∀ es els, cfg.els = some ⟨es, els⟩ -> YOk P J c.yl es els /\ ∀ i T U W, J i T U W -> ∀ b, ¬ c.O b -> U b
theorem sH.none {P : Program} {cfg : Cfg} {c : Ctx} (h : cfg.els = none) : sH P cfg c J0 := ⟨JQ, fun es els hh => by rw [h] at hh; cases hh⟩
theorem Inv.round (I : Inv c ι w M) (t : Turn w w' fun b => ¬ (Live ι M b ∨ ι.S b)) (hO : ∀ b, ¬ c.O b -> ι.S b) : Inv c ι w' M /\ Ext ι w M ι w' M := by
 have x : Ext ι w M ι w' M := ⟨fun _ h => h, fun b hb => t.block b (I.stb b hb) (fun h => h (.inr hb)), fun _ _ _ => ⟨rfl, rfl⟩, fun _ e h => ⟨e, h, Ev.refl e⟩⟩
 refine ⟨⟨⟨t.os.trans I.kept.os, t.tape.trans I.kept.tape, t.output.trans I.kept.output, Nat.le_trans I.kept.size t.size, fun b hb hn => ?_⟩, fun id e he => ?_, I.dis, I.own, fun b hb => Nat.lt_of_lt_of_le (I.stb b hb) t.size, I.src⟩, x⟩
 ·rw [t.block b (Nat.lt_of_lt_of_le hb I.kept.size) (fun h => h (.inr (hO b hn)))]
  exact I.kept.block b hb hn
 ·refine (I.ents id e he).mono x he fun hl k hk => ?_
  have : Live ι M k := ⟨id, e, he, hl, hk⟩
  exact t.block k (Live.lt I this) (fun h => h (.inl this))
theorem Inv.nI (I : Inv c ι w M) {f : Nat -> Prop} (t : Turn w w' f) (hf : ∀ b, f b -> Inv.Free c ι M b) : Inv c ι w' M /\ Ext ι w M ι w' M := by
 have x : Ext ι w M ι w' M := ⟨fun _ h => h, fun b hb => t.block b (I.stb b hb) (fun h => (hf b h).1 hb), fun _ _ _ => ⟨rfl, rfl⟩, fun _ e h => ⟨e, h, Ev.refl e⟩⟩
 refine ⟨⟨I.kept.turn t fun b hb => (hf b hb).2.1, fun id e he => ?_, I.dis, I.own, fun b hb => Nat.lt_of_lt_of_le (I.stb b hb) t.size, I.src⟩, x⟩
 refine (I.ents id e he).mono x he fun hl k hk => ?_
 exact t.block k (Live.lt I ⟨id, e, he, hl, hk⟩) (fun h => (hf k h).2.2 id e he hl hk)
theorem Inv.widen (I : Inv c ι w M) {T U : Nat -> Prop} (t : Turn w w' T) (hT : ∀ b, T b -> Inv.Free c ι M b) (hU : ∀ b, U b -> (ι.S b ∨ T b ∨ w.heap.size <= b) /\ b < w'.heap.size) :
 Inv c { ι with S := fun b => ι.S b ∨ U b } w' M /\ Ext ι w M { ι with S := fun b => ι.S b ∨ U b } w' M := by
 obtain ⟨I1, x1⟩ := I.nI t hT
 have x : Ext ι w M { ι with S := fun b => ι.S b ∨ U b } w' M := ⟨fun _ h => .inl h, x1.heap, fun _ _ _ => ⟨rfl, rfl⟩, fun _ e h => ⟨e, h, Ev.refl e⟩⟩
 have x2 : Ext ι w' M { ι with S := fun b => ι.S b ∨ U b } w' M := ⟨fun _ h => .inl h, fun _ _ => rfl, fun _ _ _ => ⟨rfl, rfl⟩, fun _ e h => ⟨e, h, Ev.refl e⟩⟩
 refine ⟨⟨I1.kept, fun id e he => (I1.ents id e he).mono x2 he fun _ _ _ => rfl, I.dis, fun i e k h1 h2 h3 => ⟨fun hk => ?_, (I.own i e k h1 h2 h3).2⟩, fun b hb => hb.elim (I1.stb b) fun h => (hU b h).2, fun b hb => ?_⟩, x⟩
 ·rcases hk with hk | hk
  ·exact (I.own i e k h1 h2 h3).1 hk
  ·rcases (hU k hk).1 with h | h | h
   ·exact (I.own i e k h1 h2 h3).1 h
   ·exact (hT k h).2.2 i e h1 h2 h3
   ·exact absurd (Live.lt I ⟨i, e, h1, h2, h3⟩) (by omega)
 ·rcases hb with hb | hb
  ·exact I.src b hb
  ·rcases (hU b hb).1 with h | h | h
   ·exact I.src b h
   ·exact .inr (hT b h).2.1
   ·exact .inr (.inl (Nat.le_trans I.kept.size h))
end
end Go.Vc
set_option linter.unusedVariables false
set_option linter.unusedSimpArgs false
namespace Go.Vc
section
variable {P : Program} {c : Ctx} {ι ι' : Gh} {w w' : World} {a : Act} {o : Oper} {cfg : Cfg}
theorem rP {d : Nat} {b : Bool} (hd : a.eval (.tmp d) = .bool b) : ∀ {k k' : List (Nat × Bool)}, oQ d b k = some k' -> (Holds a k ↔ Holds a k')
 | [], k', h => by cases h; exact Iff.rfl
 | (i, x) :: r, k', h => by
   unfold oQ at h
   cases hb : Nat.beq i d with
   | true =>
     rw [hb] at h
     simp only [cond_true] at h
     cases hx : (x == b) with
     | false => rw [hx] at h; cases h
     | true =>
       rw [hx] at h
       simp only [cond_true] at h
       have ih := rP hd h
       have hi : i = d := Nat.eq_of_beq_eq_true hb
       have hx : x = b := by simpa using hx
       subst hi hx
       constructor
       ·intro hk; exact ih.1 fun y hy => hk y (by simp [hy])
       ·intro hk y hy
        rcases List.mem_cons.1 hy with rfl | hy
        ·exact hd
        ·exact ih.2 hk y hy
   | false =>
     rw [hb] at h
     simp only [cond_false] at h
     cases hr : oQ d b r with
     | none => rw [hr] at h; cases h
     | some l =>
       rw [hr] at h
       cases h
       have ih := rP hd hr
       constructor
       ·intro hk y hy
        rcases List.mem_cons.1 hy with rfl | hy
        ·exact hk _ (by simp)
        ·exact ih.1 (fun z hz => hk z (by simp [hz])) y hy
       ·intro hk y hy
        rcases List.mem_cons.1 hy with rfl | hy
        ·exact hk _ (by simp)
        ·exact ih.2 (fun z hz => hk z (by simp [hz])) y hy
theorem xO {d : Nat} {b : Bool} (hd : a.eval (.tmp d) = .bool b) : ∀ {k : List (Nat × Bool)}, oQ d b k = none -> ¬ Holds a k
 | [], h => by cases h
 | (i, x) :: r, h => by
   unfold oQ at h
   intro hk
   cases hb : Nat.beq i d with
   | true =>
     rw [hb] at h
     simp only [cond_true] at h
     have hi : i = d := Nat.eq_of_beq_eq_true hb
     subst hi
     have hx := hk (i, x) (by simp)
     rw [hd] at hx
     have hx : b = x := by simpa using hx
     subst hx
     simp only [BEq.rfl, cond_true] at h
     exact xO hd h fun y hy => hk y (by simp [hy])
   | false =>
     rw [hb] at h
     simp only [cond_false] at h
     cases hr : oQ d b r with
     | some l => rw [hr] at h; cases h
     | none => exact xO hd hr fun y hy => hk y (by simp [hy])
theorem Gs {M : Store} {d : Nat} {b : Bool} (hd : a.eval (.tmp d) = .bool b) : ∀ (l : List (Nat × List (Nat × Bool) × SV)) (env : List (Option SV)), (∀ i v, bG env i = some v -> ak c ι w M v (a.eval (.tmp i))) ->
 (∀ x ∈ l, Holds a x.2.1 -> ak c ι w M x.2.2 (a.eval (.tmp x.1))) -> (∀ x ∈ l, ¬ Holds a x.2.1 -> a.eval (.tmp x.1) = undef) ->
 (learn.go d b l env).length = env.length /\ ∀ i v, bG (learn.go d b l env) i = some v -> ak c ι w M v (a.eval (.tmp i))
 | [], env, h1, _, _ => ⟨rfl, h1⟩
 | (j, k, u) :: r, env, h1, h2, h3 => by
   obtain ⟨ih1, ih2⟩ := Gs hd r env h1 (fun x hx => h2 x (by simp [hx])) (fun x hx => h3 x (by simp [hx]))
   have put : ∀ x, (ak c ι w M x (a.eval (.tmp j))) -> (cond (Nat.beq j d) (learn.go d b r env) (eu (learn.go d b r env) j (some x))).length = env.length /\
    ∀ i v, bG (cond (Nat.beq j d) (learn.go d b r env) (eu (learn.go d b r env) j (some x))) i = some v -> ak c ι w M v (a.eval (.tmp i)) := by
    intro x hx
    cases Nat.beq j d with
    | true => exact ⟨ih1, ih2⟩
    | false =>
      refine ⟨by rw [cond_false, gq]; exact ih1, fun i v hi => ?_⟩
      rw [cond_false, iG] at hi
      by_cases hij : i = j
      ·subst hij
       rw [if_pos rfl] at hi
       split at hi
       ·cases hi; exact hx
       ·cases hi
      ·rw [if_neg hij] at hi; exact ih2 i v hi
   unfold learn.go
   cases hdel : oQ d b k with
   | none =>
     have hn := xO hd hdel
     exact put _ (by rw [h3 (j, k, u) (by simp) hn]; exact ⟨[], rfl, rfl⟩)
   | some k' =>
     cases k' with
     | nil => exact put _ (h2 (j, k, u) (by simp) ((rP hd hdel).2 (fun x hx => by cases hx)))
     | cons _ _ => exact ⟨ih1, ih2⟩
theorem vI {d : Nat} {b : Bool} (hd : a.eval (.tmp d) = .bool b) : ∀ (l : List (Nat × List (Nat × Bool) × SV)), ∀ x ∈ learn.keep d b l, ∃ k, (x.1, k, x.2.2) ∈ l /\ (Holds a k ↔ Holds a x.2.1)
 | [] => fun x hx => by cases hx
 | (j, k, u) :: r => by
   intro x hx
   have ih := vI hd r
   have up : x ∈ learn.keep d b r -> ∃ k', (x.1, k', x.2.2) ∈ (j, k, u) :: r /\ (Holds a k' ↔ Holds a x.2.1) := fun h => by
    obtain ⟨k', h1, h2⟩ := ih x h
    exact ⟨k', by simp [h1], h2⟩
   unfold learn.keep at hx
   cases hdel : oQ d b k with
   | none => rw [hdel] at hx; exact up hx
   | some k' =>
     rw [hdel] at hx
     cases k' with
     | nil => exact up hx
     | cons y l =>
       simp only at hx
       cases hj : Nat.beq j d with
       | true => rw [hj] at hx; exact up hx
       | false =>
         rw [hj] at hx
         rcases List.mem_cons.1 hx with rfl | hx
         ·exact ⟨k, by simp, rP hd hdel⟩
         ·exact up hx
theorem DZ {s : St} (F : bC c ι w s a) {d : Nat} {b : Bool} (hd : a.eval (.tmp d) = .bool b) : bC c ι w (learn d b s) a := by
 have h0 : ∀ i v, bG (eu s.env d (some (.one (.kb b)))) i = some v -> ak c ι w s.M v (a.eval (.tmp i)) := by
  intro i v hi
  rw [iG] at hi
  by_cases hij : i = d
  ·subst hij
   rw [if_pos rfl] at hi
   split at hi
   ·cases hi; rw [hd]; exact ak.one rfl
   ·cases hi
  ·rw [if_neg hij] at hi; exact F.env i v hi
 obtain ⟨h1, h2⟩ := Gs hd s.aY _ h0 F.aY F.xG
 refine ⟨?_, h2, fun x hx hk => ?_, fun x hx hk => ?_⟩
 ·show (learn.go d b s.aY _).length <= _
  rw [h1, gq]; exact F.len
 ·obtain ⟨k, h3, h4⟩ := vI hd s.aY x hx
  exact F.aY (x.1, k, x.2.2) h3 (h4.2 hk)
 ·obtain ⟨k, h3, h4⟩ := vI hd s.aY x hx
  exact F.xG (x.1, k, x.2.2) h3 (fun hh => hk (h4.1 hh))
theorem zx {T : Prop} : ∀ {cs : List (Nat × Bool)} {s : St} {K : Bool -> St -> Prop}, split cs s K -> bC c ι w s a ->
 (∀ ok s', K ok s' -> s'.M = s.M -> bC c ι w s' a -> (ok = true -> Holds a cs) -> (ok = false -> ¬ Holds a cs) -> T) -> T
 | [], s, K, h, F, hT => hT true s h rfl F (fun _ x hx => by cases hx) (fun hh => by cases hh)
 | (d, b) :: r, s, K, h, F, hT => by
   unfold split at h
   refine zx h F fun ok s' hk hM F' h1 h2 => ?_
   cases ok with
   | false => exact hT false s' hk hM F' (fun hh => by cases hh) (fun _ hh => h2 rfl fun x hx => hh x (by simp [hx]))
   | true =>
     simp only at hk
     have hr := h1 rfl
     have cons : ∀ {x : Bool}, a.eval (.tmp d) = .bool x -> (x = b -> Holds a ((d, b) :: r)) /\ (x ≠ b -> ¬ Holds a ((d, b) :: r)) := fun {x} hx =>
      ⟨fun hxb y hy => (List.mem_cons.1 hy).elim (fun h => by rw [h, <- hxb]; exact hx) (hr y), fun hxb hh => by
        have := hh (d, b) (by simp)
        rw [hx] at this
        exact hxb (by simpa using this)⟩
     split at hk
     ·rename_i x he
      have hx := vF (F'.env d _ he)
      obtain ⟨c1, c2⟩ := cons hx
      cases x with
      | true =>
        simp only [cond_true] at hk
        refine hT b _ hk hM (DZ F' hx) (fun hb => c1 hb.symm) (fun hb => c2 (by rw [hb]; simp))
      | false =>
        simp only [cond_false] at hk
        refine hT (!b) _ hk hM (DZ F' hx) (fun hb => c1 (by cases b <;> simp_all)) (fun hb => c2 (by cases b <;> simp_all))
     ·rename_i x he
      have hx := BP (F'.env d _ he)
      obtain ⟨c1, c2⟩ := cons hx
      exact hT (x == b) s' hk hM F' (fun hb => c1 (by simpa using hb)) (fun hb => c2 (by simpa using hb))
     ·exact hk.elim
def BR (P : Program) (cfg : Cfg) (inl : Inl) : Prop :=
 ∀ (f : Nat) (vs : List V) (s : St2) (K : SV -> St2 -> Prop) (c : Ctx) (ι : Gh) (w : World) (us : List Value), inl f vs s K -> Inv c ι w s.s.M -> (∀ j, s.next <= j -> s.s.M.get j = none) -> aN P cfg c ι w -> aP c ι w s.s.M vs us ->
  Does P f us.toArray w fun v w' => ∃ ι' s' sv, Inv c ι' w' s'.s.M /\ Ext ι w s.s.M ι' w' s'.s.M /\ (∀ j, s'.next <= j -> s'.s.M.get j = none) /\ ak c ι' w' s'.s.M sv v /\ K sv s'
theorem D5 {M : Store} {l : Leaf} {v : Value} {n : Nat} {k : Bool} (h : AQ l = some (n, k)) (hr : aj c ι w M l [v]) : ∃ a m cp, v = .slice a m cp /\ (a = none -> n = 0) /\ (k = true -> a = none) := by
 cases l <;> simp only [AQ] at h <;> first | (cases h; done) | skip
 ·rename_i fr t l
  cases h
  obtain ⟨⟨a, m, cp, h1, h2, h3, h4⟩, _⟩ := hr
  refine ⟨a, m, cp, by simpa using h1, fun ha => ?_, fun hk => by cases hk⟩
  rcases Nat.eq_zero_or_pos m with h0 | h0
  ·rw [h2]; exact h0
  ·obtain ⟨ad, h5, _⟩ := h4 h0
   rw [ha] at h5; cases h5
 ·cases h
  have hr : [v] = [Value.slice none 0 0] := hr
  exact ⟨none, 0, 0, by simpa using hr, fun _ => rfl, fun _ => rfl⟩
theorem Gt (tab : aH P cfg) {T : Nat} (h : iQ cfg T = true) : ∃ e, P.underlying T = some (.slice e) := by
 unfold iQ at h
 split at h
 ·rename_i e _ _ _ hT
  obtain ⟨d, i, h1, _, _, _, h2, _⟩ := (tab T _ hT).ex
  have h2 : d = .slice e := h2
  exact ⟨e, by rw [h1, h2]⟩
 ·cases h
theorem rQ {T e : Nat} (hT : P.underlying T = some (.slice e)) (d : Nat) (ad : Option Addr) (m cp : Nat) : (Op.equalIn (d + 1) T (.slice ad m cp) (.slice none 0 0)).run P w = .ok ad.isNone w := by
 cases ad <;> simp only [Op.equalIn, Sem.run_bind, run_underlying hT, Result.andThen_ok] <;> rfl
theorem JR {s : St} (tab : aH P cfg) (F : bC c ι w s a) (G : aN P cfg c ι w) {e : Bool} {n : Nat} {k : Bool} (h : yL cfg s o.op = some (e, n, k)) :
 ∃ v nb, (execOp a.eval o).run P w = .ok (.value v) w /\ ak c ι w s.M (.one (.bool (cond e nb (!nb)))) v /\ (nb = true -> n = 0) /\ (k = true -> nb = true) := by
 have hkn : Holds a [] := fun x hx => by cases hx
 unfold yL at h
 split at h
 ·rename_i T x T' ho
  cases hb : iQ cfg T with
  | false => rw [hb] at h; cases h
  | true =>
    rw [hb] at h
    simp only [cond_true] at h
    obtain ⟨el, hT⟩ := Gt tab hb
    split at h
    ·rename_i l hl
     split at h
     ·rename_i n' k' hnl
      cases h
      obtain ⟨ad, m, cp, h1, h2, h3⟩ := D5 hnl (iZ F G hkn hl)
      refine ⟨.bool ad.isNone, ad.isNone, ?_, ak.one rfl, fun hh => h2 (by simpa using hh), fun hh => by simpa using h3 hh⟩
      refine gK ho ?_ ?_
      ·rw [h1]; rfl
      ·rw [h1]
       show (binOp .eql T (.slice ad m cp) (.slice none 0 0)).run P w = _
       show (do pure (Value.bool (<- Op.equalIn (9999 + 1) T (.slice ad m cp) (.slice none 0 0)))).run P w = _
       rw [Sem.run_bind, rQ hT, Result.andThen_ok]
       rfl
     ·cases h
    ·cases h
 ·rename_i T x T' ho
  cases hb : iQ cfg T with
  | false => rw [hb] at h; cases h
  | true =>
    rw [hb] at h
    simp only [cond_true] at h
    obtain ⟨el, hT⟩ := Gt tab hb
    split at h
    ·rename_i l hl
     split at h
     ·rename_i n' k' hnl
      cases h
      obtain ⟨ad, m, cp, h1, h2, h3⟩ := D5 hnl (iZ F G hkn hl)
      refine ⟨.bool (!ad.isNone), ad.isNone, ?_, ak.one rfl, fun hh => h2 (by simpa using hh), fun hh => by simpa using h3 hh⟩
      refine gK ho ?_ ?_
      ·rw [h1]; rfl
      ·rw [h1]
       show (binOp .neq T (.slice ad m cp) (.slice none 0 0)).run P w = _
       show (do pure (Value.bool (!(<- Op.equalIn (9999 + 1) T (.slice ad m cp) (.slice none 0 0))))).run P w = _
       rw [Sem.run_bind, rQ hT, Result.andThen_ok]
       rfl
     ·cases h
    ·cases h
 ·cases h
theorem JU {inl : Inl} (hinl : BR P cfg inl) {s : St2} (tab : aH P cfg) (sums : fE P cfg) (R : Rel c ι w s a) (G : aN P cfg c ι w) {ops : Array Oper} {K : St2 -> Prop} (h : slow cfg inl ops.toList o s K)
 {next : Act -> World -> Prop} {Q : Exit -> Act -> World -> Prop} (hn : Goes c ι w s.s.M a (fun s' => K s' /\ s'.ins = s.ins) next) :
 if Region.wanted o (yielded ops a.tmps) then o.wp P a w next Q else next (a.put o.dst undef) w := by
 obtain ⟨I, F, fr⟩ := R
 unfold slow at h
 cases hc : iV ops.toList s.s o.guard with
 | none => rw [hc] at h; exact h.elim
 | some r =>
   have hw := pI F hc
   rw [hc] at h
   cases r with
   | none => exact h.elim
   | some cs =>
     simp only at h
     refine zx h F fun ok s' hk hM F' h1 h2 => ?_
     have I' : Inv c ι w s'.M := by rw [hM]; exact I
     have fr' : ∀ j, s.next <= j -> s'.M.get j = none := fun j hj => by rw [hM]; exact fr j hj
     cases ok with
     | false =>
       have hnw : Region.wanted o (yielded ops a.tmps) = false := by
        cases hh : Region.wanted o (yielded ops a.tmps) with
        | false => rfl
        | true => obtain ⟨cs', hcs, hk'⟩ := hw.1 hh; cases hcs; exact absurd hk' (h2 rfl)
       rw [hnw, if_neg (by simp)]
       simp only at hk
       unfold iW at hk
       split at hk
       ·rename_i t ht
        obtain ⟨hM', F''⟩ := F'.put (u := undef) ht (fun _ => ⟨[], rfl, rfl⟩) (fun _ => rfl)
        refine hn _ _ _ ι ⟨hk, rfl⟩ ⟨by rw [hM']; exact I', F'', fun j hj => by rw [hM']; exact fr' j hj⟩ (by rw [hM', hM]; exact Ext.refl _ _ _) (put_defers ..)
       ·exact hk.elim
     | true =>
       rw [hw.2 ⟨cs, rfl, h1 rfl⟩, if_pos rfl]
       have hkn : Holds a [] := fun x hx => by cases hx
       simp only at hk
       cases he : jX cfg s' [] s.next o with
       | some e =>
         rw [he] at hk
         simp only at hk
         obtain ⟨hp, hk⟩ := lg.1 hk
         unfold iW at hk
         split at hk
         ·rename_i t ht
          refine (nP tab sums I' F' G hkn (fun j h1 _ => fr' j h1) he hp).imp fun v w' ι' I'' x hv => ?_
          obtain ⟨hM', F''⟩ := (F'.ext x).put (u := v) ht (fun _ => hv) (fun hh => absurd hkn hh)
          have hb := Gm (u := e.upd) fr'
          exact hn _ _ _ ι' ⟨hk, rfl⟩ ⟨by rw [hM']; exact I'', F'', fun j hj => by rw [hM']; exact hb j hj⟩ (by rw [hM', <- hM]; exact x) (put_defers ..)
         ·exact hk.elim
       | none =>
         rw [he] at hk
         simp only at hk
         cases hnt : yL cfg s' o.op with
         | some q =>
           obtain ⟨eq, n, k⟩ := q
           rw [hnt] at hk
           simp only at hk
           obtain ⟨v, nb, g1, g2, g3, g4⟩ := JR (P := P) (w := w) tab F' G hnt
           have hk := hk nb g3 g4
           unfold iW at hk
           split at hk
           ·rename_i t ht
            obtain ⟨hM', F''⟩ := F'.put (u := v) ht (fun _ => g2) (fun hh => absurd hkn hh)
            unfold Oper.wp
            rw [g1]
            exact hn _ _ _ ι ⟨hk, rfl⟩ ⟨by rw [hM']; exact I', F'', fun j hj => by rw [hM']; exact fr' j hj⟩ (by rw [hM', hM]; exact Ext.refl _ _ _) (put_defers ..)
           ·exact hk.elim
         | none =>
         rw [hnt] at hk
         simp only at hk
         cases hnx : Fj cfg s' o.op with
         | some q =>
           obtain ⟨id, l, p⟩ := q
           rw [hnx] at hk
           simp only at hk
           unfold Fj at hnx
           split at hnx <;> first | (cases hnx; done) | skip
           rename_i xo hop
           split at hnx <;> first | (cases hnx; done) | skip
           rename_i id' hx
           split at hnx <;> first | (cases hnx; done) | skip
           rename_i l' p' hm
           cases hnx
           obtain ⟨r1, r2⟩ := MC (act := a) I' hop hm (iZ F' G hkn hx)
           by_cases hp : p < l.length
           ·have hk := hk.1 hp
            unfold iW at hk
            split at hk
            ·rename_i t ht
             refine r1 hp _ _ fun v w' ι' I'' x hv => ?_
             obtain ⟨hM', F''⟩ := (F'.ext x).put (u := v) ht (fun _ => hv) (fun hh => absurd hkn hh)
             have hb : ∀ j, s.next <= j -> (s'.M.set id (.hid (.iter l (p + (bJ l p).2)))).get j = none := fun j hj => by
              rw [Store.get_set_other _ _ _ _ (fun e => by rw [e, <- e] at hj; have := fr' j hj; rw [e, hm] at this; cases this)]; exact fr' j hj
             exact hn _ _ _ ι' ⟨hk, rfl⟩ ⟨by rw [hM']; exact I'', F'', fun j hj => by rw [hM']; exact hb j hj⟩ (by rw [hM', <- hM]; exact x) (put_defers ..)
            ·exact hk.elim
           ·have hk := hk.2 (Nat.le_of_not_lt hp)
            unfold iW at hk
            split at hk
            ·rename_i t ht
             refine r2 (Nat.le_of_not_lt hp) _ _ fun v w' ι' I'' x hv => ?_
             obtain ⟨hM', F''⟩ := (F'.ext x).put (u := v) ht (fun _ => hv) (fun hh => absurd hkn hh)
             exact hn _ _ _ ι' ⟨hk, rfl⟩ ⟨by rw [hM']; exact I'', F'', fun j hj => by rw [hM']; exact fr' j hj⟩ (by rw [hM', <- hM]; exact x) (put_defers ..)
            ·exact hk.elim
         | none =>
         rw [hnx] at hk
         simp only at hk
         cases hwt : Fh cfg s' [] o.op with
         | none => rw [hwt] at hk; exact hk.elim
         | some wt =>
           rw [hwt] at hk
           simp only at hk
           unfold Fh at hwt
           split at hwt
           ·rename_i f args ts ho
            split at hwt
            ·rename_i g caps vs hf ha
             cases hwt
             obtain ⟨us, k1, k2⟩ := BO I' F' G hkn ho hf ha
             unfold Oper.wp
             rw [k2]
             refine hinl g _ _ _ c ι w us hk I' fr' G k1 o a next Q fun v w' hv => ?_
             obtain ⟨ι', s'', sv, i1, i2, i3, i4, hk'⟩ := hv
             unfold iW at hk'
             split at hk'
             ·rename_i t ht
              obtain ⟨hM', F''⟩ := (F'.ext i2).put (u := v) ht (fun _ => i4) (fun hh => absurd hkn hh)
              exact hn _ _ _ ι' ⟨hk', rfl⟩ ⟨by rw [hM']; exact i1, F'', fun j hj => by rw [hM']; exact i3 j hj⟩ (by rw [hM', <- hM]; exact i2) (put_defers ..)
             ·exact hk'.elim
            ·cases hwt
           ·cases hwt
theorem JV {ops : List Oper} {s s' : St2} {ps : List Prop} (h : tN cfg ops s o = some (ps, s')) : s'.ins = s.ins := by
 unfold tN at h
 split at h
 ·split at h
  ·split at h
   ·split at h
    ·cases h; rfl
    ·cases h
   ·split at h
    ·cases h; rfl
    ·cases h
   ·cases h
  ·cases h
 ·split at h
  ·cases h; rfl
  ·cases h
 ·cases h
def BU (J : JT) (cfg : Cfg) (c : Ctx) (ι : Gh) (w : World) (M : Store) (a : Act) (K : St2 -> Prop) (next : Act -> World -> Prop) : Prop :=
 ∀ s' a' w' ι', K s' -> Rel c ι' w' s' a' -> J s'.ins (Live ι' s'.s.M) ι'.S w' -> Ext ι w M ι' w' s'.s.M -> (cfg.els = none -> Frm ι w M ι' w' s'.s.M) -> a'.defers = a.defers -> next a' w'
theorem BU.trans {J : JT} {ι ι' : Gh} {w w' : World} {M M' : Store} {a a' : Act} {K : St2 -> Prop} {next : Act -> World -> Prop} (h : BU J cfg c ι w M a K next) (x : Ext ι w M ι' w' M') (f : cfg.els = none -> Frm ι w M ι' w' M') (hd : a'.defers = a.defers) : BU J cfg c ι' w' M' a' K next :=
 fun s a2 w2 ι2 hk hr hj hx hf hd2 => h s a2 w2 ι2 hk hr hj (x.trans hx) (fun he => (f he).trans (hf he)) (hd2.trans hd)
theorem Il {s : St2} {a : Act} (I : Inv c ι w s.s.M) (F : bC c ι w s.s a) (G : aN P cfg c ι w) {k : Nat} {ps : List Prop} (h : yM cfg s o = some (k, ps)) (hp : ∀ p ∈ ps, p) :
 o.guard = none /\ s.ins = [0, k] /\ ∃ es els l us x, cfg.els = some ⟨es, els⟩ /\ c.yl = some l /\ els[k]? = some x /\ eP ι.S w es x us /\ gJ o = true /\ ∀ fn tmps assign body, (Instr.yield l us.toArray).run P w = .ok (.round l fn tmps assign body) w -> (execOp a.eval o).run P w = .ok (.round l fn tmps assign body) w := by
 unfold yM at h
 split at h
 ·rename_i f args ts z k' es els hg ho hi he
  cases hz : Nat.beq z 0 with
  | false => rw [hz] at h; cases h
  | true =>
    rw [hz] at h
    have hz : z = 0 := Nat.eq_of_beq_eq_true hz
    subst hz
    simp only [cond_true] at h
    split at h
    ·rename_i hf
     split at h
     ·rename_i vs ha
      split at h
      ·rename_i fr x him
       cases h
       have hkn : Holds a [] := fun x hx => by cases hx
       obtain ⟨l, h1, h2⟩ := (iZ F G hkn hf : aj c ι w s.s.M .yld _)
       have h2 : a.eval f = .func (.yield l) #[] #[] := by simpa using h2
       have h3 := uY (fun x v hv => yZ F G hkn hv) ha
       obtain ⟨f1, hrep⟩ := mQ I him h3
       have hlt : k < els.length := hp _ (by simp)
       have hxe : els.getD k (zS es) = x := hp _ (by simp)
       have hx : els[k]? = some x := by
        rw [List.getD_eq_getElem?_getD, List.getElem?_eq_getElem hlt] at hxe
        rw [List.getElem?_eq_getElem hlt, <- hxe]; rfl
       refine ⟨hg, hi, es, els, l, args.toList.map a.eval, x, he, h1, hx, hrep ι.S (fun _ h => h) (fun id e e0 k hm => by cases hm), by unfold gJ; rw [ho], fun fn tmps assign body hy => ?_⟩
       have e1 : args.map a.eval = (args.toList.map a.eval).toArray := by
        apply Array.ext'; simp
       rw [<- e1] at hy
       simp [execOp, ho, resolve, Deferred.ofValue, invoke, h2, hy]
      ·cases h
     ·cases h
    ·cases h
 ·cases h
theorem mV {J : JT} {inl : Inl} (hinl : BR P cfg inl) (tab : aH P cfg) (sums : fE P cfg) (hy : sH P cfg c J) {ops : Array Oper} {K : St2 -> Prop} {ro : Option Nat} {n : Nat} {Q : Exit -> Act -> World -> Prop} :
 ∀ (l : List Oper) {ι : Gh} {w : World} {s : St2} {a : Act}, (ro = none ∨ l.all gJ = true) -> oz cfg inl ops.toList l s K -> Rel c ι w s a -> aN P cfg c ι w -> J s.ins (Live ι s.s.M) ι.S w -> BU J cfg c ι w s.s.M a K (Q .normal) -> wpListIn (Fw ro) n P ops Q l a w
 | [], ι, w, s, a, hd, h, R, G, j, hn => by
   obtain ⟨I, F, fr⟩ := R
   exact hn _ a w ι h ⟨I, ⟨F.len, F.env, fun _ hx => (List.not_mem_nil hx).elim, fun _ hx => (List.not_mem_nil hx).elim⟩, fr⟩ j (Ext.refl _ _ _) (fun _ => Frm.refl _ _ _) rfl
 | o :: r, ι, w, s, a, hd, h, R, G, j, hn => by
   unfold oz at h
   unfold wpListIn
   have hd1 : ro = none ∨ gJ o = true := hd.imp id fun h => by simp only [List.all_cons, Bool.and_eq_true] at h; exact h.1
   have hd2 : ro = none ∨ r.all gJ = true := hd.imp id fun h => by simp only [List.all_cons, Bool.and_eq_true] at h; exact h.2
   have I0 := R.inv
   cases hs : tN cfg ops.toList s o with
   | some q =>
     obtain ⟨ps, s'⟩ := q
     rw [hs] at h
     simp only at h
     obtain ⟨hp, h⟩ := lg.1 h
     have := fun Q' => Gp (Q := Q') (next := wpListIn (Fw ro) n P ops Q r) tab sums R.re G.re hs hp fun t a' w' ι' ht R' x hd => by
      subst ht
      have f := Frm.vH I0 R'.inv x.S
      have R2 := Rel.un I0 R'
      exact mV hinl tab sums hy r hd2 h R2 (G.mono x) (by rw [JV hs]; exact hy.ok.go f R2.inv j) (hn.trans x (fun _ => f) hd)
     split
     ·rename_i hw; have := this Q; rw [if_pos hw] at this; exact JO hd1 this
     ·rename_i hw; have := this Q; rw [if_neg hw] at this; exact ⟨fun _ _ => trivial, this⟩
   | none =>
     rw [hs] at h
     simp only at h
     cases hyd : yM cfg s o with
     | some q =>
       obtain ⟨k, ps⟩ := q
       rw [hyd] at h
       simp only at h
       obtain ⟨hp, h1, h2⟩ := lg.1 h
       obtain ⟨I, F, fr⟩ := R
       obtain ⟨hg, hi, es, els, l, us, x, he, hl, hx, hrep, hnd, hrun⟩ := Il I F G hyd hp
       obtain ⟨hyo, hO⟩ := hy.yes es els he
       rw [hi] at j
       have hwant : Region.wanted o (yielded ops a.tmps) = true := by unfold Region.wanted; rw [hg]
       rw [if_pos hwant]
       obtain ⟨fn, tmps, assign, body, hrn, qL⟩ := hyo l hl (n - 1) k _ _ w us x j hx hrep (fun b hb => hb.elim (Live.lt I) (I.stb b)) (fun b hb => (Live.own I hb).1)
       refine ⟨fun _ _ => trivial, ?_⟩
       show o.uponIn (Fw ro) n P a _ Q ((Oper.semAt ro a.eval o).run P w)
       rw [Gq hd1, hrun _ _ _ _ hrn]
       refine ⟨fun hh => by simp [Fw, Fence.wide] at hh, ?_⟩
       have qL : RoundIn (Fw ro) (n - 1) P l fn tmps assign body w _ := qL
       refine qL.mono fun e W' he' => ?_
       obtain ⟨b, rfl, j', t⟩ := he'
       obtain ⟨I', x'⟩ := I.round t (hO _ _ _ _ j)
       have hkn : Holds a [] := fun x hx => by cases hx
       show wpListIn (Fw ro) n P ops Q r (a.put o.dst (.bool b)) W'
       have fin : ∀ (b' : Bool) (z : Nat), b = b' -> z = cond b' 0 1 -> iW (fO s.s [] o.dst (.one (.kb b'))) (fun t => oz cfg inl ops.toList r { s with s := t, ins := [z, k + 1] } K) -> wpListIn (Fw ro) n P ops Q r (a.put o.dst (.bool b)) W' := by
        intro b' z hb hz hgo
        subst hb hz
        unfold iW at hgo
        split at hgo
        ·rename_i t ht
         obtain ⟨hM', F'⟩ := (F.ext x').put (u := .bool b) ht (fun _ => ak.one rfl) (fun hh => absurd hkn hh)
         have hM' : t.M = s.s.M := hM'
         refine mV hinl tab sums hy r hd2 hgo ⟨by rw [hM']; exact I', F', fun j hj => by rw [hM']; exact fr j hj⟩ (G.mono x') (by rw [hM']; exact j') ?_
         rw [hM']
         exact hn.trans x' (fun hh => by rw [he] at hh; cases hh) (put_defers ..)
        ·exact hgo.elim
       cases b with
       | true => exact fin true 0 rfl rfl h1
       | false => exact fin false 1 rfl rfl h2
     | none =>
       rw [hyd] at h
       simp only at h
       have := fun Q' => JU (Q := Q') (next := wpListIn (Fw ro) n P ops Q r) hinl tab sums R.re G.re h fun t a' w' ι' ht R' x hd => by
        have f := Frm.vH I0 R'.inv x.S
        have R2 := Rel.un I0 R'
        exact mV hinl tab sums hy r hd2 ht.1 R2 (G.mono x) (by rw [ht.2]; exact hy.ok.go f R2.inv j) (hn.trans x (fun _ => f) hd)
       split
       ·rename_i hw; have := this Q; rw [if_pos hw] at this; exact JO hd1 this
       ·rename_i hw; have := this Q; rw [if_neg hw] at this; exact ⟨fun _ _ => trivial, this⟩
end
end Go.Vc
