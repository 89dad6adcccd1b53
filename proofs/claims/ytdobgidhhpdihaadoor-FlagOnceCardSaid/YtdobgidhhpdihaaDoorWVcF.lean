/- A loop's head: rows that begin, entries that are numbered anew. -/
import Derived.Test.YtdobgidhhpdihaaDoorWVcE
import Derived.WalkKit
import Derived.ProofKit
import Derived.OpenShut
import Derived.ShutString
import Derived.ChangeOld
import Derived.SizedLaws
import Derived.Carry
import Derived.LaidMore
import Derived.Stop.Joined
import Derived.Laws.Externs
import Derived.Lib.Bytealg
import Derived.Lib.Fold
import Derived.Lib.BytesEntry
set_option linter.unusedVariables false
set_option linter.unusedSimpArgs false
namespace Go.Vc
section
variable {P : Program} {c : Ctx} {cfg : Cfg} {ι : Gh} {w : World} {s : St2} {a : Act}
theorem bC.setEnv {s : St} (F : bC c ι w s a) {d : Nat} {v : SV} (h : ak c ι w s.M v (a.eval (.tmp d))) : bC c ι w { s with env := eu s.env d (some v) } a := by
 refine ⟨by rw [gq]; exact F.len, fun i u hi => ?_, F.aY, F.xG⟩
 rw [iG] at hi
 by_cases hid : i = d
 ·subst hid
  rw [if_pos rfl] at hi
  split at hi
  ·cases hi; exact h
  ·cases hi
 ·rw [if_neg hid] at hi; exact F.env i u hi
theorem Inv.nilRow {M : Store} (I : Inv c ι w M) {nid e : Nat} {t : Ty} (hid : M.get nid = none) :
 ∃ ι', Inv c ι' w (M.set nid (.row e t true true [])) /\ Ext ι w M ι' w (M.set nid (.row e t true true [])) /\ ι'.base nid = none /\ ι'.cap nid = 0 := by
 have x := Ext.adopt I hid (f := fun _ => False) (Turn.refl w (fun _ => False)) (fun _ (h : False) => h.elim) none 0 (.row e t true true [])
 refine ⟨ι.put nid none 0, Inv.adopt I hid (f := fun _ => False) (Turn.refl w _) (fun _ (h : False) => h.elim) none 0 _ (fun a ha => by cases ha) ?_, x, by simp [Gh.put], by simp [Gh.put]⟩
 exact ⟨[], ah.ku, Valid.nil t, by simp, .inl ⟨by simp [Gh.put], by simp [Gh.put], rfl, rfl⟩⟩
theorem MK (R : Rel c ι w s a) (x : Nat × Nat) : ∃ ι', Rel c ι' w (rD cfg s x) a /\ Ext ι w s.s.M ι' w (rD cfg s x).s.M := by
 unfold rD
 split
 ·rename_i l _ _ _ t he ht
  have hv := (aI.leaf (x := ⟨false, [l]⟩) (l := l) rfl (R.rep.env x.1 _ he)).weak
  generalize l.weak = l' at hv
  split
  ·obtain ⟨ι', I', x', hb, hc⟩ := R.inv.nilRow (e := x.2) (t := t) (R.fresh s.next (Nat.le_refl _))
   refine ⟨ι', ⟨I', ?_, fun j hj => ?_⟩, x'⟩
   ·refine (R.rep.ext x').setEnv (ak.one ?_)
    simp only [aj, Store.get_set_same, hb, hc]
    exact ⟨none, hv, fun h => by omega⟩
   ·show ((s.s.M.set s.next _).get j) = none
    rw [Store.get_set_other _ _ _ _ (by have : s.next + 1 <= j := hj; omega)]
    exact R.fresh j (by have : s.next + 1 <= j := hj; omega)
  ·rename_i id
   split
   ·rename_i e t' fr l2 hm
    cases hb : Nat.beq e x.2 with
    | false => exact ⟨ι, R, Ext.refl _ _ _⟩
    | true =>
      simp only [aj, hm] at hv
      obtain ⟨ax, h1, h3⟩ := hv
      obtain ⟨ι', I', x', hr⟩ := R.inv.BG (R.fresh s.next (Nat.le_refl _)) hm (k := l2.length) (by omega) (ax := ax) h3
      rw [List.take_length] at I' x' hr
      refine ⟨ι', ⟨I', ?_, fun j hj => ?_⟩, x'⟩
      ·refine (R.rep.ext x').setEnv (ak.one ?_)
       rw [h1]; exact hr
      ·have hj' : s.next + 1 <= j := hj
       show (((s.s.M.set id _).set s.next _).get j) = none
       have hji : j ≠ id := fun hh => by rw [<- hh, R.fresh j (by omega)] at hm; cases hm
       rw [Store.get_set_other _ _ _ _ (by omega), Store.get_set_other _ _ _ _ hji]
       exact R.fresh j (by omega)
   ·exact ⟨ι, R, Ext.refl _ _ _⟩
  ·rename_i id k
   split
   ·rename_i e t' fr l2 hm
    cases hb : Nat.beq e x.2 with
    | false => exact ⟨ι, R, Ext.refl _ _ _⟩
    | true =>
      simp only [aj, hm] at hv
      obtain ⟨ax, h1, h2, h3⟩ := hv
      obtain ⟨ι', I', x', hr⟩ := R.inv.BG (R.fresh s.next (Nat.le_refl _)) hm (k := k) (by omega) (ax := ax) (fun h0 => by rw [h3 h0]; cases ι.base id <;> simp [Addr.add])
      refine ⟨ι', ⟨I', ?_, fun j hj => ?_⟩, x'⟩
      ·refine (R.rep.ext x').setEnv (ak.one ?_)
       rw [h1]; exact hr
      ·have hj' : s.next + 1 <= j := hj
       show (((s.s.M.set id _).set s.next _).get j) = none
       have hji : j ≠ id := fun hh => by rw [<- hh, R.fresh j (by omega)] at hm; cases hm
       rw [Store.get_set_other _ _ _ _ (by omega), Store.get_set_other _ _ _ _ hji]
       exact R.fresh j (by omega)
   ·exact ⟨ι, R, Ext.refl _ _ _⟩
  ·exact ⟨ι, R, Ext.refl _ _ _⟩
 ·exact ⟨ι, R, Ext.refl _ _ _⟩
theorem sJ {α : Type} (xs : List α) (o n : Nat) (h : o + n <= xs.length) : splice xs o ((xs.drop o).take n) = xs := by
 apply List.ext_getElem?
 intro j
 have hl : ((xs.drop o).take n).length = n := by rw [List.length_take, List.length_drop]; omega
 rw [fP _ _ _ (by omega), hl]
 by_cases h1 : j < o
 ·rw [if_pos h1]
 ·rw [if_neg h1]
  by_cases h2 : j < o + n
  ·rw [if_pos h2, List.getElem?_take, if_pos (by omega), List.getElem?_drop]; congr 1; omega
  ·rw [if_neg h2]
theorem Ll (R : Rel c ι w s a) (x : Nat × Nat × Nat) : ∃ ι', Rel c ι' w (oC cfg s x) a /\ Ext ι w s.s.M ι' w (oC cfg s x).s.M := by
 unfold oC
 split
 ·rename_i id off _ _ _ t he ht
  cases hm : s.s.M.get id with
  | none => exact ⟨ι, R, Ext.refl _ _ _⟩
  | some en =>
    cases en <;> simp only <;> first | exact ⟨ι, R, Ext.refl _ _ _⟩ | skip
    rename_i ls
    split
    ·rename_i ls' hl1 hl2
     cases hsh : dV ls ls' with
     | false => exact ⟨ι, R, Ext.refl _ _ _⟩
     | true =>
       obtain ⟨ι', I', x', hb, hc⟩ := R.inv.nilRow (e := x.2.2) (t := t) (R.fresh s.next (Nat.le_refl _))
       have hne : id ≠ s.next := fun hh => by rw [hh, R.fresh s.next (Nat.le_refl _)] at hm; cases hm
       have hm1 : (s.s.M.set s.next (.row x.2.2 t true true [])).get id = some (.obj ls) := by rw [Store.get_set_other _ _ _ _ hne]; exact hm
       have hev : Ev (.obj ls) (.obj ls') := lS hsh
       have tt : Turn w w (fun k => ι'.blk id = some k) := Turn.refl w _
       have xc := Ext.change I' hm1 rfl hev tt
       have hrow : ((s.s.M.set s.next (.row x.2.2 t true true [])).set id (.obj ls')).get s.next = some (.row x.2.2 t true true []) := by
        rw [Store.get_set_other _ _ _ _ (Ne.symm hne), Store.get_set_same]
       have I2 := Inv.change I' hm1 rfl hev tt (by
        obtain ⟨b, cs, T, h1, h2, h3, h4⟩ := I'.ents id _ hm1
        have h3' := h3.mono xc
        obtain ⟨k1, k2⟩ := dW hl1 h3'
        obtain ⟨c1, c2, e1, e2, e3⟩ := k1
        have e2 : c1 = [.slice none 0 0] := e2
        have e3 : c2 = [] := e3
        subst e2 e3
        have hown : aF c ι' w ((s.s.M.set s.next (.row x.2.2 t true true [])).set id (.obj ls')) [.own s.next] [.slice none 0 0] := by
         refine ⟨[.slice none 0 0], [], rfl, ?_, rfl⟩
         simp only [aj, hrow, hb, hc]; exact ⟨none, rfl, fun h => by omega⟩
        obtain ⟨q1, _⟩ := fZ hown hl2 h3' rfl
        rw [<- List.append_nil [Value.slice none 0 0], <- e1, sJ cs x.2.1 1 k2] at q1
        exact ⟨b, cs, T, h1, h2, q1, h4.shape hsh⟩)
       refine ⟨ι', ⟨I2, (R.rep.ext x').ext xc, fun j hj => ?_⟩, x'.trans xc⟩
       have hj' : s.next + 1 <= j := hj
       have hji : j ≠ id := fun hh => by rw [<- hh, R.fresh j (by omega)] at hm; cases hm
       show (((s.s.M.set s.next _).set id _).get j) = none
       rw [Store.get_set_other _ _ _ _ hji, Store.get_set_other _ _ _ _ (by omega)]
       exact R.fresh j (by omega)
    ·rename_i jr ls' hl1 hl2
     split
     ·rename_i e t' fr l hmj
      cases hb : (Nat.beq e x.2.2 && dV ls ls') with
      | false => exact ⟨ι, R, Ext.refl _ _ _⟩
      | true =>
        simp only [Bool.and_eq_true] at hb
        obtain ⟨_, hsh⟩ := hb
        obtain ⟨b, cs, T, h1, h2, h3, h4⟩ := R.inv.ents id _ hm
        obtain ⟨k1, k2⟩ := dW hl1 h3
        obtain ⟨c1, c2, e1, e2, e3⟩ := k1
        have e3 : c2 = [] := e3
        subst e3
        simp only [aj, hmj] at e2
        obtain ⟨ax, e2, e4⟩ := e2
        subst e2
        obtain ⟨ι', I', x', hr⟩ := R.inv.BG (R.fresh s.next (Nat.le_refl _)) hmj (k := l.length) (by omega) (ax := ax) e4
        rw [List.take_length] at I' x' hr
        have hne : id ≠ s.next := fun hh => by rw [hh, R.fresh s.next (Nat.le_refl _)] at hm; cases hm
        have hnj : id ≠ jr := fun hh => by rw [<- hh, hm] at hmj; cases hmj
        have hm1 : ((s.s.M.set jr .dead).set s.next (.row e t' fr true l)).get id = some (.obj ls) := by rw [Store.get_set_other _ _ _ _ hne, Store.get_set_other _ _ _ _ hnj]; exact hm
        have hev : Ev (.obj ls) (.obj ls') := lS hsh
        have tt : Turn w w (fun k => ι'.blk id = some k) := Turn.refl w _
        have xc := Ext.change I' hm1 rfl hev tt
        have hown : aF c ι' w (((s.s.M.set jr .dead).set s.next (.row e t' fr true l)).set id (.obj ls')) [.own s.next] [.slice ax l.length (ι.cap jr)] := ⟨_, [], rfl, hr.mono xc, rfl⟩
        have h3' := h3.mono (x'.trans xc)
        have I2 := Inv.change I' hm1 rfl hev tt (by
         obtain ⟨q1, _⟩ := fZ hown hl2 h3' rfl
         rw [<- List.append_nil [Value.slice ax l.length (ι.cap jr)], <- e1, sJ cs x.2.1 1 k2] at q1
         exact ⟨b, cs, T, (x'.base id _ hm).1.trans h1, h2, q1, h4.shape hsh⟩)
        refine ⟨ι', ⟨I2, (R.rep.ext x').ext xc, fun j hj => ?_⟩, x'.trans xc⟩
        have hj' : s.next + 1 <= j := hj
        have hji : j ≠ id := fun hh => by rw [<- hh, R.fresh j (by omega)] at hm; cases hm
        have hjj : j ≠ jr := fun hh => by rw [<- hh, R.fresh j (by omega)] at hmj; cases hmj
        show ((((s.s.M.set jr _).set s.next _).set id _).get j) = none
        rw [Store.get_set_other _ _ _ _ hji, Store.get_set_other _ _ _ _ (by omega), Store.get_set_other _ _ _ _ hjj]
        exact R.fresh j (by omega)
     ·exact ⟨ι, R, Ext.refl _ _ _⟩
    ·exact ⟨ι, R, Ext.refl _ _ _⟩
 ·exact ⟨ι, R, Ext.refl _ _ _⟩
theorem Frz.Lm {M : Store} {z : List (Nat × Entry)} (hz : Frz M z) {n j : Nat} (hid : ∀ j, n <= j -> M.get j = none) (hj : n <= j) : (M.aK z).get j = none :=
 hz.fresh (nid := n) (m := j + 1) (fun i hi _ => hid i hi) j hj (Nat.lt_succ_self j)
theorem ML (R : Rel c ι w s a) (x : Nat × Nat) : ∃ ι', Rel c ι' w (rE cfg s x) a /\ Ext ι w s.s.M ι' w (rE cfg s x).s.M := by
 unfold rE
 split
 ·rename_i v _ _ _ t he ht
  cases him : aG s.s.M t v.ls with
  | none => exact ⟨ι, R, Ext.refl _ _ _⟩
  | some im =>
    simp only
    cases hrest : im.rest with
    | cons _ _ => exact ⟨ι, R, Ext.refl _ _ _⟩
    | nil =>
      simp only
      cases hagg : (v.agg == t.isAgg) with
      | false => exact ⟨ι, R, Ext.refl _ _ _⟩
      | true =>
        have hagg : v.agg = t.isAgg := by simpa using hagg
        obtain ⟨cs, k1, k2⟩ := R.rep.env x.1 _ he
        have hok := fA R.inv t him k1
        have hz := hok.1
        obtain ⟨ι1, I1, x1, hb1, hc1, c1, c2, e1, e2, e3, e4⟩ := wY.frozen R.inv hok
        rw [hrest] at e2
        rw [show c2 = [] from e2, List.append_nil] at e1
        subst e1
        refine ⟨ι1, ⟨I1, (R.rep.ext x1).setEnv ⟨cs, bU (fr := false) t im.x cs (ah.mono (SF.weak (fun h => by cases h)) (fun _ _ => rfl) _ _ _ e4) e3, ?_⟩, fun j hj => ?_⟩, x1⟩
        ·show match t.isAgg with | true => _ | false => _
         rw [<- hagg]; exact k2
        ·exact hz.Lm R.fresh hj
 ·exact ⟨ι, R, Ext.refl _ _ _⟩
theorem Lp (R : Rel c ι w s a) (x : Nat × Nat × Nat) : ∃ ι', Rel c ι' w (oD cfg s x) a /\ Ext ι w s.s.M ι' w (oD cfg s x).s.M := by
 unfold oD
 split
 ·rename_i id off _ _ _ t he ht
  cases hm : s.s.M.get id with
  | none => exact ⟨ι, R, Ext.refl _ _ _⟩
  | some en =>
    cases en <;> simp only <;> first | exact ⟨ι, R, Ext.refl _ _ _⟩ | skip
    rename_i ls
    cases hg : dO ls x.2.1 t.sz with
    | none => exact ⟨ι, R, Ext.refl _ _ _⟩
    | some r =>
      simp only
      cases him : aG s.s.M t r with
      | none => exact ⟨ι, R, Ext.refl _ _ _⟩
      | some im =>
        simp only
        split
        ·rename_i ls' hrest hls
         cases hb : (dV ls ls' && im.frz.all fun p => !(Nat.beq p.1 id)) with
         | false => exact ⟨ι, R, Ext.refl _ _ _⟩
         | true =>
           simp only [Bool.and_eq_true] at hb
           obtain ⟨hsh, hall⟩ := hb
           obtain ⟨b, cs, T, h1, h2, h3, h4⟩ := R.inv.ents id _ hm
           obtain ⟨k1, k2⟩ := dW hg h3
           have hok := fA R.inv t him k1
           have hz := hok.1
           obtain ⟨ι1, I1, x1, hb1, hc1, c1, c2, e1, e2, e3, e4⟩ := wY.frozen R.inv hok
           rw [hrest] at e2
           rw [show c2 = [] from e2, List.append_nil] at e1
           have hm1 : (s.s.M.aK im.frz).get id = some (.obj ls) := by rw [gB _ _ _ hall]; exact hm
           have hev : Ev (.obj ls) (.obj ls') := lS hsh
           have tt : Turn w w (fun k => ι1.blk id = some k) := Turn.refl w _
           have xc := Ext.change I1 hm1 rfl hev tt
           have Ov : c1.length = t.sz := ah.len _ _ _ e4
           have hnew : aF c ι1 w (s.s.M.aK im.frz) (explode false t im.x) c1 := bU (fr := false) t im.x c1 (ah.mono (SF.weak (fun h => by cases h)) (fun _ _ => rfl) _ _ _ e4) e3
           obtain ⟨q1, _⟩ := fZ hnew hls (h3.mono x1) Ov
           rw [<- e1, sJ cs x.2.1 t.sz k2] at q1
           refine ⟨ι1, ⟨Inv.change I1 hm1 rfl hev tt ⟨b, cs, T, by rw [hb1]; exact h1, h2, q1.mono xc, h4.shape hsh⟩, (R.rep.ext x1).ext xc, fun j hj => ?_⟩, x1.trans xc⟩
           have hji : j ≠ id := fun hh => by rw [<- hh, R.fresh j hj] at hm; cases hm
           show (((s.s.M.aK im.frz).set id _).get j) = none
           rw [Store.get_set_other _ _ _ _ hji]
           exact hz.Lm R.fresh hj
        ·exact ⟨ι, R, Ext.refl _ _ _⟩
 ·exact ⟨ι, R, Ext.refl _ _ _⟩
theorem GZ {keep : List Nat} {f : Nat -> Nat} : ∀ {env : List (Option SV)} {n i : Nat} {v : SV}, bG (je keep f n env) i = some v -> ∃ u, mem1 (n + i) keep = true /\ bG env i = some u /\ v = uK f u
 | [], n, i, v, h => by simp [je, bG] at h
 | x :: r, n, 0, v, h => by
   simp only [je, bG] at h
   cases hm : mem1 n keep with
   | false => rw [hm] at h; cases h
   | true =>
     rw [hm] at h
     simp only [cond_true] at h
     cases x with
     | none => cases h
     | some u => cases h; exact ⟨u, rfl, rfl, rfl⟩
 | x :: r, n, i + 1, v, h => by
   simp only [je, bG] at h
   obtain ⟨u, h1, h2, h3⟩ := GZ h
   exact ⟨u, by rw [show n + (i + 1) = n + 1 + i by omega]; exact h1, h2, h3⟩
theorem zH {keep : List Nat} {f : Nat -> Nat} : ∀ {env : List (Option SV)} {n : Nat}, (je keep f n env).length = env.length
 | [], n => rfl
 | x :: r, n => by simp [je, zH]
theorem yt {env : List (Option SV)} : ∀ {keep : List Nat} {i : Nat} {v : SV}, i ∈ keep -> bG env i = some v -> ∀ x ∈ Fp v, x ∈ iM env keep
 | [], i, v, h, _ => by cases h
 | j :: r, i, v, h, he => by
   intro x hx
   unfold iM
   rcases List.mem_cons.1 h with rfl | h
   ·rw [he]; exact List.mem_append.2 (.inl hx)
   ·exact List.mem_append.2 (.inr (yt h he x hx))
theorem MN (R : Rel c ι w s a) {keep ids : List Nat} (hn : ids.Nodup) (hk : ∀ x ∈ iM s.s.env keep, x ∈ ids) (hc : ∀ x ∈ ids, ∀ e, s.s.M.get x = some e -> ∀ y ∈ o9 e, y ∈ ids) :
 ∃ ι', Rel c ι' w (Ju keep ids s) a /\ ∀ n, (∀ i, i < n -> ids[i]? = some i) -> XR n ι w s.s.M ι' w (Ju keep ids s).s.M := by
 let ι' : Gh := { S := ι.S, base := fun j => ι.base (ids.getD j 0), cap := fun j => ι.cap (ids.getD j 0) }
 have hget : ∀ j, Store.get (ay 0 (ids.map fun i => match s.s.M.get i with | some e => aT (fun i => posOf i ids) e | none => .dead)) j = (ids[j]?).map fun i => match s.s.M.get i with | some e => aT (fun i => posOf i ids) e | none => .dead := by
  intro j
  rw [dL, if_pos (Nat.zero_le _), Nat.sub_zero, List.getElem?_map]
 have hgd : ∀ j x, ids[j]? = some x -> ids.getD j 0 = x := fun j x h => by rw [List.getD_eq_getElem?_getD, h]; rfl
 have rn : Ren true (fun i => posOf i ids) (fun i => i ∈ ids) c ι w s.s.M c ι' w (ay 0 (ids.map fun i => match s.s.M.get i with | some e => aT (fun i => posOf i ids) e | none => .dead)) := by
  refine ⟨Nat.le_refl _, fun _ h => h, fun b hb _ => hb, fun _ _ => rfl, fun id e hid he => ?_⟩
  have hp := lV hid
  refine ⟨?_, ?_, ?_⟩
  ·rw [hget, hp]; simp only [Option.map_some, he]
  ·show ι.base (ids.getD (posOf id ids) 0) = _; rw [hgd _ _ hp]
  ·show ι.cap (ids.getD (posOf id ids) 0) = _; rw [hgd _ _ hp]
 have back : ∀ {j ej}, Store.get (ay 0 (ids.map fun i => match s.s.M.get i with | some e => aT (fun i => posOf i ids) e | none => .dead)) j = some ej -> ∃ x, ids[j]? = some x /\ ((∃ e, s.s.M.get x = some e /\ ej = aT (fun i => posOf i ids) e) ∨ ej = .dead) := by
  intro j ej h
  rw [hget] at h
  cases hx : ids[j]? with
  | none => rw [hx] at h; cases h
  | some x =>
    rw [hx] at h
    simp only [Option.map_some, Option.some.injEq] at h
    refine ⟨x, rfl, ?_⟩
    cases he : s.s.M.get x with
    | none => rw [he] at h; exact .inr h.symm
    | some e => rw [he] at h; exact .inl ⟨e, rfl, h.symm⟩
 have live : ∀ {j ej}, Store.get (ay 0 (ids.map fun i => match s.s.M.get i with | some e => aT (fun i => posOf i ids) e | none => .dead)) j = some ej -> ej.live = true -> ∃ x e, ids[j]? = some x /\ s.s.M.get x = some e /\ e.live = true /\ ι'.blk j = ι.blk x := by
  intro j ej h hl
  obtain ⟨x, h1, h2⟩ := back h
  rcases h2 with ⟨e, h2, rfl⟩ | rfl
  ·exact ⟨x, e, h1, h2, by rw [iF] at hl; exact hl, by simp only [Gh.blk, ι']; rw [hgd _ _ h1]⟩
  ·cases hl
 refine ⟨ι', ⟨⟨R.inv.kept, fun j ej hj => ?_, fun i j ei ej k hi hj li lj bi bj => ?_, fun i ei k hi li bi => ?_, R.inv.stb, R.inv.src⟩, ?_, fun j hj => ?_⟩, fun n hlow => ⟨fun _ h => h, fun _ _ => rfl, fun id e hid he => ?_⟩⟩
 ·obtain ⟨x, h1, h2⟩ := back hj
  rcases h2 with ⟨e, h2, rfl⟩ | rfl
  ·have hx : x ∈ ids := List.mem_of_getElem? h1
   have := bH.ren rn h2 hx (.inl rfl) (hc x hx e h2) (fun _ _ _ => rfl) (R.inv.ents x e h2)
   rw [ji hn h1] at this
   exact this
  ·trivial
 ·obtain ⟨x, e, h1, h2, h3, h4⟩ := live hi li
  obtain ⟨y, e', k1, k2, k3, k4⟩ := live hj lj
  rw [h4] at bi; rw [k4] at bj
  have := R.inv.dis x y e e' k h2 k2 h3 k3 bi bj
  subst this
  rw [<- ji hn h1, <- ji hn k1]
 ·obtain ⟨x, e, h1, h2, h3, h4⟩ := live hi li
  rw [h4] at bi
  exact R.inv.own x e k h2 h3 bi
 ·refine ⟨by show (je _ _ _ _).length <= _; rw [zH]; exact R.rep.len, fun i v hi => ?_, fun _ hx => (List.not_mem_nil hx).elim, fun _ hx => (List.not_mem_nil hx).elim⟩
  obtain ⟨u, h1, h2, rfl⟩ := GZ hi
  rw [Nat.zero_add] at h1
  exact (R.rep.env i u h2).ren rn (.inl rfl) fun y hy => hk y (yt (jh.1 h1) h2 y hy)
 ·show Store.get (ay 0 _) j = none
  rw [dL, if_pos (Nat.zero_le _), Nat.sub_zero, List.getElem?_eq_none (by rw [List.length_map]; exact hj)]
 ·have hat := hlow id hid
  have hp := ji hn hat
  obtain ⟨h1, h2, h3⟩ := rn.ent id e (List.mem_of_getElem? hat) he
  simp only [hp] at h1 h2 h3
  refine ⟨h2, h3, _, h1, ?_⟩
  cases e with
  | obj ls => exact fun off N fr t l h => ⟨fr, l, by rw [pY, h]; rfl⟩
  | _ => exact Ev.refl _
theorem mW (M : Store) : ∀ (k : Nat) (acc l : List Nat), ∃ r, reach M k acc l = acc ++ r
 | 0, acc, l => ⟨[], by simp [reach]⟩
 | k + 1, acc, [] => ⟨[], by simp [reach]⟩
 | k + 1, acc, i :: l => by
   unfold reach
   cases mem1 i acc with
   | true => exact mW M k acc l
   | false =>
     simp only [cond_false]
     split
     ·obtain ⟨r, hr⟩ := mW M k (acc ++ [i]) (l ++ o9 _)
      exact ⟨[i] ++ r, by rw [hr, List.append_assoc]⟩
     ·obtain ⟨r, hr⟩ := mW M k (acc ++ [i]) l
      exact ⟨[i] ++ r, by rw [hr, List.append_assoc]⟩
theorem Lr (R : Rel c ι w s a) (n : Nat) (keep : List Nat) : ∃ ι', Rel c ι' w (qw n keep s) a /\ XR n ι w s.s.M ι' w (qw n keep s).s.M := by
 unfold qw
 simp only
 obtain ⟨r, hr⟩ := mW s.s.M 400 (List.range n) (tY s.s.M (List.range n) ++ iM s.s.env keep)
 have hlow : ∀ i, i < n -> (reach s.s.M 400 (List.range n) (tY s.s.M (List.range n) ++ iM s.s.env keep))[i]? = some i := fun i hi => by
  rw [hr, List.getElem?_append_left (by simpa using hi), List.getElem?_range hi]
 generalize reach s.s.M 400 (List.range n) (tY s.s.M (List.range n) ++ iM s.s.env keep) = ids at hlow
 cases hb : (fJ ids && (allIn ids (iM s.s.env keep) && jm s.s.M ids ids)) with
 | false =>
   refine ⟨ι, ⟨R.inv, ⟨Nat.zero_le _, fun i v hi => by simp [bG] at hi, fun _ hx => (List.not_mem_nil hx).elim, fun _ hx => (List.not_mem_nil hx).elim⟩, R.fresh⟩, XR.iJ (Ext.refl _ _ _)⟩
 | true =>
   simp only [Bool.and_eq_true] at hb
   obtain ⟨ι', R', x⟩ := MN R (rO hb.1) (uZ hb.2.1) (vg hb.2.2)
   exact ⟨ι', R', x n hlow⟩
theorem IC (l : Leaf) : (pq l).width = l.width := by cases l <;> rfl
theorem G5 : ∀ (ls : List Leaf) (off : Nat), lat (ls.map pq) off = (lat ls off).map pq
 | [], off => by simp [lat]
 | l :: r, 0 => by simp [lat]
 | l :: r, off + 1 => by
   simp only [List.map_cons, lat, IC]
   cases Nat.ble l.width (off + 1) with
   | true => exact G5 r _
   | false => rfl
theorem ah.val {S S' : Nat -> Prop} : ∀ (t : Ty) (x : t.den) (cs : List Value), dI t = true -> ah S w t x cs -> ah S' w t x cs := by
 intro t
 induction t with
 | int k => exact fun x cs _ h => h
 | bool => exact fun x cs _ h => h
 | str => exact fun x cs _ h => h
 | unit => exact fun x cs _ h => h
 | slice e ih => intro x cs hv; cases hv
 | arr n e ih =>
   rintro x cs hv ⟨h1, ess, h2, h3, h4⟩
   exact ⟨h1, ess, h2, h3, fun i y ec hy he => ih y ec hv (h4 i y ec hy he)⟩
 | pair a b iha ihb =>
   rintro x cs hv ⟨c1, c2, h1, h2, h3⟩
   simp only [dI, Bool.and_eq_true] at hv
   exact ⟨c1, c2, h1, iha _ _ hv.1 h2, ihb _ _ hv.2 h3⟩
theorem aj.soft {M : Store} {l : Leaf} {cs : List Value} (h : aj c ι w M l cs) : aj c ι w M (pq l) cs := by
 cases l with
 | arr n fr t l =>
   cases fr with
   | true => exact h
   | false =>
     cases hv : dI t with
     | false => simpa only [pq, hv, Bool.or_false] using h
     | true =>
       simp only [pq, hv, Bool.or_true]
       exact ⟨ah.val (.arr n t) l cs hv h.1, h.2⟩
 | _ => exact h
theorem aF.soft {M : Store} : ∀ {ls : List Leaf} {cs : List Value}, aF c ι w M ls cs -> aF c ι w M (ls.map pq) cs
 | [], _, h => h
 | l :: r, cs, ⟨c1, c2, h1, h2, h3⟩ => ⟨c1, c2, h1, h2.soft, aF.soft h3⟩
theorem aI.soft {M : Store} {x : V} {v : Value} (h : aI c ι w M x v) : aI c ι w M (EW x) v := by
 obtain ⟨cs, h1, h2⟩ := h
 exact ⟨cs, h1.soft, h2⟩
theorem aP.soft {M : Store} : ∀ {l : List V} {vs : List Value}, aP c ι w M l vs -> aP c ι w M (l.map EW) vs
 | [], _, h => h
 | x :: r, vs, ⟨v, ws, h1, h2, h3⟩ => ⟨v, ws, h1, h2.soft, aP.soft h3⟩
theorem ak.soft {M : Store} {x : SV} {v : Value} (h : ak c ι w M x v) : ak c ι w M (KJ x) v := by
 cases x with
 | v x => exact aI.soft h
 | tup l =>
   obtain ⟨vs, h1, h2⟩ := h
   exact ⟨vs, h1, h2.soft⟩
theorem rV : ∀ (M : Store) (id : Nat), (uN M).get id = (M.get id).map AV
 | [], _ => rfl
 | (i, e) :: r, id => by
   simp only [uN, Store.get]
   cases Nat.beq i id with
   | true => rfl
   | false => exact rV r id
theorem Cj (e : Entry) : (AV e).live = e.live := by cases e <;> rfl
theorem Ej : ∀ (l : List (Option SV)) (i : Nat), bG (l.map AX) i = AX (bG l i)
 | [], i => rfl
 | x :: r, 0 => rfl
 | x :: r, i + 1 => Ej r i
theorem NQ (R : Rel c ι w s a) : Rel c ι w (soft s) a /\ Ext ι w s.s.M ι w (soft s).s.M := by
 have x : Ext ι w s.s.M ι w (uN s.s.M) := ⟨fun _ h => h, fun _ _ => rfl, fun _ _ _ => ⟨rfl, rfl⟩, fun id e he => ⟨AV e, by rw [rV, he]; rfl, by
  cases e with
  | obj ls => exact fun off N fr t l h => ⟨fr || dI t, l, by rw [G5, h]; rfl⟩
  | _ => exact Ev.refl _⟩⟩
 have old : ∀ {id e}, (uN s.s.M).get id = some e -> ∃ e0, s.s.M.get id = some e0 /\ e = AV e0 := by
  intro id e he
  rw [rV] at he
  cases h : s.s.M.get id with
  | none => rw [h] at he; cases he
  | some e0 => rw [h] at he; cases he; exact ⟨e0, rfl, rfl⟩
 refine ⟨⟨⟨R.inv.kept, fun id e he => ?_, fun i j ei ej k hi hj li lj bi bj => ?_, fun i e k hi li bi => ?_, R.inv.stb, R.inv.src⟩, ⟨by show (List.map AX s.s.env).length <= _; rw [List.length_map]; exact R.rep.len, fun i v hi => ?_, fun _ hx => (List.not_mem_nil hx).elim, fun _ hx => (List.not_mem_nil hx).elim⟩, fun j hj => ?_⟩, x⟩
 ·obtain ⟨e0, h1, rfl⟩ := old he
  have := bH.mono x h1 (fun _ _ _ => rfl) (R.inv.ents id e0 h1)
  cases e0 with
  | obj ls =>
    obtain ⟨b, cs, T, k1, k2, k3, k4⟩ := this
    exact ⟨b, cs, T, k1, k2, k3.soft, k4.map fun l => by cases l <;> first | rfl | exact DR⟩
  | _ => exact this
 ·obtain ⟨e0, h1, rfl⟩ := old hi
  obtain ⟨e1, h2, rfl⟩ := old hj
  rw [Cj] at li lj
  exact R.inv.dis i j e0 e1 k h1 h2 li lj bi bj
 ·obtain ⟨e0, h1, rfl⟩ := old hi
  rw [Cj] at li
  exact R.inv.own i e0 k h1 li bi
 ·have hi : bG (List.map AX s.s.env) i = some v := hi
  rw [Ej] at hi
  cases h : bG s.s.env i with
  | none => rw [h] at hi; cases hi
  | some u =>
    rw [h] at hi; cases hi
    exact ((R.rep.env i u h).mono x).soft
 ·show (uN s.s.M).get j = none
  rw [rV, R.fresh j hj]; rfl
theorem NR (R : Rel c ι w s a) (x : Nat) : ∃ ι', Rel c ι' w (wQ s x) a /\ Ext ι w s.s.M ι' w (wQ s x).s.M := by
 unfold wQ
 split
 ·rename_i id he
  split
  ·rename_i e t fr ap l hm
   have hv := aI.leaf (x := ⟨false, [.own id]⟩) (l := .own id) rfl (R.rep.env x _ he)
   simp only [aj, hm] at hv
   obtain ⟨ax, h1, h2⟩ := hv
   refine ⟨ι, ⟨R.inv, R.rep.setEnv (ak.one ?_), R.fresh⟩, Ext.refl _ _ _⟩
   simp only [aj, hm]
   refine ⟨ax, h1, by omega, fun h0 => ?_⟩
   rw [h2 h0]; cases ι.base id <;> simp [Addr.add]
  ·exact ⟨ι, R, Ext.refl _ _ _⟩
 ·exact ⟨ι, R, Ext.refl _ _ _⟩
theorem G6 (cfg : Cfg) (n : Nat) (k : Keep) : kG cfg n k := by
 intro c ι w s a R
 have w1 : ∀ (l : List (Nat × Nat)) {ι : Gh} {s : St2}, Rel c ι w s a -> ∃ ι', Rel c ι' w (l.foldl (rD cfg) s) a /\ Ext ι w s.s.M ι' w (l.foldl (rD cfg) s).s.M := by
  intro l
  induction l with
  | nil => intro ι s R; exact ⟨ι, R, Ext.refl _ _ _⟩
  | cons x r ih =>
    intro ι s R
    obtain ⟨ι1, R1, x1⟩ := MK (cfg := cfg) R x
    obtain ⟨ι2, R2, x2⟩ := ih R1
    exact ⟨ι2, R2, x1.trans x2⟩
 have w2 : ∀ (l : List (Nat × Nat × Nat)) {ι : Gh} {s : St2}, Rel c ι w s a -> ∃ ι', Rel c ι' w (l.foldl (oC cfg) s) a /\ Ext ι w s.s.M ι' w (l.foldl (oC cfg) s).s.M := by
  intro l
  induction l with
  | nil => intro ι s R; exact ⟨ι, R, Ext.refl _ _ _⟩
  | cons x r ih =>
    intro ι s R
    obtain ⟨ι1, R1, x1⟩ := Ll (cfg := cfg) R x
    obtain ⟨ι2, R2, x2⟩ := ih R1
    exact ⟨ι2, R2, x1.trans x2⟩
 have w3 : ∀ (l : List (Nat × Nat)) {ι : Gh} {s : St2}, Rel c ι w s a -> ∃ ι', Rel c ι' w (l.foldl (rE cfg) s) a /\ Ext ι w s.s.M ι' w (l.foldl (rE cfg) s).s.M := by
  intro l
  induction l with
  | nil => intro ι s R; exact ⟨ι, R, Ext.refl _ _ _⟩
  | cons x r ih =>
    intro ι s R
    obtain ⟨ι1, R1, x1⟩ := ML (cfg := cfg) R x
    obtain ⟨ι2, R2, x2⟩ := ih R1
    exact ⟨ι2, R2, x1.trans x2⟩
 have w4 : ∀ (l : List (Nat × Nat × Nat)) {ι : Gh} {s : St2}, Rel c ι w s a -> ∃ ι', Rel c ι' w (l.foldl (oD cfg) s) a /\ Ext ι w s.s.M ι' w (l.foldl (oD cfg) s).s.M := by
  intro l
  induction l with
  | nil => intro ι s R; exact ⟨ι, R, Ext.refl _ _ _⟩
  | cons x r ih =>
    intro ι s R
    obtain ⟨ι1, R1, x1⟩ := Lp (cfg := cfg) R x
    obtain ⟨ι2, R2, x2⟩ := ih R1
    exact ⟨ι2, R2, x1.trans x2⟩
 obtain ⟨ι1, R1, x1⟩ := w1 k.wake R
 obtain ⟨ι2, R2, x2⟩ := w2 k.MZ R1
 obtain ⟨ι3, R3, x3⟩ := w3 k.calm R2
 obtain ⟨ι4, R4, x4⟩ := w4 k.Na R3
 have w5 : ∀ (l : List Nat) {ι : Gh} {s : St2}, Rel c ι w s a -> ∃ ι', Rel c ι' w (l.foldl wQ s) a /\ Ext ι w s.s.M ι' w (l.foldl wQ s).s.M := by
  intro l
  induction l with
  | nil => intro ι s R; exact ⟨ι, R, Ext.refl _ _ _⟩
  | cons x r ih =>
    intro ι s R
    obtain ⟨ι1, R1, x1⟩ := NR R x
    obtain ⟨ι2, R2, x2⟩ := ih R1
    exact ⟨ι2, R2, x1.trans x2⟩
 obtain ⟨ι4', R4', x4'⟩ := w5 k.Oi R4
 obtain ⟨ι5, R5, x5⟩ := Lr R4' n k.keep
 obtain ⟨R6, x6⟩ := NQ R5
 exact ⟨ι5, R6, ((XR.iJ ((((x1.trans x2).trans x3).trans x4).trans x4')).trans x5).trans (XR.iJ x6)⟩
end
end Go.Vc
set_option linter.unusedVariables false
set_option linter.unusedSimpArgs false
namespace Go.Vc
section
variable {c : Ctx} {ι ι' : Gh} {w : World} {M M' : Store}
structure nV (c : Ctx) (ι : Gh) (w : World) (M : Store) (ι' : Gh) (M' : Store) (mt : Mt) : Prop where
 ps : ∀ p ∈ mt.ps, p
 bind : ∀ x ∈ mt.bind, ι'.base x.1 = ι.base x.2 /\ ι'.cap x.1 = ι.cap x.2 /\ ∃ e, M'.get x.1 = some e /\ (e = .dead ∨ ∃ a, M.get x.2 = some a /\ ((∃ e0 t fr ap l fr', e = .row e0 t fr ap l /\ a = .row e0 t fr' ap l) ∨ (∃ ls ls', e = .obj ls /\ a = .obj ls') ∨ ∃ t fr l fr', e = .frz t fr l /\ a = .frz t fr' l))
 S : ∀ b, ι.S b -> ι'.S b
 gone : ∀ id ∈ mt.gone, ∀ e k, M.get id = some e -> e.live = true -> ι.blk id = some k -> ι'.S k
theorem SF.sub {fr fr' : Bool} (hS : ∀ b, ι.S b -> ι'.S b) (h : (!fr' || fr) = true) : ∀ b, SF c ι fr b -> SF c ι' fr' b := by
 intro b hb
 refine ⟨hS b hb.1, fun hf => hb.2 ?_⟩
 subst hf
 simpa using h
theorem Ku (I : Inv c ι w M) {a l : Leaf} {mt : Mt} (h : wV M a l = some mt) (H : nV c ι w M ι' M' mt) {cs : List Value} (hr : aj c ι w M a cs) : aj c ι' w M' l cs := by
 have hr := hr.weak
 unfold wV at h
 generalize a.weak = a at h hr
 have low : ∀ {fr fr' : Bool} {t : Ty} {y : t.den} {ds : List Value}, (!fr' || fr) = true -> ah (SF c ι fr) w t y ds -> ah (SF c ι' fr') w t y ds := fun hf hp => ah.mono (SF.sub H.S hf) (fun _ _ => rfl) _ _ _ hp
 have OJ : ∀ {fr fr' : Bool} {t : Ty} {y : t.den} {ds : List Value}, (!fr' || fr) = true -> ah (SF c ι' fr) w t y ds -> ah (SF c ι' fr') w t y ds := fun hf hp => ah.mono (SF.sub (fun _ h => h) hf) (fun _ _ => rfl) _ _ _ hp
 cases a <;> cases l <;> simp only [Dc] at h <;> first | (cases h; done) | skip
 case int.int k x k' y =>
  split at h
  ·rename_i hk; subst hk; cases h
   have : x = y := H.ps _ (by simp)
   subst this; exact hr
  ·cases h
 case bool.bool x y =>
  cases h
  have : x = y := H.ps _ (by simp)
  subst this; exact hr
 case kb.bool x y =>
  cases h
  have : x = y := H.ps _ (by simp)
  subst this; exact hr
 case str.str x y =>
  cases h
  have : x = y := H.ps _ (by simp)
  subst this; exact hr
 case psl.psl fr t l fr' t' l' =>
  split at h
  ·rename_i ht; subst ht
   cases hf : (!fr' || fr) with
   | false => rw [hf] at h; cases h
   | true =>
     rw [hf] at h; cases h
     have : l = l' := H.ps _ (by simp)
     subst this
     exact ⟨low hf hr.1, hr.2⟩
  ·cases h
 case arr.arr n fr t l n' fr' t' l' =>
  split at h
  ·rename_i ht; subst ht
   split at h
   ·rename_i hn; subst hn
    cases hf : (!fr' || fr) with
    | false => rw [hf] at h; cases h
    | true =>
      rw [hf] at h; cases h
      have : l = l' := H.ps _ (by simp)
      subst this
      exact ⟨low hf hr.1, hr.2⟩
   ·cases h
  ·cases h
 case cZ.psl fr' t' l' =>
  cases h
  have : [] = l' := H.ps _ (by simp)
  subst this
  rw [show cs = _ from hr]
  exact ⟨ah.rH _ _ _, Valid.nil _⟩
 case own.psl id fr' t' l' =>
  simp only [aj] at hr
  cases hm : M.get id with
  | none => rw [hm] at h; cases h
  | some en =>
    rw [hm] at h hr
    cases en <;> simp only at h hr <;> first | (cases h; done) | skip
    ·rename_i e0 t fr ap l
     split at h
     ·rename_i ht; subst ht
      cases hf : (!fr' || fr) with
      | false => rw [hf] at h; cases h
      | true =>
        rw [hf] at h; cases h
        have : l = l' := H.ps _ (by simp)
        subst this
        have hE := (I.ents id _ hm).slice H.S (fun k hk => H.gone id (by simp) _ k hm rfl hk)
        obtain ⟨ax, hr1, hr2⟩ := hr
        rw [hr1]
        exact ⟨OJ hf (hE.1.hdr hr2), hE.2⟩
     ·cases h
    ·rename_i t fr l
     split at h
     ·rename_i ht; subst ht
      cases hf : (!fr' || fr) with
      | false => rw [hf] at h; cases h
      | true =>
        rw [hf] at h; cases h
        have : l = l' := H.ps _ (by simp)
        subst this
        have hE := I.ents id _ hm
        obtain ⟨ax, hr1, hr2⟩ := hr
        rw [hr1]
        exact ⟨low hf (hE.1.hdr hr2), hE.2⟩
     ·cases h
 case sl.psl id lo n fr' t' l' =>
  simp only [aj] at hr
  cases hm : M.get id with
  | none => rw [hm] at h; cases h
  | some en =>
    rw [hm] at h hr
    cases en <;> simp only at h hr <;> first | (cases h; done) | skip
    ·rename_i e0 t fr ap l
     split at h
     ·rename_i ht; subst ht
      cases hf : (!fr' || fr) with
      | false => rw [hf] at h; cases h
      | true =>
        rw [hf] at h; cases h
        have : (l.drop lo).take n = l' := H.ps _ (by simp)
        subst this
        obtain ⟨a, e1, e2, e3⟩ := hr
        have hE := (I.ents id _ hm).slice H.S (fun k hk => H.gone id (by simp) _ k hm rfl hk)
        rw [e1]
        exact ⟨OJ hf (ah.part hE.1 e2 e3), hE.2.part _ _⟩
     ·cases h
    ·rename_i t fr l
     split at h
     ·rename_i ht; subst ht
      cases hf : (!fr' || fr) with
      | false => rw [hf] at h; cases h
      | true =>
        rw [hf] at h; cases h
        have : (l.drop lo).take n = l' := H.ps _ (by simp)
        subst this
        obtain ⟨a, e1, e2, e3⟩ := hr
        have hE := I.ents id _ hm
        rw [e1]
        exact ⟨low hf (ah.part hE.1 e2 e3), hE.2.part _ _⟩
     ·cases h
 case own.own id j =>
  cases h
  obtain ⟨hb, hc, e, h1, h3⟩ := H.bind (j, id) (by simp)
  rcases h3 with rfl | ⟨a, h2, h3⟩
  ·have h1' := hr.one
   have h2' := hr.len
   simp only [aj, h1]
   obtain ⟨v, rfl⟩ := List.length_eq_one_iff.1 h2'
   exact ⟨v, rfl, h1' v (by simp)⟩
  ·simp only [aj, h1, h2] at hr ⊢
   rcases h3 with ⟨_, _, _, _, _, _, rfl, rfl⟩ | ⟨_, _, rfl, rfl⟩ | ⟨_, _, _, _, rfl, rfl⟩
   ·rw [hb, hc]; exact hr
   ·exact hr
   ·rw [hb, hc]; exact hr
 case sl.sl id lo n j lo' n' =>
  cases h
  have e1 : lo = lo' := H.ps _ (by simp)
  have e2 : n = n' := H.ps _ (by simp)
  subst e1 e2
  obtain ⟨hb, hc, e, h1, h3⟩ := H.bind (j, id) (by simp)
  rcases h3 with rfl | ⟨a, h2, h3⟩
  ·have h1' := hr.one
   have h2' := hr.len
   simp only [aj, h1]
   obtain ⟨v, rfl⟩ := List.length_eq_one_iff.1 h2'
   exact ⟨v, rfl, h1' v (by simp)⟩
  ·simp only [aj, h1, h2] at hr ⊢
   rcases h3 with ⟨_, _, _, _, _, _, rfl, rfl⟩ | ⟨_, _, rfl, rfl⟩ | ⟨_, _, _, _, rfl, rfl⟩
   ·rw [hb, hc]; exact hr
   ·exact hr
   ·rw [hb, hc]; exact hr
 case cZ.vw j lo n =>
  cases h
  have h0 : n = 0 := H.ps _ (by simp)
  subst h0
  have hr : cs = [.slice none 0 0] := hr
  simp only [aj]
  split <;> first | exact ⟨(none, 0), hr, Nat.le_refl 0, fun h => by omega⟩ | exact ⟨_, hr, rfl⟩
 case sl.vw id lo n j lo' n' =>
  cases h
  have e1 : lo = lo' := H.ps _ (by simp)
  have e2 : n = n' := H.ps _ (by simp)
  subst e1 e2
  obtain ⟨hb, hc, e, h1, h3⟩ := H.bind (j, id) (by simp)
  rcases h3 with rfl | ⟨a, h2, h3⟩
  ·have h1' := hr.one
   have h2' := hr.len
   simp only [aj, h1]
   obtain ⟨v, rfl⟩ := List.length_eq_one_iff.1 h2'
   exact ⟨v, rfl, h1' v (by simp)⟩
  ·have hE := I.ents id _ h2
   simp only [aj, h1, h2] at hr ⊢
   rcases h3 with ⟨_, _, _, _, _, _, rfl, rfl⟩ | ⟨_, _, rfl, rfl⟩ | ⟨_, _, _, _, rfl, rfl⟩
   ·obtain ⟨a, k1, k2, k3⟩ := hr
    obtain ⟨b, cp, g1, g2, _⟩ := iE.Bh hE k2 (a := a) k3
    have hcap : n <= ι.cap id - lo := by
     simp only [Value.slice.injEq] at g1
     obtain ⟨_, g3, g4⟩ := g1
     omega
    exact ⟨(a, _), k1, hcap, fun h0 => ⟨k2, by rw [hb]; exact k3 (by omega)⟩⟩
   ·exact hr.elim
   ·obtain ⟨a, k1, k2, k3⟩ := hr
    obtain ⟨b, cp, g1, g2, _⟩ := iE.of_slice (hE.1.part k2 k3)
    have hcap : n <= ι.cap id - lo := by
     simp only [Value.slice.injEq] at g1
     obtain ⟨_, g3, g4⟩ := g1
     omega
    exact ⟨(a, _), k1, hcap, fun h0 => ⟨k2, by rw [hb]; exact k3 (by omega)⟩⟩
 case ptr.ptr id o j o' =>
  cases ho : Nat.beq o o' with
  | false => rw [ho] at h; cases h
  | true =>
    rw [ho] at h; cases h
    have ho := Nat.eq_of_beq_eq_true ho
    subst ho
    obtain ⟨hb, hc, e, h1, h3⟩ := H.bind (j, id) (by simp)
    rcases h3 with rfl | ⟨a, h2, h3⟩
    ·have h1' := hr.one
     have h2' := hr.len
     simp only [aj, h1]
     obtain ⟨v, rfl⟩ := List.length_eq_one_iff.1 h2'
     exact ⟨v, rfl, h1' v (by simp)⟩
    ·simp only [aj, h1, h2] at hr ⊢
     rcases h3 with ⟨_, _, _, _, _, _, rfl, rfl⟩ | ⟨_, _, rfl, rfl⟩ | ⟨_, _, _, _, rfl, rfl⟩
     ·exact hr
     ·rw [hb]; exact hr
     ·exact hr
 case cZ.cZ => exact hr
 case dG.dG => exact hr
 case cO.cO => exact hr
 case l7.l7 => exact hr
theorem nV.part {m1 m2 : Mt} (H : nV c ι w M ι' M' m1) (hp : ∀ p ∈ m2.ps, p ∈ m1.ps) (hb : ∀ x ∈ m2.bind, x ∈ m1.bind) (hg : ∀ x ∈ m2.gone, x ∈ m1.gone) : nV c ι w M ι' M' m2 :=
 ⟨fun p h => H.ps p (hp p h), fun x h => H.bind x (hb x h), H.S, fun id h => H.gone id (hg id h)⟩
theorem join_some {a b : Option Mt} {m : Mt} (h : Mt.join a b = some m) : ∃ x y, a = some x /\ b = some y /\ m = ⟨x.ps ++ y.ps, x.bind ++ y.bind, x.gone ++ y.gone⟩ := by
 cases a <;> cases b <;> simp only [Mt.join] at h <;> first | (cases h; done) | skip
 cases h; exact ⟨_, _, rfl, rfl, rfl⟩
theorem sN (I : Inv c ι w M) : ∀ {as ls : List Leaf} {mt : Mt}, iY M as ls = some mt -> nV c ι w M ι' M' mt -> ∀ {cs : List Value}, aF c ι w M as cs -> aF c ι' w M' ls cs
 | [], [], mt, _, _, cs, hr => hr
 | [], _ :: _, mt, h, _, cs, hr => by simp [iY] at h
 | _ :: _, [], mt, h, _, cs, hr => by simp [iY] at h
 | a :: r, l :: s, mt, h, H, cs, ⟨c1, c2, h1, h2, h3⟩ => by
   simp only [iY] at h
   obtain ⟨x, y, hx, hy, rfl⟩ := join_some h
   exact ⟨c1, c2, h1, Ku I hx (H.part (by simp +contextual) (by simp +contextual) (by simp +contextual)) h2,
    sN I hy (H.part (by simp +contextual) (by simp +contextual) (by simp +contextual)) h3⟩
theorem Cm (I : Inv c ι w M) {a b : V} {mt : Mt} (h : AZ M a b = some mt) (H : nV c ι w M ι' M' mt) {v : Value} (hr : aI c ι w M a v) : aI c ι' w M' b v := by
 unfold AZ at h
 cases hag : (a.agg == b.agg) with
 | false => rw [hag] at h; cases h
 | true =>
   rw [hag] at h
   have hag : a.agg = b.agg := by simpa using hag
   obtain ⟨cs, h1, h2⟩ := hr
   exact ⟨cs, sN I h H h1, by rw [<- hag]; exact h2⟩
theorem zI (I : Inv c ι w M) : ∀ {as ls : List V} {mt : Mt}, pV M as ls = some mt -> nV c ι w M ι' M' mt -> ∀ {vs : List Value}, aP c ι w M as vs -> aP c ι' w M' ls vs
 | [], [], mt, _, _, vs, hr => hr
 | [], _ :: _, mt, h, _, vs, hr => by simp [pV] at h
 | _ :: _, [], mt, h, _, vs, hr => by simp [pV] at h
 | a :: r, l :: s, mt, h, H, vs, ⟨v, ws, h1, h2, h3⟩ => by
   simp only [pV] at h
   obtain ⟨x, y, hx, hy, rfl⟩ := join_some h
   exact ⟨v, ws, h1, Cm I hx (H.part (by simp +contextual) (by simp +contextual) (by simp +contextual)) h2,
    zI I hy (H.part (by simp +contextual) (by simp +contextual) (by simp +contextual)) h3⟩
theorem IE (I : Inv c ι w M) {a b : SV} {mt : Mt} (h : yR M a b = some mt) (H : nV c ι w M ι' M' mt) {v : Value} (hr : ak c ι w M a v) : ak c ι' w M' b v := by
 cases a <;> cases b <;> simp only [yR] at h <;> first | (cases h; done) | skip
 ·exact Cm I h H hr
 ·obtain ⟨vs, h1, h2⟩ := hr
  exact ⟨vs, h1, zI I h H h2⟩
theorem Kv {a b : Leaf} {mt : Mt} (h : wV M a b = some mt) : ∀ n, jB b = some n -> jB a = some n := by
 intro n hn
 unfold jB at hn
 split at hn
 ·cases hn
  cases a <;> simp only [wV, Leaf.weak, Dc] at h <;> first | (cases h; done) | skip
  split at h
  ·rename_i ht; subst ht
   split at h
   ·rename_i hN; subst hN; rfl
   ·cases h
  ·cases h
 ·cases hn
theorem zJ {T : Nat} : ∀ {as ls : List Leaf} {mt : Mt}, iY M as ls = some mt -> bF T as -> bF T ls
 | [], [], mt, _, k => k
 | [], _ :: _, mt, h, _ => by simp [iY] at h
 | _ :: _, [], mt, h, _ => by simp [iY] at h
 | a :: r, l :: s, mt, h, k => by
   simp only [iY] at h
   obtain ⟨x, y, hx, hy, rfl⟩ := join_some h
   exact bF.cons (fun n hn => k.head n (Kv hx n hn)) (zJ hy k.tail)
theorem Kw (I : Inv c ι w M) {id j : Nat} {a e : Entry} {mt : Mt} (h : fK M a e = some mt) (H : nV c ι w M ι' M' mt) (ha : M.get id = some a) (hb : ι'.base j = ι.base id) (hc : ι'.cap j = ι.cap id) : bH c ι' w M' j e := by
 have hE := I.ents id a ha
 have low : ∀ {fr fr' : Bool} {t : Ty} {y : t.den} {ds : List Value}, (!fr' || fr) = true -> ah (SF c ι fr) w t y ds -> ah (SF c ι' fr') w t y ds := fun hf hp => ah.mono (SF.sub H.S hf) (fun _ _ => rfl) _ _ _ hp
 cases e with
 | hid q => cases a <;> simp only [fK] at h <;> cases h
 | dead => trivial
 | row e0 t fr ap l =>
   cases a <;> simp only [fK] at h <;> first | (cases h; done) | skip
   rename_i e1 t1 fr1 ap1 l1
   split at h
   ·rename_i ht; subst ht
    cases hf : (Nat.beq e1 e0 && (!fr || fr1) && (ap == ap1)) with
    | false => rw [hf] at h; cases h
    | true =>
      rw [hf] at h; cases h
      simp only [Bool.and_eq_true] at hf
      obtain ⟨⟨f1, f2⟩, f3⟩ := hf
      have f1 : e1 = e0 := Nat.eq_of_beq_eq_true f1
      have f3 : ap = ap1 := by simpa using f3
      subst f1 f3
      have : l1 = l := H.ps _ (by simp)
      subst this
      obtain ⟨xs, h1, h2, h3⟩ := hE
      refine ⟨xs, low f2 h1, h2, ?_⟩
      rw [hb, hc]
      refine ⟨h3.1, ?_⟩
      rcases h3.2 with hn | ⟨g, cur, fz, k1, k2, k3, k4, k5, k6, k7, k8, k9, k10⟩
      ·exact .inl hn
      ·refine .inr ⟨g, cur, fz, k1, Nat.le_trans ?_ k2, k3, k4, k5, k6, k7, k8, k9, fun hap => (k10 hap).gen (SF.sub H.S f2) (fun _ _ => rfl)⟩
       cases fr
       ·exact Nat.zero_le _
       ·simp at f2; subst f2; exact Nat.le_refl _
   ·cases h
 | frz t fr l =>
   cases a <;> simp only [fK] at h <;> first | (cases h; done) | skip
   rename_i t1 fr1 l1
   split at h
   ·rename_i ht; subst ht
    cases hf : (!fr || fr1) with
    | false => rw [hf] at h; cases h
    | true =>
      rw [hf] at h; cases h
      have : l1 = l := H.ps _ (by simp)
      subst this
      obtain ⟨h1, h2⟩ := hE
      refine ⟨?_, h2⟩
      rw [hb, hc]; exact low hf h1
   ·cases h
 | obj ls =>
   cases a <;> simp only [fK] at h <;> first | (cases h; done) | skip
   obtain ⟨b, cs, T, h1, h2, h3, h4⟩ := hE
   exact ⟨b, cs, T, by rw [hb]; exact h1, h2, sN I h H h3, zJ h h4⟩
theorem sO {j x : Nat} : ∀ {l r : List (Nat × Nat)}, bW j l = some x -> bW j (l ++ r) = some x
 | [], r, h => by cases h
 | (i, y) :: l, r, h => by
   simp only [List.cons_append, bW] at h ⊢
   cases hb : Nat.beq i j with
   | true => rw [hb] at h; exact h
   | false => rw [hb] at h; exact sO h
theorem jw {j x : Nat} : ∀ {l : List (Nat × Nat)}, bW j l = some x -> (j, x) ∈ l
 | [], h => by cases h
 | (i, y) :: l, h => by
   simp only [bW] at h
   cases hb : Nat.beq i j with
   | true => rw [hb] at h; cases h; rw [Nat.eq_of_beq_eq_true hb]; simp
   | false => rw [hb] at h; exact List.mem_cons_of_mem _ (jw h)
theorem vU : ∀ {es : List Entry} {j : Nat} {m m' : Mt}, pW M j es m = some m' ->
 (∀ p ∈ m.ps, p ∈ m'.ps) /\ (∃ r, m'.bind = m.bind ++ r) /\ (∀ g ∈ m.gone, g ∈ m'.gone) /\
 ∀ (i : Nat) e, es[i]? = some e -> e = .dead ∨ ∃ id a x, bW (j + i) m'.bind = some id /\ M.get id = some a /\ fK M a e = some x /\ (∀ p ∈ x.ps, p ∈ m'.ps) /\ (∀ y ∈ x.bind, y ∈ m'.bind) /\ ∀ g ∈ x.gone, g ∈ m'.gone
 | [], j, m, m', h => by
   cases h
   exact ⟨fun _ h => h, ⟨[], by simp⟩, fun _ h => h, fun i e h => by simp at h⟩
 | e :: r, j, m, m', h => by
   unfold pW at h
   cases hl : bW j m.bind with
   | some id =>
     rw [hl] at h
     simp only at h
     cases hm : M.get id with
     | none => rw [hm] at h; cases h
     | some a =>
       rw [hm] at h
       simp only at h
       cases hx : fK M a e with
       | none => rw [hx] at h; cases h
       | some x =>
         rw [hx] at h
         simp only at h
         obtain ⟨h1, ⟨r', h2⟩, h3, h4⟩ := vU h
         refine ⟨fun p hp => h1 p (by simp [hp]), ⟨x.bind ++ r', by rw [h2, List.append_assoc]⟩, fun g hg => h3 g (by simp [hg]), fun i e' he => ?_⟩
         cases i with
         | zero =>
           simp at he; subst he
           refine .inr ⟨id, a, x, ?_, hm, hx, fun p hp => h1 p (by simp [hp]), fun y hy => by rw [h2]; simp [hy], fun g hg => h3 g (by simp [hg])⟩
           rw [h2, List.append_assoc]; exact sO hl
         | succ i =>
           have := h4 i e' (by simpa using he)
           rw [show j + 1 + i = j + (i + 1) by omega] at this
           exact this
   | none =>
     rw [hl] at h
     simp only at h
     cases e <;> simp only at h <;> first | (cases h; done) | skip
     obtain ⟨h1, h2, h3, h4⟩ := vU h
     refine ⟨h1, h2, h3, fun i e' he => ?_⟩
     cases i with
     | zero => simp at he; exact .inl he.symm
     | succ i =>
       have := h4 i e' (by simpa using he)
       rw [show j + 1 + i = j + (i + 1) by omega] at this
       exact this
theorem Aj : ∀ {l acc b : List (Nat × Nat)}, dedup acc l = some b -> (∃ r, b = acc ++ r) /\ (∀ x ∈ l, bW x.1 b = some x.2)
 | [], acc, b, h => by cases h; exact ⟨⟨[], by simp⟩, fun x hx => by cases hx⟩
 | (j, i) :: r, acc, b, h => by
   unfold dedup at h
   cases hl : bW j acc with
   | some i' =>
     rw [hl] at h
     simp only at h
     cases hb : Nat.beq i i' with
     | false => rw [hb] at h; cases h
     | true =>
       rw [hb] at h
       have hb := Nat.eq_of_beq_eq_true hb
       subst hb
       obtain ⟨⟨r', h1⟩, h2⟩ := Aj h
       refine ⟨⟨r', h1⟩, fun x hx => ?_⟩
       rcases List.mem_cons.1 hx with rfl | hx
       ·rw [h1]; exact sO hl
       ·exact h2 x hx
   | none =>
     rw [hl] at h
     simp only at h
     obtain ⟨⟨r', h1⟩, h2⟩ := Aj h
     refine ⟨⟨(j, i) :: r', by rw [h1]; simp⟩, fun x hx => ?_⟩
     rcases List.mem_cons.1 hx with rfl | hx
     ·have : ∀ (l r : List (Nat × Nat)), bW j l = none -> bW j (l ++ (j, i) :: r) = some i := by
       intro l
       induction l with
       | nil => intro r _; simp [bW]
       | cons y l ih =>
         intro r hn
         simp only [bW, List.cons_append] at hn ⊢
         cases hb : Nat.beq y.1 j with
         | true => rw [hb] at hn; cases hn
         | false => rw [hb] at hn; exact ih r hn
      rw [h1, List.append_assoc]; exact this acc r' hl
     ·exact h2 x hx
end
end Go.Vc
set_option linter.unusedVariables false
set_option linter.unusedSimpArgs false
namespace Go.Vc
section
variable {P : Program} {c : Ctx} {cfg : Cfg} {ι : Gh} {w : World} {a : Act}
theorem oK {es : List Entry} : ∀ {b : List (Nat × Nat)} {p : Nat × Nat}, p ∈ b -> wW es p.1 = true -> p ∈ pz es b
 | [], _, h, _ => h
 | q :: r, p, h, hp => by
   unfold pz
   rcases List.mem_cons.1 h with rfl | h
   ·rw [hp]; simp
   ·cases wW es q.1 with
    | true => exact List.mem_cons_of_mem _ (oK h hp)
    | false => exact oK h hp
theorem MO {b : List (Nat × Nat)} (hn : (b.map (·.2)).Nodup) {i j x : Nat} (m1 : (i, x) ∈ b) (m2 : (j, x) ∈ b) : i = j := by
 induction b with
 | nil => cases m1
 | cons y r ih =>
   rw [List.map_cons, List.nodup_cons] at hn
   rcases List.mem_cons.1 m1 with e1 | m1 <;> rcases List.mem_cons.1 m2 with e2 | m2
   ·rw [<- e1] at e2; cases e2; rfl
   ·exfalso; refine hn.1 (List.mem_map.2 ⟨_, m2, ?_⟩); rw [<- e1]
   ·exfalso; refine hn.1 (List.mem_map.2 ⟨_, m1, ?_⟩); rw [<- e2]
   ·exact ih hn.2 m1 m2
theorem IG {M : Store} {a e : Entry} {x : Mt} (h : fK M a e = some x) (hl : e.live = true) : a.live = true := by
 cases e <;> cases a <;> simp only [fK] at h <;> first | rfl | (cases h; done) | (cases hl; done)
theorem II {M : Store} {a e : Entry} {x : Mt} (h : fK M a e = some x) : e = .dead ∨ ((∃ e0 t fr ap l fr', e = .row e0 t fr ap l /\ a = .row e0 t fr' ap l) ∨ (∃ ls ls', e = .obj ls /\ a = .obj ls') ∨ ∃ t fr l fr', e = .frz t fr l /\ a = .frz t fr' l) ∨ ∃ p ∈ x.ps, ¬ p := by
 cases e with
 | dead => exact .inl rfl
 | hid q => cases a <;> simp only [fK] at h <;> cases h
 | row e0 t fr ap l =>
   cases a <;> simp only [fK] at h <;> first | (cases h; done) | skip
   rename_i e1 t1 fr1 ap1 l1
   split at h
   ·rename_i ht; subst ht
    cases hf : (Nat.beq e1 e0 && (!fr || fr1) && (ap == ap1)) with
    | false => rw [hf] at h; cases h
    | true =>
      rw [hf] at h; cases h
      simp only [Bool.and_eq_true] at hf
      obtain ⟨⟨f1, f2⟩, f3⟩ := hf
      have f1 : e1 = e0 := Nat.eq_of_beq_eq_true f1
      have f3 : ap = ap1 := by simpa using f3
      subst f1 f3
      by_cases hl : l1 = l
      ·subst hl; exact .inr (.inl (.inl ⟨_, _, _, _, _, _, rfl, rfl⟩))
      ·exact .inr (.inr ⟨_, List.mem_singleton.2 rfl, hl⟩)
   ·cases h
 | frz t fr l =>
   cases a <;> simp only [fK] at h <;> first | (cases h; done) | skip
   rename_i t1 fr1 l1
   split at h
   ·rename_i ht; subst ht
    cases hf : (!fr || fr1) with
    | false => rw [hf] at h; cases h
    | true =>
      rw [hf] at h; cases h
      by_cases hl : l1 = l
      ·subst hl; exact .inr (.inl (.inr (.inr ⟨_, _, _, _, rfl, rfl⟩)))
      ·exact .inr (.inr ⟨_, List.mem_singleton.2 rfl, hl⟩)
   ·cases h
 | obj ls =>
   cases a <;> simp only [fK] at h <;> first | (cases h; done) | skip
   exact .inr (.inl (.inr (.inl ⟨_, _, rfl, rfl⟩)))
theorem Ky {s : St2} {sv : SV} {v : Value} {d : Done} (I : Inv c ι w s.s.M) (hback : d.back = []) (hv : ak c ι w s.s.M sv v) (h : A8 s sv d) :
 ∃ ι', Inv c ι' w (ay 0 d.made) /\ ak c ι' w (ay 0 d.made) d.res v := by
 have hins : s.ins = [] := by
  unfold A8 Jz at h
  rw [hback] at h
  cases hi : s.ins with
  | nil => rfl
  | cons _ _ => rw [hi] at h; exact h.elim
 have h : Fq s sv d := by
  unfold A8 at h
  cases hn : Jz s d with
  | true => rw [hn] at h; exact h
  | false => rw [hn] at h; exact h.elim
 unfold Fq at h
 cases hm0 : yR s.s.M sv d.res with
 | none => rw [hm0] at h; exact h.elim
 | some m0 =>
   rw [hm0] at h
   simp only at h
   cases hm : pW s.s.M 0 (d.back ++ d.made) ⟨m0.ps, yS 0 d.back.length ++ m0.bind, m0.gone⟩ with
   | none => rw [hm] at h; exact h.elim
   | some m =>
     rw [hm] at h
     simp only at h
     cases hb : dedup [] m.bind with
     | none => rw [hb] at h; exact h.elim
     | some b =>
       rw [hb] at h
       simp only at h
       cases hk : (fJ ((pz (d.back ++ d.made) b).map (·.2)) && ((m.gone.all fun i => !(mem1 i ((pz (d.back ++ d.made) b).map (·.2)))) && b.all fun p => Nat.blt p.1 (d.back.length + d.made.length))) with
       | false => rw [hk] at h; exact h.elim
       | true =>
         rw [hk] at h
         obtain ⟨hps, _⟩ := lg.1 (show conj m.ps True from h)
         simp only [Bool.and_eq_true] at hk
         obtain ⟨k1, k2, k3⟩ := hk
         have hnd := rO k1
         rw [hback, List.nil_append] at hm
         obtain ⟨e1, e2, e3, e4⟩ := vU hm
         obtain ⟨_, OL⟩ := Aj hb
         let ι' : Gh := { S := fun k => ι.S k ∨ ∃ id ∈ m.gone, ∃ e, s.s.M.get id = some e /\ e.live = true /\ ι.blk id = some k, base := fun j => match bW j b with | some id => ι.base id | none => none, cap := fun j => match bW j b with | some id => ι.cap id | none => 0 }
         have hbase : ∀ {j id}, bW j b = some id -> ι'.base j = ι.base id /\ ι'.cap j = ι.cap id := fun {j id} hl => by simp only [ι', hl]; exact ⟨trivial, trivial⟩
         have hblk : ∀ {j id}, bW j b = some id -> ι'.blk j = ι.blk id := fun {j id} hl => by simp only [Gh.blk, (hbase hl).1]
         have Fa : ∀ j, Store.get (ay 0 d.made) j = d.made[j]? := fun j => by rw [dL, if_pos (Nat.zero_le _), Nat.sub_zero]
         have known : ∀ {j e}, d.made[j]? = some e -> e = .dead ∨ ∃ id a x, bW j b = some id /\ s.s.M.get id = some a /\ fK s.s.M a e = some x /\ (∀ p ∈ x.ps, p ∈ m.ps) /\ (∀ y ∈ x.bind, y ∈ m.bind) /\ ∀ g ∈ x.gone, g ∈ m.gone := by
          intro j e he
          rcases e4 j e he with h | ⟨id, a, x, q1, q2, q3⟩
          ·exact .inl h
          ·rw [Nat.zero_add] at q1
           exact .inr ⟨id, a, x, OL _ (jw q1), q2, q3⟩
         have H : nV c ι w s.s.M ι' (ay 0 d.made) m := by
          refine ⟨hps, fun x hx => ?_, fun k hk => .inl hk, fun id hg e k he hl hk => .inr ⟨id, hg, e, he, hl, hk⟩⟩
          have hl := OL x hx
          have hin : x.1 < d.made.length := by
           have := List.all_eq_true.1 k3 _ (jw hl)
           rw [hback] at this
           simpa using this
          obtain ⟨g1, g2⟩ := hbase hl
          refine ⟨g1, g2, d.made[x.1], by rw [Fa, List.getElem?_eq_getElem hin], ?_⟩
          rcases known (List.getElem?_eq_getElem hin) with hd | ⟨id, a', y, q1, q2, q3, q4, _⟩
          ·exact .inl hd
          ·rw [hl] at q1; cases q1
           rcases II q3 with hd | Po | ⟨p, hp, hnp⟩
           ·exact .inl hd
           ·exact .inr ⟨a', q2, Po⟩
           ·exact absurd (hps p (q4 p hp)) hnp
         have Ak : ∀ {j e}, Store.get (ay 0 d.made) j = some e -> e.live = true -> wW (d.back ++ d.made) j = true := by
          intro j e he hl
          rw [Fa] at he
          unfold wW
          rw [hback, List.nil_append, he]
          cases e <;> first | rfl | cases hl
         have live : ∀ {j e}, Store.get (ay 0 d.made) j = some e -> e.live = true -> ∃ id a', bW j b = some id /\ s.s.M.get id = some a' /\ a'.live = true := by
          intro j e he hl
          rw [Fa] at he
          rcases known he with rfl | ⟨id, a', x, q1, q2, q3, _⟩
          ·cases hl
          ·exact ⟨id, a', q1, q2, IG q3 hl⟩
         refine ⟨ι', ⟨I.kept, fun j e he => ?_, fun i j ei ej k hi hj li lj bi bj => ?_, fun i e k hi li bi => ?_, fun k hk => ?_, fun k hk => ?_⟩, IE I hm0 (H.part e1 (fun x hx => ?_) e3) hv⟩
         ·rw [Fa] at he
          rcases known he with rfl | ⟨id, a', x, q1, q2, q3, q4, q5, q6⟩
          ·trivial
          ·exact Kw I q3 (H.part q4 q5 q6) q2 (hbase q1).1 (hbase q1).2
         ·obtain ⟨x, a1, q1, q2, q3⟩ := live hi li
          obtain ⟨y, a2, r1, r2, r3⟩ := live hj lj
          rw [hblk q1] at bi; rw [hblk r1] at bj
          have := I.dis x y a1 a2 k q2 r2 q3 r3 bi bj
          subst this
          exact MO hnd (oK (jw q1) (Ak hi li)) (oK (jw r1) (Ak hj lj))
         ·obtain ⟨x, a1, q1, q2, q3⟩ := live hi li
          rw [hblk q1] at bi
          obtain ⟨o1, o2⟩ := I.own x a1 k q2 q3 bi
          refine ⟨fun hS => ?_, o2⟩
          rcases hS with hS | ⟨id, hg, e', he', hl', hk'⟩
          ·exact o1 hS
          ·have := I.dis x id a1 e' k q2 he' q3 hl' bi hk'
           subst this
           have h1 := List.all_eq_true.1 k2 x hg
           have h2 : mem1 x ((pz (d.back ++ d.made) b).map (·.2)) = true := jh.2 (List.mem_map.2 ⟨_, oK (jw q1) (Ak hi li), rfl⟩)
           rw [h2] at h1; cases h1
         ·rcases hk with hk | ⟨id, hg, e', he', hl', hk'⟩
          ·exact I.stb k hk
          ·exact (I.ents id e' he').eF hl' k hk'
         ·rcases hk with hk | ⟨id, hg, e', he', hl', hk'⟩
          ·exact I.src k hk
          ·exact .inr (I.own id e' k he' hl' hk').2
         ·obtain ⟨r, hr⟩ := e2
          rw [hr]; simp [yS, hx]
theorem NS {s : St2} {sv : SV} {v : Value} (d : Done) (R : Rel c ι w s a) (hv : ak c ι w s.s.M sv v) : ∃ ι', Inv c ι' w (uO s sv d).1.s.M /\ Ext ι w s.s.M ι' w (uO s sv d).1.s.M /\ ak c ι' w (uO s sv d).1.s.M (uO s sv d).2 v := by
 have same : ∃ ι', Inv c ι' w s.s.M /\ Ext ι w s.s.M ι' w s.s.M /\ ak c ι' w s.s.M sv v := ⟨ι, R.inv, Ext.refl _ _ _, hv⟩
 unfold uO
 split
 ·rename_i lf _
  have hl := (aI.leaf (x := ⟨false, [lf]⟩) (l := lf) rfl hv).weak
  split
  ·rename_i id k hw
   split
   ·rename_i e t fr l hm
    rw [hw] at hl
    simp only [aj, hm] at hl
    obtain ⟨ax, h1, h2, h3⟩ := hl
    obtain ⟨ι', I', x', hr⟩ := R.inv.BG (R.fresh s.next (Nat.le_refl _)) hm (k := k) (by omega) (ax := ax) (fun h0 => by rw [h3 h0]; cases ι.base id <;> simp [Addr.add])
    exact ⟨ι', I', x', ak.one (by rw [h1]; exact hr)⟩
   ·exact same
  ·exact same
 ·exact same
theorem aj.val {M : Store} {l : Leaf} {cs : List Value} (h : aj c ι w M l cs) : LVal l := by
 cases l <;> first | trivial | exact h.2 | (obtain ⟨_, _, _, _, _, h4⟩ := h; exact h4)
theorem aF.val {M : Store} : ∀ {ls : List Leaf} {cs : List Value}, aF c ι w M ls cs -> ∀ l ∈ ls, LVal l
 | [], _, _ => fun l h => by cases h
 | x :: r, cs, ⟨c1, c2, _, h2, h3⟩ => fun l hl => by
   rcases List.mem_cons.1 hl with rfl | hl
   ·exact h2.val
   ·exact aF.val h3 l hl
theorem aP.val {M : Store} : ∀ {vs : List V} {us : List Value}, aP c ι w M vs us -> ∀ v ∈ vs, ∀ l ∈ v.ls, LVal l
 | [], _, _ => fun v h => by cases h
 | x :: r, us, ⟨v, ws, _, ⟨cs, h2, _⟩, h3⟩ => fun y hy => by
   rcases List.mem_cons.1 hy with rfl | hy
   ·exact h2.val
   ·exact aP.val h3 y hy
theorem bH.val {M : Store} {id : Nat} {e : Entry} (h : bH c ι w M id e) : PK e := by
 cases e with
 | row e t fr ap l => obtain ⟨_, _, q, _⟩ := h; exact q
 | frz t fr l => exact h.2
 | obj ls => obtain ⟨_, _, _, _, _, h3⟩ := h; exact h3.1.val
 | hid q =>
   cases q with
   | map k v l => obtain ⟨_, _, _, _, _, h3⟩ := h; exact h3.2
   | iter l p => obtain ⟨_, _, _, h3⟩ := h; exact h3
 | dead => trivial
def jF : (ts : List Ty) -> aX ts -> List V
 | [], _ => []
 | [t], x => [.of false t x]
 | t :: u :: r, x => .of false t x.1 :: jF (u :: r) x.2
theorem Em {M : Store} {S : Nat -> Prop} (hS : ∀ b, S b -> ι.S b) : ∀ {ts : List Ty} {x : aX ts} {vs : List Value}, eP S w ts x vs -> aP c ι w M (jF ts x) vs
 | [], x, vs, h => h
 | [t], x, vs, ⟨v, h1, h2⟩ => ⟨v, [], h1, arg h2, rfl⟩
 | t :: u :: r, x, vs, ⟨v, ws, h1, h2, h3⟩ => ⟨v, ws, h1, arg h2, Em hS h3⟩
where
 arg {t : Ty} {x : t.den} {v : Value} (h : Ad S w t x v) : aI c ι w M (.of false t x) v := by
  obtain ⟨⟨cs, h1, h2⟩, h3⟩ := h
  have hp : ah (SF c ι false) w t x cs := ah.mono (fun b hb => ⟨hS b hb, fun hh => by cases hh⟩) (fun _ _ => rfl) _ _ _ h1
  refine ⟨cs, bU (fr := false) t x cs hp h3, ?_⟩
  show match t.isAgg with | true => v = .agg cs.toArray | false => cs = [v] /\ v.oneCell' = true
  cases ha : t.isAgg with
  | true => rw [ha] at h2; exact h2
  | false =>
    rw [ha] at h2
    have h2 : cs = [v] := h2
    exact ⟨h2, ah.one _ _ _ h1 v (by rw [h2]; simp)⟩
theorem eP.valid {S : Nat -> Prop} : ∀ {ts : List Ty} {x : aX ts} {vs : List Value}, eP S w ts x vs -> oI ts x
 | [], _, _, _ => trivial
 | [_], _, _, ⟨_, _, h⟩ => h.2
 | _ :: _ :: _, _, _, ⟨_, _, _, h, h'⟩ => ⟨h.2, eP.valid h'⟩
theorem G7 {f : Nat} {args : List V} {us : List Value} {S : Nat -> Prop} {d : Done} {L : Nat -> List V -> Nat -> Option Loop} (hels : cfg.els = none) (tab : aH P cfg) (sums : fE P cfg) (hseq : oJ P cfg) (hdr : P.follows .mixedOrders = true)
 (hback : d.back = []) (hSb : ∀ b, S b -> b < w.heap.size) (hgl : qJ cfg.glob S w) (hargs : aP (Ctx.of w S) ⟨S, fun _ => none, fun _ => 0⟩ w [] args us) (ho : mJ P cfg L f args [] d) :
 Does P f us.toArray w fun v w' => ∃ ι', Inv (Ctx.of w S) ι' w' (ay 0 d.made) /\ ak (Ctx.of w S) ι' w' (ay 0 d.made) d.res v := by
 have hG : aN P cfg (Ctx.of w S) ⟨S, fun _ => none, fun _ => 0⟩ w := ⟨fun g t x hg => by
  obtain ⟨cs, h1, h2, h3⟩ := hgl g t x hg
  have hs : ∀ b, S b -> SF (Ctx.of w S) ⟨S, fun _ => none, fun _ => 0⟩ false b := fun b hb => ⟨hb, fun hh => by cases hh⟩
  exact ⟨cs, h1.mono hs (fun _ _ => rfl), ah.mono hs (fun _ _ => rfl) _ _ _ h2, h3⟩⟩
 unfold mJ at ho
 split at ho
 ·rename_i fn hf
  split at ho
  ·rename_i b hb
   obtain ⟨hname, hbody⟩ := nameB hb
   have no : ∀ {j e}, ¬ (Store.get ([] : Store) j = some e) := fun h => by cases h
   have I : Inv (Ctx.of w S) ⟨S, fun _ => none, fun _ => 0⟩ w ([] : Store) :=
    ⟨⟨rfl, rfl, rfl, Nat.le_refl _, fun _ _ _ => rfl⟩, fun _ _ h => (no h).elim, fun _ _ _ _ _ h => (no h).elim, fun _ _ _ h => (no h).elim, hSb, fun _ h => .inl h⟩
   obtain ⟨args', s1, ι1, ho, I1, fr1, hargs1, x1⟩ := nM (s := I8 fn.ntmps args []) (cfg.xp f) ho I (fun _ _ => rfl) hargs
   have R : Rel (Ctx.of w S) ι1 w { s1 with s := { s1.s with env := lQ fn.ntmps args', aY := [] } } { tmps := us.toArray ++ Array.replicate (fn.ntmps - us.toArray.size) undef, defers := [] } :=
    ⟨I1, Ei hargs1 fn.ntmps, fr1⟩
   refine Does.vk hf hname hbody (yh (cfg := cfg) (lp := 0) (c := Ctx.of w S) (ι := ι1) (M := s1.s.M) (K := Oj cfg fn.results.toList d) hf hbody (fun Q hn => x9 (Ji hels tab sums hseq hdr (G6 cfg) 6) tab sums hseq hdr (G6 cfg) b (sH.none hels) ho R (hG.kW x1.nK) trivial hn) (Nat.le_refl _) fun e s' a' w' ι' hk R' _ => ?_)
   have fin : (match jf cfg s'.s fn.results.toList with | some v => A8 (uO s' v d).1 (uO s' v d).2 d | none => False) -> ∃ v, (results fn a'.tmps).run P w' = .ok v w' /\ ∃ ι', Inv (Ctx.of w S) ι' w' (ay 0 d.made) /\ ak (Ctx.of w S) ι' w' (ay 0 d.made) d.res v := by
    intro hk
    cases hr : jf cfg s'.s fn.results.toList with
    | none => rw [hr] at hk; exact hk.elim
    | some sv =>
      rw [hr] at hk
      obtain ⟨v, h1, h2⟩ := zG tab R'.inv R'.rep hr
      obtain ⟨ι2, I2, x2, h3⟩ := NS d R' h2
      exact ⟨v, h1, Ky I2 hback h3 hk⟩
   cases e with
   | normal => exact ⟨.inl rfl, fin hk⟩
   | ret => exact ⟨.inr rfl, fin hk⟩
   | exit _ => exact hk.elim
   | goto _ => exact hk.elim
   | panic _ => exact hk.elim
   | outgrown => exact hk.elim
  ·exact ho.elim
 ·exact ho.elim
theorem Ls {f : Nat} {ts : List Ty} {F : aX ts -> Done} {keep : aX ts -> Nat -> List V -> Nat -> Option Loop} (hels : cfg.els = none) (tab : aH P cfg) (sums : fE P cfg) (hseq : oJ P cfg) (hdr : P.follows .mixedOrders = true)
 (hback : ∀ x, (F x).back = [])
 (h : ∀ x, oI ts x -> (∀ p ∈ (F x).pre, p) -> mJ P cfg (keep x) f (jF ts x) [] (F x)) : BK P cfg.glob f ts F :=
 fun x vs w S hSb hgl hargs hp => G7 hels tab sums hseq hdr (hback x) hSb hgl (Em (fun _ h => h) hargs) (h x hargs.valid hp)
theorem qc.valid {S : Nat -> Prop} : ∀ {cs : List Ty} {x : aX cs} {vs : List Value}, qc S w cs x vs -> oI cs x
 | [], _, _, _ => trivial
 | [_], _, _, ⟨_, _, _, _, _, _, _, h⟩ => h
 | _ :: _ :: _, _, _, ⟨_, _, _, ⟨_, _, _, _, _, h⟩, h'⟩ => ⟨h, qc.valid h'⟩
end
end Go.Vc
set_option linter.unusedVariables false
set_option linter.unusedSimpArgs false
set_option linter.unusedSimpArgs false
set_option linter.unusedVariables false
namespace Go.Vc
open Go.ChangeShapes Go.WideShapes Go.ChangeAt Go.RowKit
open Go.ChangeMaps (open_string)
def fieldsB (P : Program) (r : TypeId -> Ty -> Bool) : List Field -> Nat -> Ty -> Bool
 | [], _, y => match y with
   | .unit => true
   | _ => false
 | [f], off, y => Nat.beq f.offset off && Nat.beq (P.cellsOf f.type) y.sz && r f.type y
 | f :: g :: l, off, y => match y with
   | .pair a b => Nat.beq f.offset off && Nat.beq (P.cellsOf f.type) a.sz && r f.type a && fieldsB P r (g :: l) (off + a.sz) b
   | _ => false
def Jj (P : Program) (r : TypeId -> Ty -> Bool) : List Field -> Ty -> Bool
 | [f], y => match y with
   | .pair a .unit => Nat.beq f.offset 0 && Nat.beq (P.cellsOf f.type) a.sz && r f.type a
   | _ => false
 | l, y => fieldsB P r l 0 y
def tyB (P : Program) : Nat -> TypeId -> Ty -> Bool
 | 0, _, _ => false
 | n + 1, T, y => match P.underlying T, y with
   | some .bool, .bool => true
   | some (.int k), .int k' => k == k'
   | some .string, .str => true
   | some (.slice e), .slice t => Nat.beq (P.cellsOf e) t.sz && (Nat.blt 0 t.sz && Nat.blt 0 (P.bytesOf e)) && tyB P n e t
   | some (.array m e), .arr m' t => Nat.beq m m' && Nat.beq (P.cellsOf e) t.sz && Nat.beq (P.cellsOf T) (m * t.sz) && tyB P n e t
   | some (.struct fs), y => Nat.beq (P.cellsOf T) y.sz && Jj P (tyB P n) fs.toList y && y.isAgg
   | _, _ => false
def gU {H : Type} : (y : Ty) -> List (DataW H) -> Option y.den
 | .int _, [.lit (.int _ x)] => some x
 | .bool, [.lit (.bool b)] => some b
 | .str, [.lit (.string s)] => some (s.map fun b => (b.toNat : Int))
 | .unit, [] => some ()
 | .unit, [.agg []] => some ()
 | .slice e, [.slice els _] => aS (els.map fun d => gU e [d])
 | .slice _, [.nil] => some []
 | .arr _ e, [.agg ps] => aS (ps.map fun d => gU e [d])
 | .pair a b, [.agg (d :: r)] => match gU a [d], gU b r with
   | some x, some z => some (x, z)
   | _, _ => none
 | .pair a b, d :: e :: r => match gU a [d], gU b (e :: r) with
   | some x, some z => some (x, z)
   | _, _ => none
 | _, _ => none
theorem IJ {H : Type} {y : Ty} (hagg : y.isAgg = true) {ds : List (DataW H)} {v : y.den} (k : gU y ds = some v) (hne : ds.length ≠ 1) : gU y [.agg ds] = some v := by
 cases y with
 | unit =>
   cases ds with
   | nil => rfl
   | cons d r =>
     cases r with
     | nil => exact absurd rfl hne
     | cons d2 r => simp [gU] at k
 | pair a b =>
   cases ds with
   | nil => simp [gU] at k
   | cons d r =>
     cases r with
     | nil => exact absurd rfl hne
     | cons d2 r => simp only [gU] at k ⊢; exact k
 | arr n e =>
   cases ds with
   | nil => simp [gU] at k
   | cons d r =>
     cases r with
     | nil => exact absurd rfl hne
     | cons d2 r => simp [gU] at k
 | _ => cases hagg
theorem vV {α β : Type} {f : α -> Option β} : ∀ {l : List α} {m : List β}, l.length = m.length -> (∀ (i : Nat) x y, l[i]? = some x -> m[i]? = some y -> f x = some y) -> aS (l.map f) = some m
 | [], [], _, _ => rfl
 | [], _ :: _, h, _ => by simp at h
 | _ :: _, [], h, _ => by simp at h
 | x :: l, y :: m, h, hf => by
   have h0 := hf 0 x y rfl rfl
   have ih := vV (f := f) (l := l) (m := m) (by simpa using h) fun i a b ha hb => hf (i + 1) a b (by simpa using ha) (by simpa using hb)
   simp only [List.map_cons, aS, h0, ih]
def Short : (t : Ty) -> t.den -> Prop
 | .int _, _ => True
 | .bool, _ => True
 | .str, l => l.length <= reachBytes
 | .unit, _ => True
 | .slice e, l => (∀ x ∈ l, Short e x) /\ l.length <= reachBytes
 | .arr _ e, l => ∀ x ∈ l, Short e x
 | .pair a b, x => Short a x.1 /\ Short b x.2
theorem weightsAll_mem {H : Type} {P : Program} {e : TypeId} {d : DataW H} {n : Nat} : ∀ {l : List (DataW H)}, d ∈ l -> n ∈ d.weights P e -> n ∈ DataW.weightsAll P e l
 | [], h, _ => by cases h
 | x :: r, h, hn => by
   rw [DataW.weightsAll, List.mem_append]
   rcases List.mem_cons.1 h with rfl | h
   ·exact .inl hn
   ·exact .inr (weightsAll_mem h hn)
theorem block_lt {w : World} {a : Addr} {v : Value} (h : w.cell? a = some v) : a.block < w.heap.size := by
 rcases Nat.lt_or_ge a.block w.heap.size with h1 | h1
 ·exact h1
 ·have : w.heap[a.block]? = none := Array.getElem?_eq_none h1
  simp [World.cell?, this] at h
theorem DF {α : Type} {p : Nat -> α -> Prop} : ∀ (n : Nat), (∀ i, i < n -> ∃ x, p i x) -> ∃ l : List α, l.length = n /\ ∀ (i : Nat) x, l[i]? = some x -> p i x
 | 0, _ => ⟨[], rfl, fun i x h => by simp at h⟩
 | n + 1, h => by
   obtain ⟨l, h1, h2⟩ := DF n fun i hi => h i (by omega)
   obtain ⟨y, hy⟩ := h n (by omega)
   refine ⟨l ++ [y], by simp [h1], fun i x hx => ?_⟩
   by_cases hi : i < l.length
   ·rw [List.getElem?_append_left hi] at hx; exact h2 i x hx
   ·rw [List.getElem?_append_right (by omega)] at hx
    have : i - l.length = 0 := by
     rcases Nat.eq_zero_or_pos (i - l.length) with h0 | h0
     ·exact h0
     ·rw [List.getElem?_eq_none (by simp only [List.length_singleton]; omega)] at hx; cases hx
    rw [this] at hx
    simp at hx
    subst hx
    rw [show i = n by omega]; exact hy
section
variable {H : Type} {enc : TypeId × Value -> H} {P : Program} {w : World} {sp : Nat -> Bool} {held : Bool}
abbrev Old (w : World) : Nat -> Prop := fun b => b < w.heap.size
theorem CB {r : TypeId -> Ty -> Bool} {cs : List Value} (hr : ∀ T y, r T y = true -> ∀ fuel ds x, DataW.trod enc P w 0 sp held fuel T ds = some x -> ∃ v : y.den, ah (Old w) w y v ds /\ Valid y v /\ ((∀ n ∈ x.1.weights P T, n <= reachBytes) -> Short y v) /\ gU y [x.1] = some v) {B : Prop} :
 ∀ (l : List Field) (ds : List (DataW H)) (off : Nat) (y : Ty), fieldsB P r l off y = true -> off + y.sz = cs.length -> ds.length = l.length ->
  (∀ (i : Nat) (f : Field) (d : DataW H), l[i]? = some f -> ds[i]? = some d -> ∃ fuel x, DataW.trod enc P w 0 sp held fuel f.type ((cs.drop f.offset).take (P.cellsOf f.type)) = some x /\ x.1 = d /\ (B -> ∀ n ∈ x.1.weights P f.type, n <= reachBytes)) ->
  ∃ v : y.den, ah (Old w) w y v (cs.drop off) /\ Valid y v /\ (B -> Short y v) /\ gU y ds = some v
 | [], ds, off, y, h, hl, hd, _ => by
   unfold fieldsB at h
   split at h
   ·refine ⟨(), ?_, trivial, fun _ => trivial, ?_⟩
    ·show cs.drop off = []
     exact List.drop_eq_nil_of_le (by simp only [Ty.sz] at hl; omega)
    ·rw [List.length_eq_zero_iff.1 hd]; rfl
   ·cases h
 | [f], ds, off, y, h, hl, hd, hf => by
   unfold fieldsB at h
   obtain ⟨d, rfl⟩ : ∃ d, ds = [d] := List.length_eq_one_iff.1 hd
   obtain ⟨fuel, x, hx, hxd, hB⟩ := hf 0 f d rfl rfl
   simp only [Bool.and_eq_true] at h
   obtain ⟨⟨h1, h2⟩, h3⟩ := h
   have h1 := Nat.eq_of_beq_eq_true h1
   have h2 := Nat.eq_of_beq_eq_true h2
   rw [h1, h2] at hx
   obtain ⟨v, k1, k2, kB, kD⟩ := hr _ _ h3 _ _ _ hx
   refine ⟨v, ?_, k2, fun b => kB (hB b), by rw [<- hxd]; exact kD⟩
   rw [List.take_of_length_le] at k1
   ·exact k1
   ·rw [List.length_drop]; omega
 | f :: g :: l, ds, off, y, h, hl, hd, hf => by
   unfold fieldsB at h
   obtain ⟨d, d2, ds', rfl⟩ : ∃ d d2 ds', ds = d :: d2 :: ds' := by
    match ds, hd with
    | d :: d2 :: ds', _ => exact ⟨d, d2, ds', rfl⟩
   split at h
   ·rename_i a b
    simp only [Bool.and_eq_true] at h
    obtain ⟨⟨⟨h1, h2⟩, h3⟩, h4⟩ := h
    have h1 := Nat.eq_of_beq_eq_true h1
    have h2 := Nat.eq_of_beq_eq_true h2
    obtain ⟨fuel, x, hx, hxd, hB⟩ := hf 0 f d rfl rfl
    rw [h1, h2] at hx
    obtain ⟨v, k1, k2, kB, kD⟩ := hr _ _ h3 _ _ _ hx
    obtain ⟨v', k3, k4, k5, k6⟩ := CB hr (g :: l) (d2 :: ds') (off + a.sz) b h4 (by simp only [Ty.sz] at hl; omega) (by simpa using hd) (fun i f' d' hf' hd' => hf (i + 1) f' d' (by simpa using hf') (by simpa using hd'))
    refine ⟨(v, v'), ⟨_, _, ?_, k1, k3⟩, ⟨k2, k4⟩, fun b => ⟨kB (hB b), k5 b⟩, ?_⟩
    ·rw [<- List.drop_drop, List.take_append_drop]
    ·subst hxd
     simp only [gU, k6, kD]
   ·cases h
theorem nN : ∀ (n : Nat) (T : TypeId) (y : Ty), tyB P n T y = true -> ∀ fuel cs x, DataW.trod enc P w 0 sp held fuel T cs = some x -> ∃ v : y.den, ah (Old w) w y v cs /\ Valid y v /\ ((∀ n ∈ x.1.weights P T, n <= reachBytes) -> Short y v) /\ gU y [x.1] = some v
 | 0, T, y, h => by cases h
 | n + 1, T, y, h => by
   intro fuel cs x hx
   unfold tyB at h
   split at h
   ·rename_i ht
    obtain ⟨b, rfl, rfl⟩ := DataW.trod_bool ht hx
    exact ⟨b, rfl, trivial, fun _ => trivial, rfl⟩
   ·rename_i k k' ht
    have hk : k = k' := by simpa using h
    subst hk
    obtain ⟨m, rfl, rfl, hw⟩ := DataW.trod_int ht hx
    refine ⟨m, rfl, ?_, fun _ => trivial, rfl⟩
    simpa [Lit.wf, Valid] using hw
   ·rename_i ht
    obtain ⟨s, rfl, rfl, hs⟩ := DataW.trod_string ht hx
    refine ⟨s.data.toList.map fun b => (b.toNat : Int), ?_, ⟨fun z hz => ?_, ?_⟩, fun h => ?_, rfl⟩
    ·show _ = _
     rw [Jc]
    ·obtain ⟨b, _, rfl⟩ := List.mem_map.1 hz
     have := b.toNat_lt
     exact ⟨by omega, by omega⟩
    ·rw [List.length_map, Array.length_toList]; exact hs
    ·show List.length _ <= _
     rw [List.length_map]
     exact h _ (by simp [DataW.weights])
   ·rename_i e t ht
    simp only [Bool.and_eq_true] at h
    obtain ⟨⟨h1, h2, hby⟩, h3⟩ := h
    have h1 := Nat.eq_of_beq_eq_true h1
    have h2 : 0 < t.sz := by simpa [Nat.blt_eq] using h2
    have hby : 0 < P.bytesOf e := by simpa [Nat.blt_eq] using hby
    rcases DataW.trod_slice ht hx with ⟨rfl, rfl⟩ | ⟨a, len, cap, elems, rest, m, _, rfl, rfl, _, hlc, hcm, hel, hget, _⟩
    ·exact ⟨[], ah.rH _ _ _, Valid.nil _, fun _ => ⟨fun _ h => by (cases h), Nat.zero_le _⟩, rfl⟩
    ·have each : ∀ i, i < len -> ∃ v : t.den, (∃ ecs, ah (Old w) w t v ecs /\ Valid t v /\ At (Old w) w (a.add (i * t.sz)) ecs /\ ((∀ n ∈ (DataW.slice (elems.map (·.1)) (rest.map (·.1))).weights P T, n <= reachBytes) -> Short t v)) /\ ∀ d, (elems.map (·.1))[i]? = some d -> gU t [d] = some v := by
      intro i hi
      have := hget i hi
      rw [List.getElem?_eq_getElem (by omega), Option.bind_eq_some_iff] at this
      obtain ⟨ecs, k1, k2⟩ := this
      rw [h1] at k1
      obtain ⟨_, k3, k4⟩ := World.cells?_some k1
      obtain ⟨v, k5, k6, k7, k8⟩ := nN n e t h3 _ _ _ k2
      refine ⟨v, ⟨ecs, k5, k6, ⟨?_, fun j u hu => ?_⟩, fun hw => k7 fun m hm => hw m ?_⟩, fun d hd => ?_⟩
      ·have h0 := k4 0 h2
       rw [List.getElem?_eq_getElem (by omega)] at h0
       have := block_lt h0
       have hb : ((a.add (i * t.sz)).add 0).block = (a.add (i * t.sz)).block := by unfold Addr.add; split <;> rfl
       rw [hb] at this; exact this
      ·have hj := (List.getElem?_eq_some_iff.1 hu).1
       rw [k4 j (by omega), hu]
      ·simp only [DataW.weights, ht, List.mem_cons, List.mem_append]
       exact .inr (.inl (weightsAll_mem (List.mem_map_of_mem (List.getElem_mem (by omega))) hm))
      ·rw [List.getElem?_map, List.getElem?_eq_getElem (by omega)] at hd
       cases hd; exact k8
     obtain ⟨l, hl1, hl2⟩ := DF len each
     refine ⟨l, ⟨some a, len, cap, rfl, hl1, hlc, fun h0 => ⟨a, rfl, fun i v hv => ?_⟩⟩, ⟨fun v hv => ?_, ?_⟩, fun hw => ⟨fun v hv => ?_, ?_⟩, ?_⟩
     ·obtain ⟨⟨ecs, q1, _, q3, _⟩, _⟩ := hl2 i v hv
      exact ⟨ecs, q1, q3⟩
     ·obtain ⟨i, hi, rfl⟩ := List.getElem_of_mem hv
      obtain ⟨⟨ecs, _, q2, _⟩, _⟩ := hl2 i _ (List.getElem?_eq_getElem hi)
      exact q2
     ·rw [hl1]; omega
     ·obtain ⟨i, hi, rfl⟩ := List.getElem_of_mem hv
      obtain ⟨⟨ecs, _, _, _, q4⟩, _⟩ := hl2 i _ (List.getElem?_eq_getElem hi)
      exact q4 hw
     ·have := hw (((elems.map (·.1)).length + (rest.map (·.1)).length) * P.bytesOf e) (by simp [DataW.weights, ht])
      rw [List.length_map, hel] at this
      rw [hl1]
      exact Nat.le_trans (Nat.le_trans (Nat.le_add_right _ _) (Nat.le_mul_of_pos_right _ hby)) this
     ·show aS ((elems.map (·.1)).map fun d => gU t [d]) = some l
      exact vV (by rw [List.length_map, hel, hl1]) fun i d v hd hv => (hl2 i v hv).2 d hd
   ·rename_i m e m' t ht
    simp only [Bool.and_eq_true] at h
    obtain ⟨⟨⟨h0, h1⟩, h2⟩, h3⟩ := h
    have h0 := Nat.eq_of_beq_eq_true h0
    have h1 := Nat.eq_of_beq_eq_true h1
    have h2 := Nat.eq_of_beq_eq_true h2
    subst h0
    obtain ⟨xs, f, _, rfl, hlen, hxl, hget⟩ := DataW.trod_array ht hx
    have each : ∀ i, i < m -> ∃ v : t.den, (ah (Old w) w t v ((cs.drop (i * t.sz)).take t.sz) /\ Valid t v /\ ((∀ n ∈ (DataW.agg (xs.map (·.1))).weights P T, n <= reachBytes) -> Short t v)) /\ ∀ d, (xs.map (·.1))[i]? = some d -> gU t [d] = some v := by
     intro i hi
     have := hget i hi
     rw [List.getElem?_eq_getElem (by omega), h1] at this
     obtain ⟨v, k1, k2, k3, k8⟩ := nN n e t h3 _ _ _ this
     refine ⟨v, ⟨k1, k2, fun hw => k3 fun q hq => hw q ?_⟩, fun d hd => ?_⟩
     ·simp only [DataW.weights, ht]
      exact weightsAll_mem (List.mem_map_of_mem (List.getElem_mem (by omega))) hq
     ·rw [List.getElem?_map, List.getElem?_eq_getElem (by omega)] at hd
      cases hd; exact k8
    obtain ⟨l, hl1, hl2⟩ := DF m each
    refine ⟨l, ⟨hl1, (List.range m).map fun i => (cs.drop (i * t.sz)).take t.sz, by simp, ?_, fun i v ec hv he => ?_⟩, ⟨fun v hv => ?_, hl1⟩, fun hw v hv => ?_, ?_⟩
    ·exact chunks m t.sz cs (by rw [hlen, h2])
    ·have hi := (List.getElem?_eq_some_iff.1 hv).1
     rw [List.getElem?_map, List.getElem?_range (by omega)] at he
     cases he
     exact (hl2 i v hv).1.1
    ·obtain ⟨i, hi, rfl⟩ := List.getElem_of_mem hv
     exact (hl2 i _ (List.getElem?_eq_getElem hi)).1.2.1
    ·obtain ⟨i, hi, rfl⟩ := List.getElem_of_mem hv
     exact (hl2 i _ (List.getElem?_eq_getElem hi)).1.2.2 hw
    ·show aS ((xs.map (·.1)).map fun d => gU t [d]) = some l
     exact vV (by rw [List.length_map, hxl, hl1]) fun i d v hd hv => (hl2 i v hv).2 d hd
   ·rename_i fs ht
    simp only [Bool.and_eq_true] at h
    obtain ⟨⟨h0, h2⟩, hagg⟩ := h
    have h1 := Nat.eq_of_beq_eq_true h0
    obtain ⟨xs, f, _, rfl, hlen, hxl, hget⟩ := DataW.trod_struct ht hx
    have hf : ∀ (i : Nat) (fl : Field) (d : DataW H), fs.toList[i]? = some fl -> (xs.map (·.1))[i]? = some d -> ∃ fuel x, DataW.trod enc P w 0 sp held fuel fl.type ((cs.drop fl.offset).take (P.cellsOf fl.type)) = some x /\ x.1 = d /\ ((∀ n ∈ (DataW.agg (xs.map (·.1))).weights P T, n <= reachBytes) -> ∀ n ∈ x.1.weights P fl.type, n <= reachBytes) := by
     intro i fl d hfl hd
     obtain ⟨hi, rfl⟩ := List.getElem?_eq_some_iff.1 hfl
     have hi' : i < fs.size := by simpa using hi
     have := hget i fs[i] (Array.getElem?_eq_getElem hi')
     rw [List.getElem?_eq_getElem (by omega)] at this
     rw [List.getElem?_map, List.getElem?_eq_getElem (by omega)] at hd
     cases hd
     refine ⟨_, _, by simpa using this, rfl, fun hw q hq => hw q ?_⟩
     simp only [DataW.weights, ht]
     exact DataW.weights_mem_each (j := i) (t := fs.toList[i].type) (by simp [hi']) (by rw [List.getElem?_map, List.getElem?_eq_getElem (by omega)]; rfl) q (by simpa using hq)
    have hdl : (xs.map (·.1)).length = fs.toList.length := by rw [List.length_map, hxl, Array.length_toList]
    dsimp only
    generalize xs.map (·.1) = ds at hf hdl ⊢
    unfold Jj at h2
    clear h0
    split at h2
    ·rename_i g hg
     split at h2
     ·rename_i a
      simp only [Bool.and_eq_true] at h2
      obtain ⟨⟨g1, g2⟩, g3⟩ := h2
      have g1 := Nat.eq_of_beq_eq_true g1
      have g2 := Nat.eq_of_beq_eq_true g2
      rw [hg] at hdl hf
      obtain ⟨d, rfl⟩ : ∃ d, ds = [d] := List.length_eq_one_iff.1 hdl
      obtain ⟨fuel, x, hx, hxd, hB⟩ := hf 0 g d rfl rfl
      rw [g1, g2, List.drop_zero] at hx
      obtain ⟨v, k1, k2, kB, kD⟩ := nN n _ _ g3 _ _ _ hx
      refine ⟨(v, ()), ⟨cs, [], by simp, ?_, rfl⟩, ⟨k2, trivial⟩, fun b => ⟨kB (hB b), trivial⟩, ?_⟩
      ·rw [List.take_of_length_le] at k1
       ·exact k1
       ·simp only [Ty.sz] at h1; omega
      ·subst hxd
       simp only [gU, kD]
     ·cases h2
    ·obtain ⟨v, k1, k2, k3, k4⟩ := CB (cs := cs) (B := ∀ n ∈ (DataW.agg ds).weights P T, n <= reachBytes) (fun T y hr => nN n T y hr) fs.toList ds 0 _ h2 (by omega) hdl hf
     rename_i hne
     exact ⟨v, by simpa using k1, k2, k3, IJ hagg k4 fun hh => by
      obtain ⟨f, hf⟩ := List.length_eq_one_iff.1 (hdl.symm.trans hh)
      exact hne f hf⟩
   ·cases h
where
 chunks (m sz : Nat) (cs : List Value) (h : cs.length = m * sz) : cs = ((List.range m).map fun i => (cs.drop (i * sz)).take sz).flatten := by
  induction m generalizing cs with
  | zero => simp at h; simp [h]
  | succ m ih =>
    rw [List.range_succ_eq_map, List.map_cons, List.flatten_cons, List.map_map]
    have := ih (cs.drop sz) (by rw [List.length_drop, h, Nat.succ_mul]; omega)
    rw [Nat.zero_mul, List.drop_zero]
    conv => lhs; rw [<- List.take_append_drop sz cs, this]
    congr 3
    funext i
    show _ = List.take sz (List.drop ((i + 1) * sz) cs)
    rw [List.drop_drop, Nat.succ_mul, Nat.add_comm]
theorem NT {n : Nat} {T : TypeId} {y : Ty} (h : tyB P n T y = true) {v : Value} {d : DataW H} {p : List MemPlace} {base : Nat} (hok : Value.okWide P w .any base T v) (ht : DataW.Trod enc P w 0 sp held T v d p) :
 ∃ x : y.den, Ad (Old w) w y x v /\ ((∀ n ∈ d.weights P T, n <= reachBytes) -> Short y x) := by
 have ht' := ht
 obtain ⟨fuel, hf⟩ := ht
 obtain ⟨x, h1, h2, h3, -⟩ := nN n T y h _ _ _ hf
 refine ⟨x, ⟨⟨v.cells.toList, h1, ?_⟩, h2⟩, h3⟩
 cases n with
 | zero => cases h
 | succ n =>
   unfold tyB at h
   split at h
   ·rename_i hu; obtain ⟨b, rfl, _⟩ := open_bool hu hok ht'; rfl
   ·rename_i k k' hu; obtain ⟨b, rfl, _⟩ := open_int hu hok ht'; rfl
   ·rename_i hu; obtain ⟨b, rfl, _⟩ := open_string hu hok ht'; rfl
   ·rename_i e t hu; obtain ⟨a, l, c, rfl⟩ := okWide_slice hu hok; rfl
   ·rename_i m e m' t hu
    simp only [Value.okWide, hu] at hok
    obtain ⟨cs, rfl, _⟩ := hok
    simp [Ty.isAgg, Value.cells]
   ·rename_i fs hu
    simp only [Bool.and_eq_true] at h
    simp only [Value.okWide, hu] at hok
    obtain ⟨cs, rfl, _⟩ := hok
    rw [h.2]
    simp [Value.cells]
   ·cases h
def G8 (P : Program) : List TypeId -> List Ty -> Bool
 | [], [] => true
 | T :: r, y :: s => tyB P 24 T y && P.readableRec T && Nat.blt T P.types.size && G8 P r s
 | _, _ => false
def CG : (ts : List Ty) -> aX ts -> Prop
 | [], _ => True
 | [t], x => Short t x
 | t :: u :: r, x => Short t x.1 /\ CG (u :: r) x.2
theorem MP {base : Nat} (hl : laidOutB P = true) : ∀ {Ts : List TypeId} {ts : List Ty} {vs : List Value} {ds : List (DataW H)} {p : List MemPlace}, G8 P Ts ts = true -> (∀ (j : Nat) t v, Ts[j]? = some t -> vs[j]? = some v -> Value.okWide P w .any base t v) ->
 DataW.TrodAll enc P w 0 (fun _ => true) true Ts vs ds p -> (∃ x : aX ts, eP (Old w) w ts x vs /\ ((∀ n ∈ DataW.weightsEach P Ts ds, n <= reachBytes) -> CG ts x)) /\ ds.length = ts.length /\
  ∀ w', Below w.heap.size w w' -> ∃ p', DataW.TrodAll enc P w' 0 (fun b => decide (b < w.heap.size)) true Ts vs ds p' := by
 intro Ts
 induction Ts with
 | nil =>
   intro ts vs ds p h _ ht
   cases ts with
   | cons _ _ => cases h
   | nil =>
     obtain ⟨rfl, rfl, rfl⟩ := trodAll_nil ht
     exact ⟨⟨(), rfl, fun _ => trivial⟩, rfl, fun _ _ => ⟨[], rfl⟩⟩
 | cons T Tr ih =>
   intro ts vs ds p h hok ht
   cases ts with
   | nil => cases h
   | cons t r =>
     simp only [G8, Bool.and_eq_true] at h
     obtain ⟨⟨⟨h1, h2⟩, h3⟩, h4⟩ := h
     obtain ⟨v, vs', d, ds', p1, q, rfl, rfl, rfl, k1, k2⟩ := trodAll_cons ht
     have hok0 := hok 0 T v rfl rfl
     obtain ⟨x, hx, hs⟩ := NT h1 hok0 k1
     obtain ⟨⟨x', hx', hs'⟩, hl', hb'⟩ := ih h4 (fun j t v hj hv => hok (j + 1) t v (by simpa using hj) (by simpa using hv)) k2
     refine ⟨?_, by simp [hl'], fun w' hb => ?_⟩
     ·cases r with
      | nil =>
        have hx' : vs' = [] := hx'
        subst hx'
        exact ⟨x, ⟨v, rfl, hx⟩, fun hw => hs fun n hn => hw n (by rw [DataW.weightsEach, List.mem_append]; exact .inl hn)⟩
      | cons u r => exact ⟨(x, x'), ⟨v, vs', rfl, hx, hx'⟩, fun hw => ⟨hs fun n hn => hw n (by rw [DataW.weightsEach, List.mem_append]; exact .inl hn), hs' fun n hn => hw n (by rw [DataW.weightsEach, List.mem_append]; exact .inr hn)⟩⟩
     ·obtain ⟨p', hp'⟩ := hb' w' hb
      have lt : ∀ y ∈ p1, y.block < w.heap.size := by obtain ⟨m, hm⟩ := k1; exact DataW.trod_lt m _ _ _ hm
      exact ⟨_, trodAll_cons_mk (Below.trod hl h2 (by simpa [Nat.blt_eq] using h3) k1 hb lt) hp'⟩
end
theorem Does.calls {P : Program} {f : Nat} {fn : Func} {b : Code} {args : Array Value} {w : World} {R : Value -> World -> Prop} (hf : P.funcs[f]? = some fn) (hn : (fn.name == "runtime.NumGoroutine") = false) (hb : fn.body = some b)
 (h : Does P f args w R) : Calls P f args w fun e w' => ∃ v, e = .returned v /\ R v w' := by
 have h1 := h { dst := some 0, op := .move (.const undef), type := 0, pos := default, after := #[], guard := none } ⟨#[undef], []⟩ (fun a' w' => ∃ v, R v w' /\ a' = ⟨#[v], []⟩) (fun _ _ _ => False) (fun v w' hv => ⟨v, hv, rfl⟩)
 have hr : (callFunc f args).run P w = .ok (.enter f args) w := by
  have h1 : fn.name ≠ "runtime.NumGoroutine" := by simpa using hn
  simp [callFunc, run_program, hf, h1, hb]
 rw [hr, Oper.upon_enter] at h1
 refine Calls.mono h1 fun e w' he => ?_
 cases e with
 | returned v =>
   obtain ⟨u, hu, e⟩ := he
   have : v = u := by
    have e := congrArg Act.tmps e
    simpa [Act.put] using e
   subst this
   exact ⟨v, rfl, hu⟩
 | panicked _ => exact he.elim
 | outgrown => obtain ⟨_, _, h⟩ := he; exact h.elim
def uy (ts : List Ty) : aX ts -> Done := fun x => ⟨[CG ts x], .one (.bool true), [], []⟩
end Go.Vc
set_option linter.unusedVariables false
set_option linter.unusedSimpArgs false
namespace Go.Vc.T
theorem cond_prop {b : Bool} {p q : Prop} : (bif b then p else q) ↔ (b = true -> p) /\ (b = false -> q) := by cases b <;> simp
theorem uz {a b : Bool} : (bif a then true else b) = (a || b) := by cases a <;> rfl
theorem qV {a b : Bool} : (bif a then b else false) = (a && b) := by cases a <;> rfl
theorem wrap_i64 (x : Int) : IntKind.wrap .i64 x = (x + 9223372036854775808) % 18446744073709551616 - 9223372036854775808 := by
 simp only [IntKind.wrap, IntKind.signed, IntKind.bits]; simp; omega
theorem wrap_i32 (x : Int) : IntKind.wrap .i32 x = (x + 2147483648) % 4294967296 - 2147483648 := by
 simp only [IntKind.wrap, IntKind.signed, IntKind.bits]; simp; omega
theorem wrap_u8 (x : Int) : IntKind.wrap .u8 x = x % 256 := by simp [IntKind.wrap, IntKind.signed, IntKind.bits]
theorem wrap_u64 (x : Int) : IntKind.wrap .u64 x = x % 18446744073709551616 := by simp [IntKind.wrap, IntKind.signed, IntKind.bits]
theorem oL {x : Int} (h1 : -9223372036854775808 <= x) (h2 : x <= 9223372036854775807) : IntKind.wrap .i64 x = x := by
 rw [wrap_i64]; omega
theorem PU {x : Int} (h : Valid (.int .i64) x) : -9223372036854775808 <= x /\ x <= 9223372036854775807 := by simpa [Valid, IntKind.min, IntKind.max, IntKind.signed, IntKind.bits] using h
theorem vU8 {x : Int} (h : Valid (.int .u8) x) : 0 <= x /\ x <= 255 := by simpa [Valid, IntKind.min, IntKind.max, IntKind.signed, IntKind.bits] using h
theorem Jk (x y : Int) : Int.add x y = x + y := rfl
theorem DI (x y : Int) : Int.sub x y = x - y := rfl
theorem NU (x y : Int) : Int.mul x y = x * y := rfl
theorem NV (x y : Nat) : Nat.add x y = x + y := rfl
theorem kH (x y : Nat) : Nat.sub x y = x - y := rfl
theorem NW (x y : Nat) : Nat.mul x y = x * y := rfl
theorem NY (a b : Int) : Fg a b = min a b := by unfold Fg; omega
theorem IK {α : Type} (x y : List α) : List.append x y = x ++ y := rfl
def jy (k : IntKind) (a b : Int) : Int := k.wrap (BitVec.ofInt k.bits a &&& BitVec.ofInt k.bits b).toNat
def orK (k : IntKind) (a b : Int) : Int := k.wrap (BitVec.ofInt k.bits a ||| BitVec.ofInt k.bits b).toNat
def qg (k : IntKind) (a b : Int) : Int := k.wrap (BitVec.ofInt k.bits a &&& ~~~ (BitVec.ofInt k.bits b)).toNat
theorem Jl (k : IntKind) (a b : Int) : k.wrap (↑((BitVec.ofInt k.bits a).and (BitVec.ofInt k.bits b)).toNat : Int) = jy k a b := rfl
theorem G9 (k : IntKind) (a b : Int) : k.wrap (↑((BitVec.ofInt k.bits a).or (BitVec.ofInt k.bits b)).toNat : Int) = orK k a b := rfl
theorem CJ (k : IntKind) (a b : Int) : k.wrap (↑((BitVec.ofInt k.bits a).and (BitVec.ofInt k.bits b).not).toNat : Int) = qg k a b := rfl
theorem maxLen_eq : maxLen = 9223372036854775807 := rfl
theorem getD_at {α : Type} {l : List α} {k : Nat} {d : α} (h : k < l.length) : l.getD k d = l[k] := by
 rw [List.getD_eq_getElem?_getD, List.getElem?_eq_getElem h]; rfl
theorem drop_at {α : Type} {l : List α} {i : Int} (h0 : 0 <= i) (h : i < l.length) : l.drop i.toNat = l[i.toNat] :: l.drop (i + 1).toNat := by
 rw [List.drop_eq_getElem_cons (by omega)]; congr 2; omega
theorem take_at {α : Type} {l : List α} {i : Int} (h0 : 0 <= i) (h : i < l.length) : l.take (i + 1).toNat = l.take i.toNat ++ [l[i.toNat]] := by
 rw [show (i + 1).toNat = i.toNat + 1 by omega, List.take_succ_eq_append_getElem (by omega)]
theorem drop_end {α : Type} {l : List α} {i : Int} (h : l.length <= i) : l.drop i.toNat = [] := List.drop_eq_nil_of_le (by omega)
theorem Am {α : Type} {l : List α} {i : Int} (h : l.length <= i) : l.take i.toNat = l := List.take_of_length_le (by omega)
end Go.Vc.T
set_option linter.unusedSimpArgs false
set_option linter.unusedVariables false
namespace Go.Vc
open Go.ChangeShapes Go.WideShapes Go.ChangeAt Go.RowKit
theorem yu {P : Program} {w : World} {n : String} {d : DataW Unit} : ∀ {l : List (String × DataW Unit)} {ps : List MemPlace}, DataW.LaidVars P w l ps -> (n, d) ∈ l ->
 ∃ g t cs fuel p, P.globalNamed n = some g /\ (P.globals[g]?).map (·.type) = some t /\ w.var? P n = some cs /\ DataW.trod (fun _ => ()) P w 0 (fun _ => true) false fuel t cs.toList = some (d, p)
 | [], _, _, h => by cases h
 | (n', d') :: r, ps, ⟨g, t, cs, fuel, p, q, h1, h2, h3, h4, h5, _⟩, h => by
   rcases List.mem_cons.1 h with h | h
   ·cases h; exact ⟨g, t, cs, fuel, p, h1, h2, h3, h4⟩
   ·exact yu h5 h
def Ap (P : Program) (laid : List (String × DataW Unit)) (gl : Nat -> Option (Sigma Ty.den)) : Prop :=
 ∀ g t x, gl g = some ⟨t, x⟩ -> ∃ n d T, (n, d) ∈ laid /\ P.globalNamed n = some g /\ (P.globals[g]?).map (·.type) = some T /\ tyB P 24 T t = true /\ gU t [d] = some x
theorem Lu {P : Program} {laid : List (String × DataW Unit)} {gl : Nat -> Option (Sigma Ty.den)} {W : World} (h : laidMet P laid W) (hgl : Ap P laid gl) : qJ gl (Old W) W := by
 intro g t x hg
 obtain ⟨ps, hv, _⟩ := h
 obtain ⟨n, d, T, hm, e1, e2, e3, e4⟩ := hgl g t x hg
 obtain ⟨g', T', cs, fuel, p, k1, k2, k3, k4⟩ := yu hv hm
 rw [e1] at k1; cases k1
 rw [e2] at k2; cases k2
 obtain ⟨v, q1, q2, _, q4⟩ := nN 24 T t e3 _ _ _ k4
 have hx : v = x := by
  have e : some v = some x := q4.symm.trans e4
  exact Option.some.inj e
 subst hx
 refine ⟨cs.toList, ⟨?_, fun i u hu => ?_⟩, q1, q2⟩
 ·simp only [World.var?, e1, Option.bind_some] at k3
  show g < W.heap.size
  split at k3
  ·rename_i c _ _ hc
   exact (Array.getElem?_eq_some_iff.1 hc).1
  ·cases k3
 ·have := World.var?_cell e1 k3 i
  have hadd : (⟨g, 0, none⟩ : Addr).add i = ⟨g, i, none⟩ := by unfold Addr.add; split <;> simp_all
  rw [hadd, this, <- Array.getElem?_toList]; exact hu
theorem He {P : Program} {l : List (String × DataW Unit)} {w : World} (hn : (l.filter fun x => x.2.handleName?.isSome) = []) (h : laidMetH P l w) : laidMet P l w := by
 unfold laidMetH at h
 rw [hn] at h; exact h
theorem EL {C : Checked} {f : FuncId} {fn : Func} {s : ChangeSpec} {T : TypeId} {conds : List PathCond} {laid : List (String × DataW Unit)} {gl : Nat -> Option (Sigma Ty.den)} (ts : List Ty) (own : ownKnob C.prog.godebug = none) (noInit : C.prog.inits.idxOf? f = none) (hfn : C.prog.funcs[f]? = some fn)
 (hname : (fn.name == "runtime.NumGoroutine") = false) (hbody : fn.body.isSome = true) (hlaid : laidOutB C.prog = true) (hvars : s.vars = []) (hty : G8 C.prog fn.params.toList ts = true) (hres : fn.resultTypes = #[T]) (hT : C.prog.underlying T = some .bool)
 (hspec : ∀ (H : Type) (ds : List (DataW H)), ds.length = ts.length -> s.fn H ds = { results := [.lit (.bool true)], args := ds })
 (P : BK C.prog gl f ts (uy ts)) (PV : (laid.filter fun x => x.2.handleName?.isSome) = []) (hgl : Ap C.prog laid gl) (os : Os) (started : os.Started) (H : Type) (enc : TypeId × Value -> H)
 (witness : ∃ (w : World) (tape : Tape) (i : Input), w.os = os /\ (w.forCall tape i).Shaped C.prog /\ i.vars = [] /\ Input.okWide C.prog (w.forCall tape i) .any w.heap.size f i /\
   ((s.pre enc C.prog fn conds false (w.forCall tape i).memory i.args /\ laidMetH C.prog laid (w.forCall tape i).memory) /\ sizedMet enc C.prog fn (OpenSpec.ofChange s) false (w.forCall tape i).memory i.args) /\ Assume.holds {} C.prog (lone (Frame.enter C.prog f i.args .normal) [] (w.forCall tape i))) :
 ReturnsInHanded {} C os f .any (fun w args => (s.pre enc C.prog fn conds false w args /\ laidMetH C.prog laid w) /\ sizedMet enc C.prog fn (OpenSpec.ofChange s) false w args) (s.post enc C.prog fn false true false false) := by
 obtain ⟨b, hbody⟩ := Option.isSome_iff_exists.1 hbody
 refine returnsInHanded_of_change_and (C := C) (X := fun w _ => laidMetH C.prog laid w) (fun _ _ _ hh h => h.of_heap hh) own started noInit hfn witness ?_
 intro W base args ds gs before hval hW _ hsz hL _
 have hW' := hW
 obtain ⟨p, q, hA, hV, _⟩ := hW
 rw [hvars] at hV
 obtain ⟨rfl, rfl⟩ := trodVars_none hV
 rw [List.append_nil] at hsz
 obtain ⟨⟨x, hx, hshort⟩, hlen, hback⟩ := MP hlaid hty (fun j t v hj hv => hval j t v (by simpa using hj) (by simpa using hv)) hA
 have hd := P x args.toList W (Old W) (fun _ h => h) (Lu (He PV hL) hgl) hx (fun p hp => by
  rw [List.mem_singleton.1 hp]
  refine hshort fun n hn => ?_
  have e : (s.plain.varTypes C.prog) = [] := by simp [ChangeSpec.plain, DataSpec.varTypes, hvars]
  rw [e, List.append_nil] at hsz
  simpa using List.all_eq_true.1 hsz n hn)
 refine (Does.calls hfn hname hbody hd).mono fun e W' ⟨v, he, ι', I, hv⟩ => ?_
 refine ⟨v, he, ?_⟩
 have hv := vF (x := true) (by simpa [uy, ay, SV.one, Vc.one] using hv)
 subst hv
 have hk := I.kept
 have bel : Below W.heap.size W W' := ⟨hk.os, hk.tape, hk.output, hk.size, fun k hk' => hk.block k hk' (fun h => h)⟩
 obtain ⟨p', hp'⟩ := hback W' bel
 have hs := hspec H ds hlen
 have hs' : s.fn H (ds ++ []) = { results := [.lit (.bool true)], args := ds } := by rw [List.append_nil]; exact hs
 refine ⟨ds, [], _, [], p', [], hW', ?_, ?_, ?_, bel.frame _, fun h => by cases h⟩
 ·rw [hs', hres]; exact trodAll_mk1 (shut_bool hT _)
 ·rw [hs']; exact hp'
 ·rw [hvars, hs']; rfl
end Go.Vc
set_option linter.unusedVariables false
set_option linter.unusedSimpArgs false
namespace Go.Vc
theorem Jm (l : List Int) : (bs l).data.toList = l.map fun x => UInt8.ofNat x.toNat := by simp [bs]
def aO (x : Int) : Int := if 65 <= x /\ x <= 90 then x + 32 else x
def yw (l : List Int) : Prop := ∀ x ∈ l, x < 128
end Go.Vc
set_option linter.unusedVariables false
set_option linter.unusedSimpArgs false
