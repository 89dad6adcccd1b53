/- Leaves, cells, entries: the small laws. -/
import Derived.Test.YtddakledpipanaaVcRep
set_option linter.unusedVariables false
set_option linter.unusedSimpArgs false
namespace Go.Vc

/-! ### stores -/
theorem beq_no {i j : Nat} (h : i ≠ j) : Nat.beq i j = false := by
  cases hb : Nat.beq i j with
  | false => rfl
  | true => exact absurd (Nat.eq_of_beq_eq_true hb) h
theorem bool_no {b : Bool} (h : ¬ b = true) : b = false := by cases b <;> simp_all
theorem Store.get_set_same (M : Store) (id : Nat) (e : Entry) : (M.set id e).get id = some e := by
  induction M with
  | nil => simp [Store.set, Store.get]
  | cons p r ih =>
    obtain ⟨i, x⟩ := p
    by_cases h : Nat.beq i id = true
    · simp [Store.set, h, Store.get]
    · have h' : Nat.beq i id = false := bool_no h
      simp only [Store.set, h', cond_false, Store.get]; exact ih
theorem Store.get_set_other (M : Store) (id j : Nat) (e : Entry) (hne : j ≠ id) : (M.set id e).get j = M.get j := by
  induction M with
  | nil =>
    have : Nat.beq id j = false := beq_no fun h => hne h.symm
    simp [Store.set, Store.get, this]
  | cons p r ih =>
    obtain ⟨i, x⟩ := p
    by_cases h : Nat.beq i id = true
    · have hi : i = id := Nat.eq_of_beq_eq_true h
      subst hi
      have : Nat.beq i j = false := beq_no fun h => hne h.symm
      simp [Store.set, Store.get, this]
    · have h' : Nat.beq i id = false := bool_no h
      simp only [Store.set, h', cond_false, Store.get]
      rw [ih]
theorem Store.get_set (M : Store) (id j : Nat) (e : Entry) : (M.set id e).get j = if j = id then some e else M.get j := by
  split
  · rename_i h; rw [h]; exact Store.get_set_same ..
  · rename_i h; exact Store.get_set_other _ _ _ _ h
theorem Store.upds_append (M : Store) (a b : List (Nat × Entry)) : M.upds (a ++ b) = (M.upds a).upds b := by
  induction a generalizing M with
  | nil => rfl
  | cons p r ih => obtain ⟨i, e⟩ := p; exact ih _

/-! ### widths -/
theorem LRep.len {c : Ctx} {ι : Gh} {w : World} {M : Store} {l : Leaf} {cs : List Value} (h : LRep c ι w M l cs) : cs.length = l.width := by
  cases l with
  | int k n => rw [h.1]; rfl
  | bool b => rw [show cs = [.bool b] from h]; rfl
  | kb b => rw [show cs = [.bool b] from h]; rfl
  | str l => rw [h.1]; rfl
  | psl fr t l => exact PRep.len _ _ _ h.1
  | arr n fr t l => exact PRep.len _ _ _ h.1
  | nils => rw [show cs = _ from h]; rfl
  | nilp => rw [show cs = _ from h]; rfl
  | nilf => rw [show cs = _ from h]; rfl
  | nili => rw [show cs = _ from h]; rfl
  | own id =>
    simp only [LRep] at h
    split at h <;> first | (rw [h]; rfl) | (obtain ⟨v, rfl, _⟩ := h; rfl) | exact h.elim
  | sl id lo n =>
    simp only [LRep] at h
    split at h <;> first | (obtain ⟨a, rfl, _⟩ := h; rfl) | exact h.elim
  | asl id off lo n =>
    simp only [LRep] at h
    split at h
    · split at h <;> first | (obtain ⟨b, a, _, _, rfl, _⟩ := h; rfl) | exact h.elim
    · obtain ⟨a, rfl, _⟩ := h; rfl
    · exact h.elim
  | ptr id off =>
    simp only [LRep] at h
    split at h <;> first | (obtain ⟨b, _, rfl⟩ := h; rfl) | (obtain ⟨b, rfl, _⟩ := h; rfl) | exact h.elim
  | eptr id i off =>
    simp only [LRep] at h
    split at h <;> first | (obtain ⟨b, _, rfl⟩ := h; rfl) | (obtain ⟨b, rfl, _⟩ := h; rfl) | exact h.elim
  | aptr id aoff i off =>
    simp only [LRep] at h
    split at h
    · split at h <;> first | (obtain ⟨b, _, rfl⟩ := h; rfl) | exact h.elim
    · obtain ⟨a, rfl, _⟩ := h; rfl
    · exact h.elim
  | cst fr t y => obtain ⟨ad, pcs, rfl, _⟩ := h; rfl
  | fn f caps => rw [h.1]; rfl

theorem LRep.one {c : Ctx} {ι : Gh} {w : World} {M : Store} {l : Leaf} {cs : List Value} (h : LRep c ι w M l cs) : ∀ v ∈ cs, v.oneCell' = true := by
  have s1 : ∀ {u : Value}, u.oneCell' = true → cs = [u] → ∀ v ∈ cs, v.oneCell' = true := by
    rintro u hu rfl v hv; simp at hv; subst hv; exact hu
  cases l with
  | int k n => exact s1 rfl h.1
  | bool b => exact s1 rfl h
  | kb b => exact s1 rfl h
  | str l => exact s1 rfl h.1
  | psl fr t l => exact PRep.one _ _ _ h.1
  | arr n fr t l => exact PRep.one _ _ _ h.1
  | nils => exact s1 rfl h
  | nilp => exact s1 rfl h
  | nilf => exact s1 rfl h
  | nili => exact s1 rfl h
  | own id =>
    simp only [LRep] at h
    split at h <;> first | exact s1 rfl h | (obtain ⟨v, hv, ho⟩ := h; exact s1 ho hv) | exact h.elim
  | sl id lo n =>
    simp only [LRep] at h
    split at h <;> first | (obtain ⟨v, hv, ho⟩ := h; exact s1 ho hv) | (obtain ⟨a, ha, _⟩ := h; exact s1 rfl ha) | exact h.elim
  | asl id off lo n =>
    simp only [LRep] at h
    split at h
    · split at h <;> first | (obtain ⟨b, a, _, _, ha, _⟩ := h; exact s1 rfl ha) | exact h.elim
    · obtain ⟨v, hv, ho⟩ := h; exact s1 ho hv
    · exact h.elim
  | ptr id off =>
    simp only [LRep] at h
    split at h <;> first | (obtain ⟨b, _, hb⟩ := h; exact s1 rfl hb) | (obtain ⟨v, hv, ho⟩ := h; exact s1 ho hv) | exact h.elim
  | eptr id i off =>
    simp only [LRep] at h
    split at h <;> first | (obtain ⟨b, _, hb⟩ := h; exact s1 rfl hb) | (obtain ⟨v, hv, ho⟩ := h; exact s1 ho hv) | exact h.elim
  | aptr id aoff i off =>
    simp only [LRep] at h
    split at h
    · split at h <;> first | (obtain ⟨b, _, ha⟩ := h; exact s1 rfl ha) | exact h.elim
    · obtain ⟨v, hv, ho⟩ := h; exact s1 ho hv
    · exact h.elim
  | cst fr t y => obtain ⟨ad, pcs, hp, _⟩ := h; exact s1 rfl hp
  | fn f caps => exact s1 rfl h.1

theorem LsRep.len {c : Ctx} {ι : Gh} {w : World} {M : Store} : ∀ {ls : List Leaf} {cs : List Value}, LsRep c ι w M ls cs → cs.length = widths ls
  | [], _, h => by rw [show _ = [] from h]; rfl
  | _ :: _, _, ⟨c1, c2, h1, h2, h3⟩ => by rw [h1, List.length_append, h2.len, h3.len]; rfl
theorem LsRep.one {c : Ctx} {ι : Gh} {w : World} {M : Store} : ∀ {ls : List Leaf} {cs : List Value}, LsRep c ι w M ls cs → ∀ v ∈ cs, v.oneCell' = true
  | [], _, h => by rw [show _ = [] from h]; simp
  | _ :: _, _, ⟨c1, c2, h1, h2, h3⟩ => by
    rw [h1]; intro v hv
    rcases List.mem_append.1 hv with h | h
    · exact h2.one v h
    · exact h3.one v h
theorem LsRep.append {c : Ctx} {ι : Gh} {w : World} {M : Store} : ∀ {a b : List Leaf} {cs ds : List Value}, LsRep c ι w M a cs → LsRep c ι w M b ds → LsRep c ι w M (a ++ b) (cs ++ ds)
  | [], _, _, _, h, k => by rw [show _ = [] from h]; exact k
  | _ :: _, _, _, _, ⟨c1, c2, h1, h2, h3⟩, k => ⟨c1, c2 ++ _, by rw [h1, List.append_assoc], h2, h3.append k⟩
theorem LsRep.split {c : Ctx} {ι : Gh} {w : World} {M : Store} : ∀ {a b : List Leaf} {cs : List Value}, LsRep c ι w M (a ++ b) cs → ∃ c1 c2, cs = c1 ++ c2 ∧ LsRep c ι w M a c1 ∧ LsRep c ι w M b c2
  | [], _, cs, h => ⟨[], cs, rfl, rfl, h⟩
  | _ :: a, _, _, ⟨c1, c2, h1, h2, h3⟩ => by
    obtain ⟨d1, d2, rfl, k2, k3⟩ := LsRep.split (a := a) h3
    exact ⟨c1 ++ d1, d2, by rw [h1, List.append_assoc], ⟨c1, d1, rfl, h2, k2⟩, k3⟩

theorem ble_iff (a b : Nat) : Nat.ble a b = true ↔ a ≤ b := by rw [Nat.ble_eq]

theorem lget_go {c : Ctx} {ι : Gh} {w : World} {M : Store} : ∀ {ls : List Leaf} {n : Nat} {r : List Leaf} {cs : List Value}, lget.go ls n = some r → LsRep c ι w M ls cs → LsRep c ι w M r (cs.take n) ∧ n ≤ cs.length
  | _, 0, _, _, h, _ => by
    have e : ∀ ls, lget.go ls 0 = some [] := fun ls => by cases ls <;> rfl
    rw [e] at h; cases h; exact ⟨rfl, Nat.zero_le _⟩
  | [], n + 1, r, cs, h, _ => by simp [lget.go] at h
  | l :: ls, n + 1, r, cs, h, ⟨c1, c2, h1, h2, h3⟩ => by
    unfold lget.go at h
    cases hb : Nat.ble l.width (n + 1) with
    | false => rw [hb] at h; cases h
    | true =>
      rw [hb] at h
      simp only [cond_true] at h
      cases hg : lget.go ls (n + 1 - l.width) with
      | none => rw [hg] at h; cases h
      | some x =>
        rw [hg] at h; cases h
        obtain ⟨k1, k2⟩ := lget_go hg h3
        have hw := h2.len
        have hle := (ble_iff _ _).1 hb
        subst h1
        refine ⟨⟨c1, c2.take (n + 1 - l.width), ?_, h2, k1⟩, by rw [List.length_append]; omega⟩
        rw [List.take_append, hw, List.take_of_length_le (by omega)]
theorem lget_rep {c : Ctx} {ι : Gh} {w : World} {M : Store} : ∀ {ls : List Leaf} {off n : Nat} {r : List Leaf} {cs : List Value}, lget ls off n = some r → LsRep c ι w M ls cs →
    LsRep c ι w M r ((cs.drop off).take n) ∧ off + n ≤ cs.length
  | ls, 0, n, r, cs, h, hr => by
    have e : lget ls 0 n = lget.go ls n := by cases ls <;> rfl
    rw [e] at h
    obtain ⟨k1, k2⟩ := lget_go h hr
    exact ⟨k1, by omega⟩
  | [], off + 1, n, r, cs, h, _ => by simp [lget] at h
  | l :: ls, off + 1, n, r, cs, h, ⟨c1, c2, h1, h2, h3⟩ => by
    unfold lget at h
    cases hb : Nat.ble l.width (off + 1) with
    | false => rw [hb] at h; cases h
    | true =>
      rw [hb] at h
      simp only [cond_true] at h
      obtain ⟨k1, k2⟩ := lget_rep h h3
      have hw := h2.len
      have hle := (ble_iff _ _).1 hb
      subst h1
      refine ⟨?_, by rw [List.length_append]; omega⟩
      rw [List.drop_append, List.drop_of_length_le (by omega), List.nil_append, hw]
      exact k1
theorem lset_drop {c : Ctx} {ι : Gh} {w : World} {M : Store} : ∀ {ls : List Leaf} {n : Nat} {r : List Leaf} {cs : List Value}, lset.drop ls n = some r → LsRep c ι w M ls cs → LsRep c ι w M r (cs.drop n) ∧ n ≤ cs.length
  | ls, 0, r, cs, h, hr => by
    have e : lset.drop ls 0 = some ls := by cases ls <;> rfl
    rw [e] at h; cases h; exact ⟨hr, Nat.zero_le _⟩
  | [], n + 1, r, cs, h, _ => by simp [lset.drop] at h
  | l :: ls, n + 1, r, cs, h, ⟨c1, c2, h1, h2, h3⟩ => by
    unfold lset.drop at h
    cases hb : Nat.ble l.width (n + 1) with
    | false => rw [hb] at h; cases h
    | true =>
      rw [hb] at h
      simp only [cond_true] at h
      obtain ⟨k1, k2⟩ := lset_drop h h3
      have hw := h2.len
      have hle := (ble_iff _ _).1 hb
      subst h1
      refine ⟨?_, by rw [List.length_append]; omega⟩
      rw [List.drop_append, List.drop_of_length_le (by omega), List.nil_append, hw]
      exact k1
theorem lset_rep {c : Ctx} {ι : Gh} {w : World} {M : Store} {new : List Leaf} {ds : List Value} (hn : LsRep c ι w M new ds) : ∀ {ls : List Leaf} {off n : Nat} {r : List Leaf} {cs : List Value}, lset ls off n new = some r → LsRep c ι w M ls cs →
    LsRep c ι w M r (cs.take off ++ ds ++ cs.drop (off + n)) ∧ off + n ≤ cs.length
  | ls, 0, n, r, cs, h, hr => by
    have e : lset ls 0 n new = match lset.drop ls n with | some r => some (new ++ r) | none => none := by cases ls <;> rfl
    rw [e] at h
    cases hd : lset.drop ls n with
    | none => rw [hd] at h; cases h
    | some x =>
      rw [hd] at h; cases h
      obtain ⟨k1, k2⟩ := lset_drop hd hr
      refine ⟨?_, by omega⟩
      simp only [List.take_zero, List.nil_append, Nat.zero_add]
      exact hn.append k1
  | [], off + 1, n, r, cs, h, _ => by simp [lset] at h
  | l :: ls, off + 1, n, r, cs, h, ⟨c1, c2, h1, h2, h3⟩ => by
    unfold lset at h
    cases hb : Nat.ble l.width (off + 1) with
    | false => rw [hb] at h; cases h
    | true =>
      rw [hb] at h
      simp only [cond_true] at h
      cases hs : lset ls (off + 1 - l.width) n new with
      | none => rw [hs] at h; cases h
      | some x =>
        rw [hs] at h; cases h
        obtain ⟨k1, k2⟩ := lset_rep hn hs h3
        have hw := h2.len
        have hle := (ble_iff _ _).1 hb
        subst h1
        refine ⟨⟨c1, _, ?_, h2, k1⟩, by rw [List.length_append]; omega⟩
        rw [List.take_append, hw, List.take_of_length_le (by omega), List.drop_append, List.drop_of_length_le (by omega), List.nil_append, hw]
        simp only [List.append_assoc]
        rw [show off + 1 + n - l.width = off + 1 - l.width + n from by omega]
theorem lat_rep {c : Ctx} {ι : Gh} {w : World} {M : Store} : ∀ {ls : List Leaf} {off : Nat} {l : Leaf} {cs : List Value}, lat ls off = some l → LsRep c ι w M ls cs →
    LRep c ι w M l ((cs.drop off).take l.width) ∧ off + l.width ≤ cs.length
  | [], _, _, _, h, _ => by simp [lat] at h
  | l :: ls, 0, l', cs, h, ⟨c1, c2, h1, h2, h3⟩ => by
    simp only [lat, Option.some.injEq] at h
    subst h h1
    have hw := h2.len
    refine ⟨?_, by rw [List.length_append]; omega⟩
    rw [List.drop_zero, ← hw, List.take_left']
    · exact h2
    · rfl
  | l :: ls, off + 1, l', cs, h, ⟨c1, c2, h1, h2, h3⟩ => by
    unfold lat at h
    cases hb : Nat.ble l.width (off + 1) with
    | false => rw [hb] at h; cases h
    | true =>
      rw [hb] at h
      simp only [cond_true] at h
      obtain ⟨k1, k2⟩ := lat_rep h h3
      have hw := h2.len
      have hle := (ble_iff _ _).1 hb
      subst h1
      refine ⟨?_, by rw [List.length_append]; omega⟩
      rw [List.drop_append, List.drop_of_length_le (by omega), List.nil_append, hw]
      exact k1

/-! ### data as leaves -/
theorem explode_rep {c : Ctx} {ι : Gh} {w : World} {M : Store} {fr : Bool} : ∀ (t : Ty) (x : t.den) (cs : List Value), PRep (SF c ι fr) w t x cs → Valid t x → LsRep c ι w M (explode fr t x) cs
  | .int k, x, cs, h, hv => ⟨cs, [], by simp, ⟨h, hv⟩, rfl⟩
  | .bool, x, cs, h, _ => ⟨cs, [], by simp, h, rfl⟩
  | .str, x, cs, h, hv => ⟨cs, [], by simp, ⟨h, hv⟩, rfl⟩
  | .unit, x, cs, h, _ => h
  | .slice e, l, cs, h, hv => ⟨cs, [], by simp, ⟨h, hv⟩, rfl⟩
  | .arr n e, l, cs, h, hv => ⟨cs, [], by simp, ⟨h, hv⟩, rfl⟩
  | .pair a b, x, cs, ⟨c1, c2, h1, h2, h3⟩, hv => by
    rw [h1]
    exact (explode_rep a x.1 c1 h2 hv.1).append (explode_rep b x.2 c2 h3 hv.2)
theorem explode_back {c : Ctx} {ι : Gh} {w : World} {M : Store} {fr : Bool} : ∀ (t : Ty) (x : t.den) (cs : List Value), LsRep c ι w M (explode fr t x) cs → PRep (SF c ι fr) w t x cs ∧ Valid t x
  | .int k, x, cs, ⟨c1, c2, h1, h2, h3⟩ => by rw [h1, show c2 = [] from h3, List.append_nil]; exact h2
  | .bool, x, cs, ⟨c1, c2, h1, h2, h3⟩ => by rw [h1, show c2 = [] from h3, List.append_nil]; exact ⟨h2, trivial⟩
  | .str, x, cs, ⟨c1, c2, h1, h2, h3⟩ => by rw [h1, show c2 = [] from h3, List.append_nil]; exact h2
  | .unit, x, cs, h => ⟨h, trivial⟩
  | .slice e, l, cs, ⟨c1, c2, h1, h2, h3⟩ => by rw [h1, show c2 = [] from h3, List.append_nil]; exact h2
  | .arr n e, l, cs, ⟨c1, c2, h1, h2, h3⟩ => by rw [h1, show c2 = [] from h3, List.append_nil]; exact h2
  | .pair a b, x, cs, h => by
    obtain ⟨c1, c2, h1, h2, h3⟩ := LsRep.split h
    obtain ⟨p1, v1⟩ := explode_back a x.1 c1 h2
    obtain ⟨p2, v2⟩ := explode_back b x.2 c2 h3
    exact ⟨⟨c1, c2, h1, p1, p2⟩, v1, v2⟩

/-! ### parts of a list's cells -/
theorem flatten_part {α : Type} (n : Nat) : ∀ (ess : List (List α)) (i : Nat) (ec : List α), (∀ e ∈ ess, e.length = n) → ess[i]? = some ec → (ess.flatten.drop (i * n)).take n = ec
  | [], i, ec, _, h => by simp at h
  | e :: r, 0, ec, hl, h => by
    simp at h; subst h
    rw [List.flatten_cons, Nat.zero_mul, List.drop_zero, List.take_append, hl e (by simp), Nat.sub_self, List.take_zero, List.append_nil, List.take_of_length_le (by rw [hl e (by simp)]; omega)]
  | e :: r, i + 1, ec, hl, h => by
    have h' : r[i]? = some ec := by simpa using h
    rw [List.flatten_cons, List.drop_append, List.drop_of_length_le (by rw [hl e (by simp), Nat.succ_mul]; omega), List.nil_append, hl e (by simp)]
    rw [show (i + 1) * n - n = i * n from by rw [Nat.succ_mul]; omega]
    exact flatten_part n r i ec (fun x hx => hl x (by simp [hx])) h'
theorem At.add {S : Nat → Prop} {w : World} {ad : Addr} {cs : List Value} (h : At S w ad cs) (o n : Nat) : At S w (ad.add o) ((cs.drop o).take n) := by
  have eb : ∀ (a : Addr) (k : Nat), (a.add k).block = a.block := fun a k => by unfold Addr.add; split <;> rfl
  refine ⟨by rw [eb]; exact h.1, fun i v hv => ?_⟩
  have hi : cs[o + i]? = some v := by
    rw [List.getElem?_take] at hv
    split at hv
    · rw [List.getElem?_drop] at hv; exact hv
    · cases hv
  have ea : (ad.add o).add i = ad.add (o + i) := by
    unfold Addr.add
    by_cases h0 : o = 0
    · subst h0; simp
    · by_cases h1 : i = 0
      · subst h1; simp [h0]
      · simp [h0, h1, Nat.add_assoc]
  rw [ea]; exact h.2 _ _ hi
theorem Addr.add_add (ad : Addr) (o i : Nat) : (ad.add o).add i = ad.add (o + i) := by
  unfold Addr.add
  by_cases h0 : o = 0
  · subst h0; simp
  · by_cases h1 : i = 0
    · subst h1; simp [h0]
    · simp [h0, h1, Nat.add_assoc]

/-- An element of an array's cells. -/
theorem PRep.elem {S : Nat → Prop} {w : World} {n : Nat} {e : Ty} {l : List e.den} {cs : List Value} (h : PRep S w (.arr n e) l cs) (i : Nat) (hi : i < l.length) :
    PRep S w e (idx l i) ((cs.drop (i * e.sz)).take e.sz) ∧ (i + 1) * e.sz ≤ cs.length := by
  obtain ⟨h1, ess, h2, rfl, h4⟩ := h
  have hi' : i < ess.length := by omega
  have hx : l[i]? = some (idx l i) := by
    unfold idx
    rw [List.getD_eq_getElem?_getD, List.getElem?_eq_getElem hi]; rfl
  have hl : ∀ ec ∈ ess, ec.length = e.sz := by
    intro ec hec
    obtain ⟨j, hj, rfl⟩ := List.getElem_of_mem hec
    exact PRep.len _ _ _ (h4 j (l[j]'(by omega)) ess[j] (by simp) (by simp))
  have hp := h4 i _ ess[i] hx (by simp)
  rw [flatten_part e.sz ess i ess[i] hl (by simp)]
  refine ⟨hp, ?_⟩
  rw [length_flatten_const e.sz ess hl]
  exact Nat.mul_le_mul_right _ hi'
theorem Valid.elem {e : Ty} {l : List e.den} (h : ∀ x ∈ l, Valid e x) (i : Nat) (hi : i < l.length) : Valid e (idx l i) := by
  unfold idx
  rw [List.getD_eq_getElem?_getD, List.getElem?_eq_getElem hi]
  exact h _ (List.getElem_mem hi)
/-- An element of a slice. -/
theorem PRep.elemAt {S : Nat → Prop} {w : World} {e : Ty} {l : List e.den} {a : Option Addr} {n cp : Nat} (h : PRep S w (.slice e) l [.slice a n cp]) (i : Nat) (hi : i < l.length) :
    ∃ ad ecs, a = some ad ∧ PRep S w e (idx l i) ecs ∧ At S w (ad.add (i * e.sz)) ecs := by
  obtain ⟨a', n', c', h1, h2, h3, h4⟩ := h
  simp only [List.cons.injEq, Value.slice.injEq, and_true] at h1
  obtain ⟨rfl, rfl, rfl⟩ := h1
  obtain ⟨ad, h5, h6⟩ := h4 (by omega)
  have hx : l[i]? = some (idx l i) := by
    unfold idx
    rw [List.getD_eq_getElem?_getD, List.getElem?_eq_getElem hi]; rfl
  obtain ⟨ecs, h7, h8⟩ := h6 i _ hx
  exact ⟨ad, ecs, h5, h7, h8⟩

/-- Array cells that lie somewhere stable are a slice's. -/
theorem PRep.slice_of_arr {S : Nat → Prop} {w : World} {e : Ty} {l : List e.den} {xs : List Value} {ad : Addr} {cp : Nat} (h : PRep S w (.arr l.length e) l xs) (hA : At S w ad xs) (hc : l.length ≤ cp) :
    PRep S w (.slice e) l [.slice (some ad) l.length cp] := by
  refine ⟨some ad, l.length, cp, rfl, rfl, hc, fun _ => ⟨ad, rfl, fun i x hx => ?_⟩⟩
  obtain ⟨hi, rfl⟩ := List.getElem?_eq_some_iff.1 hx
  obtain ⟨h1, h2⟩ := h.elem i hi
  have ex : idx l i = l[i] := by unfold idx; rw [List.getD_eq_getElem?_getD, List.getElem?_eq_getElem hi]; rfl
  rw [ex] at h1
  exact ⟨_, h1, hA.add _ _⟩

end Go.Vc
