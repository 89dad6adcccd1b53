/- How the invariant is carried over a new block, a store, a row that can no longer be changed, a row that is given away. -/
import Derived.Test.YtddakledpipanaaVcLem
set_option linter.unusedVariables false
set_option linter.unusedSimpArgs false
namespace Go.Vc

theorem RowAt.mono {w w' : World} {lb : Nat} {ap : Bool} {e sz : Nat} {b : Option Addr} {cap n : Nat} {xs : List Value} (h : RowAt w lb ap e sz b cap n xs)
    (hw : ∀ k, b.map (·.block) = some k → w'.heap[k]? = w.heap[k]?) : RowAt w' lb ap e sz b cap n xs := by
  refine ⟨h.1, ?_⟩
  rcases h.2 with hn | ⟨g, cur, fz, h1, h2, h3, h4⟩
  · exact .inl hn
  · exact .inr ⟨g, cur, fz, h1, h2, by rw [hw g (by rw [h1]; rfl)]; exact h3, h4⟩
theorem RowAt.blk_lt {w : World} {lb : Nat} {ap : Bool} {e sz : Nat} {b : Option Addr} {cap n : Nat} {xs : List Value} (h : RowAt w lb ap e sz b cap n xs) :
    ∀ k, b.map (·.block) = some k → k < w.heap.size ∧ lb ≤ k := by
  intro k hk
  rcases h.2 with ⟨rfl, _⟩ | ⟨g, cur, fz, rfl, h2, h3, _⟩
  · simp at hk
  · simp at hk; subst hk
    exact ⟨(Array.getElem?_eq_some_iff.1 h3).1, h2⟩

theorem ERep.mono {c : Ctx} {ι ι' : Gh} {w w' : World} {M M' : Store} (x : Ext ι w M ι' w' M') {id : Nat} {e : Entry} (he : M.get id = some e)
    (hw : e.live = true → ∀ k, ι.blk id = some k → w'.heap[k]? = w.heap[k]?) (h : ERep c ι w M id e) : ERep c ι' w' M' id e := by
  obtain ⟨b1, b2⟩ := x.base id e he
  have pm : ∀ fr (t : Ty) (y : t.den) (ds : List Value), PRep (SF c ι fr) w t y ds → PRep (SF c ι' fr) w' t y ds :=
    fun fr t y ds hd => PRep.mono (SF.mono x.S) (fun b hb => x.heap b hb.1) t y ds hd
  cases e with
  | row e t fr ap l =>
    obtain ⟨xs, h1, h2, h3⟩ := h
    exact ⟨xs, pm _ _ _ _ h1, h2, by rw [b1, b2]; exact h3.mono (fun k hk => hw rfl k hk)⟩
  | frz t fr l =>
    obtain ⟨h1, h2⟩ := h
    exact ⟨by rw [b1, b2]; exact pm _ _ _ _ h1, h2⟩
  | obj ls =>
    obtain ⟨b, cs, T, h1, h2, h3⟩ := h
    exact ⟨b, cs, T, by rw [b1]; exact h1, by rw [hw rfl b (by rw [Gh.blk, h1]; rfl)]; exact h2, h3.mono x⟩
  | dead => trivial
theorem ERep.blk_lt {c : Ctx} {ι : Gh} {w : World} {M : Store} {id : Nat} {e : Entry} (h : ERep c ι w M id e) (hl : e.live = true) : ∀ k, ι.blk id = some k → k < w.heap.size := by
  intro k hk
  cases e with
  | row e t fr ap l => obtain ⟨xs, _, _, h3⟩ := h; exact (h3.blk_lt k hk).1
  | obj ls =>
    obtain ⟨b, cs, T, h1, h2, _⟩ := h
    rw [Gh.blk, h1] at hk; simp at hk; subst hk
    exact (Array.getElem?_eq_some_iff.1 h2).1
  | frz t fr l => cases hl
  | dead => cases hl

def Gh.put (ι : Gh) (id : Nat) (b : Option Addr) (cp : Nat) : Gh := { ι with base := fun i => if i = id then b else ι.base i, cap := fun i => if i = id then cp else ι.cap i }

/-- The world has turned at free blocks alone. -/
structure Turn (w w' : World) (free : Nat → Prop) : Prop where
  os : w'.os = w.os
  tape : w'.tape = w.tape
  output : w'.output = w.output
  size : w.heap.size ≤ w'.heap.size
  block : ∀ k, k < w.heap.size → ¬ free k → w'.heap[k]? = w.heap[k]?

theorem Turn.refl (w : World) (free : Nat → Prop) : Turn w w free := ⟨rfl, rfl, rfl, Nat.le_refl _, fun _ _ _ => rfl⟩
theorem Turn.alloc (w : World) (o : Obj) (free : Nat → Prop) : Turn w (w.alloc o) free := ⟨rfl, rfl, rfl, by simp, fun k hk _ => heap_alloc_old w o k hk⟩
theorem Turn.drew (w : World) (free : Nat → Prop) : Turn w w.drew free := ⟨rfl, rfl, rfl, by simp, fun _ _ _ => rfl⟩
theorem Turn.mono {w w' : World} {f g : Nat → Prop} (h : Turn w w' f) (hs : ∀ k, f k → g k) : Turn w w' g := ⟨h.os, h.tape, h.output, h.size, fun k hk hn => h.block k hk (fun hf => hn (hs k hf))⟩
theorem Turn.trans {w w' w'' : World} {f : Nat → Prop} (h : Turn w w' f) (k : Turn w' w'' f) : Turn w w'' f :=
  ⟨k.os.trans h.os, k.tape.trans h.tape, k.output.trans h.output, Nat.le_trans h.size k.size, fun i hi hn => (k.block i (Nat.lt_of_lt_of_le hi h.size) hn).trans (h.block i hi hn)⟩

def Inv.Free (c : Ctx) (ι : Gh) (M : Store) (k : Nat) : Prop := ¬ ι.S k ∧ (c.w0.heap.size ≤ k ∨ c.O k) ∧ ∀ j e, M.get j = some e → e.live = true → ι.blk j ≠ some k

theorem Kept.turn {c : Ctx} {w w' : World} {f : Nat → Prop} (h : Kept c w) (t : Turn w w' f) (hf : ∀ k, f k → c.w0.heap.size ≤ k ∨ c.O k) : Kept c w' :=
  ⟨t.os.trans h.os, t.tape.trans h.tape, t.output.trans h.output, Nat.le_trans h.size t.size, fun b hb hO => by
    rw [t.block b (Nat.lt_of_lt_of_le hb h.size) (fun hk => by rcases hf b hk with h1 | h1 <;> first | omega | exact hO h1)]
    exact h.block b hb hO⟩

theorem Ext.adopt {c : Ctx} {ι : Gh} {w w' : World} {M : Store} (I : Inv c ι w M) {nid : Nat} (hid : M.get nid = none) {f : Nat → Prop} (t : Turn w w' f) (hf : ∀ k, f k → ¬ ι.S k)
    (b : Option Addr) (cp : Nat) (e : Entry) : Ext ι w M (ι.put nid b cp) w' (M.set nid e) := by
  refine ⟨fun _ h => h, fun k hk => t.block k (I.stb k hk) (fun h => hf k h hk), fun id e' he => ?_, fun id e' he => ?_⟩
  · have hne : id ≠ nid := fun h => by rw [h, hid] at he; cases he
    simp [Gh.put, hne]
  · have hne : id ≠ nid := fun h => by rw [h, hid] at he; cases he
    exact ⟨e', by rw [Store.get_set_other _ _ _ _ hne]; exact he, Ev.refl _⟩

/-- A new entry, in a free block or in a new one. -/
theorem Inv.adopt {c : Ctx} {ι : Gh} {w w' : World} {M : Store} (I : Inv c ι w M) {nid : Nat} (hid : M.get nid = none) {f : Nat → Prop} (t : Turn w w' f)
    (hf : ∀ k, f k → Inv.Free c ι M k) (b : Option Addr) (cp : Nat) (e : Entry) (hb : ∀ a, b = some a → e.live = true → f a.block ∨ w.heap.size ≤ a.block)
    (hE : ERep c (ι.put nid b cp) w' (M.set nid e) nid e) : Inv c (ι.put nid b cp) w' (M.set nid e) := by
  have x := Ext.adopt I hid t (fun k hk => (hf k hk).1) b cp e
  have hne : ∀ {id e'}, M.get id = some e' → id ≠ nid := fun he h => by rw [h, hid] at he; cases he
  have ho : ∀ id e', M.get id = some e' → (ι.put nid b cp).blk id = ι.blk id := fun id e' he => by simp [Gh.blk, Gh.put, hne he]
  have hn : (ι.put nid b cp).blk nid = b.map (·.block) := by simp [Gh.blk, Gh.put]
  refine ⟨I.kept.turn t (fun k hk => (hf k hk).2.1), fun id e' he => ?_, fun i j ei ej k hi hj li lj bi bj => ?_, fun i e' k hi li bi => ?_, fun k hk => Nat.lt_of_lt_of_le (I.stb k hk) t.size, I.src⟩
  · rw [Store.get_set] at he
    split at he
    · rename_i h; cases he; subst h; exact hE
    · refine ERep.mono x he (fun hl k hk => ?_) (I.ents id e' he)
      exact t.block k ((I.ents id e' he).blk_lt hl k hk) (fun h => (hf k h).2.2 id e' he hl hk)
  · have key : ∀ {i ei}, M.get i = some ei → ei.live = true → (ι.put nid b cp).blk i = some k → b.map (·.block) = some k → e.live = true → False := by
      intro i ei hi li bi hk hl
      rw [ho i ei hi] at bi
      cases hb' : b with
      | none => rw [hb'] at hk; simp at hk
      | some a =>
        rw [hb'] at hk; simp at hk; subst hk
        rcases hb a hb' hl with h | h
        · exact (hf _ h).2.2 i ei hi li bi
        · have := (I.ents i ei hi).blk_lt li _ bi; omega
    rw [Store.get_set] at hi hj
    split at hi
    · rename_i h1
      split at hj
      · rename_i h2; rw [h1, h2]
      · cases hi; rw [h1, hn] at bi; exact (key hj lj bj bi li).elim
    · split at hj
      · rename_i h2; cases hj; rw [h2, hn] at bj; exact (key hi li bi bj lj).elim
      · rw [ho i ei hi] at bi; rw [ho j ej hj] at bj
        exact I.dis i j ei ej k hi hj li lj bi bj
  · rw [Store.get_set] at hi
    split at hi
    · rename_i h; cases hi; rw [h, hn] at bi
      cases hb' : b with
      | none => rw [hb'] at bi; simp at bi
      | some a =>
        rw [hb'] at bi; simp at bi; subst bi
        rcases hb a hb' li with h1 | h1
        · exact ⟨(hf _ h1).1, (hf _ h1).2.1⟩
        · exact ⟨fun hS => by have := I.stb _ hS; omega, .inl (Nat.le_trans I.kept.size h1)⟩
    · rw [ho i e' hi] at bi; exact I.own i e' k hi li bi

/-- Draws. -/
theorem Inv.turn0 {c : Ctx} {ι : Gh} {w w' : World} {M : Store} (I : Inv c ι w M) (t : Turn w w' (fun _ => False)) : Inv c ι w' M ∧ Ext ι w M ι w' M := by
  have x : Ext ι w M ι w' M := ⟨fun _ h => h, fun k hk => t.block k (I.stb k hk) (fun h => h), fun _ _ _ => ⟨rfl, rfl⟩, fun _ e h => ⟨e, h, Ev.refl e⟩⟩
  refine ⟨⟨I.kept.turn t (fun k hk => hk.elim), fun id e he => ?_, I.dis, I.own, fun k hk => Nat.lt_of_lt_of_le (I.stb k hk) t.size, I.src⟩, x⟩
  exact ERep.mono x he (fun hl k hk => t.block k ((I.ents id e he).blk_lt hl k hk) (fun h => h)) (I.ents id e he)

theorem Ext.change {c : Ctx} {ι : Gh} {w w' : World} {M : Store} (I : Inv c ι w M) {id : Nat} {e e' : Entry} (he : M.get id = some e) (hl : e.live = true) (hev : Ev e e')
    (t : Turn w w' (fun k => ι.blk id = some k)) : Ext ι w M ι w' (M.set id e') := by
  refine ⟨fun _ h => h, fun k hk => t.block k (I.stb k hk) (fun h => (I.own id e k he hl h).1 hk), fun _ _ _ => ⟨rfl, rfl⟩, fun j ej hj => ?_⟩
  rw [Store.get_set]
  split
  · rename_i h; subst h; rw [he] at hj; cases hj; exact ⟨e', rfl, hev⟩
  · exact ⟨ej, hj, Ev.refl _⟩
/-- One's own block has turned. -/
theorem Inv.change {c : Ctx} {ι : Gh} {w w' : World} {M : Store} (I : Inv c ι w M) {id : Nat} {e e' : Entry} (he : M.get id = some e) (hl : e.live = true) (hev : Ev e e')
    (t : Turn w w' (fun k => ι.blk id = some k)) (hE : ERep c ι w' (M.set id e') id e') : Inv c ι w' (M.set id e') := by
  have x := Ext.change I he hl hev t
  have old : ∀ {j ej}, (M.set id e').get j = some ej → ej.live = true → ∃ e0, M.get j = some e0 ∧ e0.live = true := by
    intro j ej hj lj
    rw [Store.get_set] at hj
    split at hj
    · rename_i h; subst h; exact ⟨e, he, hl⟩
    · exact ⟨ej, hj, lj⟩
  refine ⟨I.kept.turn t (fun k hk => (I.own id e k he hl hk).2), fun j ej hj => ?_, fun i j ei ej k hi hj li lj bi bj => ?_, fun i ei k hi li bi => ?_, fun k hk => Nat.lt_of_lt_of_le (I.stb k hk) t.size, I.src⟩
  · rw [Store.get_set] at hj
    split at hj
    · rename_i h; cases hj; subst h; exact hE
    · rename_i h
      refine ERep.mono x hj (fun lj k hk => ?_) (I.ents j ej hj)
      exact t.block k ((I.ents j ej hj).blk_lt lj k hk) (fun hb => h (I.dis j id ej e k hj he lj hl hk hb))
  · obtain ⟨a, ha, la⟩ := old hi li
    obtain ⟨d, hd, ld⟩ := old hj lj
    exact I.dis i j a d k ha hd la ld bi bj
  · obtain ⟨a, ha, la⟩ := old hi li
    exact I.own i a k ha la bi

/-- An entry is given up. -/
theorem Inv.kill {c : Ctx} {ι : Gh} {w : World} {M : Store} (I : Inv c ι w M) {id : Nat} {e : Entry} (he : M.get id = some e) :
    Inv c ι w (M.set id .dead) ∧ Ext ι w M ι w (M.set id .dead) ∧ (e.live = true → ∀ k, ι.blk id = some k → Inv.Free c ι (M.set id .dead) k) := by
  have x : Ext ι w M ι w (M.set id .dead) := by
    refine ⟨fun _ h => h, fun _ _ => rfl, fun _ _ _ => ⟨rfl, rfl⟩, fun j ej hj => ?_⟩
    rw [Store.get_set]
    split
    · exact ⟨_, rfl, by cases ej <;> trivial⟩
    · exact ⟨ej, hj, Ev.refl _⟩
  have old : ∀ {j ej}, (M.set id .dead).get j = some ej → ej.live = true → j ≠ id ∧ M.get j = some ej := by
    intro j ej hj lj
    rw [Store.get_set] at hj
    split at hj
    · cases hj; cases lj
    · rename_i h; exact ⟨h, hj⟩
  refine ⟨⟨I.kept, fun j ej hj => ?_, fun i j ei ej k hi hj li lj bi bj => ?_, fun i ei k hi li bi => ?_, I.stb, I.src⟩, x, fun hl k hk => ?_⟩
  · rw [Store.get_set] at hj
    split at hj
    · cases hj; trivial
    · exact ERep.mono x hj (fun _ _ _ => rfl) (I.ents j ej hj)
  · exact I.dis i j ei ej k (old hi li).2 (old hj lj).2 li lj bi bj
  · exact I.own i ei k (old hi li).2 li bi
  · obtain ⟨h1, h2⟩ := I.own id e k he hl hk
    refine ⟨h1, h2, fun j ej hj lj hb => ?_⟩
    obtain ⟨h3, h4⟩ := old hj lj
    exact h3 (I.dis j id ej e k h4 he lj hl hb hk)

/-- A row that is no longer changed: its block is stable from here on. -/
theorem Inv.freeze {c : Ctx} {ι : Gh} {w : World} {M : Store} (I : Inv c ι w M) {id e0 : Nat} {t : Ty} {fr ap : Bool} {l : List t.den} (he : M.get id = some (.row e0 t fr ap l)) :
    ∃ ι', Inv c ι' w (M.set id (.frz t fr l)) ∧ Ext ι w M ι' w (M.set id (.frz t fr l)) ∧ (∀ k, ι'.S k ↔ ι.S k ∨ ι.blk id = some k) ∧ ι'.base = ι.base ∧ ι'.cap = ι.cap := by
  let ι' : Gh := { ι with S := fun k => ι.S k ∨ ι.blk id = some k }
  have hrow := I.ents id _ he
  have x : Ext ι w M ι' w (M.set id (.frz t fr l)) := by
    refine ⟨fun _ h => .inl h, fun _ _ => rfl, fun _ _ _ => ⟨rfl, rfl⟩, fun j ej hj => ?_⟩
    rw [Store.get_set]
    split
    · rename_i h; subst h; rw [he] at hj; cases hj; exact ⟨_, rfl, rfl, rfl⟩
    · exact ⟨ej, hj, Ev.refl _⟩
  have old : ∀ {j ej}, (M.set id (.frz t fr l)).get j = some ej → ej.live = true → j ≠ id ∧ M.get j = some ej := by
    intro j ej hj lj
    rw [Store.get_set] at hj
    split at hj
    · cases hj; cases lj
    · rename_i h; exact ⟨h, hj⟩
  refine ⟨ι', ⟨I.kept, fun j ej hj => ?_, fun i j ei ej k hi hj li lj bi bj => ?_, fun i ei k hi li bi => ?_, fun k hk => ?_, fun k hk => ?_⟩, x, fun k => Iff.rfl, rfl, rfl⟩
  · rw [Store.get_set] at hj
    split at hj
    · rename_i h; cases hj; subst h
      obtain ⟨xs, h1, h2, h3⟩ := hrow
      refine ⟨?_, h2⟩
      have pm : PRep (SF c ι' fr) w (.arr l.length t) l xs := PRep.mono (SF.mono x.S) (fun _ _ => rfl) _ _ _ h1
      show PRep (SF c ι' fr) w (.slice t) l [.slice (ι.base j) l.length (ι.cap j)]
      rcases h3.2 with ⟨hb, hc, hn, _⟩ | ⟨g, cur, fz, hb, hlb, hg, _, _, hnc, _, _, htk⟩
      · rw [hb, hc]
        exact ⟨none, l.length, 0, rfl, rfl, by omega, fun h => by omega⟩
      · rw [hb]
        refine pm.slice_of_arr ⟨⟨.inr (by rw [Gh.blk, hb]; rfl), fun hfr => ?_⟩, fun i v hv => ?_⟩ hnc
        · rw [hfr] at hlb; exact hlb
        · have ha : (⟨g, 0, none⟩ : Addr).add i = ⟨g, i, none⟩ := by unfold Addr.add; split <;> simp_all
          rw [ha, cell_of_row w g i cur _ fz hg]
          rw [← htk, List.getElem?_take] at hv
          split at hv
          · simpa using hv
          · cases hv
    · exact ERep.mono x hj (fun _ _ _ => rfl) (I.ents j ej hj)
  · exact I.dis i j ei ej k (old hi li).2 (old hj lj).2 li lj bi bj
  · obtain ⟨h3, h4⟩ := old hi li
    obtain ⟨h5, h6⟩ := I.own i ei k h4 li bi
    refine ⟨fun hS => ?_, h6⟩
    rcases hS with hS | hS
    · exact h5 hS
    · exact h3 (I.dis i id ei _ k h4 he li rfl bi hS)
  · rcases hk with hk | hk
    · exact I.stb k hk
    · exact hrow.blk_lt rfl k hk
  · rcases hk with hk | hk
    · exact I.src k hk
    · exact .inr (I.own id _ k he rfl hk).2

/-- Rows that are told as plain data from here on. -/
def Frz (M : Store) (z : List (Nat × Entry)) : Prop := ∀ id e, (id, e) ∈ z → ∃ t fr l, e = .frz t fr l ∧ (M.get id = some e ∨ ∃ e0 ap, M.get id = some (.row e0 t fr ap l))
theorem Inv.freezeAll {c : Ctx} {w : World} : ∀ (z : List (Nat × Entry)) {ι : Gh} {M : Store}, Inv c ι w M → Frz M z →
    ∃ ι', Inv c ι' w (M.upds z) ∧ Ext ι w M ι' w (M.upds z) ∧ (∀ k, ι'.S k ↔ ι.S k ∨ ∃ id e e0, (id, e) ∈ z ∧ M.get id = some e0 ∧ e0.live = true ∧ ι.blk id = some k) ∧ ι'.base = ι.base ∧ ι'.cap = ι.cap
  | [], ι, M, I, _ => ⟨ι, I, Ext.refl _ _ _, fun k => ⟨.inl, fun h => h.elim id (fun ⟨_, _, _, h, _⟩ => by cases h)⟩, rfl, rfl⟩
  | (id, e) :: z, ι, M, I, hz => by
    obtain ⟨t, fr, l, rfl, h⟩ := hz id e (by simp)
    have hz' : ∀ M1 : Store, M1.get id = some (.frz t fr l) → (∀ j, j ≠ id → M1.get j = M.get j) → Frz M1 z := by
      intro M1 h1 h2 j ej hj
      obtain ⟨t', fr', l', rfl, h3⟩ := hz j ej (by simp [hj])
      refine ⟨t', fr', l', rfl, ?_⟩
      by_cases hji : j = id
      · subst hji
        left; rw [h1]
        rcases h with h | ⟨_, _, h⟩ <;> rcases h3 with h3 | ⟨_, _, h3⟩ <;> rw [h] at h3 <;> first | exact h3 | (cases h3; rfl) | cases h3
      · rw [h2 j hji]; exact h3
    rcases h with h | ⟨e0, ap, h⟩
    · have eM : M.set id (.frz t fr l) = M.upds [(id, .frz t fr l)] := rfl
      have hg : ∀ j, (M.set id (.frz t fr l)).get j = M.get j := fun j => by
        rw [Store.get_set]; split
        · rename_i hj; rw [hj, h]
        · rfl
      -- nothing turns but the store's own order
      have I1 : Inv c ι w (M.set id (.frz t fr l)) := by
        have x : Ext ι w M ι w (M.set id (.frz t fr l)) := ⟨fun _ h => h, fun _ _ => rfl, fun _ _ _ => ⟨rfl, rfl⟩, fun j ej hj => ⟨ej, by rw [hg]; exact hj, Ev.refl _⟩⟩
        refine ⟨I.kept, fun j ej hj => ?_, fun i j ei ej k hi hj => ?_, fun i ei k hi => ?_, I.stb, I.src⟩
        · rw [hg] at hj; exact ERep.mono x hj (fun _ _ _ => rfl) (I.ents j ej hj)
        · rw [hg] at hi hj; exact I.dis i j ei ej k hi hj
        · rw [hg] at hi; exact I.own i ei k hi
      have x1 : Ext ι w M ι w (M.set id (.frz t fr l)) := ⟨fun _ h => h, fun _ _ => rfl, fun _ _ _ => ⟨rfl, rfl⟩, fun j ej hj => ⟨ej, by rw [hg]; exact hj, Ev.refl _⟩⟩
      obtain ⟨ι', I2, x2, hS, hb, hc⟩ := Inv.freezeAll z I1 (hz' _ (by rw [hg]; exact h) (fun j _ => hg j))
      refine ⟨ι', I2, x1.trans x2, fun k => ?_, hb, hc⟩
      rw [hS]
      constructor
      · rintro (h1 | ⟨j, ej, e1, h1, h2, h3, h4⟩)
        · exact .inl h1
        · rw [hg] at h2; exact .inr ⟨j, ej, e1, by simp [h1], h2, h3, h4⟩
      · rintro (h1 | ⟨j, ej, e1, h1, h2, h3, h4⟩)
        · exact .inl h1
        · rcases List.mem_cons.1 h1 with h1 | h1
          · cases h1; rw [h] at h2; cases h2; cases h3
          · exact .inr ⟨j, ej, e1, h1, by rw [hg]; exact h2, h3, h4⟩
    · obtain ⟨ι1, I1, x1, hS1, hb1, hc1⟩ := I.freeze h
      obtain ⟨ι', I2, x2, hS, hb, hc⟩ := Inv.freezeAll z I1 (hz' _ (Store.get_set_same ..) (fun j hj => Store.get_set_other _ _ _ _ hj))
      refine ⟨ι', I2, x1.trans x2, fun k => ?_, hb.trans hb1, hc.trans hc1⟩
      rw [hS, hS1]
      have hblk : ∀ j, ι1.blk j = ι.blk j := fun j => by simp [Gh.blk, hb1]
      constructor
      · rintro ((h1 | h1) | ⟨j, ej, e1, h1, h2, h3, h4⟩)
        · exact .inl h1
        · exact .inr ⟨id, .frz t fr l, _, by simp, h, rfl, h1⟩
        · rw [Store.get_set] at h2
          split at h2
          · cases h2; cases h3
          · rw [hblk] at h4; exact .inr ⟨j, ej, e1, by simp [h1], h2, h3, h4⟩
      · rintro (h1 | ⟨j, ej, e1, h1, h2, h3, h4⟩)
        · exact .inl (.inl h1)
        · rcases List.mem_cons.1 h1 with h1 | h1
          · cases h1; exact .inl (.inr h4)
          · by_cases hji : j = id
            · subst hji; exact .inl (.inr h4)
            · exact .inr ⟨j, ej, e1, h1, by rw [Store.get_set_other _ _ _ _ hji]; exact h2, h3, by rw [hblk]; exact h4⟩

end Go.Vc
