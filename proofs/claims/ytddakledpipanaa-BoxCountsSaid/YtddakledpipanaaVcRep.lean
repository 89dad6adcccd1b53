/- How the evaluator's states stand to the machine's: which block an entry lies in, what is stable, what may be changed. -/
import Derived.Test.YtddakledpipanaaVcCtl
set_option linter.unusedVariables false
set_option linter.unusedSimpArgs false
namespace Go.Vc

/-- The blocks that stay as they are; where each entry lies. -/
structure Gh where
  S : Nat → Prop
  base : Nat → Option Addr
  cap : Nat → Nat
/-- The world in which the function began; the blocks there that it may change; those that were stable there. -/
structure Ctx where
  w0 : World
  O : Nat → Prop
  S0 : Nat → Prop

def SF (c : Ctx) (ι : Gh) (fr : Bool) : Nat → Prop := fun b => ι.S b ∧ (fr = true → c.w0.heap.size ≤ b)

def LRep (c : Ctx) (ι : Gh) (w : World) (M : Store) : Leaf → List Value → Prop
  | .int k x, cs => cs = [.int k x] ∧ Valid (.int k) x
  | .bool b, cs => cs = [.bool b]
  | .kb b, cs => cs = [.bool b]
  | .str l, cs => cs = [.string (bs l)] ∧ Valid .str l
  | .psl fr t l, cs => PRep (SF c ι fr) w (.slice t) l cs ∧ Valid (.slice t) l
  | .arr n fr t l, cs => PRep (SF c ι fr) w (.arr n t) l cs ∧ Valid (.arr n t) l
  | .nils, cs => cs = [.slice none 0 0]
  | .nilp, cs => cs = [.pointer none]
  | .nilf, cs => cs = [.nilFunc]
  | .nili, cs => cs = [.nilIface]
  | .own id, cs => match M.get id with
    | some (.row _ _ _ _ l) => cs = [.slice (ι.base id) l.length (ι.cap id)]
    | some (.frz _ _ l) => cs = [.slice (ι.base id) l.length (ι.cap id)]
    | some .dead => ∃ v : Value, cs = [v] ∧ v.oneCell' = true
    | _ => False
  | .sl id lo n, cs => match M.get id with
    | some (.row _ t _ _ l) => ∃ a, cs = [.slice a n (ι.cap id - lo)] ∧ lo + n ≤ l.length ∧ (lo < ι.cap id → a = (ι.base id).map (·.add (lo * t.sz)))
    | some (.frz t _ l) => ∃ a, cs = [.slice a n (ι.cap id - lo)] ∧ lo + n ≤ l.length ∧ (lo < ι.cap id → a = (ι.base id).map (·.add (lo * t.sz)))
    | some .dead => ∃ v : Value, cs = [v] ∧ v.oneCell' = true
    | _ => False
  | .asl id off lo n, cs => match M.get id with
    | some (.obj ls) => match lat ls off with
      | some (.arr N _ t _) => ∃ b a, ι.base id = some ⟨b, 0, none⟩ ∧ lo + n ≤ N ∧ cs = [.slice (some a) n (N - lo)] ∧ (lo < N → a = ⟨b, off + lo * t.sz, none⟩)
      | _ => False
    | some .dead => ∃ v : Value, cs = [v] ∧ v.oneCell' = true
    | _ => False
  | .ptr id off, cs => match M.get id with
    | some (.obj _) => ∃ b, ι.base id = some ⟨b, 0, none⟩ ∧ cs = [.pointer (some ⟨b, off, none⟩)]
    | some .dead => ∃ v : Value, cs = [v] ∧ v.oneCell' = true
    | _ => False
  | .eptr id i off, cs => match M.get id with
    | some (.row _ t _ _ _) => ∃ ad, ι.base id = some ad ∧ cs = [.pointer (some (ad.add (i * t.sz + off)))]
    | some (.frz t _ _) => ∃ ad, ι.base id = some ad ∧ cs = [.pointer (some (ad.add (i * t.sz + off)))]
    | some .dead => ∃ v : Value, cs = [v] ∧ v.oneCell' = true
    | _ => False
  | .aptr id aoff i off, cs => match M.get id with
    | some (.obj ls) => match lat ls aoff with
      | some (.arr _ _ t _) => ∃ b, ι.base id = some ⟨b, 0, none⟩ ∧ cs = [.pointer (some ⟨b, aoff + (i * t.sz + off), none⟩)]
      | _ => False
    | some .dead => ∃ v : Value, cs = [v] ∧ v.oneCell' = true
    | _ => False
  | .cst fr t x, cs => ∃ ad pcs, cs = [.pointer (some ad)] ∧ At (SF c ι fr) w ad pcs ∧ PRep (SF c ι fr) w t x pcs ∧ Valid t x
  | .fn f caps, cs => cs = [.func (.func f) #[] (caps.map fun id => Value.pointer (ι.base id)).toArray] ∧ ∀ id ∈ caps, ∃ e, M.get id = some e ∧ (e = .dead ∨ ∃ ls, e = .obj ls)

def LsRep (c : Ctx) (ι : Gh) (w : World) (M : Store) : List Leaf → List Value → Prop
  | [], cs => cs = []
  | l :: r, cs => ∃ c1 c2, cs = c1 ++ c2 ∧ LRep c ι w M l c1 ∧ LsRep c ι w M r c2

def VRep (c : Ctx) (ι : Gh) (w : World) (M : Store) (x : V) (v : Value) : Prop :=
  ∃ cs, LsRep c ι w M x.ls cs ∧ match x.agg with
    | true => v = .agg cs.toArray
    | false => cs = [v] ∧ v.oneCell' = true

def VsRep (c : Ctx) (ι : Gh) (w : World) (M : Store) : List V → List Value → Prop
  | [], vs => vs = []
  | x :: r, vs => ∃ v ws, vs = v :: ws ∧ VRep c ι w M x v ∧ VsRep c ι w M r ws

def SVRep (c : Ctx) (ι : Gh) (w : World) (M : Store) : SV → Value → Prop
  | .v x, v => VRep c ι w M x v
  | .tup l, v => ∃ vs, v = .tuple vs.toArray ∧ VsRep c ι w M l vs

/-- A row: n elements of sz cells each, at the front of a block of its own (or nil). -/
def RowAt (w : World) (lb : Nat) (ap : Bool) (e sz : Nat) (b : Option Addr) (cap n : Nat) (xs : List Value) : Prop :=
  xs.length = n * sz ∧ ((b = none ∧ cap = 0 ∧ n = 0 ∧ ap = true) ∨
    ∃ g cur fz, b = some ⟨g, 0, none⟩ ∧ lb ≤ g ∧ w.heap[g]? = some (.cells cur e fz) ∧ (ap = true → fz = (0, 0)) ∧ (∀ j, j < cur.size → ¬ (fz.1 ≤ j ∧ j < fz.2)) ∧
      n ≤ cap ∧ cap ≤ maxLen ∧ cur.size = cap * sz ∧ cur.toList.take (n * sz) = xs)

def ERep (c : Ctx) (ι : Gh) (w : World) (M : Store) (id : Nat) : Entry → Prop
  | .row e t fr ap l => ∃ xs, PRep (SF c ι fr) w (.arr l.length t) l xs ∧ Valid (.slice t) l ∧ RowAt w (cond fr c.w0.heap.size 0) ap e t.sz (ι.base id) (ι.cap id) l.length xs
  | .frz t fr l => PRep (SF c ι fr) w (.slice t) l [.slice (ι.base id) l.length (ι.cap id)] ∧ Valid (.slice t) l
  | .obj ls => ∃ b cs T, ι.base id = some ⟨b, 0, none⟩ ∧ w.heap[b]? = some (.cells cs.toArray T (0, 0)) ∧ LsRep c ι w M ls cs
  | .dead => True

def Entry.live : Entry → Bool
  | .row .. | .obj _ => true
  | _ => false
def Gh.blk (ι : Gh) (id : Nat) : Option Nat := (ι.base id).map (·.block)

structure Kept (c : Ctx) (w : World) : Prop where
  os : w.os = c.w0.os
  tape : w.tape = c.w0.tape
  output : w.output = c.w0.output
  size : c.w0.heap.size ≤ w.heap.size
  block : ∀ b, b < c.w0.heap.size → ¬ c.O b → w.heap[b]? = c.w0.heap[b]?

structure Inv (c : Ctx) (ι : Gh) (w : World) (M : Store) : Prop where
  kept : Kept c w
  ents : ∀ id e, M.get id = some e → ERep c ι w M id e
  dis : ∀ i j ei ej k, M.get i = some ei → M.get j = some ej → ei.live = true → ej.live = true → ι.blk i = some k → ι.blk j = some k → i = j
  own : ∀ i e k, M.get i = some e → e.live = true → ι.blk i = some k → ¬ ι.S k ∧ (c.w0.heap.size ≤ k ∨ c.O k)
  stb : ∀ b, ι.S b → b < w.heap.size
  src : ∀ b, ι.S b → c.S0 b ∨ c.w0.heap.size ≤ b ∨ c.O b

/-- The same places for arrays. -/
def Shape (ls ls' : List Leaf) : Prop := ∀ off N fr t l, lat ls off = some (.arr N fr t l) → ∃ fr' l', lat ls' off = some (.arr N fr' t l')

/-- What an entry may become. -/
def Ev : Entry → Entry → Prop
  | _, .dead => True
  | .row _ t _ _ l, .row _ t' _ _ l' => t = t' ∧ l.length = l'.length
  | .row _ t _ _ l, .frz t' _ l' => t = t' ∧ l.length = l'.length
  | .frz t _ l, .frz t' _ l' => t = t' ∧ l.length = l'.length
  | .obj ls, .obj ls' => Shape ls ls'
  | _, _ => False
theorem Ev.refl (e : Entry) : Ev e e := by
  cases e with
  | row => exact ⟨rfl, rfl⟩
  | frz => exact ⟨rfl, rfl⟩
  | obj ls => exact fun off N fr t l h => ⟨fr, l, h⟩
  | dead => trivial
theorem Ev.trans {a b d : Entry} (h : Ev a b) (k : Ev b d) : Ev a d := by
  cases a <;> cases b <;> cases d <;> simp only [Ev] at * <;> first
    | trivial
    | exact ⟨h.1.trans k.1, h.2.trans k.2⟩
    | (intro off N fr t l hl
       obtain ⟨fr', l', h'⟩ := h off N fr t l hl
       exact k off N fr' t l' h')

structure Ext (ι : Gh) (w : World) (M : Store) (ι' : Gh) (w' : World) (M' : Store) : Prop where
  S : ∀ b, ι.S b → ι'.S b
  heap : ∀ b, ι.S b → w'.heap[b]? = w.heap[b]?
  base : ∀ id e, M.get id = some e → ι'.base id = ι.base id ∧ ι'.cap id = ι.cap id
  ev : ∀ id e, M.get id = some e → ∃ e', M'.get id = some e' ∧ Ev e e'

theorem Ext.refl (ι : Gh) (w : World) (M : Store) : Ext ι w M ι w M := ⟨fun _ h => h, fun _ _ => rfl, fun _ _ _ => ⟨rfl, rfl⟩, fun _ e h => ⟨e, h, Ev.refl e⟩⟩
theorem Ext.trans {ι ι' ι'' : Gh} {w w' w'' : World} {M M' M'' : Store} (h : Ext ι w M ι' w' M') (k : Ext ι' w' M' ι'' w'' M'') : Ext ι w M ι'' w'' M'' := by
  refine ⟨fun b hb => k.S b (h.S b hb), fun b hb => (k.heap b (h.S b hb)).trans (h.heap b hb), fun id e he => ?_, fun id e he => ?_⟩
  · obtain ⟨e', h1, _⟩ := h.ev id e he
    obtain ⟨h2, h3⟩ := h.base id e he
    obtain ⟨h4, h5⟩ := k.base id e' h1
    exact ⟨h4.trans h2, h5.trans h3⟩
  · obtain ⟨e', h1, h2⟩ := h.ev id e he
    obtain ⟨e'', h3, h4⟩ := k.ev id e' h1
    exact ⟨e'', h3, h2.trans h4⟩

theorem SF.mono {c : Ctx} {ι ι' : Gh} (h : ∀ b, ι.S b → ι'.S b) {fr : Bool} : ∀ b, SF c ι fr b → SF c ι' fr b := fun b hb => ⟨h b hb.1, hb.2⟩

theorem LRep.mono {c : Ctx} {ι ι' : Gh} {w w' : World} {M M' : Store} (x : Ext ι w M ι' w' M') {l : Leaf} {cs : List Value} (h : LRep c ι w M l cs) : LRep c ι' w' M' l cs := by
  have pm : ∀ fr (t : Ty) (y : t.den) (ds : List Value), PRep (SF c ι fr) w t y ds → PRep (SF c ι' fr) w' t y ds :=
    fun fr t y ds hd => PRep.mono (SF.mono x.S) (fun b hb => x.heap b hb.1) t y ds hd
  cases l with
  | int k n => exact h
  | bool b => exact h
  | kb b => exact h
  | str l => exact h
  | psl fr t l => exact ⟨pm _ _ _ _ h.1, h.2⟩
  | arr n fr t l => exact ⟨pm _ _ _ _ h.1, h.2⟩
  | nils => exact h
  | nilp => exact h
  | nilf => exact h
  | nili => exact h
  | own id =>
    simp only [LRep] at h ⊢
    cases he : M.get id with
    | none => rw [he] at h; exact h.elim
    | some e =>
      obtain ⟨e', h1, h2⟩ := x.ev id e he
      obtain ⟨b1, b2⟩ := x.base id e he
      rw [he] at h; rw [h1, b1, b2]
      cases e <;> cases e' <;> simp only [Ev] at h2 <;> first
        | (simp only at h ⊢; first | exact h | (rw [← h2.2]; exact h) | exact ⟨_, h, rfl⟩)
        | exact h2.elim
        | exact h.elim
  | sl id lo n =>
    simp only [LRep] at h ⊢
    cases he : M.get id with
    | none => rw [he] at h; exact h.elim
    | some e =>
      obtain ⟨e', h1, h2⟩ := x.ev id e he
      obtain ⟨b1, b2⟩ := x.base id e he
      rw [he] at h; rw [h1, b1, b2]
      cases e <;> cases e' <;> simp only [Ev] at h2 <;> first
        | (simp only at h ⊢; first | exact h | (obtain ⟨rfl, e2⟩ := h2; rw [← e2]; exact h) | (obtain ⟨a, ha, _⟩ := h; exact ⟨_, ha, rfl⟩))
        | exact h2.elim
        | exact h.elim
  | asl id off lo n =>
    simp only [LRep] at h ⊢
    cases he : M.get id with
    | none => rw [he] at h; exact h.elim
    | some e =>
      obtain ⟨e', h1, h2⟩ := x.ev id e he
      obtain ⟨b1, b2⟩ := x.base id e he
      rw [he] at h; rw [h1, b1]
      cases e with
      | obj ls =>
        simp only at h
        cases hl : lat ls off with
        | none => rw [hl] at h; exact h.elim
        | some q =>
          rw [hl] at h
          cases q <;> simp only at h <;> first
            | exact h.elim
            | (cases e' with
               | obj ls' =>
                 obtain ⟨fr', l', hl'⟩ := h2 off _ _ _ _ hl
                 simp only [hl']; exact h
               | dead => obtain ⟨b, a, _, _, hc, _⟩ := h; exact ⟨_, hc, rfl⟩
               | row => exact h2.elim
               | frz => exact h2.elim)
      | dead => cases e' <;> simp only [Ev] at h2 <;> exact h
      | row => exact h.elim
      | frz => exact h.elim
  | ptr id off =>
    simp only [LRep] at h ⊢
    cases he : M.get id with
    | none => rw [he] at h; exact h.elim
    | some e =>
      obtain ⟨e', h1, h2⟩ := x.ev id e he
      obtain ⟨b1, b2⟩ := x.base id e he
      rw [he] at h; rw [h1, b1]
      cases e <;> cases e' <;> simp only [Ev] at h2 <;> first
        | (simp only at h ⊢; first | exact h | (obtain ⟨b, _, hc⟩ := h; exact ⟨_, hc, rfl⟩))
        | exact h2.elim
        | exact h.elim
  | eptr id i off =>
    simp only [LRep] at h ⊢
    cases he : M.get id with
    | none => rw [he] at h; exact h.elim
    | some e =>
      obtain ⟨e', h1, h2⟩ := x.ev id e he
      obtain ⟨b1, b2⟩ := x.base id e he
      rw [he] at h; rw [h1, b1]
      cases e <;> cases e' <;> simp only [Ev] at h2 <;> first
        | (simp only at h ⊢; first | exact h | (obtain ⟨rfl, _⟩ := h2; exact h) | (obtain ⟨b, _, hc⟩ := h; exact ⟨_, hc, rfl⟩))
        | exact h2.elim
        | exact h.elim
  | aptr id aoff i off =>
    simp only [LRep] at h ⊢
    cases he : M.get id with
    | none => rw [he] at h; exact h.elim
    | some e =>
      obtain ⟨e', h1, h2⟩ := x.ev id e he
      obtain ⟨b1, b2⟩ := x.base id e he
      rw [he] at h; rw [h1, b1]
      cases e with
      | obj ls =>
        simp only at h
        cases hl : lat ls aoff with
        | none => rw [hl] at h; exact h.elim
        | some q =>
          rw [hl] at h
          cases q <;> simp only at h <;> first
            | exact h.elim
            | (cases e' with
               | obj ls' =>
                 obtain ⟨fr', l', hl'⟩ := h2 aoff _ _ _ _ hl
                 simp only [hl']; exact h
               | dead => obtain ⟨b, _, hc⟩ := h; exact ⟨_, hc, rfl⟩
               | row => exact h2.elim
               | frz => exact h2.elim)
      | dead => cases e' <;> simp only [Ev] at h2 <;> exact h
      | row => exact h.elim
      | frz => exact h.elim
  | cst fr t y =>
    obtain ⟨ad, pcs, h1, h2, h3, h4⟩ := h
    exact ⟨ad, pcs, h1, h2.mono (SF.mono x.S) (fun b hb => x.heap b hb.1), pm _ _ _ _ h3, h4⟩
  | fn f caps =>
    obtain ⟨h1, h2⟩ := h
    refine ⟨?_, fun id hid => ?_⟩
    · have e1 : caps.map (fun id => Value.pointer (ι'.base id)) = caps.map (fun id => Value.pointer (ι.base id)) := by
        refine List.map_congr_left fun id hid => ?_
        obtain ⟨e, he, _⟩ := h2 id hid
        rw [(x.base id e he).1]
      rw [h1, e1]
    · obtain ⟨e, he, hk⟩ := h2 id hid
      obtain ⟨e', h3, h4⟩ := x.ev id e he
      refine ⟨e', h3, ?_⟩
      rcases hk with rfl | ⟨ls, rfl⟩
      · cases e' <;> simp only [Ev] at h4 <;> exact .inl rfl
      · cases e' <;> simp only [Ev] at h4 <;> first | exact .inl rfl | exact .inr ⟨_, rfl⟩

theorem LsRep.mono {c : Ctx} {ι ι' : Gh} {w w' : World} {M M' : Store} (x : Ext ι w M ι' w' M') : ∀ {ls : List Leaf} {cs : List Value}, LsRep c ι w M ls cs → LsRep c ι' w' M' ls cs
  | [], _, h => h
  | _ :: _, _, ⟨c1, c2, h1, h2, h3⟩ => ⟨c1, c2, h1, h2.mono x, h3.mono x⟩
theorem VRep.mono {c : Ctx} {ι ι' : Gh} {w w' : World} {M M' : Store} (x : Ext ι w M ι' w' M') {y : V} {v : Value} (h : VRep c ι w M y v) : VRep c ι' w' M' y v := by
  obtain ⟨cs, h1, h2⟩ := h
  exact ⟨cs, h1.mono x, h2⟩
theorem VsRep.mono {c : Ctx} {ι ι' : Gh} {w w' : World} {M M' : Store} (x : Ext ι w M ι' w' M') : ∀ {l : List V} {vs : List Value}, VsRep c ι w M l vs → VsRep c ι' w' M' l vs
  | [], _, h => h
  | _ :: _, _, ⟨v, ws, h1, h2, h3⟩ => ⟨v, ws, h1, h2.mono x, h3.mono x⟩
theorem SVRep.mono {c : Ctx} {ι ι' : Gh} {w w' : World} {M M' : Store} (x : Ext ι w M ι' w' M') {y : SV} {v : Value} (h : SVRep c ι w M y v) : SVRep c ι' w' M' y v := by
  cases y with
  | v y => exact VRep.mono x h
  | tup l => obtain ⟨vs, h1, h2⟩ := h; exact ⟨vs, h1, h2.mono x⟩

end Go.Vc
