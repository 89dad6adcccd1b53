/- Leaves as plain data; the type table; constants. -/
import Derived.Test.YtddakledpipanaaVcInv
set_option linter.unusedVariables false
set_option linter.unusedSimpArgs false
namespace Go.Vc

/-- A part of a slice. -/
theorem PRep.part {S : Nat → Prop} {w : World} {e : Ty} {l : List e.den} {b a : Option Addr} {cp lo n : Nat} (h : PRep S w (.slice e) l [.slice b l.length cp])
    (hn : lo + n ≤ l.length) (ha : lo < cp → a = b.map (·.add (lo * e.sz))) : PRep S w (.slice e) ((l.drop lo).take n) [.slice a n (cp - lo)] := by
  obtain ⟨b', n', c', h1, h2, h3, h4⟩ := h
  simp only [List.cons.injEq, Value.slice.injEq, and_true] at h1
  obtain ⟨rfl, rfl, rfl⟩ := h1
  refine ⟨a, n, cp - lo, rfl, by rw [List.length_take, List.length_drop]; omega, by omega, fun hpos => ?_⟩
  obtain ⟨ad, h5, h6⟩ := h4 (by omega)
  rw [ha (by omega), h5]
  refine ⟨ad.add (lo * e.sz), rfl, fun i x hx => ?_⟩
  have hx' : l[lo + i]? = some x := by
    rw [List.getElem?_take] at hx
    split at hx
    · rwa [List.getElem?_drop] at hx
    · cases hx
  obtain ⟨ecs, h7, h8⟩ := h6 (lo + i) x hx'
  refine ⟨ecs, h7, ?_⟩
  rw [Addr.add_add, ← Nat.add_mul]; exact h8
theorem Valid.part {e : Ty} {l : List e.den} (h : Valid (.slice e) l) (lo n : Nat) : Valid (.slice e) ((l.drop lo).take n) := by
  refine ⟨fun x hx => h.1 x (List.mem_of_mem_drop (List.mem_of_mem_take hx)), ?_⟩
  have := h.2
  rw [List.length_take, List.length_drop]; omega
theorem PRep.nil_slice (S : Nat → Prop) (w : World) (e : Ty) : PRep S w (.slice e) [] [.slice none 0 0] := ⟨none, 0, 0, rfl, rfl, Nat.le_refl _, fun h => by omega⟩

theorem Valid.nil (e : Ty) : Valid (.slice e) [] := ⟨fun _ h => (by cases h), Nat.zero_le _⟩

/-- A row of one's own, told as a slice where its block is stable. -/
theorem ERep.slice {c : Ctx} {ι : Gh} {w : World} {M : Store} {id e0 : Nat} {t : Ty} {fr ap : Bool} {l : List t.den} (h : ERep c ι w M id (.row e0 t fr ap l)) {S' : Nat → Prop}
    (hS : ∀ b, ι.S b → S' b) (hk : ∀ k, ι.blk id = some k → S' k) : PRep (fun b => S' b ∧ (fr = true → c.w0.heap.size ≤ b)) w (.slice t) l [.slice (ι.base id) l.length (ι.cap id)] ∧ Valid (.slice t) l := by
  obtain ⟨xs, h1, h2, h3⟩ := h
  refine ⟨?_, h2⟩
  have pm : PRep (fun b => S' b ∧ (fr = true → c.w0.heap.size ≤ b)) w (.arr l.length t) l xs := PRep.mono (fun b hb => ⟨hS b hb.1, hb.2⟩) (fun _ _ => rfl) _ _ _ h1
  rcases h3.2 with ⟨hb, hc, hn, _⟩ | ⟨g, cur, fz, hb, hlb, hg, _, _, hnc, _, _, htk⟩
  · rw [hb, hc]
    exact ⟨none, l.length, 0, rfl, rfl, by omega, fun h => by omega⟩
  · rw [hb]
    refine pm.slice_of_arr ⟨⟨hk g (by rw [Gh.blk, hb]; rfl), fun hfr => ?_⟩, fun i v hv => ?_⟩ hnc
    · rw [hfr] at hlb; exact hlb
    · have ha : (⟨g, 0, none⟩ : Addr).add i = ⟨g, i, none⟩ := by unfold Addr.add; split <;> simp_all
      rw [ha, cell_of_row w g i cur _ fz hg]
      rw [← htk, List.getElem?_take] at hv
      split at hv
      · simpa using hv
      · cases hv

/-- What implode's answer is good for. -/
def ImOk (c : Ctx) (ι : Gh) (w : World) (M : Store) (t : Ty) (im : Im t) (cs : List Value) : Prop :=
  Frz M im.frz ∧ ∃ c1 c2, cs = c1 ++ c2 ∧ LsRep c ι w M im.rest c2 ∧ Valid t im.x ∧
    ∀ S' : Nat → Prop, (∀ b, ι.S b → S' b) → (∀ id e e0 k, (id, e) ∈ im.frz → M.get id = some e0 → e0.live = true → ι.blk id = some k → S' k) →
      PRep (fun b => S' b ∧ (im.fr = true → c.w0.heap.size ≤ b)) w t im.x c1

theorem implode_rep {c : Ctx} {ι : Gh} {w : World} {M : Store} (I : Inv c ι w M) : ∀ (t : Ty) {ls : List Leaf} {im : Im t} {cs : List Value}, implode M t ls = some im → LsRep c ι w M ls cs → ImOk c ι w M t im cs := by
  have hnil : Frz M [] := fun id e h => by cases h
  have lf : ∀ {l : Leaf} {r : List Leaf} {cs : List Value}, LsRep c ι w M (l :: r) cs → ∃ c1 c2, cs = c1 ++ c2 ∧ LRep c ι w M l c1 ∧ LsRep c ι w M r c2 := fun h => h
  intro t
  induction t with
  | int k =>
    intro ls im cs h hr
    cases ls with
    | nil => simp [implode] at h
    | cons l r =>
      cases l <;> simp only [implode] at h <;> first | cases h | skip
      split at h
      · rename_i hk; cases h; subst hk
        obtain ⟨c1, c2, h1, h2, h3⟩ := lf hr
        exact ⟨hnil, c1, c2, h1, h3, h2.2, fun _ _ _ => h2.1⟩
      · cases h
  | bool =>
    intro ls im cs h hr
    cases ls with
    | nil => simp [implode] at h
    | cons l r =>
      cases l <;> simp only [implode] at h <;> first
        | (cases h; done)
        | (cases h
           obtain ⟨c1, c2, h1, h2, h3⟩ := lf hr
           exact ⟨hnil, c1, c2, h1, h3, trivial, fun _ _ _ => h2⟩)
  | str =>
    intro ls im cs h hr
    cases ls with
    | nil => simp [implode] at h
    | cons l r =>
      cases l <;> simp only [implode] at h <;> first
        | (cases h; done)
        | (cases h
           obtain ⟨c1, c2, h1, h2, h3⟩ := lf hr
           exact ⟨hnil, c1, c2, h1, h3, h2.2, fun _ _ _ => h2.1⟩)
  | unit =>
    intro ls im cs h hr
    have e : implode M .unit ls = some ⟨true, (), ls, []⟩ := by cases ls <;> rfl
    rw [e] at h; cases h
    exact ⟨hnil, [], cs, rfl, hr, trivial, fun _ _ _ => rfl⟩
  | slice e _ =>
    intro ls im cs h hr
    cases ls with
    | nil => simp [implode] at h
    | cons l r =>
      obtain ⟨c1, c2, h1, h2, h3⟩ := lf hr
      cases l <;> simp only [implode] at h <;> first
        | (cases h; done)
        | skip
      case psl fr t' l' =>
        split at h
        · rename_i ht; cases h; subst ht
          exact ⟨hnil, c1, c2, h1, h3, h2.2, fun S' hS _ => PRep.mono (fun b hb => ⟨hS b hb.1, hb.2⟩) (fun _ _ => rfl) _ _ _ h2.1⟩
        · cases h
      case nils =>
        cases h
        refine ⟨hnil, c1, c2, h1, h3, Valid.nil e, fun _ _ _ => ?_⟩
        rw [show c1 = _ from h2]; exact PRep.nil_slice _ _ _
      case own id =>
        simp only [LRep] at h2
        cases he : M.get id with
        | none => rw [he] at h2; exact h2.elim
        | some en =>
          rw [he] at h h2
          cases en with
          | row e0 t' fr ap l' =>
            simp only at h h2
            split at h
            · rename_i ht; cases h; subst ht
              refine ⟨fun i x hx => ?_, c1, c2, h1, h3, (I.ents id _ he).slice (S' := fun _ => True) (fun _ _ => trivial) (fun _ _ => trivial) |>.2, fun S' hS hk => ?_⟩
              · simp at hx; obtain ⟨rfl, rfl⟩ := hx; exact ⟨_, _, _, rfl, .inr ⟨_, _, he⟩⟩
              · rw [h2]; exact ((I.ents id _ he).slice hS (fun k hb => hk id (.frz t' fr l') _ k (by simp) he rfl hb)).1
            · cases h
          | frz t' fr l' =>
            simp only at h h2
            split at h
            · rename_i ht; cases h; subst ht
              have hE := I.ents id _ he
              refine ⟨hnil, c1, c2, h1, h3, hE.2, fun S' hS _ => ?_⟩
              rw [h2]; exact PRep.mono (fun b hb => ⟨hS b hb.1, hb.2⟩) (fun _ _ => rfl) _ _ _ hE.1
            · cases h
          | obj ls => simp only at h2
          | dead => simp only at h; cases h
      case sl id lo n =>
        simp only [LRep] at h2
        cases he : M.get id with
        | none => rw [he] at h2; exact h2.elim
        | some en =>
          rw [he] at h h2
          cases en with
          | row e0 t' fr ap l' =>
            simp only at h h2
            split at h
            · rename_i ht; cases h; subst ht
              obtain ⟨a, ha, hn, haa⟩ := h2
              refine ⟨fun i x hx => ?_, c1, c2, h1, h3, ((I.ents id _ he).slice (S' := fun _ => True) (fun _ _ => trivial) (fun _ _ => trivial) |>.2).part _ _, fun S' hS hk => ?_⟩
              · simp at hx; obtain ⟨rfl, rfl⟩ := hx; exact ⟨_, _, _, rfl, .inr ⟨_, _, he⟩⟩
              · rw [ha]; exact (((I.ents id _ he).slice hS (fun k hb => hk id (.frz t' fr l') _ k (by simp) he rfl hb)).1).part hn haa
            · cases h
          | frz t' fr l' =>
            simp only at h h2
            split at h
            · rename_i ht; cases h; subst ht
              obtain ⟨a, ha, hn, haa⟩ := h2
              have hE := I.ents id _ he
              refine ⟨hnil, c1, c2, h1, h3, hE.2.part _ _, fun S' hS _ => ?_⟩
              rw [ha]; exact PRep.part (PRep.mono (fun b hb => ⟨hS b hb.1, hb.2⟩) (fun _ _ => rfl) _ _ _ hE.1) hn haa
            · cases h
          | obj ls => simp only at h2
          | dead => simp only at h; cases h
  | arr n e _ =>
    intro ls im cs h hr
    cases ls with
    | nil => simp [implode] at h
    | cons l r =>
      cases l <;> simp only [implode] at h <;> first | (cases h; done) | skip
      split at h
      · rename_i ht
        split at h
        · rename_i hn; cases h; subst ht; subst hn
          obtain ⟨c1, c2, h1, h2, h3⟩ := lf hr
          exact ⟨hnil, c1, c2, h1, h3, h2.2, fun S' hS _ => PRep.mono (fun b hb => ⟨hS b hb.1, hb.2⟩) (fun _ _ => rfl) _ _ _ h2.1⟩
        · cases h
      · cases h
  | pair a b iha ihb =>
    intro ls im cs h hr
    have e : implode M (.pair a b) ls = match implode M a ls with
      | some p => match implode M b p.rest with
        | some q => some ⟨p.fr && q.fr, (p.x, q.x), q.rest, p.frz ++ q.frz⟩
        | none => none
      | none => none := by cases ls <;> rfl
    rw [e] at h
    cases hp : implode M a ls with
    | none => rw [hp] at h; cases h
    | some p =>
      rw [hp] at h
      simp only at h
      cases hq : implode M b p.rest with
      | none => rw [hq] at h; cases h
      | some q =>
        rw [hq] at h; cases h
        obtain ⟨f1, c1, c2, h1, h2, v1, p1⟩ := iha hp hr
        obtain ⟨f2, d1, d2, k1, k2, v2, p2⟩ := ihb hq h2
        refine ⟨fun id e hx => ?_, c1 ++ d1, d2, by rw [h1, k1, List.append_assoc], k2, ⟨v1, v2⟩, fun S' hS hk => ?_⟩
        · rcases List.mem_append.1 hx with hx | hx
          · exact f1 id e hx
          · exact f2 id e hx
        · have q1 := p1 S' hS (fun id e e0 k hx => hk id e e0 k (List.mem_append.2 (.inl hx)))
          have q2 := p2 S' hS (fun id e e0 k hx => hk id e e0 k (List.mem_append.2 (.inr hx)))
          refine ⟨c1, d1, rfl, ?_, ?_⟩
          · exact PRep.mono (fun b hb => ⟨hb.1, fun hf => hb.2 (by simp only [Bool.and_eq_true] at hf; exact hf.1)⟩) (fun _ _ => rfl) _ _ _ q1
          · exact PRep.mono (fun b hb => ⟨hb.1, fun hf => hb.2 (by simp only [Bool.and_eq_true] at hf; exact hf.2)⟩) (fun _ _ => rfl) _ _ _ q2

end Go.Vc
