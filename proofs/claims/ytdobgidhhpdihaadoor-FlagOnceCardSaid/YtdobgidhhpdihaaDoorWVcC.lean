/- append. -/
import Derived.Test.YtdobgidhhpdihaaDoorWVcB
import Derived.Maps.AppendAt
import Derived.Laws.OwnMore
import Derived.Lib.AppendStr
import Derived.Laws.BytesString
import Derived.Lib.ConvBytes
import Derived.Laws.Tables
import Derived.Lib.AppendZeros
import Derived.Lib.AppendZerosOnto
import Derived.ChangeKeysEq
set_option linter.unusedVariables false
set_option linter.unusedSimpArgs false
namespace Go.Vc
section
variable {S : Nat -> Prop} {w : World} {e : Ty}
theorem ah.ku : ah S w (.arr 0 e) [] [] := ⟨rfl, [], rfl, rfl, fun i x ec h => by simp at h⟩
theorem ah.L9 {l : List e.den} {x : e.den} {ec xs : List Value} (hx : ah S w e x ec) (h : ah S w (.arr l.length e) l xs) : ah S w (.arr (x :: l).length e) (x :: l) (ec ++ xs) := by
 obtain ⟨h1, ess, h2, h3, h4⟩ := h
 refine ⟨rfl, ec :: ess, by simp [h2], by simp [h3], fun i y yc hy hyc => ?_⟩
 cases i with
 | zero => simp at hy hyc; subst hy hyc; exact hx
 | succ i => exact h4 i y yc (by simpa using hy) (by simpa using hyc)
theorem ah.kC {l m : List e.den} {xs ys : List Value} (h : ah S w (.arr l.length e) l xs) (k : ah S w (.arr m.length e) m ys) : ah S w (.arr (l ++ m).length e) (l ++ m) (xs ++ ys) := by
 obtain ⟨h1, ess, h2, h3, h4⟩ := h
 obtain ⟨k1, fss, k2, k3, k4⟩ := k
 refine ⟨rfl, ess ++ fss, by simp [h2, k2], by simp [h3, k3], fun i y yc hy hyc => ?_⟩
 by_cases hi : i < l.length
 ·rw [List.getElem?_append_left hi] at hy
  rw [List.getElem?_append_left (by omega)] at hyc
  exact h4 i y yc hy hyc
 ·rw [List.getElem?_append_right (by omega)] at hy
  rw [List.getElem?_append_right (by omega), h2] at hyc
  exact k4 _ y yc hy hyc
theorem jJ {α : Type} (n : Nat) : ∀ (ess : List (List α)) (lo : Nat), (∀ ec ∈ ess, ec.length = n) -> ess.flatten.drop (lo * n) = (ess.drop lo).flatten
 | [], lo, _ => by simp
 | ec :: r, 0, _ => by simp
 | ec :: r, lo + 1, h => by
   rw [List.flatten_cons, List.drop_append, List.drop_of_length_le (by rw [h ec (by simp), Nat.succ_mul]; omega), List.nil_append, h ec (by simp), List.drop_succ_cons,
    show (lo + 1) * n - n = lo * n from by rw [Nat.succ_mul]; omega]
   exact jJ n r lo fun x hx => h x (by simp [hx])
theorem jK {α : Type} (k : Nat) : ∀ (ess : List (List α)) (n : Nat), (∀ ec ∈ ess, ec.length = k) -> ess.flatten.take (n * k) = (ess.take n).flatten
 | [], n, _ => by simp
 | ec :: r, 0, _ => by simp
 | ec :: r, n + 1, h => by
   rw [List.flatten_cons, List.take_append, List.take_of_length_le (by rw [h ec (by simp), Nat.succ_mul]; omega), h ec (by simp), List.take_succ_cons, List.flatten_cons,
    show (n + 1) * k - k = n * k from by rw [Nat.succ_mul]; omega]
   rw [jK k r n fun x hx => h x (by simp [hx])]
theorem ah.jL {N : Nat} {l : List e.den} {xs : List Value} (h : ah S w (.arr N e) l xs) {lo n : Nat} (hn : lo + n <= l.length) :
 ah S w (.arr n e) ((l.drop lo).take n) ((xs.drop (lo * e.sz)).take (n * e.sz)) := by
 obtain ⟨h1, ess, h2, rfl, h4⟩ := h
 have hl : ∀ ec ∈ ess, ec.length = e.sz := by
  intro ec hec
  obtain ⟨j, hj, rfl⟩ := List.getElem_of_mem hec
  exact ah.len _ _ _ (h4 j (l[j]'(by omega)) ess[j] (by simp) (by simp))
 refine ⟨by rw [List.length_take, List.length_drop]; omega, (ess.drop lo).take n, by rw [List.length_take, List.length_drop]; omega, ?_, fun i y yc hy hyc => ?_⟩
 ·rw [jJ e.sz ess lo hl, jK e.sz _ n fun x hx => hl x (List.mem_of_mem_drop hx)]
 ·rw [List.getElem?_take] at hy hyc
  split at hy
  ·rename_i hi
   rw [if_pos hi, List.getElem?_drop] at hyc
   rw [List.getElem?_drop] at hy
   exact h4 _ y yc hy hyc
  ·cases hy
theorem At.append {ad : Addr} {a b : List Value} (h : At S w ad a) (k : At S w (ad.add a.length) b) : At S w ad (a ++ b) := by
 refine ⟨h.1, fun i v hv => ?_⟩
 by_cases hi : i < a.length
 ·rw [List.getElem?_append_left hi] at hv; exact h.2 i v hv
 ·rw [List.getElem?_append_right (by omega)] at hv
  have := k.2 _ v hv
  rwa [Addr.add_add, show a.length + (i - a.length) = i by omega] at this
theorem add_block (a : Addr) (k : Nat) : (a.add k).block = a.block := by unfold Addr.add; split <;> rfl
theorem ah.xB : ∀ (l : List e.den) (ad : Addr), S ad.block -> (∀ (i : Nat) x, l[i]? = some x -> ∃ ecs, ah S w e x ecs /\ At S w (ad.add (i * e.sz)) ecs) ->
 ∃ xs, ah S w (.arr l.length e) l xs /\ At S w ad xs
 | [], ad, hS, _ => ⟨[], ah.ku, hS, fun i v hv => by simp at hv⟩
 | x :: l, ad, hS, h => by
   obtain ⟨ec, h1, h2⟩ := h 0 x (by simp)
   obtain ⟨xs, h3, h4⟩ := ah.xB l (ad.add e.sz) (by rw [add_block]; exact hS) (fun i y hy => by
    obtain ⟨ecs, k1, k2⟩ := h (i + 1) y (by simpa using hy)
    refine ⟨ecs, k1, ?_⟩
    rw [Addr.add_add, show e.sz + i * e.sz = (i + 1) * e.sz by rw [Nat.succ_mul]; omega]; exact k2)
   rw [Nat.zero_mul, add_zero'] at h2
   exact ⟨ec ++ xs, ah.L9 h1 h3, h2.append (by rw [ah.len _ _ _ h1]; exact h4)⟩
theorem ah.qG {l : List e.den} {a : Option Addr} {n c : Nat} (h : ah S w (.slice e) l [.slice a n c]) (h0 : 0 < l.length) :
 ∃ ad xs, a = some ad /\ ah S w (.arr l.length e) l xs /\ At S w ad xs := by
 obtain ⟨a', n', c', h1, h2, h3, h4⟩ := h
 simp only [List.cons.injEq, Value.slice.injEq, and_true] at h1
 obtain ⟨rfl, rfl, rfl⟩ := h1
 obtain ⟨ad, rfl, h6⟩ := h4 (by omega)
 have hS : S ad.block := by
  obtain ⟨x, hx⟩ : ∃ x, l[0]? = some x := ⟨l[0], by simp [h0]⟩
  obtain ⟨ecs, _, h7⟩ := h6 0 x hx
  have := h7.1
  rwa [add_block] at this
 obtain ⟨xs, h7, h8⟩ := ah.xB l ad hS h6
 exact ⟨ad, xs, rfl, h7, h8⟩
end
section
variable {P : Program} {c : Ctx} {ι : Gh} {w : World} {M : Store} {act : Act} {o : Oper} {cfg : Cfg}
def iE (c : Ctx) (ι : Gh) (w : World) (fr : Bool) (e : Ty) (m : List e.den) (v : Value) : Prop :=
 ∃ b cap, v = .slice b m.length cap /\ m.length <= cap /\
  (0 < m.length -> ∃ ad news, b = some ad /\ ah (SF c ι fr) w (.arr m.length e) m news /\ ∀ j u, news[j]? = some u -> w.cell? (ad.add j) = some u)
theorem iE.of_slice {fr : Bool} {e : Ty} {m : List e.den} {v : Value} (h : ah (SF c ι fr) w (.slice e) m [v]) : iE c ι w fr e m v := by
 obtain ⟨a, n, cp, h1, h2, h3, h4⟩ := id h
 simp only [List.cons.injEq, and_true] at h1
 subst h1
 refine ⟨a, cp, by rw [h2], by omega, fun h0 => ?_⟩
 obtain ⟨ad, xs, h5, h6, h7⟩ := h.qG h0
 exact ⟨ad, xs, h5, h6, h7.2⟩
theorem iE.Bh {e : Ty} {ap fr : Bool} {e0 id : Nat} {l : List e.den} (h : bH c ι w M id (.row e0 e fr ap l)) {lo n : Nat} (hn : lo + n <= l.length) {a : Option Addr}
 (ha : lo < ι.cap id -> a = (ι.base id).map (·.add (lo * e.sz))) : iE c ι w fr e ((l.drop lo).take n) (.slice a n (ι.cap id - lo)) := by
 obtain ⟨xs, h1, h2, h3⟩ := h
 have hlen : ((l.drop lo).take n).length = n := by rw [List.length_take, List.length_drop]; omega
 rcases h3.2 with ⟨hb, hc, hn0, _⟩ | ⟨g, cur, fz, hb, hlb, hg, _, _, hnc, _, hcs, htk, _⟩
 ·exact ⟨a, ι.cap id - lo, by rw [hlen], by omega, fun h0 => by omega⟩
 ·refine ⟨a, ι.cap id - lo, by rw [hlen], by omega, fun h0 => ?_⟩
  rw [ha (by omega), hb]
  refine ⟨_, (xs.drop (lo * e.sz)).take (n * e.sz), rfl, by rw [hlen]; exact h1.jL hn, fun j u hu => ?_⟩
  rw [Addr.add_add]
  rw [List.getElem?_take] at hu
  split at hu
  ·rw [List.getElem?_drop] at hu
   have hadd : (⟨g, 0, none⟩ : Addr).add (lo * e.sz + j) = ⟨g, lo * e.sz + j, none⟩ := by unfold Addr.add; split <;> simp_all
   show w.cell? ((⟨g, 0, none⟩ : Addr).add (lo * e.sz + j)) = some u
   rw [hadd, cell_of_row w g _ cur _ fz hg]
   rw [<- htk, List.getElem?_take] at hu
   split at hu
   ·simpa using hu
   ·cases hu
  ·cases hu
theorem uT (I : Inv c ι w M) {e : Ty} {y : Leaf} {fr : Bool} {m : List e.den} {v : Value} (h : listOf M e y = some (fr, m)) (hr : aj c ι w M y [v]) (hs : dK y = false) :
 iE c ι w fr e m v /\ Valid (.slice e) m := by
 cases y <;> simp only [listOf, dK] at h hs <;> first | (cases h; done) | skip
 case str => cases hs
 case psl fr' t l =>
  split at h
  ·rename_i ht; subst ht; cases h
   exact ⟨iE.of_slice hr.1, hr.2⟩
  ·cases h
 case cZ =>
  cases h
  have : v = .slice none 0 0 := by simpa [aj] using hr
  subst this
  exact ⟨⟨none, 0, rfl, Nat.le_refl _, fun h0 => by simp at h0⟩, Valid.nil e⟩
 case own id =>
  simp only [aj] at hr
  cases hm : M.get id with
  | none => rw [hm] at h; cases h
  | some en =>
    rw [hm] at h hr
    cases en with
    | row e0 t fr' ap l =>
      simp only at h hr
      split at h
      ·rename_i ht; subst ht; cases h
       obtain ⟨ax, hr1, hr2⟩ := hr
       have hv : v = .slice ax l.length (ι.cap id) := by simpa using hr1
       have hE := I.ents id _ hm
       have hs := iE.Bh hE (lo := 0) (n := l.length) (by omega) (a := ax) (fun h0 => by
        rw [hr2 h0]
        cases ι.base id with
        | none => rfl
        | some a => simp [add_zero'])
       rw [List.drop_zero, List.take_length, Nat.sub_zero] at hs
       rw [hv]
       show iE c ι w fr t l _ /\ Valid (.slice t) l
       exact ⟨hs, by obtain ⟨_, _, q, _⟩ := hE; exact q⟩
      ·cases h
    | frz t fr' l =>
      simp only at h hr
      split at h
      ·rename_i ht; subst ht; cases h
       obtain ⟨ax, hr1, hr2⟩ := hr
       have hv : v = .slice ax l.length (ι.cap id) := by simpa using hr1
       have hE := I.ents id _ hm
       rw [hv]; exact ⟨iE.of_slice (hE.1.hdr hr2), hE.2⟩
      ·cases h
    | obj ls => simp only at hr
    | hid q => simp only at hr
    | dead => simp only at h; cases h
 case sl id lo n =>
  simp only [aj] at hr
  cases hm : M.get id with
  | none => rw [hm] at h; cases h
  | some en =>
    rw [hm] at h hr
    cases en with
    | row e0 t fr' ap l =>
      simp only at h hr
      split at h
      ·rename_i ht; subst ht; cases h
       obtain ⟨a, e1, e2, e3⟩ := hr
       have hv : v = .slice a n (ι.cap id - lo) := by simpa using e1
       have hE := I.ents id _ hm
       rw [hv]
       exact ⟨iE.Bh hE e2 e3, by obtain ⟨_, _, q, _⟩ := hE; exact q.part _ _⟩
      ·cases h
    | frz t fr' l =>
      simp only at h hr
      split at h
      ·rename_i ht; subst ht; cases h
       obtain ⟨a, e1, e2, e3⟩ := hr
       have hv : v = .slice a n (ι.cap id - lo) := by simpa using e1
       have hE := I.ents id _ hm
       rw [hv]
       exact ⟨iE.of_slice (hE.1.part e2 e3), hE.2.part _ _⟩
      ·cases h
    | obj ls => simp only at hr
    | hid q => simp only at hr
    | dead => simp only at h; cases h
 case vw id lo n =>
  simp only [aj] at hr
  have emp : ∀ {fr : Bool} {e : Ty} {m : List e.den} {p : Option Addr × Nat}, m.length = 0 -> v = .slice p.1 0 p.2 -> iE c ι w fr e m v := fun h0 hv => ⟨_, _, by rw [hv, h0], by omega, fun h => by omega⟩
  cases hm : M.get id with
  | none => rw [hm] at h; cases h
  | some en =>
    rw [hm] at h hr
    cases en with
    | row e0 t fr' ap l =>
      simp only at h hr
      split at h
      ·rename_i ht; subst ht; cases h
       obtain ⟨p, e1, e2, e3⟩ := hr
       have hv : v = .slice p.1 n p.2 := by simpa using e1
       have hE := I.ents id _ hm
       refine ⟨?_, by obtain ⟨_, _, q, _⟩ := hE; exact q.part _ _⟩
       rcases Nat.eq_zero_or_pos n with h0 | h0
       ·subst h0; exact emp (by simp) hv
       ·obtain ⟨k1, k2⟩ := e3 h0
        obtain ⟨b, cp, g1, g2, g3⟩ := iE.Bh hE k1 (a := p.1) fun _ => k2
        have hlen : ((l.drop lo).take n).length = n := by rw [List.length_take, List.length_drop]; omega
        rw [hlen] at g1 g2
        cases g1
        exact ⟨p.1, p.2, by rw [hlen]; exact hv, by rw [hlen]; exact e2, g3⟩
      ·cases h
    | frz t fr' l =>
      simp only at h hr
      split at h
      ·rename_i ht; subst ht; cases h
       obtain ⟨p, e1, e2, e3⟩ := hr
       have hv : v = .slice p.1 n p.2 := by simpa using e1
       have hE := I.ents id _ hm
       refine ⟨?_, hE.2.part _ _⟩
       rcases Nat.eq_zero_or_pos n with h0 | h0
       ·subst h0; exact emp (by simp) hv
       ·obtain ⟨k1, k2⟩ := e3 h0
        obtain ⟨b, cp, g1, g2, g3⟩ := iE.of_slice (hE.1.part (lo := lo) (n := n) k1 (a := p.1) fun _ => k2)
        have hlen : ((l.drop lo).take n).length = n := by rw [List.length_take, List.length_drop]; omega
        rw [hlen] at g1 g2
        cases g1
        exact ⟨p.1, p.2, by rw [hlen]; exact hv, by rw [hlen]; exact e2, g3⟩
      ·cases h
    | obj ls => simp only at h; cases h
    | hid q => simp only at h; cases h
    | dead => simp only at h; cases h
 case asl id off lo n =>
  simp only [aj] at hr
  cases hm : M.get id with
  | none => rw [hm] at h; cases h
  | some en =>
    rw [hm] at h hr
    cases en with
    | hid q => simp only at hr
    | obj ls =>
      simp only at h hr
      cases hl : lat ls off with
      | none => rw [hl] at h; cases h
      | some q =>
        rw [hl] at h hr
        cases q <;> simp only at h hr
        rename_i N fr' t l
        split at h
        ·rename_i ht; subst ht
         cases hN' : Nat.ble N maxLen with
         | false => rw [hN'] at h; cases h
         | true =>
         rw [hN'] at h; cases h
         have hN' := (jY _ _).1 hN'
         obtain ⟨b, a, h1, h2, h3, h4⟩ := hr
         have hv : v = .slice (some a) n (N - lo) := by simpa using h3
         obtain ⟨b', cs, T, k1, k2, k3, _⟩ := I.ents id _ hm
         rw [h1] at k1; cases k1
         obtain ⟨⟨p1, p2⟩, p3⟩ := tZ hl k3
         have hN : l.length = N := p2.2
         show iE c ι w fr t ((l.drop lo).take n) v /\ Valid (.slice t) ((l.drop lo).take n)
         have hlen : ((l.drop lo).take n).length = n := by rw [List.length_take, List.length_drop]; omega
         refine ⟨⟨some a, N - lo, by rw [hlen]; exact hv, by omega, fun h0 => ?_⟩, ?_⟩
         ·have hlo : lo < N := by omega
          rw [h4 hlo]
          refine ⟨_, _, rfl, by rw [hlen]; exact p1.jL (by omega), fun j u hu => ?_⟩
          rw [List.getElem?_take] at hu
          split at hu
          ·rename_i hj
           rw [List.getElem?_drop, List.getElem?_take] at hu
           split at hu
           ·rw [List.getElem?_drop] at hu
            rw [Addr.add_lit, cell_of_row w b _ cs.toArray _ (0, 0) k2]
            rw [Nat.add_assoc]
            simpa using hu
           ·cases hu
          ·cases hu
         ·exact ⟨fun x hx => p2.1 x (List.mem_of_mem_drop (List.mem_of_mem_take hx)), by omega⟩
        ·cases h
    | row => simp only at hr
    | frz => simp only at hr
    | dead => simp only at h; cases h
theorem SF.weak {ι : Gh} {a b : Bool} (h : b = true -> a = true) : ∀ k, SF c ι a k -> SF c ι b k := fun _ hk => ⟨hk.1, fun hb => hk.2 (h hb)⟩
theorem ah.zeros {S : Nat -> Prop} (t : Ty) (n : Nat) : ah S w (.arr n t) (List.replicate n t.dft) (List.replicate n (aQ t)).flatten := jg S w (.arr n t)
theorem uU (z : Array Value) (n : Nat) (h : 0 < z.size) : Builtin.zeroCells z n = (List.replicate n z.toList).flatten.toArray := by
 have e : Builtin.zeroCells z n = madeCells z (n * z.size) := by
  unfold Builtin.zeroCells madeCells
  rfl
 rw [e]; exact xw z n h
theorem eH.zeros {fr : Bool} {t : Ty} {n cap : Nat} (h : n <= cap) : eH c ι w fr t n cap (List.replicate (cap - n) (aQ t)).flatten :=
 ⟨List.replicate (cap - n) t.dft, by rw [List.length_replicate]; omega, fun x hx => by rw [List.eq_of_mem_replicate hx]; exact dZ t, by rw [List.length_replicate]; exact ah.zeros t _⟩
theorem eH.cut {fr : Bool} {t : Ty} {l : List t.den} {cap k : Nat} {cs : List Value} (q1 : ah (SF c ι fr) w (.arr l.length t) l (cs.take (l.length * t.sz))) (hv : ∀ x ∈ l, Valid t x)
 (h : eH c ι w fr t l.length cap (cs.drop (l.length * t.sz))) (hk : k <= l.length) : eH c ι w fr t k cap (cs.drop (k * t.sz)) := by
 obtain ⟨sp, h1, h2, h3⟩ := h
 have hks : k * t.sz <= l.length * t.sz := Nat.mul_le_mul_right _ hk
 have hp := ah.jL q1 (lo := k) (n := l.length - k) (by omega)
 have hlen : ((l.drop k).take (l.length - k)).length = l.length - k := by rw [List.length_take, List.length_drop]; omega
 rw [List.drop_take, List.take_take, <- Nat.sub_mul, Nat.min_self] at hp
 have h4 := ah.kC (l := (l.drop k).take (l.length - k)) (by rw [hlen]; exact hp) h3
 refine ⟨(l.drop k).take (l.length - k) ++ sp, by rw [List.length_append, hlen]; omega, fun x hx => (List.mem_append.1 hx).elim (fun h => hv x (List.mem_of_mem_drop (List.mem_of_mem_take h))) (h2 x), ?_⟩
 have e : cs.drop (k * t.sz) = (cs.drop (k * t.sz)).take ((l.length - k) * t.sz) ++ cs.drop (l.length * t.sz) := by
  have e1 := List.take_append_drop ((l.length - k) * t.sz) (cs.drop (k * t.sz))
  rw [List.drop_drop, <- Nat.add_mul, show k + (l.length - k) = l.length by omega] at e1
  exact e1.symm
 rw [e]; exact h4
theorem eH.grow {fr : Bool} {t : Ty} {n m cap : Nat} {cs : List Value} (h : eH c ι w fr t n cap (cs.drop (n * t.sz))) (hm : n + m <= cap) : eH c ι w fr t (n + m) cap (cs.drop ((n + m) * t.sz)) := by
 obtain ⟨sp, h1, h2, h3⟩ := h
 have hp := ah.jL h3 (lo := m) (n := sp.length - m) (by omega)
 have hlen : ((sp.drop m).take (sp.length - m)).length = sp.length - m := by rw [List.length_take, List.length_drop]; omega
 refine ⟨(sp.drop m).take (sp.length - m), by rw [hlen]; omega, fun x hx => h2 x (List.mem_of_mem_drop (List.mem_of_mem_take hx)), ?_⟩
 rw [hlen]
 have hl : (cs.drop (n * t.sz)).length = sp.length * t.sz := by have := ah.len _ _ _ h3; simpa [Ty.sz] using this
 have e1 : (n + m) * t.sz = n * t.sz + m * t.sz := Nat.add_mul ..
 have e2 : (sp.length - m) * t.sz = sp.length * t.sz - m * t.sz := Nat.sub_mul ..
 rw [List.length_drop] at hl
 have e3 : ((cs.drop ((n + m) * t.sz)).take ((sp.length - m) * t.sz)) = cs.drop ((n + m) * t.sz) := List.take_of_length_le (by rw [List.length_drop]; omega)
 rw [List.drop_drop, <- Nat.add_mul, e3] at hp
 exact hp
theorem sD (l : List Int) (hl : ∀ x ∈ l, Byte x) : Lib.strCells (bs l) = l.map fun x => Value.int .u8 x := by
 simp only [Lib.strCells, bs, List.map_map]
 refine List.map_congr_left fun x hx => ?_
 simp only [Function.comp]
 rw [byte_back (hl x hx)]
theorem ah.bytes {S : Nat -> Prop} (l : List Int) : ah S w (.arr l.length (.int .u8)) l (l.map fun x => Value.int .u8 x) := by
 refine ⟨rfl, l.map fun x => [Value.int .u8 x], by simp, ?_, fun i x ec hx hec => ?_⟩
 ·induction l with
  | nil => rfl
  | cons x r ih => simp [ih]
 ·rw [List.getElem?_map, hx] at hec
  simp at hec; subst hec; rfl
theorem mO {l : List Int} (h : ∀ x ∈ l, Byte x) : ∀ x ∈ l, Valid (.int .u8) x := fun x hx => h x hx
structure Bj (w : World) (e sz : Nat) (zc : List Value) (v v' : Value) (w' : World) (b : Option Addr) (n cap m : Nat) (xs news : List Value) : Prop where
 out : (m = 0 /\ v' = v /\ w' = w) ∨
  (∃ g cur, b = some ⟨g, 0, none⟩ /\ w.heap[g]? = some (.cells cur e (0, 0)) /\ n + m <= cap /\ v' = .slice (some ⟨g, 0, none⟩) (n + m) cap /\
    w' = w.setRow g (cur.toList.take (n * sz) ++ news ++ cur.toList.drop (n * sz + news.length)).toArray) ∨
  (∃ cp, cap < n + m /\ n + m <= cp /\ cp <= maxLen /\ v' = .slice (some ⟨w.heap.size, 0, none⟩) (n + m) cp /\ w' = w.drew.alloc (.cells (xs ++ (news ++ (List.replicate (cp - (n + m)) zc).flatten)).toArray e))
def EX (w : World) (e sz : Nat) (b : Option Addr) (n cap : Nat) (xs : List Value) : Prop :=
 (cap = 0 /\ n = 0 /\ xs = []) ∨ ∃ g cur, b = some ⟨g, 0, none⟩ /\ w.heap[g]? = some (.cells cur e (0, 0)) /\ n <= cap /\ cap <= maxLen /\ cur.size = cap * sz /\ cur.toList.take (n * sz) = xs
theorem EX.cells {e sz : Nat} {b : Option Addr} {n cap : Nat} {xs : List Value} (h : EX w e sz b n cap xs) : xs.length = n * sz /\ n <= cap := by
 rcases h with ⟨rfl, rfl, rfl⟩ | ⟨g, cur, _, _, hn, _, hs, ht⟩
 ·simp
 ·refine ⟨?_, hn⟩
  rw [<- ht, List.length_take, Array.length_toList, hs]
  exact Nat.min_eq_left (Nat.mul_le_mul_right _ hn)
theorem kE {T U e ty : Nat} (hu : P.underlying T = some (.slice e)) {i : TypeInfo} {z : Value} (hi : P.info? e = some i) (hz : i.zero = some z) {te : Ty} (hs : i.size = te.sz) (hzc : z.cells.toList = aQ te) (hz1 : te.isAgg = false -> z.oneCell' = true) (h0 : 0 < te.sz)
 {y : Leaf} {yv : Value} {fy : Bool} {m : List te.den} (I : Inv c ι w M) (hl : listOf M te y = some (fy, m)) (hy : aj c ι w M y [yv]) (hty : cond (dK y) (P.underlying U = some .string /\ i.bytes = 1) (U = T))
 {b : Option Addr} {n cap : Nat} {xs : List Value} (hown : EX w e te.sz b n cap xs) (hb : (n + m.length) * i.bytes <= 140737488355328) (h63 : n + m.length <= maxLen) :
 ∃ v' w' news, (Builtin.append_ #[T, U] ty #[.slice b n cap, yv]).run P w = .ok v' w' /\ Bj w e te.sz (aQ te) (.slice b n cap) v' w' b n cap m.length xs news /\
  ah (SF c ι fy) w (.arr m.length te) m news /\ (∀ x ∈ m, Valid te x) := by
 have hzs : z.cells.size = te.sz := by rw [<- Array.length_toList, hzc, fB]
 have hzz : ∀ k, Builtin.zeroCells z.cells k = (List.replicate k (aQ te)).flatten.toArray := fun k => by rw [uU _ _ (by omega), hzc]
 obtain ⟨hxl, hnc⟩ := hown.cells
 have h63' : ((n + m.length : Nat) : Int) <= 9223372036854775807 := by simp only [maxLen] at h63; omega
 cases hstr : dK y with
 | false =>
   rw [hstr] at hty
   have hty : U = T := hty
   subst hty
   obtain ⟨⟨b', cp', hv, hcap, hsrc⟩, hval⟩ := uT I hl hy hstr
   subst hv
   by_cases hm : 0 < m.length
   ·obtain ⟨ad, news, rfl, h1, h2⟩ := hsrc hm
    have hlen : news.length = m.length * te.sz := ah.len _ _ _ h1
    have hlen' : news.length = m.length * i.size := by rw [hs]; exact hlen
    have grow : ∀ (old : List Value), old = xs -> cap < n + m.length -> (Builtin.append_ #[U, U] ty #[.slice b n cap, .slice (some ad) m.length cp']).run P w = .ok (.slice (some ⟨w.heap.size, 0, none⟩) (n + m.length) (grownCap w (n + m.length) cap e))
     (w.drew.alloc (.cells (old.toArray ++ news.toArray ++ Builtin.zeroCells z.cells (grownCap w (n + m.length) cap e - (n + m.length))) e)) -> ∃ v' w' news, (Builtin.append_ #[U, U] ty #[.slice b n cap, .slice (some ad) m.length cp']).run P w = .ok v' w' /\ Bj w e te.sz (aQ te) (.slice b n cap) v' w' b n cap m.length xs news /\
     ah (SF c ι fy) w (.arr m.length te) m news /\ (∀ x ∈ m, Valid te x) := by
     intro old ho hg hr
     subst ho
     refine ⟨_, _, news, hr, ⟨.inr (.inr ⟨_, hg, grownCap_ge .., grownCap_le_maxLen w _ _ _ h63, rfl, ?_⟩)⟩, h1, hval.1⟩
     rw [hzz]; congr 2; apply Array.ext'; simp [List.append_assoc]
    rcases hown with ⟨rfl, rfl, rfl⟩ | ⟨g, cur, rfl, hg, hn, hcm, hcs, htk⟩
    ·simp only [Nat.zero_add] at hb h63' grow ⊢
     cases b with
     | none =>
       have hr := run_append_nil (P := P) w U ty e i z hu hi hz ad m.length cp' news hlen' h2 hm h63' (by omega)
       exact grow [] rfl hm (by rw [hr]; simp)
     | some a =>
       have hr := run_append_grow (P := P) w U ty e i z hu hi hz a 0 0 [] (by simp) (fun j v hj => by simp at hj) ad m.length cp' news hlen' h2 (by omega) (by omega) (growslice_fits (by omega) (by rw [Nat.zero_add]; exact hb))
       simp only [Nat.zero_add] at hr
       exact grow [] rfl hm hr
    ·by_cases hroom : n + m.length <= cap
     ·have hfit : n * i.size + news.length <= cur.size := by rw [hlen', hcs, hs, <- Nat.add_mul]; exact Nat.mul_le_mul_right _ hroom
      have hr := run_append_room (P := P) w U ty e i hu hi g n cap cur hg ad m.length cp' news hlen' h2 (ah.one _ _ _ h1) hroom hfit
      rw [hs] at hr
      exact ⟨_, _, news, hr, ⟨.inr (.inl ⟨g, cur, rfl, hg, hroom, rfl, rfl⟩)⟩, h1, hval.1⟩
     ·have holds : ∀ j u, xs[j]? = some u -> w.cell? ((⟨g, 0, none⟩ : Addr).add j) = some u := fun j u hj => by
       rw [Addr.add_lit, Nat.zero_add, cell_of_row w g j cur _ (0, 0) hg]
       rw [<- htk, List.getElem?_take] at hj
       split at hj
       ·simpa using hj
       ·cases hj
      have hr := run_append_grow (P := P) w U ty e i z hu hi hz ⟨g, 0, none⟩ n cap xs (by rw [hs]; exact hxl) holds ad m.length cp' news hlen' h2 (by omega) h63' (growslice_fits (by omega) hb)
      exact grow xs rfl (by omega) hr
   ·have hm0 : m.length = 0 := by omega
    have hm1 : m = [] := List.eq_nil_of_length_eq_zero hm0
    subst hm1
    refine ⟨_, w, [], ?_, ⟨.inl ⟨rfl, rfl, rfl⟩⟩, ah.ku, fun x hx => by cases hx⟩
    cases b <;> cases b' <;> simp [Builtin.append_, run_underlying hu, sizeOf, typeInfo, hi, Builtin.lenOf, Builtin.firstCells, hnc, storeCells, loadCells, loadCellsFrom]
 | true =>
   rw [hstr] at hty
   obtain ⟨hU, hby⟩ := (hty : _ /\ _)
   cases y <;> simp only [dK, Bool.false_eq_true] at hstr
   rename_i l
   obtain ⟨hv, hval⟩ := hy
   have hv : yv = .string (bs l) := by simpa using hv
   subst hv
   simp only [listOf] at hl
   split at hl
   case h_2 => cases hl
   simp only [Option.some.injEq, Prod.mk.injEq] at hl
   obtain ⟨hl1, hl2⟩ := hl
   have hl2 := hl2.symm
   subst hl1 hl2
   have hs1 : i.size = 1 := hs
   have hz2 : z = .int .u8 0 := by
    have h1 := hz1 rfl
    cases z <;> first | (simp [Value.oneCell'] at h1; done) | (simp [Value.cells, aQ] at hzc ⊢ <;> first | exact hzc | exact absurd hzc (by simp))
   have hsz := gy m
   have hcells := sD m hval.1
   by_cases hm : 0 < m.length
   ·have hlen : (m.map fun x => Value.int .u8 x).length = m.length := by simp
    have hsc : (Lib.strCells (bs m)).toArray = (bs m).data.map (fun b => Value.int .u8 b.toNat) := by apply Array.ext'; simp [Lib.strCells]
    have grow : ∀ (old : List Value), old = xs -> cap < n + m.length -> (Builtin.append_ #[T, U] ty #[.slice b n cap, .string (bs m)]).run P w = .ok (.slice (some ⟨w.heap.size, 0, none⟩) (n + m.length) (grownCap w (n + m.length) cap e))
     (w.drew.alloc (.cells (old.toArray ++ (Lib.strCells (bs m)).toArray ++ Builtin.zeroCells z.cells (grownCap w (n + m.length) cap e - (n + m.length))) e)) -> ∃ v' w' news, (Builtin.append_ #[T, U] ty #[.slice b n cap, .string (bs m)]).run P w = .ok v' w' /\ Bj w e (Ty.int .u8).sz (aQ (.int .u8)) (.slice b n cap) v' w' b n cap m.length xs news /\
     ah (SF c ι true) w (.arr m.length (.int .u8)) m news /\ (∀ x ∈ m, Valid (.int .u8) x) := by
     intro old ho hg hr
     subst ho
     refine ⟨_, _, Lib.strCells (bs m), hr, ⟨.inr (.inr ⟨_, hg, grownCap_ge .., grownCap_le_maxLen w _ _ _ h63, rfl, ?_⟩)⟩, by rw [hcells]; exact ah.bytes m, mO hval.1⟩
     rw [hzz]; congr 2; apply Array.ext'; simp [List.append_assoc]
    have hbb : n + m.length <= 140737488355328 := by rw [hby, Nat.mul_one] at hb; exact hb
    rcases hown with ⟨rfl, rfl, rfl⟩ | ⟨g, cur, rfl, hg, hn, hcm, hcs, htk⟩
    ·simp only [Nat.zero_add] at hbb h63' grow ⊢
     cases b with
     | none =>
       have hr := run_append_nil_string (P := P) w T U ty e i z hu hU hi hz (bs m) (by omega) (by rw [hsz]; exact h63') (by rw [hsz, hby]; omega)
       rw [hsz] at hr
       exact grow [] rfl hm (by rw [hr, <- hsc]; simp)
     | some a =>
       have hr := Lib.run_append_grow_string (P := P) w T U ty e i z hu hU hi hz a 0 0 [] (by simp) (fun j v hj => by simp at hj) (bs m) (by omega) (by rw [hsz, Nat.zero_add]; exact h63') (by rw [hby]; exact growslice_fits (by omega) (by rw [hsz]; omega))
       simp only [Nat.zero_add, hsz] at hr
       exact grow [] rfl hm hr
    ·have hcs' : cur.size = cap := by rw [hcs]; exact Nat.mul_one _
     by_cases hroom : n + m.length <= cap
     ·have hr := Lib.run_append_room_string (P := P) w T U ty e i hu hU hi hs1 g n cap cur hg (bs m) (by rw [hsz]; exact hroom) (by rw [hsz]; omega)
      rw [hsz] at hr
      refine ⟨_, _, Lib.strCells (bs m), hr, ⟨.inr (.inl ⟨g, cur, rfl, hg, hroom, rfl, ?_⟩)⟩, by rw [hcells]; exact ah.bytes m, mO hval.1⟩
      rw [show (Ty.int .u8).sz = 1 from rfl, Nat.mul_one, Lib.strCells_length, hsz]
     ·have holds : ∀ j u, xs[j]? = some u -> w.cell? ((⟨g, 0, none⟩ : Addr).add j) = some u := fun j u hj => by
       rw [Addr.add_lit, Nat.zero_add, cell_of_row w g j cur _ (0, 0) hg]
       rw [<- htk, List.getElem?_take] at hj
       split at hj
       ·simpa using hj
       ·cases hj
      have hr := Lib.run_append_grow_string (P := P) w T U ty e i z hu hU hi hz ⟨g, 0, none⟩ n cap xs (by rw [hs1]; exact hxl) holds (bs m) (by omega) (by rw [hsz]; exact h63') (by rw [hby]; exact growslice_fits (by omega) (by rw [hsz]; omega))
      rw [hsz] at hr
      exact grow xs rfl (by omega) hr
   ·have hm0 : m.length = 0 := by omega
    have hm1 : m = [] := List.eq_nil_of_length_eq_zero hm0
    subst hm1
    refine ⟨_, w, [], ?_, ⟨.inl ⟨rfl, rfl, rfl⟩⟩, ah.ku, fun x hx => by cases hx⟩
    have hs0 : (bs []).size = 0 := gy []
    cases b <;> simp [Builtin.append_, run_underlying hu, run_underlying hU, sizeOf, typeInfo, hi, Builtin.lenOf, Builtin.firstCells, hnc, storeCells, hs0]
theorem iP {x y : Operand} {T U : Nat} {cl : Call} (ho : o.op = .call cl) (hc : cl.callee = .builtin .append) (ha : cl.args.toList = [x, y]) (ht : cl.argTypes.toList = [T, U]) {v : Value} {w' : World}
 (hr : (Builtin.append_ #[T, U] o.type #[act.eval x, act.eval y]).run P w = .ok v w') : (execOp act.eval o).run P w = .ok (.value v) w' := by
 obtain ⟨ce, as, ts⟩ := cl
 have ha' : as = #[x, y] := by apply Array.ext'; simpa using ha
 have ht' : ts = #[T, U] := by apply Array.ext'; simpa using ht
 have hc' : ce = .builtin .append := hc
 subst ha' ht' hc'
 simp [execOp, ho, resolve, invoke, builtin, hr, Result.andThen]
theorem ah.flat {S S' : Nat -> Prop} {w : World} : ∀ (t : Ty) (x : t.den) (cs : List Value), dI t = true -> ah S w t x cs -> ah S' w t x cs
 | .int _, _, _, _, h => h
 | .bool, _, _, _, h => h
 | .str, _, _, _, h => h
 | .unit, _, _, _, h => h
 | .slice _, _, _, hf, _ => by cases hf
 | .arr n e, l, cs, hf, ⟨h1, ess, h2, h3, h4⟩ => ⟨h1, ess, h2, h3, fun i x ec hx he => ah.flat e x ec hf (h4 i x ec hx he)⟩
 | .pair a b, x, cs, hf, ⟨c1, c2, h1, h2, h3⟩ => by
   simp only [dI, Bool.and_eq_true] at hf
   exact ⟨c1, c2, h1, ah.flat a x.1 c1 hf.1 h2, ah.flat b x.2 c2 hf.2 h3⟩
theorem qH {fy : Bool} {n : Nat} {te : Ty} {m : List te.den} {cs : List Value} (h : ah (SF c ι fy) w (.arr n te) m cs) : ah (SF c ι (fy || dI te)) w (.arr n te) m cs := by
 cases hf : dI te with
 | false => rw [Bool.or_false]; exact h
 | true => exact ah.flat (.arr n te) m cs hf h
theorem Inv.appended (I : Inv c ι w M) {nid : Nat} (hid : M.get nid = none) {e : Nat} {t : Ty} {fr : Bool} {b : Option Addr} {n cap : Nat} {xs news : List Value} {v' : Value} {w' : World} {l m : List t.den}
 (ho : Bj w e t.sz (aQ t) (.slice b n cap) v' w' b n cap m.length xs news) (hn : l.length = n) (q1 : ah (SF c ι fr) w (.arr l.length t) l xs) (hv : ∀ x ∈ l, Valid t x) (k5 : ah (SF c ι fr) w (.arr m.length t) m news) (k6 : ∀ x ∈ m, Valid t x)
 (hrow : (cap = 0 /\ n = 0 /\ xs = []) ∨ ∃ g cur, b = some ⟨g, 0, none⟩ /\ w.heap[g]? = some (.cells cur e (0, 0)) /\ n <= cap /\ cap <= maxLen /\ cur.size = cap * t.sz /\ cur.toList.take (n * t.sz) = xs /\ Inv.Free c ι M g /\ (cond fr c.lb 0) <= g /\ eH c ι w fr t n cap (cur.toList.drop (n * t.sz))) :
 ∃ ι', Inv c ι' w' (M.set nid (.row e t fr true (l ++ m))) /\ Ext ι w M ι' w' (M.set nid (.row e t fr true (l ++ m))) /\ aj c ι' w' (M.set nid (.row e t fr true (l ++ m))) (.own nid) [v'] := by
 subst hn
 have hxl : xs.length = l.length * t.sz := by have := ah.len _ _ _ q1; simpa [Ty.sz] using this
 have hml : news.length = m.length * t.sz := by have := ah.len _ _ _ k5; simpa [Ty.sz] using this
 have hval : ∀ x ∈ l ++ m, Valid t x := fun z hz => (List.mem_append.1 hz).elim (hv z) (k6 z)
 have happ := ah.kC q1 k5
 have hall : (xs ++ news).length = (l ++ m).length * t.sz := by rw [List.length_append, hxl, hml, List.length_append, Nat.add_mul]
 have own : ∀ {ι' : Gh} {w' : World} {L : List t.den} {a : Option Addr}, L.length = l.length + m.length -> (0 < ι'.cap nid -> a = ι'.base nid) -> aj c ι' w' (M.set nid (.row e t fr true L)) (.own nid) [.slice a (l.length + m.length) (ι'.cap nid)] := by
  intro ι' w' L a hL ha
  simp only [aj, Store.get_set_same]
  exact ⟨a, by rw [hL], ha⟩
 rcases ho.out with ⟨hm, hv', hw'⟩ | ⟨g, cur, hb, hg, hroom, rfl, rfl⟩ | ⟨cp, hlt, hge, hcm, rfl, rfl⟩
 ·have hm : m = [] := List.eq_nil_of_length_eq_zero hm
  subst hm
  subst hv' hw'
  rw [List.append_nil] at hval ⊢
  rcases hrow with ⟨rfl, hl0, rfl⟩ | ⟨g, cur, rfl, hg, hnc, hcm, hcs, htk, hfree, hlb, hsp⟩
  ·have hl0 : l = [] := List.eq_nil_of_length_eq_zero hl0
   subst hl0
   obtain ⟨ι', I', x', hb', hc'⟩ := I.row0 hid e t fr
   refine ⟨ι', I', x', ?_⟩
   have := own (ι' := ι') (w' := w') (L := []) (a := b) rfl (fun h => by rw [hc'] at h; omega)
   rw [hc'] at this
   exact this
  ·obtain ⟨ι', I', x', hb', hc'⟩ := I.row hid (e := e) (t := t) (fr := fr) (l := l) (cur := cur) (cap := cap) (g := g) true (0, 0) (Turn.refl w' (fun k => k = g)) (fun k hk => by subst hk; exact hfree) (.inl rfl) hlb (fun _ => rfl) (by simp) hnc hcm hcs hval
    (by rw [htk]; exact q1) (fun _ => hsp) hg
   refine ⟨ι', I', x', ?_⟩
   have := own (ι' := ι') (w' := w') (L := l) (a := some ⟨g, 0, none⟩) rfl (fun _ => hb'.symm)
   rw [hc'] at this
   exact this
 ·rcases hrow with ⟨rfl, hl0, rfl⟩ | ⟨g', cur', hb', hg', hnc, hcm, hcs, htk, hfree, hlb, hsp⟩
  ·
   have h1 : l.length = 0 := hl0
   have h2 : m.length = 0 := by omega
   have hl0 : l = [] := List.eq_nil_of_length_eq_zero h1
   have hm0 : m = [] := List.eq_nil_of_length_eq_zero h2
   subst hl0 hm0
   have hnews : news = [] := List.eq_nil_of_length_eq_zero (by simpa using hml)
   subst hnews
   have hsame : w.setRow g (cur.toList.take (([] : List t.den).length * t.sz) ++ [] ++ cur.toList.drop (([] : List t.den).length * t.sz + ([] : List Value).length)).toArray = w := by
    simp only [List.length_nil, Nat.zero_mul, List.take_zero, List.nil_append, List.drop_zero, Nat.zero_add, Array.toArray_toList]
    have hlt := (Array.getElem?_eq_some_iff.1 hg).1
    unfold World.setRow
    congr 1
    apply Array.ext_getElem?
    intro k
    by_cases hk : k = g
    ·subst hk; rw [Array.getElem?_modify, if_pos rfl, hg]; rfl
    ·simp [Array.getElem?_modify, Ne.symm hk]
   rw [hsame]
   obtain ⟨ι', I', x', hb', hc'⟩ := I.row0 hid e t fr
   refine ⟨ι', I', x', ?_⟩
   have := own (ι' := ι') (w' := w) (L := []) (a := some ⟨g, 0, none⟩) rfl (fun h => by rw [hc'] at h; omega)
   rw [hc'] at this
   exact this
  ·rw [hb] at hb'; cases hb'
   rw [hg] at hg'; cases hg'
   have hfit : l.length * t.sz + news.length <= cur.size := by rw [hml, hcs, <- Nat.add_mul]; exact Nat.mul_le_mul_right _ hroom
   have hcl : cur.toList.length = cur.size := Array.length_toList
   have hnew : (cur.toList.take (l.length * t.sz) ++ news ++ cur.toList.drop (l.length * t.sz + news.length)) = (xs ++ news) ++ cur.toList.drop ((l.length + m.length) * t.sz) := by rw [htk, hml, <- Nat.add_mul]
   rw [hnew]
   obtain ⟨ι', I', x', hb', hc'⟩ := I.row hid (e := e) (t := t) (fr := fr) (l := l ++ m) (cur := ((xs ++ news) ++ cur.toList.drop ((l.length + m.length) * t.sz)).toArray) (cap := cap) (g := g) true (0, 0) ((Turn.setRow w g _).mono (g := fun k => k = g) (fun k hk => hk)) (fun k hk => by rw [hk]; exact hfree) (.inl rfl) hlb (fun _ => rfl) (by simp) (by rw [List.length_append]; exact hroom) hcm
    (by rw [List.size_toArray, List.length_append, hall, List.length_drop, hcl, hcs, List.length_append]; have := Nat.mul_le_mul_right t.sz hroom; omega) hval
    (by rw [List.toList_toArray, List.take_left' hall]; exact happ) (fun _ => by rw [List.toList_toArray, List.drop_left' hall, List.length_append]; exact hsp.grow hroom) (setRow_heap w g _ _ _ _ hg)
   refine ⟨ι', I', x', ?_⟩
   have := own (ι' := ι') (w' := w.setRow g ((xs ++ news) ++ cur.toList.drop ((l.length + m.length) * t.sz)).toArray) (L := l ++ m) (a := some ⟨g, 0, none⟩) List.length_append (fun _ => hb'.symm)
   rw [hc'] at this
   exact this
 ·obtain ⟨ι', I', x', hb', hc'⟩ := I.row hid (e := e) (t := t) (fr := fr) (l := l ++ m) (cur := (xs ++ (news ++ (List.replicate (cp - (l.length + m.length)) (aQ t)).flatten)).toArray) (cap := cp) (g := w.heap.size) true (0, 0)
   (((Turn.drew w (fun _ => False))).trans (Turn.alloc w.drew _ _)) (fun _ h => h.elim) (.inr (Nat.le_refl _)) (by cases fr; exact Nat.zero_le _; exact I.kept.lb) (fun _ => rfl) (by simp) (by rw [List.length_append]; exact hge) hcm
   (by
     rw [List.size_toArray, <- List.append_assoc, List.length_append, hall, bD t.sz _ (fun ec hec => by rw [List.eq_of_mem_replicate hec, fB]), List.length_replicate, List.length_append, <- Nat.add_mul]
     congr 1; omega) hval
   (by rw [List.toList_toArray, <- List.append_assoc, List.take_left' hall]; exact happ) (fun _ => by rw [List.toList_toArray, <- List.append_assoc, List.drop_left' hall, List.length_append]; exact eH.zeros hge) (heap_alloc_new w.drew _)
  refine ⟨ι', I', x', ?_⟩
  have := own (ι' := ι') (w' := w.drew.alloc (.cells (xs ++ (news ++ (List.replicate (cp - (l.length + m.length)) (aQ t)).flatten)).toArray e)) (L := l ++ m) (a := some ⟨w.heap.size, 0, none⟩) List.length_append (fun _ => hb'.symm)
  rw [hc'] at this
  exact this
theorem bH.front (I : Inv c ι w M) {id e : Nat} {t : Ty} {fr : Bool} {l : List t.den} (hm : M.get id = some (.row e t fr true l)) {k : Nat} (hk : k <= l.length) {ax : Option Addr} (hax : 0 < ι.cap id -> ax = ι.base id) :
 ∃ xs, EX w e t.sz ax k (ι.cap id) xs /\ ah (SF c ι fr) w (.arr (l.take k).length t) (l.take k) xs /\
  ((ι.cap id = 0 /\ k = 0 /\ xs = []) ∨ ∃ g cur, ax = some ⟨g, 0, none⟩ /\ w.heap[g]? = some (.cells cur e (0, 0)) /\ k <= ι.cap id /\ ι.cap id <= maxLen /\ cur.size = ι.cap id * t.sz /\ cur.toList.take (k * t.sz) = xs /\ Inv.Free c ι (M.set id .dead) g /\ (cond fr c.lb 0) <= g /\
    eH c ι w fr t k (ι.cap id) (cur.toList.drop (k * t.sz))) := by
 obtain ⟨xs, q1, q2, q3⟩ := I.ents id _ hm
 have hkl : (l.take k).length = k := by rw [List.length_take]; omega
 have hks : k * t.sz <= l.length * t.sz := Nat.mul_le_mul_right _ hk
 have hp : ah (SF c ι fr) w (.arr (l.take k).length t) (l.take k) (xs.take (k * t.sz)) := by
  have := ah.jL q1 (lo := 0) (n := k) (by omega)
  rw [hkl]; simpa using this
 by_cases h0 : ι.cap id = 0
 ·have hk0 : k = 0 := by
   rcases q3.2 with ⟨_, _, hn, _⟩ | ⟨g, cur, fz, hb, hlb, hg, hfz, _, hnc, _⟩ <;> omega
  subst hk0
  rw [Nat.zero_mul, List.take_zero] at hp
  exact ⟨[], .inl ⟨h0, rfl, rfl⟩, hp, .inl ⟨h0, rfl, rfl⟩⟩
 ·rcases q3.2 with ⟨_, hcp, _, _⟩ | ⟨g, cur, fz, hb, hlb, hg, hfz, _, hnc, hcm, hcs, htk, hsp⟩
  ·exact absurd hcp h0
  ·have := hfz rfl; subst this
   have hax := hax (by omega)
   rw [hb] at hax
   have ht : cur.toList.take (k * t.sz) = xs.take (k * t.sz) := by rw [<- htk, List.take_take, Nat.min_eq_left hks]
   obtain ⟨_, _, hfr⟩ := I.kill hm
   refine ⟨xs.take (k * t.sz), .inr ⟨g, cur, hax, hg, by omega, hcm, hcs, ht⟩, hp, .inr ⟨g, cur, hax, hg, by omega, hcm, hcs, ht, hfr rfl g (by rw [Gh.blk, hb]; rfl), hlb, ?_⟩⟩
   exact eH.cut (l := l) (by rw [htk]; exact q1) q2.1 (hsp rfl) hk
theorem Dn (tab : aH P cfg) (I : Inv c ι w M) {nid T U : Nat} (hid : M.get nid = none) {x y : Operand} {cl : Call} (ho : o.op = .call cl) (hc : cl.callee = .builtin .append) (ha : cl.args.toList = [x, y]) (ht : cl.argTypes.toList = [T, U])
 {lx ly : Leaf} (hx : aj c ι w M lx [act.eval x]) (hy : aj c ι w M ly [act.eval y]) {ef : Eff} (h : ni cfg M nid T U lx ly = some ef) (hp : ∀ p ∈ ef.pre, p) : au P c ι w M act o ef.sv ef.upd := by
 unfold ni at h
 split at h
 ·rename_i e tsz tby tty hT
  split at h
  ·rename_i ed esz bytes te he
   cases hcond : (Nat.blt 0 te.sz && cond (dK ly) (isStr cfg U && Nat.beq bytes 1) (Nat.beq U T)) with
   | false => rw [hcond] at h; cases h
   | true =>
     rw [hcond] at h
     simp only [cond_true] at h
     simp only [Bool.and_eq_true] at hcond
     have h0 : 0 < te.sz := by simpa using hcond.1
     obtain ⟨d, i', hu, _, _, _, h3, _⟩ := (tab T _ hT).ex
     have hu : P.underlying T = some (.slice e) := by rw [hu, show d = _ from h3]
     obtain ⟨z, hz, hzc, i, hi, hiz, his, jM, hz1⟩ := jI (tab e _ he) rfl
     obtain ⟨_, _, _, _, _, _, _, _, h7⟩ := (tab e _ he).ex
     obtain ⟨h8, _, _⟩ := h7 te rfl
     have hisz : i.size = te.sz := by rw [his, h8]
     have jM : i.bytes = bytes := jM
     have hty : cond (dK ly) (P.underlying U = some .string /\ i.bytes = 1) (U = T) := by
      have h2 := hcond.2
      cases hs : dK ly with
      | true =>
        rw [hs] at h2
        simp only [cond_true, Bool.and_eq_true] at h2
        exact ⟨qF tab h2.1, by rw [jM]; exact Nat.eq_of_beq_eq_true h2.2⟩
      | false =>
        rw [hs] at h2
        exact Nat.eq_of_beq_eq_true h2
     cases hl : listOf M te ly with
     | none => rw [hl] at h; cases h
     | some fm =>
       obtain ⟨fy, m⟩ := fm
       rw [hl] at h
       simp only at h
       cases lx <;> (try simp only at h) <;> first | (cases h; done) | skip
       case cZ =>
        cases h
        have hxv : act.eval x = .slice none 0 0 := by simpa [aj] using hx
        have p1 := hp (m.length * bytes <= 140737488355328) (by simp)
        have p2 := hp (m.length <= maxLen) (by simp)
        obtain ⟨v', w', news, k1, k2, k5, k6⟩ := kE (T := T) (U := U) (ty := o.type) (P := P) hu hi hiz hisz hzc hz1 h0 I hl hy hty (b := none) (n := 0) (cap := 0) (xs := []) (.inl ⟨rfl, rfl, rfl⟩) (by rw [Nat.zero_add, jM]; exact p1) (by rw [Nat.zero_add]; exact p2)
        have k5 := qH k5
        rw [<- hxv] at k1
        obtain ⟨ι', I', x', hv'⟩ := Inv.appended I hid (l := []) k2 rfl (ah.ku) (fun _ h => by cases h) k5 k6 (.inl ⟨rfl, rfl, rfl⟩)
        exact au.of_run (iP ho hc ha ht k1) I' x' (ak.one hv')
       case own id =>
        cases hm : M.get id with
        | none => rw [hm] at h; cases h
        | some en =>
          rw [hm] at h
          cases en <;> first | (simp only at h; cases h; done) | skip
          rename_i e' t fr ap l
          cases ap <;> simp only at h <;> first | (cases h; done) | skip
          split at h
          ·rename_i htt
           subst htt
           cases hee : Nat.beq e' e with
           | false => rw [hee] at h; cases h
           | true =>
             rw [hee] at h
             have hee : e' = e := Nat.eq_of_beq_eq_true hee
             subst hee
             cases h
             have p1 := hp ((l.length + m.length) * bytes <= 140737488355328) (by simp)
             have p2 := hp (l.length + m.length <= maxLen) (by simp)
             obtain ⟨ax, hx1, hx2⟩ : ∃ a, [act.eval x] = [Value.slice a l.length (ι.cap id)] /\ (0 < ι.cap id -> a = ι.base id) := (by simp only [aj, hm] at hx; exact hx)
             have hxv : act.eval x = .slice ax l.length (ι.cap id) := by simpa using hx1
             obtain ⟨xs, z1, z2, z3⟩ := bH.front I hm (Nat.le_refl _) hx2
             rw [List.take_length] at z2
             obtain ⟨_, q2⟩ : ∃ xs, Valid (.slice t) l := by obtain ⟨xs, _, q2, _⟩ := I.ents id _ hm; exact ⟨xs, q2⟩
             obtain ⟨v', w', news, k1, k2, k5, k6⟩ := kE (T := T) (U := U) (ty := o.type) (P := P) hu hi hiz hisz hzc hz1 h0 I hl hy hty z1 (by rw [jM]; exact p1) p2
             rw [<- hxv] at k1
             have k5 := qH k5
             generalize (fy || dI t) = fy at k5
             obtain ⟨I1, x1, hfr⟩ := I.kill hm
             have hne : nid ≠ id := fun hh => by rw [hh, hm] at hid; cases hid
             have su : (M.set id .dead).get nid = none := by rw [Store.get_set_other _ _ _ _ hne]; exact hid
             have wk1 : ∀ k, SF c ι fr k -> SF c ι (fr && fy) k := SF.weak (fun hb => by simp only [Bool.and_eq_true] at hb; exact hb.1)
             have wk2 : ∀ k, SF c ι fy k -> SF c ι (fr && fy) k := SF.weak (fun hb => by simp only [Bool.and_eq_true] at hb; exact hb.2)
             obtain ⟨ι', I', x', hv'⟩ := Inv.appended I1 su (fr := fr && fy) (l := l) k2 rfl (ah.mono wk1 (fun _ _ => rfl) _ _ _ z2) q2.1 (ah.mono wk2 (fun _ _ => rfl) _ _ _ k5) k6
              (z3.imp (fun h => h) fun ⟨g, cur, a1, a2, a3, a4, a5, a6, a7, a8, a9⟩ => ⟨g, cur, a1, a2, a3, a4, a5, a6, a7, by cases fr <;> cases fy <;> first | exact Nat.zero_le _ | exact a8, a9.gen wk1 (fun _ _ => rfl)⟩)
             exact au.of_run (iP ho hc ha ht k1) I' (x1.trans x') (ak.one hv')
          ·cases h
       case sl id lo k =>
        rcases Nat.eq_zero_or_pos lo with rfl | hlo
        rotate_left
        ·cases lo with
         | zero => omega
         | succ _ => simp only at h; cases h
        simp only at h
        cases hm : M.get id with
        | none => rw [hm] at h; cases h
        | some en =>
          rw [hm] at h
          cases en <;> first | (simp only at h; cases h; done) | skip
          rename_i e' t fr ap l
          cases ap <;> simp only at h <;> first | (cases h; done) | skip
          split at h
          ·rename_i htt
           subst htt
           cases hee : Nat.beq e' e with
           | false => rw [hee] at h; cases h
           | true =>
             rw [hee] at h
             have hee : e' = e := Nat.eq_of_beq_eq_true hee
             subst hee
             cases h
             have p1 := hp ((k + m.length) * bytes <= 140737488355328) (by simp)
             have p2 := hp (k + m.length <= maxLen) (by simp)
             obtain ⟨ax, hx1, hx2, hx3⟩ : ∃ a, [act.eval x] = [Value.slice a k (ι.cap id - 0)] /\ 0 + k <= l.length /\ (0 < ι.cap id -> a = (ι.base id).map (·.add (0 * t.sz))) := (by simp only [aj, hm] at hx; exact hx)
             have hk : k <= l.length := by omega
             have hxv : act.eval x = .slice ax k (ι.cap id) := by simpa using hx1
             obtain ⟨xs, z1, z2, z3⟩ := bH.front I hm hk (ax := ax) (fun h0 => by rw [hx3 h0]; cases ι.base id <;> simp [Addr.add])
             obtain ⟨_, q2⟩ : ∃ xs, Valid (.slice t) l := by obtain ⟨xs, _, q2, _⟩ := I.ents id _ hm; exact ⟨xs, q2⟩
             obtain ⟨v', w', news, k1, k2, k5, k6⟩ := kE (T := T) (U := U) (ty := o.type) (P := P) hu hi hiz hisz hzc hz1 h0 I hl hy hty z1 (by rw [jM]; exact p1) p2
             rw [<- hxv] at k1
             have k5 := qH k5
             generalize (fy || dI t) = fy at k5
             obtain ⟨I1, x1, hfr⟩ := I.kill hm
             have hne : nid ≠ id := fun hh => by rw [hh, hm] at hid; cases hid
             have su : (M.set id .dead).get nid = none := by rw [Store.get_set_other _ _ _ _ hne]; exact hid
             have wk1 : ∀ k, SF c ι fr k -> SF c ι (fr && fy) k := SF.weak (fun hb => by simp only [Bool.and_eq_true] at hb; exact hb.1)
             have wk2 : ∀ k, SF c ι fy k -> SF c ι (fr && fy) k := SF.weak (fun hb => by simp only [Bool.and_eq_true] at hb; exact hb.2)
             obtain ⟨ι', I', x', hv'⟩ := Inv.appended I1 su (fr := fr && fy) (l := l.take k) k2 (by rw [List.length_take]; omega) (ah.mono wk1 (fun _ _ => rfl) _ _ _ z2) (fun x hx => q2.1 x (List.mem_of_mem_take hx)) (ah.mono wk2 (fun _ _ => rfl) _ _ _ k5) k6
              (z3.imp (fun h => h) fun ⟨g, cur, a1, a2, a3, a4, a5, a6, a7, a8, a9⟩ => ⟨g, cur, a1, a2, a3, a4, a5, a6, a7, by cases fr <;> cases fy <;> first | exact Nat.zero_le _ | exact a8, a9.gen wk1 (fun _ _ => rfl)⟩)
             exact au.of_run (iP ho hc ha ht k1) I' (x1.trans x') (ak.one hv')
          ·cases h
  ·cases h
 ·cases h
end
end Go.Vc
set_option linter.unusedVariables false
set_option linter.unusedSimpArgs false
namespace Go.Vc
section
variable {P : Program} {c : Ctx} {ι : Gh} {w : World} {M : Store} {act : Act} {o : Oper} {cfg : Cfg}
theorem jO {S T : Nat} {x : Operand} (ho : o.op = .convert S T x) {v : Value} {w' : World} (hr : (convert S T (act.eval x)).run P w = .ok v w') : (execOp act.eval o).run P w = .ok (.value v) w' := by
 simp [execOp, ho, hr, Result.andThen]
theorem kJ.under {T : Nat} {ti : TI} (h : kJ P T ti) : ∃ d, P.underlying T = some d /\ FB d ti.d := by
 obtain ⟨d, i, hd, _, _, _, h3, _⟩ := h.ex
 exact ⟨d, hd, h3⟩
theorem kJ.u8 (tab : aH P cfg) {e a b : Nat} {y : Option Ty} (h : cfg.ti e = some ⟨.int .u8, a, b, y⟩) : P.underlying e = some (.int .u8) := by
 obtain ⟨d, hd, h3⟩ := (tab e _ h).under
 rw [hd, show d = _ from h3]
theorem Ia {S : Nat -> Prop} : ∀ {n : Nat} {l : List Int} {xs : List Value}, ah S w (.arr n (.int .u8)) l xs -> xs = l.map fun x => Value.int .u8 x := by
 intro n l xs h
 obtain ⟨h1, ess, h2, h3, h4⟩ := h
 subst h3
 have : ∀ (l : List Int) (ess : List (List Value)), ess.length = l.length -> (∀ (i : Nat) x ec, l[i]? = some x -> ess[i]? = some ec -> ec = [Value.int .u8 x]) -> ess.flatten = l.map fun x => Value.int .u8 x := by
  intro l
  induction l with
  | nil => intro ess he _; rw [List.eq_nil_of_length_eq_zero he]; rfl
  | cons x r ih =>
    intro ess he hp
    cases ess with
    | nil => simp at he
    | cons ec es =>
      rw [List.flatten_cons, List.map_cons, hp 0 x ec (by simp) (by simp), ih es (by simpa using he) (fun i y yc hy hyc => hp (i + 1) y yc (by simpa using hy) (by simpa using hyc))]
      rfl
 exact this l ess (by omega) (fun i x ec hx hec => h4 i x ec hx hec)
theorem foldl_push (ns : List Int) : ∀ r : ByteArray, (ns.foldl (fun r n => r.push (UInt8.ofNat n.toNat)) r).data.toList = r.data.toList ++ ns.map fun n => UInt8.ofNat n.toNat := by
 induction ns with
 | nil => intro r; simp
 | cons n ns ih => intro r; rw [List.foldl_cons, ih]; simp [ByteArray.push]
theorem FH (ns : List Int) : ns.foldl (fun r n => r.push (UInt8.ofNat n.toNat)) ByteArray.empty = bs ns := by
 apply ByteArray.ext
 apply Array.ext'
 rw [foldl_push]
 simp [bs]
theorem Bl (e : Nat) (s : ByteArray) : Turn w (Lib.bytesWorld w e s) (fun _ => False) := by
 have hne : (Lib.bytesWorld w e s).os = w.os /\ (Lib.bytesWorld w e s).tape = w.tape /\ (Lib.bytesWorld w e s).output = w.output := by
  unfold Lib.bytesWorld World.freeze
  split <;> exact ⟨rfl, rfl, rfl⟩
 exact ⟨hne.1, hne.2.1, hne.2.2, by rw [Lib.bytesWorld_size]; omega, fun k hk _ => Lib.bytesWorld_at_old w e s k hk⟩
theorem Nz (I : Inv c ι w M) {id e' : Nat} {t : Ty} {fr : Bool} {l : List t.den} (hm : M.get id = some (.row e' t fr true l)) (hl : 0 < l.length) :
 ∃ g cur, ι.base id = some ⟨g, 0, none⟩ /\ w.heap[g]? = some (.cells cur e' (0, 0)) /\ Inv c ι (w.freeze ⟨g, cur.size, none⟩ 1) (M.set id (.row e' t fr false l)) /\ Ext ι w M ι (w.freeze ⟨g, cur.size, none⟩ 1) (M.set id (.row e' t fr false l)) := by
 obtain ⟨xs, h1, h2, h3, h4⟩ := I.ents id _ hm
 rcases h4 with ⟨_, _, hn, _⟩ | ⟨g, cur, fz, hb, hlb, hg, hfz, hno, hnc, hcm, hcs, htk, _⟩
 ·omega
 have hfz := hfz rfl
 subst hfz
 have hblk : ι.blk id = some g := by rw [Gh.blk, hb]; rfl
 have hoth : ∀ k, k ≠ g -> (w.freeze ⟨g, cur.size, none⟩ 1).heap[k]? = w.heap[k]? := fun k hk => by
  unfold World.freeze
  rw [if_neg (by decide)]
  simp only [Array.getElem?_modify]
  rw [if_neg (fun h => hk h.symm)]
 have hat : (w.freeze ⟨g, cur.size, none⟩ 1).heap[g]? = some (.cells cur e' (cur.size, cur.size + 1)) := by
  unfold World.freeze
  rw [if_neg (by decide)]
  simp only [Array.getElem?_modify, if_true, hg, Option.map_some]
  simp
 have hsz : (w.freeze ⟨g, cur.size, none⟩ 1).heap.size = w.heap.size := by
  unfold World.freeze
  rw [if_neg (by decide)]
  simp
 have tt : Turn w (w.freeze ⟨g, cur.size, none⟩ 1) (fun k => ι.blk id = some k) := by
  refine ⟨?_, ?_, ?_, by rw [hsz]; exact Nat.le_refl _, fun k hk hn => hoth k (fun h => hn (by rw [h]; exact hblk))⟩ <;> (unfold World.freeze; rw [if_neg (by decide)])
 have hev : Ev (.row e' t fr true l) (.row e' t fr false l) := ⟨rfl, rfl⟩
 refine ⟨g, cur, hb, hg, Inv.change I hm rfl hev tt ⟨xs, ah.mono (fun _ h => h) (fun b hb' => hoth b (fun h => (I.own id _ g hm rfl hblk).1 (h ▸ hb'.1))) _ _ _ h1, h2, h3, ?_⟩, Ext.change I hm rfl hev tt⟩
 exact .inr ⟨g, cur, (cur.size, cur.size + 1), hb, hlb, hat, fun h => (by cases h), fun j hj hh => (by have := hh.1; omega), hnc, hcm, hcs, htk, fun h => (by cases h)⟩
theorem Bo (tab : aH P cfg) (I : Inv c ι w M) {nid S T : Nat} (hid : M.get nid = none) {x : Operand} (ho : o.op = .convert S T x) {l : Leaf} (hx : aj c ι w M l [act.eval x])
 {ef : Eff} (h : lK cfg M nid S T l = some ef) (hp : ∀ p ∈ ef.pre, p) : au P c ι w M act o ef.sv ef.upd := by
 unfold lK at h
 cases hS : cfg.ti S with
 | none => rw [hS] at h; cases h
 | some si =>
   cases hT : cfg.ti T with
   | none => rw [hS, hT] at h; cases h
   | some ti =>
     rw [hS, hT] at h
     obtain ⟨ds, hus, hds⟩ := (tab S _ hS).under
     obtain ⟨dt, hut, hdt⟩ := (tab T _ hT).under
     obtain ⟨td, sz, by', ty⟩ := ti
     simp only at h hdt
     have hev := h
     clear h
     have O5 : ∀ (l : Leaf), dK l = false -> td = .str -> aj c ι w M l [act.eval x] -> (match si.d with
      | .slice e => match cfg.ti e with
        | some ⟨.int .u8, _, _, _⟩ => match listOf M (.int .u8) l with
          | some (_, l) => some (⟨[], .one (.str l), []⟩ : Eff)
          | none => none
        | _ => none
      | _ => none) = some ef -> au P c ι w M act o ef.sv ef.upd := by
      intro l hstr htd hx h
      subst htd
      obtain ⟨sd, _, _, _⟩ := si
      cases sd <;> simp only at h <;> first | (cases h; done) | skip
      rename_i e
      split at h
      ·rename_i a b y he
       cases hl : listOf M (.int .u8) l with
       | none => rw [hl] at h; cases h
       | some fm =>
         obtain ⟨fy, m⟩ := fm
         rw [hl] at h
         cases h
         obtain ⟨⟨b', cap, hv, hcap, hsrc⟩, hval⟩ := uT I hl hx hstr
         have hus : P.underlying S = some (.slice e) := by rw [hus, show ds = _ from hds]
         have hut : P.underlying T = some .string := by rw [hut, show dt = _ from hdt]
         refine au.pure I (jO ho (v := .string (bs m)) ?_) (ak.one ⟨rfl, hval.1, hval.2⟩)
         rw [hv]
         have hconv : (Conv.bytesToString (.slice b' m.length cap)).run P w = .ok (.string (bs m)) w := by
          by_cases h0 : 0 < m.length
          ·obtain ⟨ad, news, rfl, h1, h2⟩ := hsrc h0
           have hn := Ia h1
           subst hn
           have hlc := run_loadCells_list (P := P) w ad _ h2
           rw [List.length_map] at hlc
           rw [run_bytesToString w ad m.length cap m hlc, FH]
          ·have hm0 : m = [] := List.eq_nil_of_length_eq_zero (by omega)
           subst hm0
           cases b' with
           | none => simp [Conv.bytesToString, bs]; rfl
           | some ad =>
             have hlc : (loadCells ad 0).run P w = .ok ((([] : List Int).map (Value.int .u8)).toArray) w := by simp [loadCells, loadCellsFrom]
             have := run_bytesToString w ad 0 cap [] hlc
             rw [FH] at this
             exact this
         simp [convert, run_underlying hus, run_underlying hut, run_underlying (kJ.u8 tab he), hconv]
      ·cases h
     have h := hev
     clear hev
     cases l <;> cases td <;> simp only at h <;> first
      | (cases h; done)
      | exact O5 _ rfl rfl hx h
      | skip
     case int.int k n k' =>
      cases h
      obtain ⟨hv, _⟩ := hx
      have hv : act.eval x = .int k n := by simpa using hv
      have hut : P.underlying T = some (.int k') := by rw [hut, show dt = _ from hdt]
      refine au.pure I (jO ho (v := .int k' (k'.wrap n)) ?_) (ak.one ⟨rfl, mM _ _⟩)
      rw [hv]
      simp [convert, run_underlying hus, run_underlying hut, Conv.intToInt]
     case str.str l =>
      cases h
      obtain ⟨hv, hval⟩ := hx
      have hv : act.eval x = .string (bs l) := by simpa using hv
      have hut : P.underlying T = some .string := by rw [hut, show dt = _ from hdt]
      refine au.pure I (jO ho (v := .string (bs l)) ?_) (ak.one ⟨rfl, hval⟩)
      rw [hv]
      simp [convert, run_underlying hus, run_underlying hut]
     case own.slice id e =>
      split at h
      ·rename_i a b y he
       cases hm : M.get id with
       | none => rw [hm] at h; cases h
       | some en =>
         rw [hm] at h
         cases en <;> first | (simp only at h; cases h; done) | skip
         rename_i e' t fr ap l
         cases ap <;> simp only at h <;> first | (cases h; done) | skip
         cases hST : Nat.beq S T with
         | false => rw [hST] at h; cases h
         | true =>
           rw [hST] at h
           cases h
           have PG : S = T := Nat.eq_of_beq_eq_true hST
           subst PG
           have hl := hp (0 < l.length) (by simp)
           have hut : P.underlying S = some (.slice e) := by rw [hut, show dt = _ from hdt]
           have hue := kJ.u8 tab he
           obtain ⟨g, cur, hb, hg, I', x'⟩ := Nz I hm hl
           have hcp : 0 < ι.cap id := by
            obtain ⟨_, _, _, _, h4⟩ := I.ents id _ hm
            rcases h4 with ⟨_, _, hn, _⟩ | ⟨_, _, _, _, _, _, _, _, hnc, _⟩ <;> omega
           have hxv : act.eval x = .slice (some ⟨g, 0, none⟩) l.length (ι.cap id) := by
            rw [<- hb]
            simp only [aj, hm] at hx
            obtain ⟨ax, e1, e2⟩ := hx
            rw [<- e2 hcp]; simpa using e1
           refine au.of_run (jO ho (v := act.eval x) (w' := w.freeze ⟨g, cur.size, none⟩ 1) ?_) I' x' (ak.one (yX (Store.get_set_same ..) (by rw [hxv, hb])))
           rw [hxv]
           have hsh : w.shape? g = some (e', cur.size) := by simp [World.shape?, hg]
           simp [convert, run_underlying hut, run_underlying hue, markStringish, hsh]
      ·cases h
     case str.slice l e =>
      split at h
      ·rename_i a b y he
       cases h
       obtain ⟨hv, hval⟩ := hx
       have hv : act.eval x = .string (bs l) := by simpa using hv
       have hut : P.underlying T = some (.slice e) := by rw [hut, show dt = _ from hdt]
       have hr := Lib.run_convert_string_bytes (P := P) w S T e (bs l) hus hut (kJ.u8 tab he)
       rw [<- hv] at hr
       have hsz : (bs l).size = l.length := gy l
       have hcc : (Lib.bytesCells w e (bs l)).size = grownCap w (bs l).size 0 e := by
        have := grownCap_ge w (bs l).size 0 e
        simp only [Lib.bytesCells, Array.size_append, Array.size_map, Array.size_replicate]
        have : (bs l).data.size = (bs l).size := rfl
        omega
       have hge := grownCap_ge w (bs l).size 0 e
       have hcm := grownCap_le_maxLen w (bs l).size 0 e (by rw [hsz]; exact hval.2)
       have htk : (Lib.bytesCells w e (bs l)).toList.take (l.length * 1) = l.map fun x => Value.int .u8 x := by
        have h1 : ((bs l).data.map fun b => Value.int .u8 b.toNat).toList = l.map fun x => Value.int .u8 x := by
         have := sD l hval.1
         simpa [Lib.strCells] using this
        rw [Lib.bytesCells, Array.toList_append, h1, Nat.mul_one, List.take_left' (by simp)]
       obtain ⟨ι', I', x', hb, hc⟩ := Inv.newRow I hid (e := e) (t := .int .u8) (fr := true) (l := l) (cur := Lib.bytesCells w e (bs l)) (cap := grownCap w (bs l).size 0 e) false _ (by simp)
        (fun j hj hh => by have := hh.1; omega) (by omega) hcm (by rw [hcc]; exact (Nat.mul_one _).symm) (mO hval.1) (by rw [show Ty.sz (.int .u8) = 1 from rfl, htk]; exact ah.bytes l) (fun h => by cases h) (Bl e (bs l)) (Lib.bytesWorld_at_new w e (bs l))
       refine au.of_run (jO ho hr) I' x' (ak.one (yX (Store.get_set_same ..) ?_))
       rw [hb, hc, hsz]
      ·cases h
theorem nH {T : Nat} {ti : TI} (ht : kJ P T ti) {cs : List Value} {off : Nat} (h : off + ti.size <= cs.length) :
 ∃ v, (part T cs.toArray off).run P w = .ok v w /\ (match ti.agg with | true => v = .agg ((cs.drop off).take ti.size).toArray | false => (cs.drop off).take ti.size = [v]) := by
 cases ha : ti.agg with
 | true =>
   refine ⟨.agg ((cs.drop off).take ti.size).toArray, ?_, rfl⟩
   have e : (cs.toArray.extract off (off + ti.size)) = ((cs.drop off).take ti.size).toArray := by
    simp
   simp [part, rJ ht, ha, dN ht, e]
 | false =>
   obtain ⟨_, _, _, _, _, _, _, h6, _⟩ := ht.ex
   have h1 := h6 ha
   have hlt : off < cs.length := by omega
   refine ⟨cs[off], ?_, ?_⟩
   ·simp [part, rJ ht, ha, hlt]
   ·show (cs.drop off).take ti.size = _
    rw [h1, List.take_one, List.head?_drop]
    simp [hlt]
theorem JF {T f : Nat} {x : Operand} (ho : o.op = .field T x f) {v : Value} (hr : (Instr.field T (act.eval x) f).run P w = .ok v w) : (execOp act.eval o).run P w = .ok (.value v) w := by
 simp [execOp, ho, hr, Result.andThen]
theorem Bq {T : Nat} {x i : Operand} (ho : o.op = .index T x i) {v : Value} (hr : (Instr.index T (act.eval x) (act.eval i)).run P w = .ok v w) : (execOp act.eval o).run P w = .ok (.value v) w := by
 simp [execOp, ho, hr, Result.andThen]
theorem FI (tab : aH P cfg) (I : Inv c ι w M) {T f off ft : Nat} {x : Operand} (ho : o.op = .field T x f) (hf : ng cfg T f = some (off, ft)) {v : V} (hx : aI c ι w M v (act.eval x)) (hag : v.agg = true)
 {ti : TI} (ht : cfg.ti ft = some ti) {r : List Leaf} (hr : dO v.ls off ti.size = some r) : au P c ι w M act o (.v ⟨ti.agg, r⟩) [] := by
 obtain ⟨fs, fd, hu, hfd, h1, h2⟩ := Bd tab hf
 obtain ⟨cs, hls, hv⟩ := hx
 rw [hag] at hv
 have hv : act.eval x = .agg cs.toArray := hv
 obtain ⟨h3, h4⟩ := dW hr hls
 obtain ⟨u, k1, k2⟩ := nH (P := P) (w := w) (tab ft _ ht) h4
 refine au.pure I (JF ho (v := u) ?_) (aI.yV (ti := ti) h3 k2)
 rw [hv]
 simp [Instr.field, run_underlying hu, hfd, h1, h2, asAgg, k1]
end
end Go.Vc
set_option linter.unusedVariables false
set_option linter.unusedSimpArgs false
namespace Go.Vc
section
variable {P : Program} {c : Ctx} {ι : Gh} {w : World} {M : Store} {act : Act} {o : Oper} {cfg : Cfg}
theorem ED (tab : aH P cfg) (I : Inv c ι w M) {T : Nat} {x y : Operand} (ho : o.op = .index T x y) {v : V} (hx : aI c ι w M v (act.eval x)) {k : IntKind} {n : Int} (hy : act.eval y = .int k n)
 {ef : Eff} (h : CY cfg T v n = some ef) (hp : ∀ p ∈ ef.pre, p) : au P c ι w M act o ef.sv ef.upd := by
 unfold CY at h
 split at h
 ·rename_i m fr t l
  split at h
  ·rename_i m' e _ _ _ hT
   split at h
   ·rename_i ed sz by' t' he
    split at h
    ·rename_i htt
     subst htt
     cases hb : (Nat.beq m' m && Nat.beq sz t'.sz) with
     | false => rw [hb] at h; cases h
     | true =>
       rw [hb] at h
       cases h
       simp only [Bool.and_eq_true] at hb
       have hm : m' = m := Nat.eq_of_beq_eq_true hb.1
       have hsz : sz = t'.sz := Nat.eq_of_beq_eq_true hb.2
       subst hm hsz
       have h0 := hp (0 <= n) (by simp)
       have h1 := hp (n < (m' : Int)) (by simp)
       obtain ⟨d, hu, hd⟩ := (tab T _ hT).under
       have hu : P.underlying T = some (.array m' e) := by rw [hu, show d = _ from hd]
       obtain ⟨cs, ⟨c1, c2, e1, ⟨e2, e3⟩, e4⟩, hv⟩ := hx
       have e4 : c2 = [] := e4
       subst e4
       rw [List.append_nil] at e1
       subst e1
       have hv : act.eval x = .agg cs.toArray := hv
       have hl : l.length = m' := e3.2
       have hi : n.toNat < l.length := by omega
       obtain ⟨k1, k2⟩ := e2.elem n.toNat hi
       obtain ⟨_, _, _, _, _, _, _, _, h7⟩ := (tab e _ he).ex
       obtain ⟨h8, h9, _⟩ := h7 t' rfl
       obtain ⟨u, r1, r2⟩ := nH (P := P) (w := w) (tab e _ he) (cs := cs) (off := n.toNat * t'.sz) (by rw [Nat.succ_mul] at k2; exact k2)
       refine au.pure I (Bq ho (v := u) ?_) ?_
       ·rw [hv, hy]
        have hz := dN (tab e _ he) w
        simp [Instr.index, asIntOf, run_underlying hu, h0, h1, hz, r1]
       ·have hr := aI.yV (c := c) (ι := ι) (w := w) (M := M) (ti := ⟨ed, t'.sz, by', some t'⟩) (bU (fr := fr) t' _ _ k1 (Valid.elem e3.1 _ hi)) r2
        show aI c ι w M ⟨t'.isAgg, _⟩ u
        rw [h9]; exact hr
    ·cases h
   ·cases h
  ·cases h
 ·rename_i l
  cases hs : isStr cfg T with
  | false => rw [hs] at h; cases h
  | true =>
    rw [hs] at h
    cases h
    have h0 := hp (0 <= n) (by simp)
    have h1 := hp (n < (l.length : Int)) (by simp)
    have hu := qF tab hs
    obtain ⟨hv, hval⟩ := hx.leaf (l := .str l) rfl
    have hv : act.eval x = .string (bs l) := by simpa using hv
    have hi : n.toNat < l.length := by omega
    have hg : l[n.toNat]? = some (l.getD n.toNat 0) := by rw [List.getD_eq_getElem?_getD, List.getElem?_eq_getElem hi]; rfl
    obtain ⟨b, b1, b2⟩ := Og l n.toNat hval.1 _ hg
    refine au.pure I (Bq ho (v := .int .u8 (l.getD n.toNat 0)) ?_) (ak.one ⟨rfl, hval.1 _ (List.mem_of_getElem? hg)⟩)
    rw [hv, hy]
    simp only [Instr.index, asIntOf, Sem.run_bind, Sem.run_pure, Result.andThen_ok, run_underlying hu, if_pos h0, b1, b2]
 ·cases h
theorem FK {x : Operand} {T : Nat} {cl : Call} (ho : o.op = .call cl) (hc : cl.callee = .builtin .len) (ha : cl.args.toList = [x]) (ht : cl.argTypes.toList = [T]) {v : Value} {w' : World}
 (hr : (Builtin.len_ #[T] o.type #[act.eval x]).run P w = .ok v w') : (execOp act.eval o).run P w = .ok (.value v) w' := by
 obtain ⟨ce, as, ts⟩ := cl
 have ha' : as = #[x] := by apply Array.ext'; simpa using ha
 have ht' : ts = #[T] := by apply Array.ext'; simpa using ht
 have hc' : ce = .builtin .len := hc
 subst ha' ht' hc'
 simp [execOp, ho, resolve, invoke, builtin, hr, Result.andThen]
theorem lU {n : Nat} (h : n <= maxLen) : Valid (.int .i64) (n : Int) := by
 show IntKind.i64.min <= (n : Int) /\ (n : Int) <= IntKind.i64.max
 simp only [maxLen] at h
 simp [IntKind.min, IntKind.max, IntKind.signed, IntKind.bits]; omega
theorem zW (tab : aH P cfg) {T : Nat} (h : iQ cfg T = true) : ∃ e, P.underlying T = some (.slice e) := by
 unfold iQ at h
 split at h
 ·rename_i e _ _ _ hT
  obtain ⟨d, hd, h3⟩ := (tab T _ hT).under
  exact ⟨e, by rw [hd, show d = _ from h3]⟩
 ·cases h
theorem JG (I : Inv c ι w M) {l : Leaf} {n : Int} {v : Value} (h : qj M l = some n) (hr : aj c ι w M l [v]) : ∃ a k cp, v = .slice a k cp /\ n = (k : Int) /\ k <= maxLen := by
 cases l <;> simp only [qj] at h <;> first | (cases h; done) | skip
 case psl fr t l =>
  cases h
  obtain ⟨⟨a, n, cp, h1, h2, _⟩, h3⟩ := hr
  exact ⟨a, n, cp, by simpa using h1, by rw [h2], by have := h3.2; omega⟩
 case cZ =>
  cases h
  exact ⟨none, 0, 0, by simpa [aj] using hr, rfl, Nat.zero_le _⟩
 case own id =>
  simp only [aj] at hr
  cases hm : M.get id with
  | none => rw [hm] at h; cases h
  | some en =>
    rw [hm] at h hr
    cases en <;> simp only at h hr <;> first | (cases h; done) | skip
    ·cases h
     obtain ⟨_, _, hv, _⟩ := I.ents id _ hm
     obtain ⟨a, hr, _⟩ := hr
     exact ⟨_, _, _, by simpa using hr, rfl, hv.2⟩
    ·cases h
     obtain ⟨_, hv⟩ := I.ents id _ hm
     obtain ⟨a, hr, _⟩ := hr
     exact ⟨_, _, _, by simpa using hr, rfl, hv.2⟩
 case sl id lo n =>
  simp only [aj] at hr
  cases hm : M.get id with
  | none => rw [hm] at h; cases h
  | some en =>
    rw [hm] at h hr
    cases en <;> simp only at h hr <;> first | (cases h; done) | skip
    ·cases h
     obtain ⟨a, h1, h2, _⟩ := hr
     obtain ⟨_, _, hv, _⟩ := I.ents id _ hm
     exact ⟨_, _, _, by simpa using h1, rfl, by have := hv.2; omega⟩
    ·cases h
     obtain ⟨a, h1, h2, _⟩ := hr
     obtain ⟨_, hv⟩ := I.ents id _ hm
     exact ⟨_, _, _, by simpa using h1, rfl, by have := hv.2; omega⟩
 case asl id off lo n =>
  simp only [aj] at hr
  cases hm : M.get id with
  | none => rw [hm] at h; cases h
  | some en =>
    rw [hm] at h hr
    cases en <;> simp only at h hr <;> first | (cases h; done) | skip
    rename_i ls
    cases hl : lat ls off with
    | none => rw [hl] at h; cases h
    | some q =>
      rw [hl] at h hr
      cases q <;> simp only at h hr
      rename_i N fr t l
      cases hN : Nat.ble N maxLen with
      | false => rw [hN] at h; cases h
      | true =>
        rw [hN] at h
        cases h
        obtain ⟨b, a, h1, h2, h3, _⟩ := hr
        exact ⟨_, _, _, by simpa using h3, rfl, by have := (jY _ _).1 hN; omega⟩
theorem Ib (tab : aH P cfg) (I : Inv c ι w M) {T : Nat} {x : Operand} {cl : Call} (ho : o.op = .call cl) (hc : cl.callee = .builtin .len) (ha : cl.args.toList = [x]) (ht : cl.argTypes.toList = [T])
 {l : Leaf} (hx : aj c ι w M l [act.eval x]) {n : Int} (h : uH cfg M T l = some n) : au P c ι w M act o (.one (.int .i64 n)) [] := by
 have key : dK l = false -> (cond (iQ cfg T) (qj M l) none = some n) -> au P c ι w M act o (.one (.int .i64 n)) [] := by
  intro _ h
  cases hs : iQ cfg T with
  | false => rw [hs] at h; cases h
  | true =>
    rw [hs] at h
    obtain ⟨e, hu⟩ := zW tab hs
    obtain ⟨a, k, cp, h1, h2, h3⟩ := JG I h hx
    subst h2
    refine au.pure I (FK ho hc ha ht (v := goInt k) ?_) (ak.one ⟨rfl, lU h3⟩)
    rw [h1]
    simp [Builtin.len_, run_underlying hu]
 cases l <;> simp only [uH] at h <;> first | exact key rfl h | skip
 rename_i l
 cases hs : isStr cfg T with
 | false => rw [hs] at h; cases h
 | true =>
   rw [hs] at h
   cases h
   have hu := qF tab hs
   obtain ⟨hv, hval⟩ := hx
   have hv : act.eval x = .string (bs l) := by simpa using hv
   refine au.pure I (FK ho hc ha ht (v := goInt (bs l).size) ?_) (ak.one ⟨by rw [gy]; rfl, lU hval.2⟩)
   rw [hv]
   simp [Builtin.len_, run_underlying hu]
theorem Bv {b : Builtin} {x y : Operand} {cl : Call} (ho : o.op = .call cl) (hc : cl.callee = .builtin b) (ha : cl.args.toList = [x, y]) {v : Value}
 (hr : ∀ ts cs, (builtin b ts o.type cs #[act.eval x, act.eval y]).run P w = .ok (.value v) w) : (execOp act.eval o).run P w = .ok (.value v) w := by
 obtain ⟨ce, as, ts⟩ := cl
 have ha' : as = #[x, y] := by apply Array.ext'; simpa using ha
 have hc' : ce = .builtin b := hc
 subst ha' hc'
 simp [execOp, ho, resolve, invoke, hr]
theorem Ic (I : Inv c ι w M) {x y : Operand} {cl : Call} (ho : o.op = .call cl) (hc : cl.callee = .builtin .min) (ha : cl.args.toList = [x, y]) {k : IntKind} {a b : Int}
 (hx : aj c ι w M (.int k a) [act.eval x]) (hy : aj c ι w M (.int k b) [act.eval y]) : au P c ι w M act o (.one (.int k (if b < a then b else a))) [] := by
 have hxv : act.eval x = .int k a := by simpa using hx.1
 have hyv : act.eval y = .int k b := by simpa using hy.1
 refine au.pure I (Bv ho hc ha (v := .int k (if b < a then b else a)) fun ts cs => ?_) (ak.one ⟨rfl, ?_⟩)
 ·simp [builtin, Builtin.min_, Builtin.min2, hxv, hyv]
 ·split
  ·exact hy.2
  ·exact hx.2
theorem Ie (I : Inv c ι w M) {x y : Operand} {cl : Call} (ho : o.op = .call cl) (hc : cl.callee = .builtin .max) (ha : cl.args.toList = [x, y]) {k : IntKind} {a b : Int}
 (hx : aj c ι w M (.int k a) [act.eval x]) (hy : aj c ι w M (.int k b) [act.eval y]) : au P c ι w M act o (.one (.int k (if b > a then b else a))) [] := by
 have hxv : act.eval x = .int k a := by simpa using hx.1
 have hyv : act.eval y = .int k b := by simpa using hy.1
 refine au.pure I (Bv ho hc ha (v := .int k (if b > a then b else a)) fun ts cs => ?_) (ak.one ⟨rfl, ?_⟩)
 ·simp [builtin, Builtin.max_, Builtin.max2, hxv, hyv]
 ·split
  ·exact hy.2
  ·exact hx.2
theorem xC (I : Inv c ι w M) {x : Operand} (ho : o.op = .move x ∨ o.op = .assign x) {sv : SV} (hx : ak c ι w M sv (act.eval x)) : au P c ι w M act o sv [] := by
 refine au.pure I (v := act.eval x) ?_ hx
 rcases ho with ho | ho <;> simp [execOp, ho]
theorem kN (I : Inv c ι w M) {x : Operand} (ho : o.op = .nilCheck x) {l : Leaf} (hx : aj c ι w M l [act.eval x])
 (hp : (∃ a, act.eval x = .pointer (some a)) ∨ ∃ f a b, act.eval x = .func (.func f) a b) : au P c ι w M act o (.one l) [] := by
 refine au.pure I (v := act.eval x) ?_ (ak.one hx)
 rcases hp with ⟨a, ha⟩ | ⟨f, a, b, ha⟩ <;> simp [execOp, ho, ha]
theorem FM (I : Inv c ι w M) {f : Nat} {first caps : Array Operand} (ho : o.op = .makeFunc (.func f) first caps) (hf : first.size = 0) {ids : List Nat}
 (hc : caps.toList.map act.eval = ids.map fun id => Value.pointer (ι.base id)) (FN : ∀ id ∈ ids, ∃ ls, M.get id = some (.obj ls)) : au P c ι w M act o (.one (.fn f ids)) [] := by
 have hf' : first = #[] := Array.eq_empty_of_size_eq_zero hf
 subst hf'
 refine au.pure I (v := .func (.func f) #[] (ids.map fun id => Value.pointer (ι.base id)).toArray) ?_ (ak.one ⟨rfl, fun id hid => ?_⟩)
 ·have e : caps.map act.eval = (ids.map fun id => Value.pointer (ι.base id)).toArray := by
   apply Array.ext'; rw [Array.toList_map, hc]
  simp [execOp, ho, Instr.makeFunc, e]
 ·obtain ⟨ls, h⟩ := FN id hid
  exact ⟨_, h, .inr ⟨ls, rfl⟩⟩
theorem FP (tab : aH P cfg) (I : Inv c ι w M) {nid T e : Nat} (hid : M.get nid = none) {n m : Operand} (ho : o.op = .makeSlice T n m) {ti te : TI} (hT : cfg.ti T = some ti) (hd : ti.d = .slice e) (he : cfg.ti e = some te)
 {t : Ty} (hty : te.ty = some t) {k k' : IntKind} {a b : Int} (hn : act.eval n = .int k a) (hm : act.eval m = .int k' b) (p0 : 0 <= a) (p1 : a <= b) (p2 : b * te.bytes <= 140737488355328) (p3 : b <= 9223372036854775807) :
 au P c ι w M act o (.one (.own nid)) [(nid, .row e t true true (List.replicate a.toNat t.dft))] := by
 obtain ⟨d, hu, h3⟩ := (tab T _ hT).under
 rw [hd] at h3
 have hu : P.underlying T = some (.slice e) := by rw [hu, show d = _ from h3]
 obtain ⟨z, hz, hzc, i, hi, hiz, his, jM, _⟩ := jI (tab e _ he) hty
 obtain ⟨_, _, _, _, _, _, _, _, h7⟩ := (tab e _ he).ex
 obtain ⟨h8, _, _⟩ := h7 t hty
 have hisz : i.size = t.sz := by rw [his, h8]
 have hzs : z.cells.size = t.sz := by rw [<- Array.length_toList, hzc, fB]
 have hr := run_make (P := P) w T e i z hu hi hiz k k' a b p0 p1 (by rw [jM]; have : b * (te.bytes : Int) = te.bytes * b := Int.mul_comm _ _; omega) p3
 rw [<- hn, <- hm] at hr
 have hcells : madeCells z.cells (b.toNat * i.size) = (List.replicate b.toNat (aQ t)).flatten.toArray := by
  rw [hisz, <- hzs, <- hzc]
  rcases Nat.eq_zero_or_pos z.cells.size with h0 | h0
  ·have e1 : (List.replicate b.toNat z.cells.toList).flatten = [] := List.eq_nil_of_length_eq_zero (by
    rw [bD z.cells.size _ (fun ec hec => by rw [List.eq_of_mem_replicate hec, Array.length_toList]), h0, Nat.mul_zero])
   rw [e1, h0, Nat.mul_zero]; simp [madeCells]
  ·exact xw z.cells b.toNat h0
 have hlen : (List.replicate b.toNat (aQ t)).flatten.length = b.toNat * t.sz := by
  rw [bD t.sz _ (fun ec hec => by rw [List.eq_of_mem_replicate hec, fB]), List.length_replicate]
 have hmax : b.toNat <= maxLen := by simp only [maxLen]; omega
 obtain ⟨ι', I', x', hb, hc⟩ := Inv.newRow I hid (e := e) (t := t) (fr := true) (l := List.replicate a.toNat t.dft) (cur := madeCells z.cells (b.toNat * i.size)) (cap := b.toNat) true (0, 0) (fun _ => rfl) (by simp)
  (by rw [List.length_replicate]; omega) hmax (by rw [hcells, List.size_toArray, hlen]) (fun y hy => by rw [List.eq_of_mem_replicate hy]; exact dZ t) (by
    rw [hcells, List.toList_toArray, List.length_replicate, jK t.sz _ _ (fun ec hec => by rw [List.eq_of_mem_replicate hec, fB]), List.take_replicate,
     show min a.toNat b.toNat = a.toNat by omega]
    exact ah.zeros t _) (fun _ => by
    rw [hcells, List.toList_toArray, List.length_replicate, jJ t.sz _ _ (fun ec hec => by rw [List.eq_of_mem_replicate hec, fB]), List.drop_replicate]
    exact eH.zeros (by omega)) (Turn.alloc w _ (fun _ => False)) (heap_alloc_new w _)
 refine au.of_run (v := .slice (some ⟨w.heap.size, 0, none⟩) a.toNat b.toNat) (by simp [execOp, ho, hr, Result.andThen]) I' x' (ak.one (yX (Store.get_set_same ..) ?_))
 rw [hb, hc, List.length_replicate]
end
end Go.Vc
set_option linter.unusedVariables false
set_option linter.unusedSimpArgs false
namespace Go.Vc
section
variable {P : Program} {c : Ctx} {ι : Gh} {w : World} {M : Store} {act : Act} {o : Oper} {cfg : Cfg}
theorem DX (tab : aH P cfg) : ∀ fields : List Field, known cfg (fields.map fun f => (f.offset, f.type)) = true ->
 ∃ places, fields.mapM (fun f => (P.info? f.type).map fun i => (f.offset, i.size)) = some places /\ ∀ (i : Nat) f, fields[i]? = some f -> ∃ ti, cfg.ti f.type = some ti /\ places[i]? = some (f.offset, ti.size)
 | [], _ => ⟨[], rfl, fun i f h => by simp at h⟩
 | f :: r, h => by
   simp only [List.map_cons, known, Bool.and_eq_true] at h
   obtain ⟨h1, h2⟩ := h
   obtain ⟨places, h3, h4⟩ := DX tab r h2
   cases ht : cfg.ti f.type with
   | none => rw [ht] at h1; cases h1
   | some ti =>
     obtain ⟨d, i, _, hi, h5, _⟩ := (tab _ _ ht).ex
     refine ⟨(f.offset, ti.size) :: places, by simp [List.mapM_cons, hi, h3, h5], fun j g hg => ?_⟩
     cases j with
     | zero => simp at hg; subst hg; exact ⟨ti, ht, rfl⟩
     | succ j => exact h4 j g (by simpa using hg)
theorem Bz {T : Nat} {ps : Array (Nat × Operand)} (ho : o.op = .build T ps) {cells : Array Value} (h : P.built T (ps.toList.map fun x => (x.1, act.eval x.2)) = some cells) :
 (execOp act.eval o).run P w = .ok (.value (.agg cells)) w := by
 have hm : (ps.map fun x => (x.1, act.eval x.2)).toList = ps.toList.map fun x => (x.1, act.eval x.2) := by simp
 have hr := run_build (P := P) w T (ps.map fun x => (x.1, act.eval x.2)) cells (by rw [hm]; exact h)
 simp [execOp, ho, hr, Result.andThen]
theorem vZ {s : St} {cs : List (Nat × Bool)} (hop : ∀ x v, opv cfg s cs x = some v -> aI c ι w s.M v (act.eval x)) {T : Nat} {fs : List (Nat × Nat)} {place : Nat -> Option (Nat × Nat)}
 (hpl : ∀ (i : Nat) off ft, fs[i]? = some (off, ft) -> ∃ ti, cfg.ti ft = some ti /\ place i = some (off, ti.size)) :
 ∀ (ps : List (Nat × Operand)) (ls : List Leaf) (cells : Array Value) {r : List Leaf}, jW cfg s cs T fs ps ls = some r -> aF c ι w s.M ls cells.toList ->
  ∃ cells', Instr.fill place cells (ps.map fun x => (x.1, act.eval x.2)) = some cells' /\ aF c ι w s.M r cells'.toList
 | [], ls, cells, r, h, hr => by cases h; exact ⟨cells, rfl, hr⟩
 | (i, x) :: ps, ls, cells, r, h, hr => by
   unfold jW at h
   split at h
   ·rename_i off ft v hf hv
    cases hs : sizeT cfg ft with
    | none => rw [hs] at h; cases h
    | some sz =>
      rw [hs] at h
      simp only at h
      cases hb : Nat.beq (widths v.ls) sz with
      | false => rw [hb] at h; cases h
      | true =>
        rw [hb] at h
        simp only [cond_true] at h
        have hb := Nat.eq_of_beq_eq_true hb
        cases hl : eG ls off sz v.ls with
        | none => rw [hl] at h; cases h
        | some ls' =>
          rw [hl] at h
          obtain ⟨ti, ht, hp⟩ := hpl i off ft hf
          have hsz : sz = ti.size := by unfold sizeT at hs; rw [ht] at hs; cases hs; rfl
          obtain ⟨ds, h1, h2⟩ := (hop x v hv).cells
          have hlen : ds.length = sz := by rw [h1.len, hb]
          obtain ⟨k1, k2⟩ := fZ h1 hl hr hlen
          rw [Array.length_toList] at k2
          have hvs : (act.eval x).cells.size = sz := by rw [<- Array.length_toList, h2, hlen]
          rw [List.map_cons, DW (off := off) (size := sz) (by rw [hp, hsz]) hvs k2, h2]
          exact vZ hop hpl ps ls' _ h (by rw [List.toList_toArray]; exact k1)
   ·cases h
theorem wC {s : St} {cs : List (Nat × Bool)} (tab : aH P cfg) (I : Inv c ι w s.M) (hop : ∀ x v, opv cfg s cs x = some v -> aI c ι w s.M v (act.eval x)) {T : Nat} {ps : Array (Nat × Operand)} (ho : o.op = .build T ps)
 {ti : TI} (hT : cfg.ti T = some ti) {fs : List (Nat × Nat)} (hd : ti.d = .struct fs) (hk : known cfg fs = true) {ls r : List Leaf} (hz : ou cfg T = some ls) (h : jW cfg s cs T fs ps.toList ls = some r) :
 au P c ι w s.M act o (.v ⟨true, r⟩) [] := by
 obtain ⟨d, hu, h3⟩ := (tab T _ hT).under
 rw [hd] at h3
 obtain ⟨fields, hdf, hfs⟩ := h3
 rw [hdf] at hu
 obtain ⟨places, hp1, hp2⟩ := DX tab fields.toList (by rw [hfs]; exact hk)
 obtain ⟨z, _, ⟨i, hi, hiz⟩, hzr⟩ := Bg tab hz
 obtain ⟨cells', k1, k2⟩ := vZ (place := fun i => places.toArray[i]?) hop (fun j off ft hj => by
  rw [<- hfs, List.getElem?_map] at hj
  cases hf : fields.toList[j]? with
  | none => rw [hf] at hj; cases hj
  | some f =>
    rw [hf] at hj
    cases hj
    obtain ⟨ti', q1, q2⟩ := hp2 j f hf
    exact ⟨ti', q1, by simpa using q2⟩) ps.toList _ z.cells h (hzr _ _ _ _)
 refine au.pure I (Bz ho (cells := cells') ?_) ⟨cells'.toList, k2, by simp⟩
 unfold Program.built
 simp only [hi, hu, hiz, hp1]
 exact k1
theorem zX {s : St} {cs : List (Nat × Bool)} (tab : aH P cfg) (I : Inv c ι w s.M) (hop : ∀ x v, opv cfg s cs x = some v -> aI c ι w s.M v (act.eval x)) {T n e : Nat} {ps : Array (Nat × Operand)} (ho : o.op = .build T ps)
 {ti te : TI} (hT : cfg.ti T = some ti) (hd : ti.d = .array n e) {t : Ty} (hty : ti.ty = some (.arr n t)) (he : cfg.ti e = some te) (hte : te.ty = some t)
 {fr : Bool} {l : List t.den} {fz : List (Nat × Entry)} (h : iy cfg s cs n t ps.toList true (List.replicate n t.dft) [] = some (fr, l, fz)) :
 au P c ι w s.M act o (.v ⟨true, [.arr n fr t l]⟩) fz := by
 obtain ⟨d, hu, h3⟩ := (tab T _ hT).under
 rw [hd] at h3
 have hu : P.underlying T = some (.array n e) := by rw [hu, show d = _ from h3]
 obtain ⟨z, _, hzc, i, hi, hiz, _⟩ := jI (tab T _ hT) hty
 obtain ⟨_, _, _, ie, hie, _, his, _⟩ := jI (tab e _ he) hte
 obtain ⟨_, _, _, _, _, _, _, _, h7⟩ := (tab e _ he).ex
 obtain ⟨h8, _, _⟩ := h7 t hte
 have hisz : ie.size = t.sz := by rw [his, h8]
 obtain ⟨cells', hf, hE⟩ := oW I hop ps.toList true _ _ z.cells h (by rw [hzc]; exact xu.zero n t)
 obtain ⟨ι1, I1, x1, hb1, hc1, hr1, hv1⟩ := hE.frozen I
 refine au.of_run (Bz ho (cells := cells') ?_) I1 x1 ⟨cells'.toList, ⟨cells'.toList, [], by simp, ⟨hr1, hv1, hr1.1⟩, rfl⟩, by simp⟩
 unfold Program.built
 simp only [hi, hu, hiz, hie, hisz]
 exact hf
end
end Go.Vc
set_option linter.unusedVariables false
set_option linter.unusedSimpArgs false
namespace Go.Vc
section
variable {P : Program} {c : Ctx} {ι : Gh} {w : World} {M : Store} {act : Act} {o : Oper} {cfg : Cfg}
theorem kT {bi : Builtin} {x : Operand} {T : Nat} {cl : Call} (ho : o.op = .call cl) (hc : cl.callee = .builtin bi) (ha : cl.args.toList = [x]) (ht : cl.argTypes.toList = [T]) {v : Value} {w' : World}
 (hr : ∀ cf : Array Bool, (builtin bi #[T] o.type cf #[act.eval x]).run P w = .ok (.value v) w') : (execOp act.eval o).run P w = .ok (.value v) w' := by
 obtain ⟨ce, as, ts⟩ := cl
 have ha' : as = #[x] := by apply Array.ext'; simpa using ha
 have ht' : ts = #[T] := by apply Array.ext'; simpa using ht
 have hc' : ce = .builtin bi := hc
 subst ha' ht' hc'
 simp [execOp, ho, resolve, invoke, hr, Result.andThen]
theorem wo {bi : Builtin} {x y : Operand} {T U : Nat} {cl : Call} (ho : o.op = .call cl) (hc : cl.callee = .builtin bi) (ha : cl.args.toList = [x, y]) (ht : cl.argTypes.toList = [T, U]) {v : Value} {w' : World}
 (hr : ∀ cf : Array Bool, (builtin bi #[T, U] o.type cf #[act.eval x, act.eval y]).run P w = .ok (.value v) w') : (execOp act.eval o).run P w = .ok (.value v) w' := by
 obtain ⟨ce, as, ts⟩ := cl
 have ha' : as = #[x, y] := by apply Array.ext'; simpa using ha
 have ht' : ts = #[T, U] := by apply Array.ext'; simpa using ht
 have hc' : ce = .builtin bi := hc
 subst ha' ht' hc'
 simp [execOp, ho, resolve, invoke, hr, Result.andThen]
theorem jv (I : Inv c ι w M) {id e : Nat} {t : Ty} {fr ap : Bool} {l : List t.den} (hm : M.get id = some (.row e t fr ap l)) : l.length <= ι.cap id /\ Valid (.slice t) l := by
 obtain ⟨xs, _, q2, q3⟩ := I.ents id _ hm
 refine ⟨?_, q2⟩
 rcases q3.2 with ⟨_, _, hn, _⟩ | ⟨_, _, _, _, _, _, _, _, hn, _⟩ <;> omega
theorem Ig (tab : aH P cfg) (I : Inv c ι w M) {T : Nat} {x : Operand} {cl : Call} (ho : o.op = .call cl) (hc : cl.callee = .builtin .cap) (ha : cl.args.toList = [x]) (ht : cl.argTypes.toList = [T])
 {l : Leaf} (hx : aj c ι w M l [act.eval x]) {n : Int} (h : uI cfg M T l = some n) : au P c ι w M act o (.one (.int .i64 n)) [] := by
 cases l <;> simp only [uI] at h <;> first | (cases h; done) | skip
 case cZ =>
  cases hs : iQ cfg T with
  | false => rw [hs] at h; cases h
  | true =>
    rw [hs] at h; cases h
    obtain ⟨e, hu⟩ := zW tab hs
    have hv : act.eval x = .slice none 0 0 := by simpa [aj] using hx
    refine au.pure I (kT ho hc ha ht (v := goInt 0) ?_) (ak.one ⟨rfl, lU (Nat.zero_le _)⟩)
    intro cf; rw [hv]; simp [builtin, Builtin.cap_, run_underlying hu]
 case sf id lo k =>
  simp only [aj] at hx
  cases hm : M.get id with
  | none => rw [hm] at h; cases h
  | some en =>
    rw [hm] at h hx
    cases en <;> simp only at h hx <;> first | (cases h; done) | skip
    rename_i e t fr ap l
    cases hs : iQ cfg T with
    | false => rw [hs] at h; cases h
    | true =>
      rw [hs] at h; cases h
      obtain ⟨e, hu⟩ := zW tab hs
      obtain ⟨a, h1, ⟨h2, h3⟩, _⟩ := hx
      have hv : act.eval x = .slice a k (ι.cap id - lo) := by simpa using h1
      have hcap := (jv I hm).2.2
      refine au.pure I (kT ho hc ha ht (v := goInt ((l.length - lo : Nat) : Int)) ?_) (ak.one ⟨rfl, lU (by omega)⟩)
      intro cf; rw [hv, <- h3]; simp [builtin, Builtin.cap_, run_underlying hu]
theorem Inv.weaken (I : Inv c ι w M) {id e : Nat} {t : Ty} {fr ap : Bool} {l : List t.den} (hm : M.get id = some (.row e t fr ap l)) (fy : Bool) : Inv c ι w (M.set id (.row e t (fr && fy) ap l)) /\ Ext ι w M ι w (M.set id (.row e t (fr && fy) ap l)) := by
 have hev : Ev (.row e t fr ap l) (.row e t (fr && fy) ap l) := ⟨rfl, rfl⟩
 have tt : Turn w w (fun k => ι.blk id = some k) := Turn.refl w _
 have wk : ∀ k, SF c ι fr k -> SF c ι (fr && fy) k := SF.weak (fun hb => by simp only [Bool.and_eq_true] at hb; exact hb.1)
 refine ⟨Inv.change I hm rfl hev tt ?_, Ext.change I hm rfl hev tt⟩
 obtain ⟨xs, q1, q2, q3⟩ := I.ents id _ hm
 refine ⟨xs, ah.mono wk (fun _ _ => rfl) _ _ _ q1, q2, q3.1, ?_⟩
 rcases q3.2 with hn | ⟨g, cur, fz, a1, a2, a3, a4, a5, a6, a7, a8, a9, a10⟩
 ·exact .inl hn
 ·exact .inr ⟨g, cur, fz, a1, by cases fr <;> cases fy <;> first | exact Nat.zero_le _ | exact a2, a3, a4, a5, a6, a7, a8, a9, fun hap => (a10 hap).gen wk (fun _ _ => rfl)⟩
theorem Inv.part (I : Inv c ι w M) {id e : Nat} {t : Ty} {fr ap : Bool} {l : List t.den} (hm : M.get id = some (.row e t fr ap l)) {g : Nat} {cur : Array Value} {fz : Nat × Nat} (hb : ι.base id = some ⟨g, 0, none⟩) (hg : w.heap[g]? = some (.cells cur e fz))
 {lo : Nat} {m : List t.den} {ds : List Value} {fy : Bool} (hfit : lo + m.length <= l.length) (hds : ah (SF c ι fy) w (.arr m.length t) m ds) (hv : ∀ x ∈ m, Valid t x) :
 Inv c ι (w.setRow g (splice cur.toList (lo * t.sz) ds).toArray) (M.set id (.row e t (fr && fy) ap (l.take lo ++ (m ++ l.drop (lo + m.length))))) /\
  Ext ι w M ι (w.setRow g (splice cur.toList (lo * t.sz) ds).toArray) (M.set id (.row e t (fr && fy) ap (l.take lo ++ (m ++ l.drop (lo + m.length))))) := by
 have hlen : (l.take lo ++ (m ++ l.drop (lo + m.length))).length = l.length := by simp only [List.length_append, List.length_take, List.length_drop]; omega
 have hev : Ev (.row e t fr ap l) (.row e t (fr && fy) ap (l.take lo ++ (m ++ l.drop (lo + m.length)))) := ⟨rfl, hlen.symm⟩
 have tt : Turn w (w.setRow g (splice cur.toList (lo * t.sz) ds).toArray) (fun k => ι.blk id = some k) := (Turn.setRow w g _).mono (fun k hk => by rw [hk, Gh.blk, hb]; rfl)
 have xx := Ext.change I hm rfl hev tt
 refine ⟨Inv.change I hm rfl hev tt ?_, xx⟩
 have wk1 : ∀ k, SF c ι fr k -> SF c ι (fr && fy) k := SF.weak (fun hb => by simp only [Bool.and_eq_true] at hb; exact hb.1)
 have wk2 : ∀ k, SF c ι fy k -> SF c ι (fr && fy) k := SF.weak (fun hb => by simp only [Bool.and_eq_true] at hb; exact hb.2)
 have hw : ∀ b, SF c ι (fr && fy) b -> (w.setRow g (splice cur.toList (lo * t.sz) ds).toArray).heap[b]? = w.heap[b]? := fun b hb => xx.heap b hb.1
 obtain ⟨xs, q1, q2, q3⟩ := I.ents id _ hm
 have hdl : ds.length = m.length * t.sz := by have := ah.len _ _ _ hds; simpa [Ty.sz] using this
 have hxl : xs.length = l.length * t.sz := by have := ah.len _ _ _ q1; simpa [Ty.sz] using this
 have hle : (lo + m.length) * t.sz <= l.length * t.sz := Nat.mul_le_mul_right _ hfit
 have hle' := hle
 rw [Nat.add_mul] at hle'
 rcases q3.2 with ⟨hn, _⟩ | ⟨g', cur', fz', a1, a2, a3, a4, a5, a6, a7, a8, a9, a10⟩
 ·rw [hn] at hb; cases hb
 rw [hb] at a1; cases a1
 rw [hg] at a3; cases a3
 have hcl : cur.toList.length = cur.size := Array.length_toList
 have hcs : l.length * t.sz <= cur.size := by rw [a8]; exact Nat.mul_le_mul_right _ a6
 have hsl : (splice cur.toList (lo * t.sz) ds).length = cur.size := by rw [iC cur.toList _ ds (by omega), hcl]
 have hp1 := ah.jL q1 (lo := 0) (n := lo) (by omega)
 have hp2 := ah.jL q1 (lo := lo + m.length) (n := l.length - (lo + m.length)) (by omega)
 have e1 : (l.take lo).length = lo := by rw [List.length_take]; omega
 have e2 : (l.drop (lo + m.length)).length = l.length - (lo + m.length) := List.length_drop
 have e3 : (l.drop (lo + m.length)).take (l.length - (lo + m.length)) = l.drop (lo + m.length) := List.take_of_length_le (by omega)
 have e4 : (xs.drop ((lo + m.length) * t.sz)).take ((l.length - (lo + m.length)) * t.sz) = xs.drop ((lo + m.length) * t.sz) := List.take_of_length_le (by rw [List.length_drop, Nat.sub_mul]; omega)
 rw [e3, e4] at hp2
 simp only [List.drop_zero, Nat.zero_mul] at hp1
 have hap : ah (SF c ι (fr && fy)) w (.arr (l.take lo ++ (m ++ l.drop (lo + m.length))).length t) (l.take lo ++ (m ++ l.drop (lo + m.length))) (xs.take (lo * t.sz) ++ (ds ++ xs.drop ((lo + m.length) * t.sz))) :=
  ah.kC (by rw [e1]; exact ah.mono wk1 (fun _ _ => rfl) _ _ _ hp1) (ah.kC (ah.mono wk2 (fun _ _ => rfl) _ _ _ hds) (by rw [e2]; exact ah.mono wk1 (fun _ _ => rfl) _ _ _ hp2))
 have hsp : xs.take (lo * t.sz) ++ (ds ++ xs.drop ((lo + m.length) * t.sz)) = splice xs (lo * t.sz) ds := by
  unfold splice
  rw [hdl, <- Nat.add_mul, List.append_assoc]
 rw [hsp] at hap
 refine ⟨_, ah.mono (fun _ h => h) hw _ _ _ hap, ⟨fun z hz => ?_, by rw [hlen]; exact q2.2⟩, ?_, .inr ⟨g, _, fz, hb, ?_, setRow_heap w g _ _ _ _ hg, a4, ?_, by rw [hlen]; exact a6, a7, by rw [List.size_toArray, hsl]; exact a8, ?_, fun hap' => ?_⟩⟩
 ·rcases List.mem_append.1 hz with hz | hz
  ·exact q2.1 z (List.mem_of_mem_take hz)
  ·rcases List.mem_append.1 hz with hz | hz
   ·exact hv z hz
   ·exact q2.1 z (List.mem_of_mem_drop hz)
 ·rw [iC _ _ _ (by omega), hlen]; exact hxl
 ·cases fr <;> cases fy <;> first | exact Nat.zero_le _ | exact a2
 ·intro j hj
  rw [List.size_toArray, hsl] at hj
  exact a5 j hj
 ·rw [List.toList_toArray, hlen, zk cur.toList _ _ ds (by omega) (by omega), a9]
 ·rw [List.toList_toArray, hlen, zl cur.toList _ _ ds (by omega) (by omega)]
  exact (a10 hap').gen wk1 (fun b hb => xx.heap b hb.1)
theorem yY (I : Inv c ι w M) {x : Leaf} {v : Value} {id : Nat} {r : Option (Nat × Nat)} (hc : yJ x = some (id, r)) (hr : aj c ι w M x [v]) {e : Nat} {t : Ty} {fr ap : Bool} {l : List t.den} (hm : M.get id = some (.row e t fr ap l))
 :
 ∃ a cp, v = .slice a (jc l.length r) cp /\ jC r + jc l.length r <= l.length /\ (0 < jc l.length r -> ∃ g cur fz, ι.base id = some ⟨g, 0, none⟩ /\ a = some ⟨g, jC r * t.sz, none⟩ /\ w.heap[g]? = some (.cells cur e fz) /\ (∀ j, j < cur.size -> ¬ (fz.1 <= j /\ j < fz.2)) /\ l.length * t.sz <= cur.size /\ (ap = true -> fz = (0, 0))) := by
 have hcp := (jv I hm).1
 have blk : 0 < l.length -> ∃ g cur fz, ι.base id = some ⟨g, 0, none⟩ /\ w.heap[g]? = some (.cells cur e fz) /\ (∀ j, j < cur.size -> ¬ (fz.1 <= j /\ j < fz.2)) /\ l.length * t.sz <= cur.size /\ (ap = true -> fz = (0, 0)) := by
  intro h0
  obtain ⟨xs, q1, q2, q3⟩ := I.ents id _ hm
  rcases q3.2 with ⟨_, _, hn, _⟩ | ⟨g, cur, fz, a1, a2, a3, a4, a5, a6, a7, a8, a9, a10⟩
  ·omega
  ·exact ⟨g, cur, fz, a1, a3, a5, by rw [a8]; exact Nat.mul_le_mul_right _ a6, a4⟩
 cases x <;> simp only [yJ] at hc <;> first | (cases hc; done) | skip
 ·cases hc
  simp only [jC, jc]
  simp only [aj, hm] at hr
  obtain ⟨a, h1, h2⟩ := hr
  refine ⟨a, _, by simpa using h1, by simp, fun h0 => ?_⟩
  obtain ⟨g, cur, fz, b1, b2, b3, b4⟩ := blk h0
  exact ⟨g, cur, fz, b1, by rw [h2 (by omega), b1, Nat.zero_mul], b2, b3, b4⟩
 ·cases hc
  simp only [jC, jc]
  simp only [aj, hm] at hr
  obtain ⟨a, h1, h2, h3⟩ := hr
  refine ⟨a, _, by simpa using h1, h2, fun h0 => ?_⟩
  obtain ⟨g, cur, fz, b1, b2, b3, b4⟩ := blk (by omega)
  exact ⟨g, cur, fz, b1, by rw [h3 (by omega), b1]; simp only [Option.map_some, Addr.add_lit, Nat.zero_add], b2, b3, b4⟩
theorem Ih {dT sT ty elem : Nat} {i : TypeInfo} (hu : P.underlying dT = some (.slice elem)) (hi : P.info? elem = some i) {d : Option Addr} {dLen dCap sLen sCap : Nat} {a : Option Addr} {k : Nat} (hk : k = min sLen dLen) {cs : List Value}
 (hcs : cs.length = k * i.size) (hsrc : 0 < k -> ∃ ad, a = some ad /\ ∀ j v, cs[j]? = some v -> w.cell? (ad.add j) = some v) (h1 : ∀ v ∈ cs, v.oneCell' = true) {g o : Nat} {cur : Array Value} {e : TypeId} {fz : Nat × Nat} (h0 : 0 < k)
 (hd : d = some ⟨g, o, none⟩) (hg : w.heap[g]? = some (.cells cur e fz)) (hf : ∀ j, j < cur.size -> ¬ (fz.1 <= j /\ j < fz.2)) (hfit : o + cs.length <= cur.size) :
 (Builtin.copy_ #[dT, sT] ty #[.slice d dLen dCap, .slice a sLen sCap]).run P w = .ok (goInt k) (w.setRow g (splice cur.toList o cs).toArray) := by
 obtain ⟨ad, rfl, hc⟩ := hsrc h0
 subst hd
 have hl : (loadCells ad (k * i.size)).run P w = .ok cs.toArray w := by rw [<- hcs]; exact run_loadCells_list (P := P) w ad cs hc
 have hst := fM (P := P) g o e fz cs 0 cur w hg hf (by omega) h1
 simp only [Nat.add_zero] at hst
 have hk' : Nat.min sLen dLen = k := hk.symm
 simp [Builtin.copy_, run_underlying hu, Builtin.lenOf, Builtin.firstCells, sizeOf, typeInfo, hi, hk', hl, hst, splice]
theorem FQ {dT sT ty elem : Nat} {i : TypeInfo} (hu : P.underlying dT = some (.slice elem)) (hi : P.info? elem = some i) {d : Option Addr} {dLen dCap : Nat} {s : ByteArray} {k : Nat} (hk : k = min s.size dLen) {cs : List Value}
 (hcs : cs = (Lib.strCells s).take k) (h1 : ∀ v ∈ cs, v.oneCell' = true) {g o : Nat} {cur : Array Value} {e : TypeId} {fz : Nat × Nat}
 (hd : d = some ⟨g, o, none⟩) (hg : w.heap[g]? = some (.cells cur e fz)) (hf : ∀ j, j < cur.size -> ¬ (fz.1 <= j /\ j < fz.2)) (hfit : o + cs.length <= cur.size) :
 (Builtin.copy_ #[dT, sT] ty #[.slice d dLen dCap, .string s]).run P w = .ok (goInt k) (w.setRow g (splice cur.toList o cs).toArray) := by
 subst hd
 have hst := fM (P := P) g o e fz cs 0 cur w hg hf (by omega) h1
 simp only [Nat.add_zero] at hst
 have hk' : Nat.min s.size dLen = k := hk.symm
 have hfc : (Builtin.firstCells i.size k (.string s)).run P w = .ok cs.toArray w := by
  have hx : Array.map (fun b : UInt8 => Value.int IntKind.u8 (b.toNat : Int)) (s.extract 0 k).data = cs.toArray := by
   apply Array.ext'
   rw [hcs]
   simp [Lib.strCells, ByteArray.extract, ByteArray.copySlice, List.map_take]
  show (pure (Array.map (fun b : UInt8 => Value.int IntKind.u8 (b.toNat : Int)) (s.extract 0 k).data) : Sem _).run P w = _
  rw [hx]; rfl
 simp [Builtin.copy_, run_underlying hu, Builtin.lenOf, sizeOf, typeInfo, hi, hk', hfc, hst, splice]
theorem wu {dT sT ty elem : Nat} {i : TypeInfo} (hu : P.underlying dT = some (.slice elem)) (hi : P.info? elem = some i) {d : Option Addr} {dLen dCap : Nat} {v : Value} {m : Nat} (hv : (∃ a cp, v = .slice a m cp) ∨ ∃ s, v = .string s /\ s.size = m) (h0 : min m dLen = 0) :
 (Builtin.copy_ #[dT, sT] ty #[.slice d dLen dCap, v]).run P w = .ok (goInt 0) w := by
 have hl : ∀ (x : Addr), (loadCells x 0).run P w = .ok #[] w := fun x => by simpa using run_loadCells_list (P := P) w x [] (by simp)
 have hk : Nat.min m dLen = 0 := h0
 rcases hv with ⟨a, cp, rfl⟩ | ⟨s, rfl, rfl⟩
 ·cases d <;> cases a <;> simp [Builtin.copy_, run_underlying hu, Builtin.lenOf, Builtin.firstCells, sizeOf, typeInfo, hi, hk, storeCells, hl]
 ·have hfc : (Builtin.firstCells i.size 0 (.string s)).run P w = .ok #[] w := by
   have hx : Array.map (fun b : UInt8 => Value.int IntKind.u8 (b.toNat : Int)) (s.extract 0 0).data = #[] := by
    apply Array.ext'
    simp
   show (pure (Array.map (fun b : UInt8 => Value.int IntKind.u8 (b.toNat : Int)) (s.extract 0 0).data) : Sem _).run P w = _
   rw [hx]; rfl
  cases d <;> simp [Builtin.copy_, run_underlying hu, Builtin.lenOf, hfc, sizeOf, typeInfo, hi, hk, storeCells]
theorem EY {e : Nat} {tab : aH P cfg} {T tsz tby : Nat} {tty : Option Ty} (hT : cfg.ti T = some ⟨.slice e, tsz, tby, tty⟩) {ed : TD} {esz bytes : Nat} {te : Ty} (he : cfg.ti e = some ⟨ed, esz, bytes, some te⟩) :
 P.underlying T = some (.slice e) /\ ∃ z i, P.info? e = some i /\ i.zero = some z /\ i.size = te.sz /\ i.bytes = bytes /\ z.cells.toList = aQ te /\ (te.isAgg = false -> z.oneCell' = true) /\ ∀ w, (zeroValue e).run P w = .ok z w := by
 obtain ⟨d, i', hu, _, _, _, h3, _⟩ := (tab T _ hT).ex
 have hu : P.underlying T = some (.slice e) := by rw [hu, show d = _ from h3]
 obtain ⟨z, hz, hzc, i, hi, hiz, his, jM, hz1⟩ := jI (tab e _ he) rfl
 obtain ⟨_, _, _, _, _, _, _, _, h7⟩ := (tab e _ he).ex
 obtain ⟨h8, _, _⟩ := h7 te rfl
 exact ⟨hu, z, i, hi, hiz, by rw [his, h8], jM, hzc, hz1, hz⟩
theorem FT (tab : aH P cfg) (I : Inv c ι w M) {T U : Nat} {x y : Operand} {cl : Call} (ho : o.op = .call cl) (hc : cl.callee = .builtin .copy) (ha : cl.args.toList = [x, y]) (ht : cl.argTypes.toList = [T, U])
 {lx ly : Leaf} (hx : aj c ι w M lx [act.eval x]) (hy : aj c ι w M ly [act.eval y]) {ef : Eff} (h : tu cfg M T U lx ly = some ef) : au P c ι w M act o ef.sv ef.upd := by
 unfold tu at h
 split at h
 ·rename_i e tsz tby tty id r hT hcut
  split at h
  ·rename_i ed esz bytes te e' t fr ap l he hm
   split at h
   ·rename_i htt
    subst htt
    cases hcond : (Nat.beq e' e && (cond (dK ly) (isStr cfg U && Nat.beq bytes 1) (Nat.beq U T) && Nat.blt 0 t.sz)) with
    | false => rw [hcond] at h; cases h
    | true =>
      rw [hcond] at h
      simp only [Bool.and_eq_true] at hcond
      obtain ⟨c1, c2, c3⟩ := hcond
      have c1 := Nat.eq_of_beq_eq_true c1
      subst c1
      have h0 : 0 < t.sz := by simpa using c3
      obtain ⟨hu, z, i, hi, hiz, his, jM, hzc, hz1, _⟩ := EY (tab := tab) hT he
      cases hl : listOf M t ly with
      | none => rw [hl] at h; cases h
      | some fm =>
        obtain ⟨fy, m⟩ := fm
        rw [hl] at h
        cases h
        show au P c ι w M act o (.one (.int .i64 ((min m.length (jc l.length r) : Nat) : Int))) [(id, .row e' t (fr && (fy || dI t)) ap (l.take (jC r) ++ (m.take (jc l.length r) ++ l.drop (jC r + (m.take (jc l.length r)).length))))]
        obtain ⟨a, cp, hv, hle, hblk⟩ := yY I hcut hx hm
        generalize jc l.length r = n at *
        generalize jC r = lo at *
        have hval := (jv I hm).2
        have hkl : (m.take n).length = min m.length n := by rw [List.length_take, Nat.min_comm]
        have hkm : min m.length n <= maxLen := by have := hval.2; omega
        have fin : ∀ {w'} {ds : List Value}, (∀ cf, (builtin .copy #[T, U] o.type cf #[act.eval x, act.eval y]).run P w = .ok (.value (goInt ((min m.length n : Nat) : Int))) w') ->
         (min m.length n = 0 /\ w' = w ∨ ∃ g cur fz, 0 < n /\ ι.base id = some ⟨g, 0, none⟩ /\ w.heap[g]? = some (.cells cur e' fz) /\ w' = w.setRow g (splice cur.toList (lo * t.sz) ds).toArray) ->
         ah (SF c ι fy) w (.arr (m.take n).length t) (m.take n) ds -> (∀ x ∈ m, Valid t x) -> au P c ι w M act o (.one (.int .i64 ((min m.length n : Nat) : Int))) [(id, .row e' t (fr && (fy || dI t)) ap (l.take lo ++ (m.take n ++ l.drop (lo + (m.take n).length))))] := by
         intro w' ds hrun hw hp hvm
         rcases hw with ⟨hk0, rfl⟩ | ⟨g, cur, fz, hn0, b1, b2, rfl⟩
         ·have e1 : m.take n = [] := List.eq_nil_of_length_eq_zero (by rw [hkl, hk0])
          have e2 : l.take lo ++ (m.take n ++ l.drop (lo + (m.take n).length)) = l := by rw [e1]; simp
          rw [e2]
          obtain ⟨I', x'⟩ := I.weaken hm (fy || dI t)
          exact au.of_run (wo ho hc ha ht hrun) I' x' (ak.one ⟨rfl, lU hkm⟩)
         ·obtain ⟨I', x'⟩ := I.part hm b1 b2 (lo := lo) (m := m.take n) (by rw [hkl]; omega) (qH hp) (fun z hz => hvm z (List.mem_of_mem_take hz))
          exact au.of_run (wo ho hc ha ht hrun) I' x' (ak.one ⟨rfl, lU hkm⟩)
        cases hstr : dK ly with
        | false =>
          rw [hstr] at c2
          have hUT : U = T := Nat.eq_of_beq_eq_true c2
          obtain ⟨⟨b', cp', hv', hcap, hsrc⟩, hval'⟩ := uT I hl hy hstr
          by_cases hk : 0 < min m.length n
          ·obtain ⟨g, cur, fz, b1, b2, b3, b4, b5, _⟩ := hblk (by omega)
           obtain ⟨ad, news, e1, e2, e3⟩ := hsrc (by omega)
           have hds : ah (SF c ι fy) w (.arr (m.take n).length t) (m.take n) (news.take ((m.take n).length * t.sz)) := by
            have := ah.jL e2 (lo := 0) (n := (m.take n).length) (by rw [hkl]; omega)
            rw [List.drop_zero, Nat.zero_mul, List.drop_zero] at this
            rw [show List.take (m.take n).length m = m.take n from by rw [hkl, Nat.min_comm, <- List.take_take, List.take_length]] at this
            exact this
           have hdl := ah.len _ _ _ hds
           have hdl : (news.take ((m.take n).length * t.sz)).length = (m.take n).length * t.sz := hdl
           refine fin (ds := news.take ((m.take n).length * t.sz)) (fun cf => ?_) (.inr ⟨g, cur, fz, by omega, b1, b3, rfl⟩) hds hval'.1
           have hle' : (lo + (m.take n).length) * t.sz <= l.length * t.sz := Nat.mul_le_mul_right _ (by rw [hkl]; omega)
           rw [Nat.add_mul] at hle'
           have hr := Ih (P := P) (w := w) (ty := o.type) (sT := U) (i := i) hu hi (d := a) (dLen := n) (dCap := cp) (sLen := m.length) (sCap := cp') (a := b') (k := min m.length n) rfl (cs := news.take ((m.take n).length * t.sz)) (by rw [hdl, hkl, his])
            (fun _ => ⟨ad, e1, fun j v hj => e3 j v (by rw [List.getElem?_take] at hj; split at hj; exact hj; cases hj)⟩) (ah.one _ _ _ hds) hk b2 b3 b4 (by rw [hdl]; omega)
           rw [hv, hv']
           simp [builtin, hr]
          ·have hk0 : min m.length n = 0 := by omega
           refine fin (ds := []) (fun cf => ?_) (.inl ⟨hk0, rfl⟩) (by rw [show m.take n = [] from List.eq_nil_of_length_eq_zero (by rw [hkl, hk0])]; exact ah.ku) hval'.1
           have hr := wu (P := P) (w := w) (ty := o.type) (sT := U) hu hi (d := a) (dLen := n) (dCap := cp) (v := act.eval y) (m := m.length) (.inl ⟨_, _, hv'⟩) hk0
           rw [hv, hk0]
           simp [builtin, hr]
        | true =>
          rw [hstr] at c2
          simp only [cond_true, Bool.and_eq_true] at c2
          cases ly <;> simp only [dK, Bool.false_eq_true] at hstr
          rename_i s
          obtain ⟨hv', hval'⟩ := hy
          have hv' : act.eval y = .string (bs s) := by simpa using hv'
          simp only [listOf] at hl
          split at hl
          case h_2 => cases hl
          simp only [Option.some.injEq, Prod.mk.injEq] at hl
          obtain ⟨hl1, hl2⟩ := hl
          have hl2 := hl2.symm
          subst hl1 hl2
          have hsz := gy m
          by_cases hk : 0 < min m.length n
          ·obtain ⟨g, cur, fz, b1, b2, b3, b4, b5, _⟩ := hblk (by omega)
           have hcs : (Lib.strCells (bs m)).take (min m.length n) = (m.take n).map fun x => Value.int .u8 x := by
            rw [sD m hval'.1, <- List.map_take, Nat.min_comm, <- List.take_take, List.take_length]
           refine fin (ds := (m.take n).map fun x => Value.int .u8 x) (fun cf => ?_) (.inr ⟨g, cur, fz, by omega, b1, b3, rfl⟩) (ah.bytes _) (mO hval'.1)
           have hle' : (lo + (m.take n).length) * 1 <= l.length * 1 := Nat.mul_le_mul_right _ (by rw [hkl]; omega)
           have b5 : l.length * 1 <= cur.size := b5
           have hr := FQ (P := P) (w := w) (ty := o.type) (sT := U) (i := i) hu hi (d := a) (dLen := n) (dCap := cp) (s := bs m) (k := min m.length n) (by rw [hsz]) (cs := (m.take n).map fun x => Value.int .u8 x) hcs.symm
            (fun v hv => by obtain ⟨x, _, rfl⟩ := List.mem_map.1 hv; rfl) (o := lo * (Ty.int .u8).sz) b2 b3 b4 (by rw [List.length_map, show (Ty.int .u8).sz = 1 from rfl]; omega)
           rw [hv, hv']
           simp only [builtin, Sem.run_bind, hr, Result.andThen_ok]
           rfl
          ·have hk0 : min m.length n = 0 := by omega
           refine fin (ds := []) (fun cf => ?_) (.inl ⟨hk0, rfl⟩) (by rw [show m.take n = [] from List.eq_nil_of_length_eq_zero (by rw [hkl, hk0])]; exact ah.ku) (mO hval'.1)
           have hr := wu (P := P) (w := w) (ty := o.type) (sT := U) hu hi (d := a) (dLen := n) (dCap := cp) (v := act.eval y) (m := m.length) (.inr ⟨_, hv', hsz⟩) hk0
           rw [hv, hk0]
           simp [builtin, hr]
   ·cases h
  ·cases h
 ·cases h
theorem EF (tab : aH P cfg) (I : Inv c ι w M) {T : Nat} {x : Operand} {cl : Call} (ho : o.op = .call cl) (hc : cl.callee = .builtin .clear) (ha : cl.args.toList = [x]) (ht : cl.argTypes.toList = [T])
 {lx : Leaf} (hx : aj c ι w M lx [act.eval x]) {ef : Eff} (h : pR cfg M T lx = some ef) : au P c ι w M act o ef.sv ef.upd := by
 unfold pR at h
 split at h
 ·rename_i e tsz tby tty id r hT hcut
  split at h
  ·rename_i ed esz bytes te e' t fr ap l he hm
   split at h
   ·rename_i htt
    subst htt
    cases hcond : (Nat.beq e' e && Nat.blt 0 t.sz) with
    | false => rw [hcond] at h; cases h
    | true =>
      rw [hcond] at h
      simp only [Bool.and_eq_true] at hcond
      obtain ⟨c1, c3⟩ := hcond
      have c1 := Nat.eq_of_beq_eq_true c1
      subst c1
      have h0 : 0 < t.sz := by simpa using c3
      obtain ⟨hu, z, i, hi, hiz, his, jM, hzc, hz1, hzv⟩ := EY (tab := tab) hT he
      cases h
      show au P c ι w M act o (.tup []) [(id, .row e' t (fr && true) ap (l.take (jC r) ++ (List.replicate (jc l.length r) t.dft ++ l.drop (jC r + jc l.length r))))]
      obtain ⟨a, cp, hv, hle, hblk⟩ := yY I hcut hx hm
      generalize jc l.length r = n at *
      generalize jC r = lo at *
      have hlen : (List.replicate n t.dft).length = n := List.length_replicate
      by_cases hn : 0 < n
      ·obtain ⟨g, cur, fz, b1, b2, b3, b4, b5, _⟩ := hblk hn
       have hzs : z.cells.size = t.sz := by rw [<- Array.length_toList, hzc, fB]
       have hzz : (Builtin.zeroCells z.cells n).toList = (List.replicate n (aQ t)).flatten := by rw [uU _ _ (by omega), hzc]
       have hp : ah (SF c ι true) w (.arr (List.replicate n t.dft).length t) (List.replicate n t.dft) (List.replicate n (aQ t)).flatten := by rw [hlen]; exact ah.zeros t n
       have hpl : ((List.replicate n (aQ t)).flatten).length = n * t.sz := by have := ah.len _ _ _ hp; rw [hlen] at this; exact this
       have hle' : (lo + n) * t.sz <= l.length * t.sz := Nat.mul_le_mul_right _ hle
       rw [Nat.add_mul] at hle'
       have hst := fM (P := P) g (lo * t.sz) e' fz (List.replicate n (aQ t)).flatten 0 cur w b3 b4 (by rw [hpl]; omega) (ah.one _ _ _ hp)
       simp only [Nat.add_zero] at hst
       obtain ⟨I', x'⟩ := I.part hm b1 b3 (lo := lo) (m := List.replicate n t.dft) (by rw [hlen]; exact hle) hp (fun z hz => by rw [List.eq_of_mem_replicate hz]; exact dZ t)
       rw [hlen] at I' x'
       refine au.of_run (v := .tuple #[]) (kT ho hc ha ht fun cf => ?_) I' x' ⟨[], rfl, rfl⟩
       obtain ⟨k, rfl⟩ : ∃ k, n = k + 1 := ⟨n - 1, by omega⟩
       rw [hv, b2]
       simp only [builtin, Builtin.clear_, Sem.run_bind]
       simp [run_underlying hu, hzv, hzz, hst, splice]
      ·have hn0 : n = 0 := by omega
       subst hn0
       have e2 : l.take lo ++ (List.replicate 0 t.dft ++ l.drop (lo + 0)) = l := by simp
       rw [e2]
       obtain ⟨I', x'⟩ := I.weaken hm true
       refine au.of_run (v := .tuple #[]) (kT ho hc ha ht fun cf => ?_) I' x' ⟨[], rfl, rfl⟩
       rw [hv]
       cases a <;> simp [builtin, Builtin.clear_, run_underlying hu]
   ·cases h
  ·cases h
 ·cases h
theorem BA (tab : aH P cfg) (I : Inv c ι w M) {nid T U : Nat} (hid : M.get nid = none) {x y : Operand} {cl : Call} (ho : o.op = .call cl) (hc : cl.callee = .builtin .append) (ha : cl.args.toList = [x, y]) (ht : cl.argTypes.toList = [T, U])
 {lx : Leaf} {kk : IntKind} {k : Int} (hx : aj c ι w M lx [act.eval x]) (hy : act.eval y = .int kk k) {ef : Eff} (h : lG cfg M nid T U lx k = some ef) (hp : ∀ p ∈ ef.pre, p) : au P c ι w M act o ef.sv ef.upd := by
 unfold lG at h
 split at h
 ·rename_i e tsz tby tty hT
  split at h
  ·rename_i ed esz bytes te he
   obtain ⟨hu, z, i, hi, hiz, his, jM, hzc, hz1, hzv⟩ := EY (tab := tab) hT he
   cases hc0 : Nat.blt 0 te.sz with
   | false => rw [hc0] at h; cases h
   | true =>
     rw [hc0] at h
     simp only [cond_true] at h
     have h0 : 0 < te.sz := by simpa using hc0
     have hzs : z.cells.size = te.sz := by rw [<- Array.length_toList, hzc, fB]
     have hzz : ∀ n, Builtin.zeroCells z.cells n = (List.replicate n (aQ te)).flatten.toArray := fun n => by rw [uU _ _ (by omega), hzc]
     have hzl : ∀ n, ((List.replicate n (aQ te)).flatten).length = n * te.sz := fun n => by
      rw [bD te.sz _ (fun ec hec => by rw [List.eq_of_mem_replicate hec, fB]), List.length_replicate]
     split at h
     ·rename_i kn usz uby uty hU
      obtain ⟨du, hdu, hdd⟩ := (tab U _ hU).under
      have htn : P.underlying U = some (.int kn) := by rw [hdu, show du = _ from hdd]
      have fin : ∀ {fr : Bool} {l : List te.den} {xs : List Value} {n cp : Nat} {v' : Value}, ah (SF c ι fr) w (.arr l.length te) l xs -> (∀ x ∈ l, Valid te x) -> l.length <= cp -> cp <= maxLen -> v' = .slice (some ⟨w.heap.size, 0, none⟩) l.length cp ->
       (Builtin.append_ #[T, U] o.type #[act.eval x, act.eval y]).run P w = .ok v' (w.drew.alloc (.cells (xs ++ (List.replicate (cp - l.length) (aQ te)).flatten).toArray e)) -> au P c ι w M act o (.one (.own nid)) [(nid, .row e te fr true l)] := by
       intro fr l xs n cp v' hpr hval hle hcm hv' hrun
       have hxl : xs.length = l.length * te.sz := by have := ah.len _ _ _ hpr; simpa [Ty.sz] using this
       obtain ⟨ι', I', x', hb', hc'⟩ := I.row hid (e := e) (t := te) (fr := fr) (l := l) (cur := (xs ++ (List.replicate (cp - l.length) (aQ te)).flatten).toArray) (cap := cp) (g := w.heap.size) true (0, 0)
        (((Turn.drew w (fun _ => False))).trans (Turn.alloc w.drew _ _)) (fun _ h => h.elim) (.inr (Nat.le_refl _)) (by cases fr; exact Nat.zero_le _; exact I.kept.lb) (fun _ => rfl) (by simp) hle hcm
        (by rw [List.size_toArray, List.length_append, hxl, hzl, <- Nat.add_mul]; congr 1; omega) hval
        (by rw [List.toList_toArray, List.take_left' hxl]; exact hpr) (fun _ => by rw [List.toList_toArray, List.drop_left' hxl]; exact eH.zeros hle) (heap_alloc_new w.drew _)
       refine au.of_run (iP ho hc ha ht hrun) I' x' (ak.one ?_)
       have hg : (Store.aK M [(nid, .row e te fr true l)]).get nid = some (.row e te fr true l) := Store.get_set_same ..
       simp only [aj, hg]
       exact ⟨_, by rw [hv', hc'], fun _ => hb'.symm⟩
      split at h
      ·cases h
       have p1 := hp (0 < k) (by simp)
       have p2 := hp (k * (bytes : Int) <= 140737488355328) (by simp)
       have p3 := hp (k <= (maxLen : Int)) (.tail _ (.tail _ (.head _)))
       obtain ⟨n, rfl⟩ := Int.eq_ofNat_of_zero_le (Int.le_of_lt p1)
       have hxv : act.eval x = .slice none 0 0 := by simpa [aj] using hx
       have hb : n * i.bytes <= 140737488355328 := by
        rw [jM]
        have e1 : ((n * bytes : Nat) : Int) = (n : Int) * (bytes : Int) := Int.natCast_mul ..
        have p2 : (n : Int) * (bytes : Int) <= 140737488355328 := p2
        omega
       have hn : n <= maxLen := Int.ofNat_le.1 p3
       have hn63 : (n : Int) <= 9223372036854775807 := by simp only [maxLen] at hn; omega
       have hr := Lib.run_append_nil_zeros (P := P) w T U o.type e i z kk kn hu htn hi hiz n (by omega) (by omega) hn63 (by omega)
       show au P c ι w M act o (.one (.own nid)) [(nid, .row e te true true (List.replicate n te.dft))]
       have hrl : (List.replicate n te.dft).length = n := List.length_replicate
       refine fin (l := List.replicate n te.dft) (xs := (List.replicate n (aQ te)).flatten) (n := 0) (cp := grownCap w n 0 e) (by rw [hrl]; exact ah.zeros te n) (fun z hz => by rw [List.eq_of_mem_replicate hz]; exact dZ te) (by rw [hrl]; exact grownCap_ge ..) (grownCap_le_maxLen w _ _ _ hn) rfl ?_
       rw [hxv, hy, hr, hrl, hzz, hzz]
       congr 2
       congr 1
       apply Array.ext'; simp
      ·rename_i id n
       cases hm : M.get id with
       | none => rw [hm] at h; cases h
       | some en =>
         rw [hm] at h
         cases en <;> first | (simp only at h; cases h; done) | skip
         rename_i e' t fr ap l
         cases ap <;> simp only at h <;> first | (cases h; done) | skip
         split at h
         ·rename_i htt
          subst htt
          cases hee : Nat.beq e' e with
          | false => rw [hee] at h; cases h
          | true =>
            rw [hee] at h
            have hee : e' = e := Nat.eq_of_beq_eq_true hee
            subst hee
            cases h
            have p1 := hp (0 < k) (by simp)
            have p4 := hp ((l.length : Int) < n + k) (by simp)
            have p2 := hp ((n + k) * (bytes : Int) <= 140737488355328) (by simp)
            have p3 := hp (n + k <= (maxLen : Int)) (.tail _ (.tail _ (.tail _ (.head _))))
            obtain ⟨m, rfl⟩ := Int.eq_ofNat_of_zero_le (Int.le_of_lt p1)
            have hb : (n + m) * i.bytes <= 140737488355328 := by
             rw [jM]
             have e1 : (((n + m) * bytes : Nat) : Int) = ((n + m : Nat) : Int) * (bytes : Int) := Int.natCast_mul ..
             have e2 : ((n + m : Nat) : Int) = (n : Int) + (m : Int) := Int.natCast_add ..
             have p2 : ((n : Int) + (m : Int)) * (bytes : Int) <= 140737488355328 := p2
             rw [<- e2, <- e1] at p2
             omega
            have hn : n + m <= maxLen := by have p3 : (n : Int) + (m : Int) <= (maxLen : Int) := p3; omega
            have hn63 : ((n + m : Nat) : Int) <= 9223372036854775807 := by simp only [maxLen] at hn; omega
            obtain ⟨ax, hx1, ⟨hx2, hx4⟩, hx3⟩ : ∃ a, [act.eval x] = [Value.slice a n (ι.cap id - 0)] /\ (0 + n <= l.length /\ l.length = ι.cap id) /\ (0 < ι.cap id -> a = (ι.base id).map (·.add (0 * t.sz))) := (by simp only [aj, hm] at hx; exact hx)
            have hxv : act.eval x = .slice ax n (ι.cap id) := by simpa using hx1
            obtain ⟨xs, z1, z2, z3⟩ := bH.front I hm (k := n) (by omega) (ax := ax) (fun h0 => by rw [hx3 h0]; cases ι.base id <;> simp [Addr.add])
            obtain ⟨hxl, _⟩ := z1.cells
            have hval := (jv I hm).2
            have hold : (Builtin.firstCells i.size n (.slice ax n (ι.cap id))).run P w.drew = .ok xs.toArray w.drew := by
             cases ax with
             | none =>
               rcases z1 with ⟨_, rfl, rfl⟩ | ⟨g, cur, hb, _⟩
               ·simp [Builtin.firstCells]
               ·cases hb
             | some ad =>
               refine run_firstCells_some (P := P) w.drew i.size n ad n (ι.cap id) xs (by rw [his]; exact hxl) fun j u hj => ?_
               rcases z1 with ⟨_, rfl, rfl⟩ | ⟨g, cur, hb, hg, _, _, _, htk⟩
               ·simp at hj
               ·cases hb
                show w.drew.cell? _ = _
                rw [Addr.add_lit, Nat.zero_add]
                have : w.drew.cell? ⟨g, j, none⟩ = w.cell? ⟨g, j, none⟩ := by simp
                rw [this, cell_of_row w g j cur _ (0, 0) hg]
                rw [<- htk, List.getElem?_take] at hj
                split at hj
                ·simpa using hj
                ·cases hj
            have hr := Lib.run_append_grow_zeros (P := P) w T U o.type e' i z kk kn hu htn hi hiz ax n (ι.cap id) xs hold m (by omega) (by omega) (by omega) hn63 (by have : m * i.bytes <= (n + m) * i.bytes := Nat.mul_le_mul_right _ (by omega); omega) (growslice_fits (by omega) hb)
            show au P c ι w M act o (.one (.own nid)) [(nid, .row e' t fr true (l.take n ++ List.replicate m t.dft))]
            have hkl : (l.take n).length = n := by rw [List.length_take]; omega
            have hrl : (l.take n ++ List.replicate m t.dft).length = n + m := by rw [List.length_append, hkl, List.length_replicate]
            have hz2 : ah (SF c ι fr) w (.arr (List.replicate m t.dft).length t) (List.replicate m t.dft) (List.replicate m (aQ t)).flatten := by rw [List.length_replicate]; exact ah.zeros t m
            refine fin (l := l.take n ++ List.replicate m t.dft) (xs := xs ++ (List.replicate m (aQ t)).flatten) (n := 0) (cp := grownCap w (n + m) (ι.cap id) e') (ah.kC z2 hz2) (fun z hz => ?_) (by rw [hrl]; exact grownCap_ge ..) (grownCap_le_maxLen w _ _ _ hn) rfl ?_
            ·rcases List.mem_append.1 hz with hz | hz
             ·exact hval.1 z (List.mem_of_mem_take hz)
             ·rw [List.eq_of_mem_replicate hz]; exact dZ t
            rw [hxv, hy, hr, hrl, hzz, hzz]
            congr 2
            congr 1
            apply Array.ext'; simp
         ·cases h
      ·cases h
     ·cases h
  ·cases h
 ·cases h
theorem BD (tab : aH P cfg) (I : Inv c ι w M) {T U : Nat} {x y : Operand} {cl : Call} (ho : o.op = .call cl) (hc : cl.callee = .builtin .append) (ha : cl.args.toList = [x, y]) (ht : cl.argTypes.toList = [T, U])
 {lx ly : Leaf} (hx : aj c ι w M lx [act.eval x]) (hy : aj c ι w M ly [act.eval y]) (hstr : dK ly = false) {ef : Eff} (h : lH cfg M T U lx ly = some ef) (hp : ∀ p ∈ ef.pre, p) : au P c ι w M act o ef.sv ef.upd := by
 unfold lH at h
 split at h
 ·rename_i id n e tsz tby tty hT
  split at h
  ·rename_i ed esz bytes te e' t fr l he hm
   split at h
   ·rename_i htt
    subst htt
    cases hcond : (Nat.beq e' e && (Nat.beq U T && Nat.blt 0 t.sz)) with
    | false => rw [hcond] at h; cases h
    | true =>
      rw [hcond] at h
      simp only [Bool.and_eq_true] at hcond
      obtain ⟨c1, c2, c3⟩ := hcond
      have c1 := Nat.eq_of_beq_eq_true c1
      have c2 := Nat.eq_of_beq_eq_true c2
      subst c1 c2
      have h0 : 0 < t.sz := by simpa using c3
      obtain ⟨hu, z, i, hi, hiz, his, jM, hzc, hz1, _⟩ := EY (tab := tab) hT he
      cases hl : listOf M t ly with
      | none => rw [hl] at h; cases h
      | some fm =>
        obtain ⟨fy, m⟩ := fm
        rw [hl] at h
        cases h
        have p1 := hp ((n + m.length) * bytes <= 140737488355328) (.head _)
        have p2 := hp (n + m.length <= l.length) (.tail _ (.head _))
        show au P c ι w M act o (.one (.sf id 0 (n + m.length))) [(id, .row e' t (fr && (fy || dI t)) true (l.take n ++ (m ++ l.drop (n + m.length))))]
        obtain ⟨ax, hx1, ⟨hx2, hx4⟩, hx3⟩ : ∃ a, [act.eval x] = [Value.slice a n (ι.cap id - 0)] /\ (0 + n <= l.length /\ l.length = ι.cap id) /\ (0 < ι.cap id -> a = (ι.base id).map (·.add (0 * t.sz))) := (by simp only [aj, hm] at hx; exact hx)
        have hxv : act.eval x = .slice ax n (ι.cap id) := by simpa using hx1
        have hval := (jv I hm).2
        obtain ⟨xs, z1, z2, z3⟩ := bH.front I hm (k := n) (by omega) (ax := ax) (fun h0 => by rw [hx3 h0]; cases ι.base id <;> simp [Addr.add])
        obtain ⟨v', w', news, k1, k2, k5, k6⟩ := kE (T := U) (U := U) (ty := o.type) (P := P) hu hi hiz his hzc hz1 h0 I hl hy (by rw [hstr]; rfl) z1 (by rw [jM]; exact p1) (by have := hval.2; omega)
        rw [<- hxv] at k1
        have hnl : news.length = m.length * t.sz := by have := ah.len _ _ _ k5; simpa [Ty.sz] using this
        have hlen : (l.take n ++ (m ++ l.drop (n + m.length))).length = l.length := by simp only [List.length_append, List.length_take, List.length_drop]; omega
        have rep : ∀ {w' : World} {v' : Value}, v' = .slice ax (n + m.length) (ι.cap id) -> aj c ι w' (M.set id (.row e' t (fr && (fy || dI t)) true (l.take n ++ (m ++ l.drop (n + m.length))))) (.sf id 0 (n + m.length)) [v'] := by
         intro w' v' hv'
         simp only [aj, Store.get_set_same]
         exact ⟨ax, by rw [hv']; rfl, ⟨by rw [hlen]; omega, by rw [hlen]; exact hx4⟩, hx3⟩
        rcases k2.out with ⟨hm0, hv', hw'⟩ | ⟨g, cur, hb, hg, hroom, hv', hw'⟩ | ⟨cp, hlt, _⟩
        ·subst hw'
         have hm1 : m = [] := List.eq_nil_of_length_eq_zero hm0
         subst hm1
         obtain ⟨I', x'⟩ := I.weaken hm (fy || dI t)
         have e2 : l.take n ++ ([] ++ l.drop (n + ([] : List t.den).length)) = l := by simp
         have rep := rep (w' := w') (v' := v') (by rw [hv']; rfl)
         rw [e2] at rep ⊢
         exact au.of_run (iP ho hc ha ht k1) I' x' (ak.one rep)
        ·subst hw'
         have Mc : m.length = 0 ∨ ι.base id = some ⟨g, 0, none⟩ := by
          by_cases hm0 : m.length = 0
          ·exact .inl hm0
          ·right
           have hc0 : 0 < ι.cap id := by omega
           have := hx3 hc0
           obtain ⟨xs', q1, q2, q3⟩ := I.ents id _ hm
           rcases q3.2 with ⟨_, hcp, _⟩ | ⟨g', cur', fz', a1, _⟩
           ·omega
           ·rw [a1] at this
            rw [hb] at this
            simp [Addr.add] at this
            rw [a1, this]
         by_cases hm0 : m.length = 0
         ·have hm1 : m = [] := List.eq_nil_of_length_eq_zero hm0
          subst hm1
          have hnews : news = [] := List.eq_nil_of_length_eq_zero (by simpa using hnl)
          subst hnews
          have hsame : w.setRow g (cur.toList.take (n * t.sz) ++ [] ++ cur.toList.drop (n * t.sz + ([] : List Value).length)).toArray = w := by
           simp only [List.append_nil, List.length_nil, Nat.add_zero, List.take_append_drop, Array.toArray_toList]
           unfold World.setRow
           congr 1
           apply Array.ext_getElem?
           intro k
           by_cases hk : k = g
           ·subst hk; rw [Array.getElem?_modify, if_pos rfl, hg]; rfl
           ·simp [Array.getElem?_modify, Ne.symm hk]
          rw [hsame] at k1
          obtain ⟨I', x'⟩ := I.weaken hm (fy || dI t)
          have e2 : l.take n ++ ([] ++ l.drop (n + ([] : List t.den).length)) = l := by simp
          have rep := rep (w' := w) (v' := v') (by rw [hv', hb])
          rw [e2] at rep ⊢
          exact au.of_run (iP ho hc ha ht k1) I' x' (ak.one rep)
         ·have Mc := Mc.resolve_left hm0
          have e3 : (cur.toList.take (n * t.sz) ++ news ++ cur.toList.drop (n * t.sz + news.length)) = splice cur.toList (n * t.sz) news := rfl
          rw [e3] at k1
          obtain ⟨I', x'⟩ := I.part hm Mc hg (lo := n) (m := m) p2 (qH k5) k6
          exact au.of_run (iP ho hc ha ht k1) I' x' (ak.one (rep (by rw [hv', hb])))
        ·omega
   ·cases h
  ·cases h
 ·cases h
theorem Md {l : Leaf} : dK l.weak = dK l := by cases l <;> rfl
theorem BF (tab : aH P cfg) (I : Inv c ι w M) {nid T U : Nat} (hid : M.get nid = none) {x y : Operand} {cl : Call} (ho : o.op = .call cl) (hc : cl.callee = .builtin .append) (ha : cl.args.toList = [x, y]) (ht : cl.argTypes.toList = [T, U])
 {lx ly : Leaf} (hx : aj c ι w M lx [act.eval x]) (hy : aj c ι w M ly [act.eval y]) {ef : Eff} (h : lI cfg M nid T U lx ly = some ef) (hp : ∀ p ∈ ef.pre, p) : au P c ι w M act o ef.sv ef.upd := by
 unfold lI at h
 split at h
 ·exact BA tab I hid ho hc ha ht hx (by have := hy.1; simpa using this) h hp
 ·cases hs : sameRow lx ly with
  | false => rw [hs] at h; exact Dn tab I hid ho hc ha ht hx.weak hy.weak h hp
  | true =>
    rw [hs] at h
    have hstr : dK ly.weak = false := by
     rw [Md]
     cases lx <;> first | (simp [sameRow] at hs; done) | skip
     cases ly <;> first | rfl | skip
     rename_i id lo n l
     cases lo <;> simp [sameRow] at hs
    exact BD tab I ho hc ha ht hx hy.weak hstr h hp
theorem Inv.O6 (I : Inv c ι w M) {nid : Nat} (hid : M.get nid = none) : ∃ ι', Inv c ι' w (M.set nid .dead) /\ Ext ι w M ι' w (M.set nid .dead) := by
 have x := Ext.adopt I hid (Turn.refl w (fun _ => False)) (fun _ h => h.elim) none 0 .dead
 exact ⟨_, Inv.adopt I hid (Turn.refl w (fun _ => False)) (fun _ h => h.elim) none 0 .dead (fun a ha _ => by cases ha) trivial, x⟩
theorem sF {T : Nat} {x hi mx : Operand} {lo : Option Operand} (ho : o.op = .slice T x lo (some hi) (some mx)) {v : Value} (hr : (Instr.sliceAt T (act.eval x) (lo.map act.eval) (some (act.eval hi)) (some (act.eval mx))).run P w = .ok v w) :
 (execOp act.eval o).run P w = .ok (.value v) w := by
 simp [execOp, ho, hr]
theorem uV {T e n : Nat} (hu : P.underlying T = some (.slice e)) (hs : ∀ w, (sizeOf e).run P w = .ok n w) {lo : Option Operand} {hi mx : Operand} {a : Option Int} {b m : Int} {kb km : IntKind} {bs' : Option Addr} {len cap : Nat} (ha : dX act lo a) (hb : act.eval hi = .int kb b) (hm : act.eval mx = .int km m)
 (h0 : 0 <= a.getD 0) (h1 : a.getD 0 <= b) (h2 : b <= m) (h3 : m <= (cap : Int)) (w : World) :
 (Instr.sliceAt T (.slice bs' len cap) (lo.map act.eval) (some (act.eval hi)) (some (act.eval mx))).run P w =
   .ok (.slice (if m.toNat = (a.getD 0).toNat then bs' else bs'.map (·.add ((a.getD 0).toNat * n))) (b.toNat - (a.getD 0).toNat) (m.toNat - (a.getD 0).toNat)) w := by
 have p1 : 0 <= b := Int.le_trans h0 h1
 have p2 : 0 <= m := Int.le_trans p1 h2
 have p3 : ((m.toNat : Nat) : Int) = m := Int.toNat_of_nonneg p2
 have p4 : ((b.toNat : Nat) : Int) = b := Int.toNat_of_nonneg p1
 cases lo <;> cases a <;> simp only [dX] at ha
 ·simp [Instr.sliceAt, Instr.slice, run_underlying hu, Instr.sliceBounds, hb, hm, Instr.sliceBound, asIntOf, p1, p2, p3, h2, h3, hs]
 ·obtain ⟨k, hk⟩ := ha
  simp only [Option.getD_some] at h0 h1 ⊢
  simp [Instr.sliceAt, Instr.slice, run_underlying hu, Instr.sliceBounds, hb, hm, hk, Instr.sliceBound, asIntOf, p1, p2, p3, p4, h0, h1, h2, h3, hs]
theorem FU {x : Operand} (h : ES x = true) {k : IntKind} {n : Int} (hn : act.eval x = .int k n) : n = 0 := by
 unfold ES at h
 split at h
 ·simp only [Act.eval, Value.int.injEq] at hn; exact hn.2.symm
 ·cases h
theorem Dp (tab : aH P cfg) (I : Inv c ι w M) {nid T : Nat} (hid : M.get nid = none) {x hi mx : Operand} {lo : Option Operand} (ho : o.op = .slice T x lo (some hi) (some mx)) {l : Leaf} {z : Bool} {a : Option Int} {b m : Int} {kb km : IntKind}
 (hx : aj c ι w M l [act.eval x]) (ha : dX act lo a) (hb : act.eval hi = .int kb b) (hm : act.eval mx = .int km m) (hz : z = true -> b = 0 /\ m = 0) {ef : Eff} (h : ny cfg M nid T z l a b m = some ef) (hp : ∀ p ∈ ef.pre, p) : au P c ι w M act o ef.sv ef.upd := by
 unfold ny at h
 split at h
 ·rename_i e tsz tby tty hT
  split at h
  ·rename_i ed esz bytes te he
   obtain ⟨d, i', hu', _, _, _, h3, _⟩ := (tab T _ hT).ex
   have hu : P.underlying T = some (.slice e) := by rw [hu', show d = _ from h3]
   have hs : ∀ w, (sizeOf e).run P w = .ok esz w := fun w => dN (tab e _ he) ..
   have fin0 : ∀ {bs' : Option Addr} {len cap : Nat}, act.eval x = .slice bs' len cap -> 0 <= a.getD 0 -> a.getD 0 <= 0 -> b = 0 -> m = 0 -> au P c ι w M act o (.one (.own nid)) [(nid, .row e te true true [])] := by
    intro bs' len cap hv p0 p1 hb0 hm0
    subst hb0 hm0
    have hr := uV hu hs (bs' := bs') (len := len) (cap := cap) ha hb hm p0 p1 (Int.le_refl _) (by omega) w
    rw [<- hv] at hr
    obtain ⟨ι', I', x', hb', hc'⟩ := I.row0 hid e te true
    refine au.of_run (sF ho hr) I' x' (ak.one ?_)
    have hg : (Store.aK M [(nid, .row e te true true [])]).get nid = some (.row e te true true []) := Store.get_set_same ..
    simp only [aj, hg]
    have z1 : (a.getD 0).toNat = 0 := by omega
    exact ⟨_, by rw [hc', z1]; rfl, fun h => by rw [hc'] at h; omega⟩
   have fin1 : ∀ {bs' : Option Addr} {len cap : Nat}, act.eval x = .slice bs' len cap -> 0 <= a.getD 0 -> a.getD 0 <= b -> b <= m -> m <= (cap : Int) -> au P c ι w M act o (.one (.own nid)) [(nid, .dead)] := by
    intro bs' len cap hv p0 p1 p2 p3
    have hr := uV hu hs (bs' := bs') (len := len) (cap := cap) ha hb hm p0 p1 p2 p3 w
    rw [<- hv] at hr
    obtain ⟨ι', I', x'⟩ := I.O6 hid
    refine au.of_run (sF ho hr) I' x' (ak.one ?_)
    have hg : (Store.aK M [(nid, .dead)]).get nid = some .dead := Store.get_set_same ..
    simp only [aj, hg]
    exact ⟨_, rfl, rfl⟩
   have fin : ∀ {bs' : Option Addr} {len cap n : Nat}, act.eval x = .slice bs' len cap -> n <= cap -> ef = Jr e te nid z (a.getD 0) b m n -> au P c ι w M act o ef.sv ef.upd := by
    intro bs' len cap n hv hn hef
    subst hef
    cases z with
    | true =>
      obtain ⟨z1, z2⟩ := hz rfl
      exact fin0 hv (hp (0 <= a.getD 0) (.head _)) (hp (a.getD 0 <= 0) (.tail _ (.head _))) z1 z2
    | false =>
      have p3 := hp (m <= (n : Int)) (.tail _ (.tail _ (.tail _ (.head _))))
      exact fin1 hv (hp (0 <= a.getD 0) (.head _)) (hp (a.getD 0 <= b) (.tail _ (.head _))) (hp (b <= m) (.tail _ (.tail _ (.head _)))) (by omega)
   cases l <;> simp only at h <;> first | (cases h; done) | skip
   case cZ =>
    cases h
    have hv : act.eval x = .slice none 0 0 := by simpa [aj] using hx
    have p0 := hp (0 <= a.getD 0) (.head _)
    have p1 := hp (a.getD 0 <= b) (.tail _ (.head _))
    have p2 := hp (b <= m) (.tail _ (.tail _ (.head _)))
    have p3 := hp (m <= 0) (.tail _ (.tail _ (.tail _ (.head _))))
    exact fin0 hv p0 (by omega) (by omega) (by omega)
   case psl fr t l =>
    obtain ⟨⟨bs', n, cp, e1, e2, e3, e4⟩, q2⟩ := hx
    have e1' : act.eval x = .slice bs' n cp := by simpa using e1
    cases z with
    | true => exact fin e1' (n := l.length) (by omega) (by simpa using h.symm)
    | false =>
      cases hs' : dU cfg T t.sz with
      | false => rw [hs'] at h; cases h
      | true =>
        rw [hs'] at h
        simp only [cond_false, cond_true, Option.some.injEq] at h
        subst h
        have p0 : 0 <= a.getD 0 := hp _ (.head _)
        have p1 : a.getD 0 <= b := hp _ (.tail _ (.head _))
        have p2 : b <= m := hp _ (.tail _ (.tail _ (.head _)))
        have p3 : m <= (l.length : Int) := hp _ (.tail _ (.tail _ (.tail _ (.head _))))
        obtain ⟨e', hu', hz'⟩ := gG tab hs'
        have hr := uV hu' hz' (bs' := bs') (len := n) (cap := cp) ha hb hm p0 p1 p2 (by omega) w
        rw [<- e1'] at hr
        subst e2
        have q := ah.part (b := bs') (a := bs'.map (·.add ((a.getD 0).toNat * t.sz))) (lo := (a.getD 0).toNat) (n := b.toNat - (a.getD 0).toNat) ⟨bs', _, cp, rfl, rfl, e3, e4⟩ (by omega) (fun _ => rfl)
        refine au.pure I (sF ho hr) (ak.one ⟨?_, q2.part _ _⟩)
        obtain ⟨a1, n1, c1, h1, h2, h3, h4⟩ := q
        simp only [List.cons.injEq, Value.slice.injEq, and_true] at h1
        obtain ⟨rfl, rfl, rfl⟩ := h1
        refine ⟨_, _, _, rfl, h2, by omega, fun hpos => ?_⟩
        rw [if_neg (by omega)]
        exact h4 hpos
   case own id =>
    cases hg : M.get id with
    | none => rw [hg] at h; cases h
    | some en =>
      rw [hg] at h
      cases en <;> simp only at h <;> first | (cases h; done) | skip
      cases h
      simp only [aj, hg] at hx
      obtain ⟨ax, hx1, _⟩ := hx
      exact fin (by simpa using hx1) (jv I hg).1 rfl
   case sl id lo n =>
    cases hg : M.get id with
    | none => rw [hg] at h; cases h
    | some en =>
      rw [hg] at h
      cases en <;> simp only at h <;> first | (cases h; done) | skip
      cases h
      simp only [aj, hg] at hx
      obtain ⟨ax, hx1, hx2, _⟩ := hx
      have := (jv I hg).1
      exact fin (by simpa using hx1) (by omega) rfl
  ·cases h
 ·cases h
theorem Inv.BG (I : Inv c ι w M) {nid id e : Nat} {t : Ty} {fr : Bool} {l : List t.den} (hid : M.get nid = none) (hm : M.get id = some (.row e t fr true l)) {k : Nat} (hk : k <= l.length) {ax : Option Addr} (hax : 0 < ι.cap id -> ax = ι.base id) :
 ∃ ι', Inv c ι' w ((M.set id .dead).set nid (.row e t fr true (l.take k))) /\ Ext ι w M ι' w ((M.set id .dead).set nid (.row e t fr true (l.take k))) /\ aj c ι' w ((M.set id .dead).set nid (.row e t fr true (l.take k))) (.own nid) [.slice ax k (ι.cap id)] := by
 obtain ⟨xs, z1, z2, z3⟩ := bH.front I hm hk hax
 have hval := (jv I hm).2
 obtain ⟨I1, x1, _⟩ := I.kill hm
 have hne : nid ≠ id := fun hh => by rw [hh, hm] at hid; cases hid
 have su : (M.set id .dead).get nid = none := by rw [Store.get_set_other _ _ _ _ hne]; exact hid
 obtain ⟨ι', I', x', hv'⟩ := Inv.appended I1 su (e := e) (fr := fr) (l := l.take k) (m := []) (xs := xs) (news := []) (b := ax) (n := k) (cap := ι.cap id) (v' := .slice ax k (ι.cap id)) (w' := w) ⟨.inl ⟨rfl, rfl, rfl⟩⟩ (by rw [List.length_take]; omega) z2 (fun x hx => hval.1 x (List.mem_of_mem_take hx)) ah.ku (fun _ h => by cases h) z3
 rw [List.append_nil] at I' x' hv'
 exact ⟨ι', I', x1.trans x', hv'⟩
theorem Inv.told (I : Inv c ι w M) {nid id e : Nat} {t : Ty} {fr : Bool} {l : List t.den} (hid : M.get nid = none) (hm : M.get id = some (.row e t fr true l)) {k : Nat} (hk : k <= l.length) {ax : Option Addr} (hax : 0 < ι.cap id -> ax = ι.base id) :
 ∃ (sp : List t.den) (ι' : Gh), l.length + sp.length <= maxLen /\ (∀ x ∈ sp, Valid t x) /\ Inv c ι' w ((M.set id .dead).set nid (.row e t fr true (l ++ sp))) /\ Ext ι w M ι' w ((M.set id .dead).set nid (.row e t fr true (l ++ sp))) /\ aj c ι' w ((M.set id .dead).set nid (.row e t fr true (l ++ sp))) (.sf nid 0 k) [.slice ax k (ι.cap id)] := by
 have hval := (jv I hm).2
 obtain ⟨I1, x1, hfree⟩ := I.kill hm
 have hne : nid ≠ id := fun hh => by rw [hh, hm] at hid; cases hid
 have su : (M.set id .dead).get nid = none := by rw [Store.get_set_other _ _ _ _ hne]; exact hid
 have rep : ∀ {ι' : Gh} {sp : List t.den}, (l ++ sp).length = ι.cap id -> ι'.cap nid = ι.cap id -> (0 < ι.cap id -> ι'.base nid = ι.base id) -> aj c ι' w ((M.set id .dead).set nid (.row e t fr true (l ++ sp))) (.sf nid 0 k) [.slice ax k (ι.cap id)] := by
  intro ι' sp hl hc hb
  simp only [aj, Store.get_set_same]
  refine ⟨ax, by rw [hc]; rfl, ⟨by rw [List.length_append]; omega, by rw [hc]; exact hl⟩, fun h0 => ?_⟩
  rw [hc] at h0
  rw [hax h0, hb h0]
  cases ι.base id <;> simp [Addr.add]
 by_cases h0 : ι.cap id = 0
 ·have hl : l = [] := List.eq_nil_of_length_eq_zero (by have := (jv I hm).1; omega)
  subst hl
  obtain ⟨ι', I', x', hb', hc'⟩ := I1.row0 su e t fr
  exact ⟨[], ι', by simp, fun _ h => (by cases h), I', x1.trans x', rep (by simpa using h0.symm) (by rw [hc', h0]) (fun h => by omega)⟩
 ·obtain ⟨xs, q1, q2, q3⟩ := I.ents id _ hm
  rcases q3.2 with ⟨_, hcp, _, _⟩ | ⟨g, cur, fz, hb, hlb, hg, hfz, _, hnc, hcm, hcs, htk, hsp⟩
  ·exact absurd hcp h0
  ·have := hfz rfl; subst this
   obtain ⟨sp, s1, s2, s3⟩ := hsp rfl
   have hall : (l ++ sp).length = ι.cap id := by rw [List.length_append]; exact s1
   have hap := ah.kC q1 s3
   have hcur : xs ++ cur.toList.drop (l.length * t.sz) = cur.toList := by rw [<- htk]; exact List.take_append_drop _ _
   rw [hcur] at hap
   have hcl : cur.toList.length = (l ++ sp).length * t.sz := by rw [Array.length_toList, hcs, hall]
   obtain ⟨ι', I', x', hb', hc'⟩ := I1.row su (e := e) (t := t) (fr := fr) (l := l ++ sp) (cur := cur) (cap := ι.cap id) (g := g) true (0, 0) (Turn.refl w (fun k => k = g)) (fun k hk => by subst hk; exact hfree rfl k (by rw [Gh.blk, hb]; rfl)) (.inl rfl) hlb (fun _ => rfl) (by simp) (by omega) hcm hcs
    (fun z hz => (List.mem_append.1 hz).elim (q2.1 z) (s2 z)) (by rw [<- hcl, List.take_length]; exact hap) (fun _ => ⟨[], by rw [hall]; rfl, fun _ h => (by cases h), by rw [<- hcl, List.drop_length]; exact ah.ku⟩) hg
   exact ⟨sp, ι', by omega, s2, I', x1.trans x', rep hall hc' (fun _ => by rw [hb', hb])⟩
end
end Go.Vc
set_option linter.unusedVariables false
set_option linter.unusedSimpArgs false
namespace Go.Vc
section
variable {P : Program} {c : Ctx} {ι : Gh} {w : World} {M : Store} {act : Act} {o : Oper} {cfg : Cfg}
theorem NC (tab : aH P cfg) {T : Nat} {ti : TI} (ht : cfg.ti T = some ti) {a b : Leaf} {u v : Value} (ha : aj c ι w M a [u]) (hb : aj c ι w M b [v]) {r : Bool} (h : eqL ti.d a b = some r) (d : Nat) : (Op.equalIn (d + 1) T u v).run P w = .ok r w := by
 obtain ⟨du, hu, hd⟩ := (tab T _ ht).under
 obtain ⟨td, _, _, _⟩ := ti
 simp only at h hd
 unfold eqL at h
 split at h
 ·rename_i k k' x k'' y
  split at h
  ·rename_i hk
   subst hk
   cases h
   have e1 : u = .int k' x := by simpa using ha.1
   have e2 : v = .int k' y := by simpa using hb.1
   rw [e1, e2]
   exact run_equalIn_int w d T k' _ x y (by rw [hu, show du = _ from hd])
  ·cases h
 ·rename_i x y
  cases h
  have e1 : u = .string (bs x) := by simpa using ha.1
  have e2 : v = .string (bs y) := by simpa using hb.1
  rw [e1, e2, run_equalIn_string w d T _ _ (by rw [hu, show du = _ from hd]), KI ha.2.1 hb.2.1]
 ·split at h
  ·rename_i x y hx hy
   cases h
   rw [pX hx ha, pX hy hb]
   exact run_equalIn_bool' w d T x y (by rw [hu, show du = _ from hd])
  ·cases h
 ·cases h
theorem BH {S : Nat -> Prop} {n : Nat} {k : IntKind} {l : List Int} {cs : List Value} (h : ah S w (.arr n (.int k)) l cs) : cs = l.map (fun x => Value.int k x) /\ l.length = n := by
 obtain ⟨h1, ess, h2, h3, h4⟩ := h
 refine ⟨?_, h1⟩
 have e : ess = l.map fun x => [Value.int k x] := by
  refine List.ext_getElem (by rw [h2, List.length_map, h1]) fun i hi hj => ?_
  rw [List.getElem_map]
  rw [List.length_map] at hj
  exact h4 i _ _ (List.getElem?_eq_getElem hj) (List.getElem?_eq_getElem hi)
 rw [h3, e]
 clear h1 h2 h3 h4 e ess
 induction l with
 | nil => rfl
 | cons x r ih => simp [ih]
theorem zq {e : TypeId} {k : IntKind} (hu : P.underlying e = some (.int k)) {l m : List Int} (d : Nat) : ∀ is : List Nat, (∀ j ∈ is, j < l.length /\ j < m.length) ->
 (Op.eqItems (d + 1) e 1 (l.map fun x => Value.int k x).toArray (m.map fun x => Value.int k x).toArray is).run P w = .ok (is.all fun j => l.getD j 0 == m.getD j 0) w
 | [], _ => by simp [Op.eqItems]
 | j :: is, h => by
   obtain ⟨h1, h2⟩ := h j (by simp)
   have he : P.plainKey e = true := by simp [Program.plainKey, hu]
   have a1 := run_part_plain (P := P) w he (xs := (l.map fun x => Value.int k x).toArray) (off := j * 1) (v := .int k l[j]) (by simp [h1])
   have a2 := run_part_plain (P := P) w he (xs := (m.map fun x => Value.int k x).toArray) (off := j * 1) (v := .int k m[j]) (by simp [h2])
   have ih := zq hu d is (fun j hj => h j (by simp [hj])) (l := l) (m := m)
   have g1 : l.getD j 0 = l[j] := by simp [h1]
   have g2 : m.getD j 0 = m[j] := by simp [h2]
   simp only [Op.eqItems, Sem.run_bind, a1, a2, Result.andThen_ok, List.all_cons, g1, g2]
   rw [run_equalIn_int w d e k _ l[j] m[j] hu]
   simp only [Result.andThen_ok]
   cases hb : (l[j] == m[j]) with
   | false => simp
   | true => simpa using ih
theorem all_eq {l m : List Int} {n : Nat} (h1 : l.length = n) (h2 : m.length = n) : ((List.range n).all fun j => l.getD j 0 == m.getD j 0) = (l == m) := by
 rw [Bool.eq_iff_iff, List.all_eq_true, beq_iff_eq]
 constructor
 ·intro h
  refine List.ext_getElem (by omega) fun i hi hj => ?_
  have := h i (List.mem_range.2 (by omega))
  simpa [hi, hj] using this
 ·rintro rfl j _
  simp
theorem FV (tab : aH P cfg) {T n e : Nat} (hu : P.underlying T = some (.array n e)) {v u : List Leaf} {xs ys : List Value} (hx : aF c ι w M v xs) (hy : aF c ι w M u ys) {b : Bool} (h : Fb cfg n e v u = some b) (d : Nat) :
 (Op.equalIn (d + 2) T (.agg xs.toArray) (.agg ys.toArray)).run P w = .ok b w := by
 unfold Fb at h
 split at h
 ·rename_i n1 f1 k1 l n2 f2 k2 m
  split at h
  ·rename_i k _ _ _ he
   split at h
   ·rename_i hk
    obtain ⟨rfl, rfl⟩ := hk
    cases hb : (Nat.beq n1 n && Nat.beq n2 n) with
    | false => rw [hb] at h; cases h
    | true =>
      rw [hb] at h
      simp only [cond_true, Option.some.injEq] at h
      simp only [Bool.and_eq_true, Nat.beq_eq] at hb
      obtain ⟨rfl, rfl⟩ := hb
      obtain ⟨c1, c2, e1, ⟨p1, _⟩, e3⟩ := hx
      have e3 : c2 = [] := e3
      subst e3
      rw [List.append_nil] at e1
      subst e1
      obtain ⟨d1, d2, g1, ⟨p2, _⟩, g3⟩ := hy
      have g3 : d2 = [] := g3
      subst g3
      rw [List.append_nil] at g1
      subst g1
      obtain ⟨rfl, hl⟩ := BH p1
      obtain ⟨rfl, hm⟩ := BH p2
      obtain ⟨du, i, hue, hi, hsz, _, hd, hone, _⟩ := (tab e _ he).ex
      have hue : P.underlying e = some (.int k2) := by rw [hue, show du = _ from hd]
      have hc : P.cellsOf e = 1 := by
       unfold Program.cellsOf
       rw [hi]
       show i.size = 1
       rw [hsz]; exact hone rfl
      rw [run_equalIn_array w (d + 1) _ _ hu hi, hc, zq hue d _ (fun j hj => by
       have := List.mem_range.1 hj
       exact ⟨by rw [hl]; exact this, by rw [hm]; exact this⟩), all_eq hl hm, <- h]
   ·cases h
  ·cases h
 ·cases h
theorem zY (tab : aH P cfg) {v u : List Leaf} {xs ys : List Value} (hx : aF c ι w M v xs) (hy : aF c ι w M u ys) (d : Nat) : ∀ (fs : List Field) {r : Bool}, (∀ f ∈ fs, f.name ≠ "_") ->
 CV cfg v u (fs.map fun f => (f.offset, f.type)) = some r -> (Op.eqFields (d + 2) xs.toArray ys.toArray fs).run P w = .ok r w
 | [], r, _, h => by cases h; simp [Op.eqFields]
 | f :: fs, r, hn, h => by
   simp only [List.map_cons, CV] at h
   cases ht : cfg.ti f.type with
   | none => rw [ht] at h; cases h
   | some ti =>
     rw [ht] at h
     simp only at h
     cases hag : ti.agg with
     | true =>
       rw [hag] at h
       simp only [cond_true] at h
       split at h
       ·rename_i n e va ua hd h1 h2
        split at h
        ·rename_i x y h3 h4
         cases h
         obtain ⟨p1, p2⟩ := dW h1 hx
         obtain ⟨q1, q2⟩ := dW h2 hy
         obtain ⟨wa, r1, r2⟩ := nH (P := P) (w := w) (tab _ _ ht) p2
         obtain ⟨wb, s1, s2⟩ := nH (P := P) (w := w) (tab _ _ ht) q2
         rw [hag] at r2 s2
         have r2 : wa = .agg ((xs.drop f.offset).take ti.size).toArray := r2
         have s2 : wb = .agg ((ys.drop f.offset).take ti.size).toArray := s2
         obtain ⟨du, hu, hdd⟩ := (tab _ _ ht).under
         rw [hd] at hdd
         have hr := FV tab (show P.underlying f.type = some (.array n e) by rw [hu, show du = _ from hdd]) p1 q1 h3 d
         have ih := zY tab hx hy d fs (fun f hf => hn f (by simp [hf])) h4
         simp only [Op.eqFields, if_pos (hn f (by simp)), Sem.run_bind, r1, s1, r2, s2, hr, Result.andThen_ok]
         cases x
         ·simp
         ·simpa using ih
        ·cases h
       ·cases h
     | false =>
       rw [hag] at h
       simp only [cond_false] at h
       split at h
       ·rename_i a b h1 h2
        split at h
        ·rename_i x y h3 h4
         cases h
         obtain ⟨p1, p2⟩ := dW h1 hx
         obtain ⟨q1, q2⟩ := dW h2 hy
         obtain ⟨va, r1, r2⟩ := nH (P := P) (w := w) (tab _ _ ht) p2
         obtain ⟨vb, s1, s2⟩ := nH (P := P) (w := w) (tab _ _ ht) q2
         rw [hag] at r2 s2
         have r2 : (xs.drop f.offset).take ti.size = [va] := r2
         have s2 : (ys.drop f.offset).take ti.size = [vb] := s2
         rw [r2] at p1
         rw [s2] at q1
         obtain ⟨c1, c2, e1, e2, e3⟩ := p1
         have e3 : c2 = [] := e3
         subst e3
         rw [List.append_nil] at e1
         subst e1
         obtain ⟨c1, c2, g1, g2, g3⟩ := q1
         have g3 : c2 = [] := g3
         subst g3
         rw [List.append_nil] at g1
         subst g1
         have hr := NC tab ht e2 g2 h3 (d + 1)
         have ih := zY tab hx hy d fs (fun f hf => hn f (by simp [hf])) h4
         simp only [Op.eqFields, if_pos (hn f (by simp)), Sem.run_bind, r1, s1, hr, Result.andThen_ok]
         cases x
         ·simp
         ·simpa using ih
        ·cases h
       ·cases h
theorem Me {T : Nat} {x : Operand} (ho : o.op = .sliceToArrayPointer T x) {v : Value} (hr : (Instr.arrayAt T (act.eval x)).run P w = .ok v w) :
 (execOp act.eval o).run P w = .ok (.value v) w := by
 simp [execOp, ho, hr]
theorem run_arrayAt {T e n : Nat} (hu : P.underlying T = some (.array n e)) (a : Addr) (len cap : Nat) (h : n <= len) (w : World) :
 (Instr.arrayAt T (.slice (some a) len cap)).run P w = .ok (.pointer (some a)) w := by
 simp [Instr.arrayAt, run_underlying hu, Nat.not_lt.2 h]
theorem qG {S : Nat -> Prop} {w : World} {k : IntKind} {l : List Int} {a : Option Addr} {m cp n : Nat} (h : ah S w (.slice (.int k)) l [.slice a m cp]) (h0 : 0 < n) (hn : n <= l.length) :
 ∃ ad cs, a = some ad /\ m = l.length /\ At S w ad cs /\ ah S w (.arr n (.int k)) (l.take n : List Int) cs := by
 have eb : ∀ (a : Addr) (k : Nat), (a.add k).block = a.block := fun a k => by unfold Addr.add; split <;> rfl
 have hm : m = l.length := by
  obtain ⟨a', n', c', h1, h2, h3, h4⟩ := h
  simp only [List.cons.injEq, Value.slice.injEq, and_true] at h1
  omega
 obtain ⟨ad, ecs, q1, q2, q3⟩ := ah.elemAt (e := .int k) (l := l) h 0 (by omega)
 refine ⟨ad, (l.take n).map (fun x => Value.int k x), q1, hm, ⟨by have := q3.1; rw [eb] at this; exact this, fun i v hv => ?_⟩, by rw [List.length_take]; omega, (l.take n).map (fun x => [Value.int k x]), by rw [List.length_map, List.length_take]; omega, ?_, fun i x ec hx he => ?_⟩
 ·have hi : i < (l.take n).length := by
   have := (List.getElem?_eq_some_iff.1 hv).1
   rwa [List.length_map] at this
  have hil : i < l.length := by rw [List.length_take] at hi; omega
  obtain ⟨ad', ecs, r1, r2, r3⟩ := ah.elemAt (e := .int k) (l := l) h i hil
  rw [q1] at r1
  cases r1
  have r2 : ecs = [Value.int k (idx (t := .int k) l i)] := r2
  have hv' : v = .int k (idx (t := .int k) l i) := by
   rw [List.getElem?_map, List.getElem?_take_of_lt (by rw [List.length_take] at hi; omega), List.getElem?_eq_getElem hil] at hv
   have : idx (t := .int k) l i = l[i] := by unfold idx; rw [List.getD_eq_getElem?_getD, List.getElem?_eq_getElem hil]; rfl
   rw [this]
   simpa using hv.symm
  have := r3.2 0 v (by rw [r2, hv']; rfl)
  rw [Addr.add_add, show (Ty.int k).sz = 1 from rfl, Nat.mul_one, Nat.add_zero] at this
  exact this
 ·clear q1 q2 q3 h
  induction (l.take n) with
  | nil => rfl
  | cons x r ih => simp [ih]
 ·rw [List.getElem?_map] at he
  rw [hx] at he
  have he : [Value.int k x] = ec := by simpa using he
  exact he.symm
theorem Ii (tab : aH P cfg) (I : Inv c ι w M) {T : Nat} {x : Operand} (ho : o.op = .sliceToArrayPointer T x) {l : Leaf} (hx : aj c ι w M l [act.eval x])
 {ps : List Prop} {r : Leaf} (he : ER cfg T l = some (ps, r)) (hp : ∀ p ∈ ps, p) : au P c ι w M act o (.one r) [] := by
 unfold ER at he
 split at he
 ·rename_i n e _ _ _ fr k l hT
  obtain ⟨du, hu, hd⟩ := (tab T _ hT).under
  have hua : P.underlying T = some (.array n e) := by rw [hu, show du = _ from hd]
  cases hb : Nat.blt 0 n with
  | false => rw [hb] at he; cases he
  | true =>
    rw [hb] at he; cases he
    have h0 : 0 < n := by simpa [Nat.blt_eq] using hb
    have hn := hp (n <= List.length l) (by simp)
    obtain ⟨h2, h3⟩ := hx
    obtain ⟨a, m, cp, e1, e2, e3, e4⟩ := h2
    have e1' : act.eval x = .slice a m cp := by simpa using e1
    obtain ⟨ad, cs, q1, q2, q3, q4⟩ := qG (S := SF c ι fr) (w := w) (k := k) (l := l) (a := a) (m := m) (cp := cp) ⟨a, m, cp, rfl, e2, e3, e4⟩ h0 hn
    subst q1
    refine au.pure I (Me ho (by rw [e1']; exact run_arrayAt hua ad m cp (by rw [q2]; exact hn) w)) (ak.one ?_)
    exact ⟨_, cs, rfl, q3, q4, fun z hz => h3.1 z (List.mem_of_mem_take hz), by rw [List.length_take]; omega⟩
 ·cases he
theorem Ij (tab : aH P cfg) (I : Inv c ι w M) {op : BinOp} {T T' : Nat} {x y : Operand} (ho : o.op = .binOp op T x y T') {v u : V} (hx : aI c ι w M v (act.eval x))
 (hy : aI c ι w M u (act.eval y)) {ef : Eff} (h : Js cfg T op v u = some ef) : au P c ι w M act o ef.sv ef.upd := by
 unfold Js at h
 cases hb : (cfg.eqs T && (v.agg && u.agg)) with
 | false => rw [hb] at h; cases h
 | true =>
   rw [hb] at h
   simp only [Bool.and_eq_true] at hb
   obtain ⟨b1, b2, b3⟩ := hb
   obtain ⟨k1, k2, k3⟩ := tab.eqs T b1
   simp only [cond_true] at h
   obtain ⟨xs, x1, x2⟩ := hx
   obtain ⟨ys, y1, y2⟩ := hy
   rw [b2] at x2
   rw [b3] at y2
   have x2 : act.eval x = .agg xs.toArray := x2
   have y2 : act.eval y = .agg ys.toArray := y2
   split at h
   ·rename_i fs _ _ _ hT
    obtain ⟨du, hu, hd⟩ := (tab T _ hT).under
    obtain ⟨fa, hfa, hl⟩ := hd
    have hf : P.fieldsOf T = fa := by unfold Program.fieldsOf; rw [hu, hfa]
    have hst : P.underlying T = some (.struct (P.fieldsOf T)) := by rw [hf, hu, hfa]
    have hg := run_eqGuard_agg (P := P) w op T x y xs.toArray ys.toArray k2
    have key : ∀ {b : Bool}, CV cfg v.ls u.ls fs = some b -> (Op.equalIn 10000 T (.agg xs.toArray) (.agg ys.toArray)).run P w = .ok b w := by
     intro b hbb
     rw [run_equalIn_struct w 9999 T _ _ hst k1]
     refine zY tab x1 y1 9997 _ k3 ?_
     rw [hf, hl]; exact hbb
    split at h
    ·rename_i b hbb
     cases h
     refine au.pure I (v := .bool b) (gK ho (by rw [x2, y2]; exact hg) ?_) (ak.one rfl)
     rw [x2, y2, run_eql_struct, key hbb]; rfl
    ·rename_i b hbb
     cases h
     refine au.pure I (v := .bool (!b)) (gK ho (by rw [x2, y2]; exact hg) ?_) (ak.one rfl)
     rw [x2, y2, run_neq_struct, key hbb]; rfl
    ·cases h
   ·rename_i n e _ _ _ hT
    obtain ⟨du, hu, hd⟩ := (tab T _ hT).under
    have hua : P.underlying T = some (.array n e) := by rw [hu, show du = _ from hd]
    have hg := run_eqGuard_agg (P := P) w op T x y xs.toArray ys.toArray k2
    have key : ∀ {b : Bool}, Fb cfg n e v.ls u.ls = some b -> (Op.equalIn 10000 T (.agg xs.toArray) (.agg ys.toArray)).run P w = .ok b w := fun hbb => FV tab hua x1 y1 hbb 9998
    split at h
    ·rename_i b hbb
     cases h
     refine au.pure I (v := .bool b) (gK ho (by rw [x2, y2]; exact hg) ?_) (ak.one rfl)
     rw [x2, y2, run_eql_struct, key hbb]; rfl
    ·rename_i b hbb
     cases h
     refine au.pure I (v := .bool (!b)) (gK ho (by rw [x2, y2]; exact hg) ?_) (ak.one rfl)
     rw [x2, y2, run_neq_struct, key hbb]; rfl
    ·cases h
   ·cases h
end
end Go.Vc
set_option linter.unusedVariables false
set_option linter.unusedSimpArgs false
namespace Go.Vc
theorem uX {c : Ctx} {ι : Gh} {w : World} {M : Store} {t : Ty} {y : Leaf} {x : t.den} {v : Value} (h : wL t y = some x) (hy : aj c ι w M y [v]) : v = bK t x /\ Valid t x /\ AL t = true := by
 unfold wL at h
 split at h
 ·rename_i k k' x'
  split at h
  ·rename_i hk; subst hk; cases h
   exact ⟨by have := hy.1; simpa [bK] using this, hy.2, rfl⟩
  ·cases h
 ·cases h; exact ⟨by simpa [aj, bK] using hy, trivial, rfl⟩
 ·cases h; exact ⟨by simpa [aj, bK] using hy, trivial, rfl⟩
 ·cases h; exact ⟨by have := hy.1; simpa [bK] using this, hy.2, rfl⟩
 ·cases h
theorem FW {c : Ctx} {ι : Gh} {w : World} {M : Store} {t : Ty} (hs : AL t = true) {x : t.den} (hv : Valid t x) (fr : Bool) : aI c ι w M (.of fr t x) (bK t x) := by
 cases t <;> first | (cases hs; done) | skip
 ·exact aI.one ⟨rfl, hv⟩
 ·exact aI.one (l := .bool x) rfl
 ·exact aI.one ⟨rfl, hv⟩
def kindOf : Ty -> TypeDesc -> Prop
 | .int k, d => d = .int k
 | .str, d => d = .string
 | _, _ => False
theorem FX {P : Program} {cfg : Cfg} (tab : aH P cfg) {T : Nat} {t : Ty} (h : AO cfg T = some t) : ∃ d, P.underlying T = some d /\ kindOf t d := by
 unfold AO at h
 split at h
 ·rename_i k _ _ _ hT
  cases h
  obtain ⟨d, i, hd, _, _, _, h3, _⟩ := (tab T _ hT).ex
  exact ⟨d, hd, h3⟩
 ·rename_i _ _ _ hT
  cases h
  obtain ⟨d, i, hd, _, _, _, h3, _⟩ := (tab T _ hT).ex
  exact ⟨d, hd, h3⟩
 ·cases h
theorem FY {P : Program} {cfg : Cfg} (tab : aH P cfg) {T : Nat} {t : Ty} (h : valTy cfg T = some t) : AL t = true /\ Valid t t.dft /\ ∀ w, (zeroValue T).run P w = .ok (bK t t.dft) w := by
 unfold valTy at h
 split at h
 ·rename_i t' hT
  cases hs : AL t' with
  | false => rw [hs] at h; cases h
  | true =>
    rw [hs] at h; cases h
    obtain ⟨z, hz, h1, _, _, _, _, _, h2⟩ := jI (tab T _ hT) rfl
    have hag : t.isAgg = false := by cases t <;> first | rfl | cases hs
    have h3 := h2 hag
    refine ⟨hs, ?_, fun w => ?_⟩
    ·cases t with
     | int k => show Valid (.int k) (0 : Int); cases k <;> (simp [Valid, IntKind.min, IntKind.max, IntKind.signed, IntKind.bits])
     | bool => trivial
     | str => exact ⟨fun _ h => (by cases h), Nat.zero_le _⟩
     | _ => cases hs
    ·rw [hz]
     have e : z = bK t t.dft := by
      cases z <;> first | (simp [Value.oneCell'] at h3; done) | skip
      all_goals
       cases t <;> first | (cases hs; done) | skip
       all_goals
        simp [Value.cells, aQ, bK, Ty.dft] at h1 ⊢ <;> first | exact h1 | (rw [h1]; rfl) | (obtain ⟨a, b⟩ := h1; subst a; subst b; rfl)
     rw [e]
 ·cases h
theorem Ox {a b : List Int} (ha : ∀ x ∈ a, Byte x) (hb : ∀ x ∈ b, Byte x) : (bs a == bs b) = decide (a = b) := by
 have e : (bs a == bs b) = ((bs a).data == (bs b).data) := rfl
 rw [e]
 by_cases h : a = b
 ·rw [decide_eq_true h, h]; exact beq_self_eq_true _
 ·rw [decide_eq_false h]
  refine beq_eq_false_iff_ne.2 fun e => h (KH ha hb ?_)
  rw [fU, fU]
  have := congrArg Array.toList e
  simpa [bs] using this
theorem ND (a : List Int) : (bs a == bs a) = true := by
 have e : (bs a == bs a) = ((bs a).data == (bs a).data) := rfl
 rw [e]; exact beq_self_eq_true _
theorem Ik {k : Ty} {d : TypeDesc} (hd : kindOf k d) {a b : k.den} (ha : Valid k a) (hb : Valid k b) : Instr.sameNow d (bK k a) (bK k b) = some (eqK k a b) := by
 cases k <;> first | (cases hd; done) | skip
 ·rename_i k
  rw [show d = _ from hd]
  simp only [Instr.sameNow, bK, eqK, if_true]
  congr 1
 ·rw [show d = _ from hd]
  simp only [Instr.sameNow, bK, eqK]
  congr 1
  have ha : (∀ x ∈ (a : List Int), Byte x) /\ _ := ha
  have hb : (∀ x ∈ (b : List Int), Byte x) /\ _ := hb
  exact Ox ha.1 hb.1
theorem FZ {k : Ty} {d : TypeDesc} (hd : kindOf k d) (a : k.den) : Instr.sameBits 10000 (bK k a) (bK k a) = true := by
 cases k <;> first | (cases hd; done) | skip
 ·simp [Instr.sameBits, bK]
 ·simp only [Instr.sameBits, bK]; exact ND _
theorem Oy {k : Ty} {d : TypeDesc} (hd : kindOf k d) {a b : k.den} (h : eqK k a b = true) : a = b := by
 cases k <;> first | (cases hd; done) | skip
 ·exact of_decide_eq_true h
 ·exact of_decide_eq_true h
abbrev kv (e : MapEntry) : Value × Value := (e.key, e.val)
abbrev kd (k v : Ty) (p : k.den × v.den) : Value × Value := (bK k p.1, bK v p.2)
theorem zZ {k v : Ty} {d : TypeDesc} (hd : kindOf k d) {x : k.den} (hx : Valid k x) : ∀ {l : List (k.den × v.den)} {es : List MapEntry} (i : Nat), es.map kv = l.map (kd k v) -> (∀ p ∈ l, Valid k p.1 /\ Valid v p.2) ->
 (oP l x = false -> Instr.findNow d (bK k x) es i = some none /\ kY l x = v.dft /\ ∀ y, qm l x y = l ++ [(x, y)]) /\
 (oP l x = true -> Valid v (kY l x) /\ ∃ j e, es[j]? = some e /\ e.key = bK k x /\ Instr.findNow d (bK k x) es i = some (some (i + j, bK v (kY l x))) /\
   ∀ y, (es.modify j fun e => { e with key := bK k x, val := bK v y }).map kv = (qm l x y).map (kd k v))
 | [], es, i, h, _ => by
   have : es = [] := List.map_eq_nil_iff.1 h
   subst this
   exact ⟨fun _ => ⟨rfl, rfl, fun _ => rfl⟩, fun h => by cases h⟩
 | p :: r, [], i, h, _ => by cases h
 | p :: r, e :: es, i, h, hv => by
   simp only [List.map_cons, List.cons.injEq] at h
   obtain ⟨h1, h2⟩ := h
   have hk : e.key = bK k p.1 := (Prod.mk.inj h1).1
   have hw : e.val = bK v p.2 := (Prod.mk.inj h1).2
   obtain ⟨v1, v2⟩ := hv p (by simp)
   obtain ⟨i1, i2⟩ := zZ (v := v) hd hx (i + 1) h2 fun q hq => hv q (List.mem_cons_of_mem _ hq)
   have hs := Ik hd hx v1
   unfold oP kY qm Instr.findNow
   rw [hk, hs]
   cases hb : eqK k x p.1 with
   | true =>
     have hxp : x = p.1 := Oy hd hb
     refine ⟨fun h => (by cases h), fun _ => ⟨v2, 0, e, rfl, by rw [hk, hxp], by rw [hw]; rfl, fun y => ?_⟩⟩
     simp [h2]
   | false =>
     refine ⟨fun h => ?_, fun h => ?_⟩
     ·obtain ⟨a1, a2, a3⟩ := i1 h
      exact ⟨a1, a2, fun y => by simp [a3 y]⟩
     ·obtain ⟨w1, j, e', a1, a2, a3, a4⟩ := i2 h
      refine ⟨w1, j + 1, e', by simpa using a1, a2, ?_, fun y => ?_⟩
      ·show Instr.findNow d (bK k x) es (i + 1) = _
       rw [a3]; congr 3; omega
      ·rw [List.modify_succ_cons]
       simp only [List.map_cons, a4 y, cond_false]
       rw [show kv e = kd k v p from h1]
section
variable {P : Program} {c : Ctx} {ι : Gh} {w : World} {M : Store} {act : Act} {o : Oper} {cfg : Cfg}
def Nb : Obj -> Prop
 | .map .. | .stringIter .. => True
 | _ => False
theorem Dq {b : Nat} {ob : Obj} (h : w.heap[b]? = some ob) (hh : Nb ob) : (getObj b).run P w = .ok ob w := by
 cases ob <;> first | (cases hh; done) | simp [getObj, Sem.run, h]
theorem MB {b : Nat} {ob : Obj} (h : w.heap[b]? = some ob) (hh : Nb ob) (ob' : Obj) : (setObj b ob').run P w = .ok () { w with heap := w.heap.setIfInBounds b ob' } := by
 cases ob <;> first | (cases hh; done) | simp [setObj, Sem.run, h]
theorem xE {k : Ty} {T : Nat} {d : TypeDesc} (hu : P.underlying T = some d) (hd : kindOf k d) (b : Bool) (v : Value) (w : World) : (Instr.checkKey b 10000 T v).run P w = .ok () w := by
 unfold Instr.checkKey
 cases k <;> first | (cases hd; done) | skip
 ·rw [show d = _ from hd] at hu
  simp [run_underlying hu]
 ·rw [show d = _ from hd] at hu
  simp [run_underlying hu]
theorem Inv.KX (I : Inv c ι w M) {nid : Nat} (hid : M.get nid = none) {q : Hid} {ob : Obj} (hr : ∀ ι' : Gh, ι'.base nid = some ⟨w.heap.size, 0, none⟩ -> bH c ι' (w.alloc ob) (M.set nid (.hid q)) nid (.hid q)) :
 ∃ ι', Inv c ι' (w.alloc ob) (M.set nid (.hid q)) /\ Ext ι w M ι' (w.alloc ob) (M.set nid (.hid q)) /\ ι'.base nid = some ⟨w.heap.size, 0, none⟩ := by
 have x := Ext.adopt I hid (Turn.alloc w ob (fun _ => False)) (fun _ h => h.elim) (some ⟨w.heap.size, 0, none⟩) 0 (.hid q)
 refine ⟨ι.put nid (some ⟨w.heap.size, 0, none⟩) 0, Inv.adopt I hid (Turn.alloc w ob (fun _ => False)) (fun _ h => h.elim) _ _ _ (fun a ha _ => ?_) (hr _ (by simp [Gh.put])), x, by simp [Gh.put]⟩
 cases ha; exact .inr (Nat.le_refl _)
theorem BI (tab : aH P cfg) (I : Inv c ι w M) {nid T : Nat} (hid : M.get nid = none) (ho : o.op = .makeMap T none) {e : Eff} (h : wM cfg nid T = some e) : au P c ι w M act o e.sv e.upd := by
 unfold wM at h
 split at h
 ·split at h
  ·rename_i tk tv _ _
   cases h
   obtain ⟨ι', I', x', hb⟩ := I.KX hid (q := .map tk tv []) (ob := .map #[] 0) fun ι' hb => ⟨_, #[], 0, hb, heap_alloc_new w _, rfl, fun p h => by cases h⟩
   refine au.of_run (ι' := ι') (v := .map (some w.heap.size)) ?_ I' x' (ak.one ?_)
   ·simp [execOp, ho, Instr.makeMap, newObj, Sem.run]
   ·show aj c ι' _ (M.set nid _) (.hid nid) _
    simp only [aj, Store.get_set_same]
    exact ⟨_, hb, rfl⟩
  ·cases h
 ·cases h
theorem EG (tab : aH P cfg) (I : Inv c ι w M) {nid T : Nat} (hid : M.get nid = none) {x : Operand} (ho : o.op = .range T x) {l : List Int} (hx : aj c ι w M (.str l) [act.eval x]) (hT : isStr cfg T = true) :
 au P c ι w M act o (.one (.hid nid)) [(nid, .hid (.iter l 0))] := by
 obtain ⟨h1, h2⟩ := hx
 obtain ⟨ι', I', x', hb⟩ := I.KX hid (q := .iter l 0) (ob := .stringIter (bs l) 0) fun ι' hb => ⟨_, hb, heap_alloc_new w _, h2⟩
 have hu := qF tab hT
 refine au.of_run (ι' := ι') (v := .pointer (some ⟨w.heap.size, 0, none⟩)) ?_ I' x' (ak.one ?_)
 ·have e : act.eval x = .string (bs l) := by simpa using h1
  simp [execOp, ho, Instr.range, e, run_underlying hu, newObj, Sem.run]
 ·show aj c ι' _ (M.set nid _) (.hid nid) _
  simp only [aj, Store.get_set_same]
  exact ⟨_, hb, rfl⟩
theorem rune_valid (l : List Int) (p : Nat) : Valid (.int .i32) (bJ l p).1 := by
 have key : (Utf8.decode (bs l) p).1 <= 2097151 := by
  unfold Utf8.decode
  have b : ∀ k, ((bs l).get! k).toNat < 256 := fun k => UInt8.toNat_lt _
  have h0 := b (p + 0)
  dsimp only
  repeat' split
  all_goals first | (simp only [Utf8.runeError]; omega) | (dsimp only; omega)
 have k2 : ((Utf8.decode (bs l) p).1 : Int) <= 2097151 := by omega
 show IntKind.min .i32 <= ((Utf8.decode (bs l) p).1 : Int) /\ ((Utf8.decode (bs l) p).1 : Int) <= IntKind.max .i32
 have e1 : IntKind.min .i32 = -2147483648 := by decide
 have e2 : IntKind.max .i32 = 2147483647 := by decide
 rw [e1, e2]; omega
theorem Dt (tab : aH P cfg) (I : Inv c ι w M) {T : Nat} {x y : Operand} {ok : Bool} (ho : o.op = .lookup T x y ok) {lx ly : Leaf} (hx : aj c ι w M lx [act.eval x]) (hy : aj c ι w M ly [act.eval y])
 {e : Eff} (h : nC cfg M T lx ly ok = some e) : au P c ι w M act o e.sv e.upd := by
 unfold nC at h
 split at h
 ·rename_i k v _ _ _ id hT
  split at h
  ·rename_i tk tv tk' tv' l hk hv hm
   split at h
   ·rename_i htt
    obtain ⟨rfl, rfl⟩ := htt
    split at h
    ·rename_i z hz
     cases h
     obtain ⟨dT, _, hu, _, _, _, hdT, _⟩ := (tab T _ hT).ex
     rw [show dT = _ from hdT] at hu
     obtain ⟨d, hud, hd⟩ := FX tab hk
     obtain ⟨hs, hvd, hz0⟩ := FY tab hv
     obtain ⟨hyv, hyV, _⟩ := uX hz hy
     simp only [aj, hm] at hx
     obtain ⟨b, hb, hx⟩ := hx
     have hx : act.eval x = .map (some b) := by simpa [Hid.isMap] using hx
     obtain ⟨b', es, ck, hb', hh, hmr⟩ := I.ents id _ hm
     rw [hb] at hb'; cases hb'
     obtain ⟨f1, f2⟩ := zZ (v := tv') hd hyV 0 hmr.1 hmr.2
     have key : ∃ r, (Instr.findKey k (act.eval y) es.toList).run P w = .ok r w /\ (match r with | some (_, u) => u = bK tv' (kY l z) /\ oP l z = true | none => oP l z = false /\ kY l z = tv'.dft) /\ Valid tv' (kY l z) := by
      rw [hyv]
      cases hh' : oP l z with
      | false =>
        obtain ⟨g1, g2, _⟩ := f1 hh'
        exact ⟨none, by simp [Instr.findKey, run_underlying hud, g1], ⟨rfl, g2⟩, by rw [g2]; exact hvd⟩
      | true =>
        obtain ⟨g0, j, en, _, _, g1, _⟩ := f2 hh'
        exact ⟨some (0 + j, bK tv' (kY l z)), by simp [Instr.findKey, run_underlying hud, g1], ⟨rfl, rfl⟩, g0⟩
     obtain ⟨r, hr1, hr2, hr3⟩ := key
     have hrun : (Instr.lookup T (act.eval x) (act.eval y) ok).run P w = .ok (if ok then .tuple #[bK tv' (kY l z), .bool (oP l z)] else bK tv' (kY l z)) w := by
      have hck := xE (P := P) hud hd es.isEmpty (act.eval y) w
      cases r with
      | none =>
        obtain ⟨e1, e2⟩ := hr2
        rw [e2, e1]
        cases ok <;> simp [Instr.lookup, run_underlying hu, hx, Dq hh trivial, hck, hr1, hz0]
      | some q =>
        obtain ⟨j, u⟩ := q
        obtain ⟨e1, e2⟩ := hr2
        subst e1
        rw [e2]
        cases ok <;> simp [Instr.lookup, run_underlying hu, hx, Dq hh trivial, hck, hr1]
     refine au.pure I (v := if ok then .tuple #[bK tv' (kY l z), .bool (oP l z)] else bK tv' (kY l z)) ?_ ?_
     ·simp [execOp, ho, hrun]
     ·cases ok
      ·exact FW hs hr3 true
      ·exact ⟨[_, _], rfl, _, _, rfl, FW hs hr3 true, _, _, rfl, aI.one (l := .bool (oP l z)) rfl, rfl⟩
    ·cases h
   ·cases h
  ·cases h
 ·cases h
theorem zi (tab : aH P cfg) (I : Inv c ι w M) {T : Nat} {x y z : Operand} (ho : o.op = .mapUpdate T x y z) {lx ly lz : Leaf} (hx : aj c ι w M lx [act.eval x]) (hy : aj c ι w M ly [act.eval y]) (hz : aj c ι w M lz [act.eval z])
 {e : Eff} (h : jo cfg M T lx ly lz = some e) : au P c ι w M act o e.sv e.upd := by
 unfold jo at h
 split at h
 ·rename_i k v _ _ _ id hT
  split at h
  ·rename_i tk tv tk' tv' l hk hv hm
   split at h
   ·rename_i htt
    obtain ⟨rfl, rfl⟩ := htt
    split at h
    ·rename_i a u ha hu'
     cases h
     obtain ⟨dT, _, hu, _, _, _, hdT, _⟩ := (tab T _ hT).ex
     rw [show dT = _ from hdT] at hu
     obtain ⟨d, hud, hd⟩ := FX tab hk
     obtain ⟨hs, hvd, hz0⟩ := FY tab hv
     obtain ⟨hyv, hyV, _⟩ := uX ha hy
     obtain ⟨hzv, hzV, _⟩ := uX hu' hz
     simp only [aj, hm] at hx
     obtain ⟨b, hb, hx⟩ := hx
     have hx : act.eval x = .map (some b) := by simpa [Hid.isMap] using hx
     obtain ⟨b', es, ck, hb', hh, hmr⟩ := I.ents id _ hm
     rw [hb] at hb'; cases hb'
     have hlt : b < w.heap.size := (Array.getElem?_eq_some_iff.1 hh).1
     obtain ⟨f1, f2⟩ := zZ (v := tv') hd hyV 0 hmr.1 hmr.2
     have hck := xE (P := P) hud hd false (act.eval y) w
     have Oz : ∀ p ∈ qm l a u, Valid tk' p.1 /\ Valid tv' p.2 := by
      clear f1 f2 hh hm ho
      have : ∀ l : List (tk'.den × tv'.den), (∀ p ∈ l, Valid tk' p.1 /\ Valid tv' p.2) -> ∀ p ∈ qm l a u, Valid tk' p.1 /\ Valid tv' p.2 := by
       intro l
       induction l with
       | nil => intro _ p hp; rw [List.mem_singleton.1 hp]; exact ⟨hyV, hzV⟩
       | cons q r ih =>
         intro h p hp
         unfold qm at hp
         cases hb : eqK tk' a q.1 with
         | true =>
           rw [hb] at hp
           rcases List.mem_cons.1 hp with rfl | hp
           ·exact ⟨hyV, hzV⟩
           ·exact h p (List.mem_cons_of_mem _ hp)
         | false =>
           rw [hb] at hp
           rcases List.mem_cons.1 hp with rfl | hp
           ·exact h _ (by simp)
           ·exact ih (fun p hp => h p (List.mem_cons_of_mem _ hp)) p hp
      exact this l hmr.2
     have key : ∃ es' ck', (Instr.mapUpdate T (act.eval x) (act.eval y) (act.eval z)).run P w = .ok () { w with heap := w.heap.setIfInBounds b (.map es' ck') } /\ KO tk' tv' (qm l a u) es'.toList := by
      cases hh' : oP l a with
      | false =>
        obtain ⟨g1, _, g3⟩ := f1 hh'
        refine ⟨es.push { key := act.eval y, val := act.eval z, born := ck }, ck + 1, ?_, ?_, Oz⟩
        ·rw [<- hyv] at g1
         simp [Instr.mapUpdate, run_underlying hu, hx, Dq hh trivial, MB hh trivial, hck, Instr.findKey, run_underlying hud, g1]
        ·rw [g3 u, Array.toList_push, List.map_append, List.map_append, hmr.1, hyv, hzv]; rfl
      | true =>
        obtain ⟨_, j, en, e1, e2, g1, g4⟩ := f2 hh'
        refine ⟨es.modify j fun e => { e with key := act.eval y, val := act.eval z }, ck, ?_, ?_, Oz⟩
        ·have hke : ((es[j]?).map (·.key)).getD (act.eval y) = act.eval y := by
          rw [<- Array.getElem?_toList, e1]; show en.key = _; rw [e2, hyv]
         have hsb : Instr.sameBits 10000 (act.eval y) (act.eval y) = true := by rw [hyv]; exact FZ hd a
         rw [<- hyv] at g1
         rw [Nat.zero_add] at g1
         simp [Instr.mapUpdate, run_underlying hu, hx, Dq hh trivial, MB hh trivial, hck, Instr.findKey, run_underlying hud, g1, hke, Instr.keyThatStays, hsb]
        ·rw [Array.toList_modify, <- g4 u, hyv, hzv]
     obtain ⟨es', ck', hrun, PI⟩ := key
     have hblk : ι.blk id = some b := by rw [Gh.blk, hb]; rfl
     have t : Turn w { w with heap := w.heap.setIfInBounds b (.map es' ck') } (fun k => ι.blk id = some k) := by
      refine ⟨rfl, rfl, rfl, by simp, fun k hk hn => ?_⟩
      have hne : b ≠ k := fun e => hn (by rw [hblk, e])
      simp [hne]
     have hE : bH c ι { w with heap := w.heap.setIfInBounds b (.map es' ck') } (M.set id (.hid (.map tk' tv' (qm l a u)))) id (.hid (.map tk' tv' (qm l a u))) := ⟨b, es', ck', hb, by simp [hlt], PI⟩
     refine au.yU (ι' := ι) ?_ (I.change hm rfl rfl t hE) (Ext.change I hm rfl rfl t)
     simp [execOp, ho, hrun]
    ·cases h
   ·cases h
  ·cases h
 ·cases h
theorem MC (I : Inv c ι w M) {x : Operand} (ho : o.op = .next x true) {id p : Nat} {l : List Int} (hm : M.get id = some (.hid (.iter l p))) (hx : aj c ι w M (.hid id) [act.eval x]) :
 (p < l.length -> au P c ι w M act o (.tup [one (.kb true), one (.int .i64 p), one (.int .i32 (bJ l p).1)]) [(id, .hid (.iter l (p + (bJ l p).2)))]) /\
 (l.length <= p -> au P c ι w M act o (.tup [one (.kb false)]) []) := by
 simp only [aj, hm] at hx
 obtain ⟨b, hb, hx⟩ := hx
 have hx : act.eval x = .pointer (some ⟨b, 0, none⟩) := by simpa [Hid.isMap] using hx
 obtain ⟨b', hb', hh, hv⟩ := I.ents id _ hm
 rw [hb] at hb'; cases hb'
 have hlt : b < w.heap.size := (Array.getElem?_eq_some_iff.1 hh).1
 have hsz : (bs l).size = l.length := gy l
 refine ⟨fun hp => ?_, fun hp => ?_⟩
 ·have hblk : ι.blk id = some b := by rw [Gh.blk, hb]; rfl
  have t : Turn w { w with heap := w.heap.setIfInBounds b (.stringIter (bs l) (p + (bJ l p).2)) } (fun k => ι.blk id = some k) := by
   refine ⟨rfl, rfl, rfl, by simp, fun k hk hn => ?_⟩
   have hne : b ≠ k := fun e => hn (by rw [hblk, e])
   simp [hne]
  have hE : bH c ι { w with heap := w.heap.setIfInBounds b (.stringIter (bs l) (p + (bJ l p).2)) } (M.set id (.hid (.iter l (p + (bJ l p).2)))) id (.hid (.iter l (p + (bJ l p).2))) := ⟨b, hb, by simp [hlt], hv⟩
  refine au.of_run (ι' := ι) (v := .tuple #[.bool true, .int .i64 p, .int .i32 (bJ l p).1]) ?_ (I.change hm rfl rfl t hE) (Ext.change I hm rfl rfl t) ⟨[_, _, _], rfl, _, _, rfl, aI.one (l := .kb true) rfl, _, _, rfl, aI.one ⟨rfl, ?_⟩, _, _, rfl, aI.one ⟨rfl, ?_⟩, rfl⟩
  ·simp [execOp, ho, hx, Instr.next, Dq hh trivial, MB hh trivial, hsz, hp, goInt, bJ]
  ·have := hv.2; rw [show maxLen = 9223372036854775807 from rfl] at this
   have e1 : IntKind.min .i64 = -9223372036854775808 := by decide
   have e2 : IntKind.max .i64 = 9223372036854775807 := by decide
   show IntKind.min .i64 <= (p : Int) /\ (p : Int) <= IntKind.max .i64
   rw [e1, e2]; omega
  ·exact rune_valid l p
 ·refine au.pure I (v := .tuple #[.bool false]) ?_ ⟨[_], rfl, _, _, rfl, aI.one (l := .kb false) rfl, rfl⟩
  simp [execOp, ho, hx, Instr.next, Dq hh trivial, hsz, show ¬ p < l.length by omega]
end
end Go.Vc
set_option linter.unusedVariables false
set_option linter.unusedSimpArgs false
namespace Go.Vc
def Holds (a : Act) (k : List (Nat × Bool)) : Prop := ∀ x ∈ k, a.eval (.tmp x.1) = .bool x.2
structure bC (c : Ctx) (ι : Gh) (w : World) (s : St) (a : Act) : Prop where
 len : s.env.length <= a.tmps.size
 env : ∀ i v, bG s.env i = some v -> ak c ι w s.M v (a.eval (.tmp i))
 aY : ∀ x ∈ s.aY, Holds a x.2.1 -> ak c ι w s.M x.2.2 (a.eval (.tmp x.1))
 xG : ∀ x ∈ s.aY, ¬ Holds a x.2.1 -> a.eval (.tmp x.1) = undef
section
variable {P : Program} {c : Ctx} {ι : Gh} {w : World} {a : Act} {o : Oper} {cfg : Cfg} {s : St}
theorem Aa : ∀ {l : List (Nat × List (Nat × Bool) × SV)} {i : Nat} {x : List (Nat × Bool) × SV}, Jt l i = some x -> (i, x) ∈ l
 | [], _, _, h => by cases h
 | (j, y) :: r, i, x, h => by
   unfold Jt at h
   cases hb : Nat.beq j i with
   | true => rw [hb] at h; cases h; rw [Nat.eq_of_beq_eq_true hb]; simp
   | false => rw [hb] at h; exact List.mem_cons_of_mem _ (Aa h)
theorem bC.slot (F : bC c ι w s a) {i : Nat} {k : List (Nat × Bool)} {v : SV} (h : s.slot i = some (k, v)) (hk : Holds a k) : ak c ι w s.M v (a.eval (.tmp i)) := by
 unfold St.slot at h
 cases he : bG s.env i with
 | some u => rw [he] at h; cases h; exact F.env i _ he
 | none => rw [he] at h; exact F.aY _ (Aa h) hk
theorem bC.qI (F : bC c ι w s a) {i : Nat} {k : List (Nat × Bool)} {v : SV} (h : s.slot i = some (k, v)) (hk : ¬ Holds a k) : a.eval (.tmp i) = undef := by
 unfold St.slot at h
 cases he : bG s.env i with
 | some u => rw [he] at h; cases h; exact (hk (fun x hx => by cases hx)).elim
 | none => rw [he] at h; exact F.xG _ (Aa h) hk
theorem F5 {x : Nat × Bool} : ∀ {l : List (Nat × Bool)}, Fe x l = true -> x ∈ l
 | [], h => by cases h
 | y :: r, h => by
   unfold Fe at h
   cases hb : (Nat.beq x.1 y.1 && (x.2 == y.2)) with
   | true =>
     simp only [Bool.and_eq_true] at hb
     have : x = y := Prod.ext (Nat.eq_of_beq_eq_true hb.1) (by simpa using hb.2)
     rw [this]; simp
   | false => rw [hb] at h; exact List.mem_cons_of_mem _ (F5 h)
theorem pF : ∀ {k l : List (Nat × Bool)}, uJ k l = true -> Holds a l -> Holds a k
 | [], _, _, _ => fun x hx => by cases hx
 | y :: r, l, h, hl => by
   unfold uJ at h
   cases hb : Fe y l with
   | false => rw [hb] at h; cases h
   | true =>
     rw [hb] at h
     intro x hx
     rcases List.mem_cons.1 hx with rfl | hx
     ·exact hl _ (F5 hb)
     ·exact pF h hl x hx
structure aN (P : Program) (cfg : Cfg) (c : Ctx) (ι : Gh) (w : World) : Prop where
 glob : ∀ g t x, cfg.glob g = some ⟨t, x⟩ -> ∃ cs, At (SF c ι false) w ⟨g, 0, none⟩ cs /\ ah (SF c ι false) w t x cs /\ Valid t x
theorem JH {M : Store} {v : Value} {x : V} (h : Az v = some x) : aI c ι w M x v := by
 have agg : ∀ (l : List Value) (ls : List Leaf), aS (l.map og) = some ls -> aF c ι w M ls l := by
  intro l
  induction l with
  | nil => intro ls h; cases h; rfl
  | cons u r ih =>
    intro ls h
    simp only [List.map_cons] at h
    cases hu : og u with
    | none => rw [hu] at h; cases h
    | some y =>
      rw [hu] at h
      simp only [aS] at h
      cases hr : aS (r.map og) with
      | none => rw [hr] at h; cases h
      | some z =>
        rw [hr] at h
        cases h
        exact ⟨[u], r, rfl, Ba hu, ih z hr⟩
 cases v <;> simp only [Az] at h
 case agg cs =>
  cases hl : aS (cs.toList.map og) with
  | none => rw [hl] at h; cases h
  | some ls =>
    rw [hl] at h
    cases h
    exact ⟨cs.toList, agg _ _ hl, by simp⟩
 all_goals
  first
  | (cases h; done)
  | (split at h
     ·cases h
      rename_i l hl
      exact aI.one (Ba hl)
     ·cases h)
theorem um (F : bC c ι w s a) (G : aN P cfg c ι w) {cs : List (Nat × Bool)} (hk : Holds a cs) {x : Operand} {v : SV} (h : opd cfg s cs x = some v) : ak c ι w s.M v (a.eval x) := by
 cases x with
 | tmp t =>
   simp only [opd] at h
   cases hl : s.slot t with
   | none => rw [hl] at h; cases h
   | some kv =>
     obtain ⟨k, u⟩ := kv
     rw [hl] at h
     simp only at h
     cases hb : uJ k cs with
     | false => rw [hb] at h; cases h
     | true => rw [hb] at h; cases h; exact F.slot hl (pF hb hk)
 | const v' =>
   simp only [opd] at h
   cases hl : Az v' with
   | none => rw [hl] at h; cases h
   | some y => rw [hl] at h; cases h; exact JH hl
 | global g =>
   simp only [opd] at h
   cases hg : cfg.glob g with
   | none => rw [hg] at h; cases h
   | some p =>
     obtain ⟨t, y⟩ := p
     rw [hg] at h
     cases h
     obtain ⟨cs', h1, h2, h3⟩ := G.glob g t y hg
     exact ak.one ⟨⟨g, 0, none⟩, cs', rfl, h1, h2, h3⟩
 | func f =>
   simp only [opd] at h
   cases h
   exact ak.one ⟨rfl, fun id hid => by cases hid⟩
theorem yZ (F : bC c ι w s a) (G : aN P cfg c ι w) {cs : List (Nat × Bool)} (hk : Holds a cs) {x : Operand} {v : V} (h : opv cfg s cs x = some v) : aI c ι w s.M v (a.eval x) := by
 unfold opv at h
 cases hd : opd cfg s cs x with
 | none => rw [hd] at h; cases h
 | some sv =>
   rw [hd] at h
   cases sv with
   | v y => cases h; exact um F G hk hd
   | tup l => cases h
theorem iZ (F : bC c ι w s a) (G : aN P cfg c ι w) {cs : List (Nat × Bool)} (hk : Holds a cs) {x : Operand} {l : Leaf} (h : opl cfg s cs x = some l) : aj c ι w s.M l [a.eval x] := by
 unfold opl at h
 cases hd : opv cfg s cs x with
 | none => rw [hd] at h; cases h
 | some v => rw [hd] at h; exact (yZ F G hk hd).leaf h
theorem Jd (F : bC c ι w s a) (G : aN P cfg c ι w) {cs : List (Nat × Bool)} (hk : Holds a cs) {x : Operand} {n : Int} (h : opi cfg s cs x = some n) : ∃ k, a.eval x = .int k n := by
 unfold opi at h
 cases hd : opl cfg s cs x with
 | none => rw [hd] at h; cases h
 | some l =>
   have hr := iZ F G hk hd
   rw [hd] at h
   cases l <;> simp only at h <;> cases h
   exact ⟨_, by simpa using hr.1⟩
theorem NG (F : bC c ι w s a) (G : aN P cfg c ι w) {cs : List (Nat × Bool)} (hk : Holds a cs) {x : Operand} {b : Bool} (h : opb cfg s cs x = some b) : a.eval x = .bool b := by
 unfold opb at h
 cases hd : opl cfg s cs x with
 | none => rw [hd] at h; cases h
 | some l =>
   have hr := iZ F G hk hd
   rw [hd] at h
   cases l <;> simp only at h <;> cases h <;> simpa [aj] using hr
theorem Ac (F : bC c ι w s a) (G : aN P cfg c ι w) {cs : List (Nat × Bool)} (hk : Holds a cs) {x : Option Operand} {n : Option Int} (h : wK cfg s cs x = some n) : dX a x n := by
 cases x with
 | none => cases h; trivial
 | some y =>
   simp only [wK] at h
   cases hd : opi cfg s cs y with
   | none => rw [hd] at h; cases h
   | some m => rw [hd] at h; cases h; exact Jd F G hk hd
end
end Go.Vc
set_option linter.unusedVariables false
set_option linter.unusedSimpArgs false
namespace Go.Vc
section
variable {P : Program} {c : Ctx} {ι : Gh} {w : World} {a : Act} {o : Oper} {cfg : Cfg} {s : St}
theorem uY {M : Store} {f : Operand -> Option V} (hf : ∀ x v, f x = some v -> aI c ι w M v (a.eval x)) : ∀ {l : List Operand} {vs : List V}, aS (l.map f) = some vs -> aP c ι w M vs (l.map a.eval)
 | [], vs, h => by cases h; rfl
 | x :: r, vs, h => by
   simp only [List.map_cons] at h
   cases hx : f x with
   | none => rw [hx] at h; cases h
   | some v =>
     rw [hx] at h
     simp only [aS] at h
     cases hr : aS (r.map f) with
     | none => rw [hr] at h; cases h
     | some ws => rw [hr] at h; cases h; exact ⟨_, _, rfl, hf x v hx, uY hf hr⟩
theorem BJ {M : Store} (I : Inv c ι w M) : ∀ {vs : List V} {us : List Value} {ids : List Nat}, aP c ι w M vs us -> aS (vs.map (jD M)) = some ids ->
 us = (ids.map fun id => Value.pointer (ι.base id)) /\ ∀ id ∈ ids, ∃ ls, M.get id = some (.obj ls)
 | [], us, ids, hv, h => by cases h; exact ⟨hv, fun id hid => by cases hid⟩
 | v :: r, us, ids, ⟨u, us', h1, h2, h3⟩, h => by
   simp only [List.map_cons] at h
   cases hx : jD M v with
   | none => rw [hx] at h; cases h
   | some id =>
     rw [hx] at h
     simp only [aS] at h
     cases hr : aS (r.map (jD M)) with
     | none => rw [hr] at h; cases h
     | some js =>
       rw [hr] at h
       cases h
       obtain ⟨k1, k2⟩ := BJ I h3 hr
       unfold jD at hx
       split at hx
       ·rename_i j
        cases hm : M.get j with
        | none => rw [hm] at hx; cases hx
        | some en =>
          rw [hm] at hx
          cases en <;> simp only at hx <;> cases hx
          rename_i ls
          have hl := h2.leaf (l := .ptr id 0) rfl
          simp only [aj, hm] at hl
          obtain ⟨b, e1, e2⟩ := hl
          refine ⟨?_, fun i hi => ?_⟩
          ·rw [h1, k1, List.map_cons, e1]
           have : u = .pointer (some ⟨b, 0, none⟩) := by simpa using e2
           rw [this]
          ·rcases List.mem_cons.1 hi with rfl | hi
           ·exact ⟨ls, hm⟩
           ·exact k2 i hi
       ·cases hx
theorem aP.get {M : Store} : ∀ {l : List V} {us : List Value} {i : Nat} {v : V}, aP c ι w M l us -> l[i]? = some v -> ∃ u, us[i]? = some u /\ aI c ι w M v u
 | [], us, i, v, _, h => by simp at h
 | x :: r, us, 0, v, ⟨u, us', h1, h2, h3⟩, h => by simp at h; subst h; exact ⟨u, by simp [h1], h2⟩
 | x :: r, us, i + 1, v, ⟨u, us', h1, h2, h3⟩, h => by
   obtain ⟨y, k1, k2⟩ := h3.get (i := i) (by simpa using h)
   exact ⟨y, by rw [h1]; simpa using k1, k2⟩
def uo : Op -> Bool
 | .call ⟨.value _, _, _⟩ => false
 | _ => true
theorem JI (tab : aH P cfg) (I : Inv c ι w s.M) (F : bC c ι w s a) (G : aN P cfg c ι w) {cs : List (Nat × Bool)} (hk : Holds a cs) {nid : Nat} (hid : s.M.get nid = none) {ty : Nat}
 (hn : uo o.op = true) {e : Eff} (h : dB cfg s cs nid o.op ty = some e) (hp : ∀ p ∈ e.pre, p) : au P c ι w s.M a o e.sv e.upd := by
 have hop : ∀ x v, opv cfg s cs x = some v -> aI c ι w s.M v (a.eval x) := fun x v hv => yZ F G hk hv
 have hl : ∀ {x l}, opl cfg s cs x = some l -> aj c ι w s.M l [a.eval x] := fun hx => iZ F G hk hx
 have hi : ∀ {x n}, opi cfg s cs x = some n -> ∃ k, a.eval x = .int k n := fun hx => Jd F G hk hx
 have xH := hid
 generalize hoo : o.op = op at h hn
 cases op <;> simp only [dB] at h <;> first | (cases h; done) | skip
 case move x =>
  cases hd : opd cfg s cs x with
  | none => rw [hd] at h; cases h
  | some v => rw [hd] at h; cases h; exact xC I (.inl hoo) (um F G hk hd)
 case assign x =>
  cases hd : opd cfg s cs x with
  | none => rw [hd] at h; cases h
  | some v => rw [hd] at h; cases h; exact xC I (.inr hoo) (um F G hk hd)
 case alloc T =>
  cases hz : ou cfg T with
  | none => rw [hz] at h; cases h
  | some ls =>
    rw [hz] at h
    have h : cond (l9 T ls) (some (⟨[], SV.one (.ptr nid 0), [(nid, .obj ls)]⟩ : Eff)) none = some e := h
    cases hT : l9 T ls with
    | false => rw [hT] at h; cases h
    | true => rw [hT] at h; cases h; exact EC tab I xH hoo hT hz
 case box T x =>
  cases hd : opv cfg s cs x with
  | none => rw [hd] at h; cases h
  | some v =>
    rw [hd] at h
    have h : cond (l9 T v.ls) (some (⟨[], SV.one (.ptr nid 0), [(nid, .obj v.ls)]⟩ : Eff)) none = some e := h
    cases hT : l9 T v.ls with
    | false => rw [hT] at h; cases h
    | true => rw [hT] at h; cases h; exact H9 I xH hoo hT (hop _ _ hd)
 case build T ps =>
  split at h
  ·rename_i fs _ _ _ hT
   cases hkn : known cfg fs with
   | false => rw [hkn] at h; cases h
   | true =>
     rw [hkn] at h
     simp only [cond_true] at h
     cases hz : ou cfg T with
     | none => rw [hz] at h; cases h
     | some ls =>
       rw [hz] at h
       simp only at h
       cases hb : jW cfg s cs T fs ps.toList ls with
       | none => rw [hb] at h; cases h
       | some r => rw [hb] at h; cases h; exact wC tab I hop hoo hT rfl hkn hz hb
  ·rename_i n e' _ _ n' t hT
   split at h
   ·rename_i t' he
    split at h
    ·rename_i htt
     obtain ⟨rfl, rfl⟩ := htt
     cases hb : iy cfg s cs n' t' ps.toList true (List.replicate n' t'.dft) [] with
     | none => rw [hb] at h; cases h
     | some r =>
       obtain ⟨fr, l, fz⟩ := r
       rw [hb] at h
       cases h
       exact zX tab I hop hoo hT rfl rfl he rfl hb
    ·cases h
   ·cases h
  ·cases h
 case buildSlice T n ps =>
  split at h
  ·rename_i e' _ _ _ hT
   split at h
   ·rename_i t he
    cases hb0 : (Nat.ble (n * t.sz) 16777216 && Nat.blt 0 t.sz) with
    | false => rw [hb0] at h; cases h
    | true =>
      rw [hb0] at h
      simp only [cond_true] at h
      simp only [Bool.and_eq_true] at hb0
      cases hb : iy cfg s cs n t ps.toList true (List.replicate n t.dft) [] with
      | none => rw [hb] at h; cases h
      | some r =>
        obtain ⟨fr, l, fz⟩ := r
        rw [hb] at h
        cases h
        exact xA tab I hop hid hoo hT rfl he rfl ((jY _ _).1 hb0.1) (by simpa using hb0.2) hb
   ·cases h
  ·cases h
 case load T x =>
  cases hx : opl cfg s cs x with
  | none => rw [hx] at h; cases h
  | some l =>
    rw [hx] at h
    simp only at h
    cases he : oh cfg s.M T l with
    | none => rw [he] at h; cases h
    | some r => obtain ⟨p, v⟩ := r; rw [he] at h; cases h; exact FC tab I hoo (hl hx) he hp
 case store T x y =>
  cases hx : opl cfg s cs x with
  | none => rw [hx] at h; cases h
  | some l =>
    cases hy : opv cfg s cs y with
    | none => rw [hx, hy] at h; cases h
    | some v =>
      rw [hx, hy] at h
      simp only at h
      cases he : lF cfg s.M T l v with
      | none => rw [he] at h; cases h
      | some r => obtain ⟨p, u⟩ := r; rw [he] at h; cases h; exact Eu tab I hoo (hl hx) (hop _ _ hy) he hp
 case nilCheck x =>
  have al : ∀ {id}, dF s.M id = true -> ∃ en, s.M.get id = some en /\ en ≠ .dead := by
   intro id hal
   obtain ⟨h1, h2⟩ := rM hal
   cases hm : s.M.get id with
   | none => exact absurd hm h2
   | some en => exact ⟨en, rfl, fun hd => h1 (by rw [hm, hd])⟩
  split at h
  ·rename_i id off hx
   cases hal : dF s.M id with
   | false => rw [hal] at h; cases h
   | true =>
     rw [hal] at h; cases h
     have hr := hl hx
     refine kN I hoo hr (.inl ?_)
     obtain ⟨en, hm, hnd⟩ := al hal
     simp only [aj, hm] at hr
     cases en <;> simp only at hr <;> first | exact absurd rfl hnd | (obtain ⟨_, _, hr⟩ := hr; exact ⟨_, by simpa using hr⟩)
  ·rename_i id i' off hx
   cases hal : dF s.M id with
   | false => rw [hal] at h; cases h
   | true =>
     rw [hal] at h; cases h
     have hr := hl hx
     refine kN I hoo hr (.inl ?_)
     obtain ⟨en, hm, hnd⟩ := al hal
     simp only [aj, hm] at hr
     cases en <;> simp only at hr <;> first | exact absurd rfl hnd | (obtain ⟨_, _, hr⟩ := hr; exact ⟨_, by simpa using hr⟩)
  ·rename_i id ao i' off hx
   cases hal : dF s.M id with
   | false => rw [hal] at h; cases h
   | true =>
     rw [hal] at h; cases h
     have hr := hl hx
     refine kN I hoo hr (.inl ?_)
     obtain ⟨en, hm, hnd⟩ := al hal
     simp only [aj, hm] at hr
     cases en <;> simp only at hr <;> first | exact absurd rfl hnd | skip
     rename_i ls
     cases hla : lat ls ao with
     | none => rw [hla] at hr; exact hr.elim
     | some q =>
       rw [hla] at hr
       cases q <;> simp only at hr
       obtain ⟨_, _, hr⟩ := hr; exact ⟨_, by simpa using hr⟩
  ·rename_i fr t y hx
   cases h
   have hr := hl hx
   refine kN I hoo hr (.inl ?_)
   obtain ⟨ad, pcs, h1, _⟩ := hr
   exact ⟨ad, by simpa using h1⟩
  ·rename_i f cp hx
   cases h
   have hr := hl hx
   refine kN I hoo hr (.inr ?_)
   obtain ⟨h1, _⟩ := hr
   exact ⟨_, _, _, by simpa using h1⟩
  ·cases h
 case binOp op T x y T' =>
  split at h
  ·rename_i l m hx hy
   cases he : AA cfg T op l m with
   | none =>
     rw [he] at h
     simp only at h
     cases he2 : rC cfg s.M T op l m with
     | none => rw [he2] at h; cases h
     | some r => rw [he2] at h; cases h; exact H8 tab I hoo (hl hx) (hl hy) he2
   | some r => obtain ⟨p, r⟩ := r; rw [he] at h; cases h; exact H7 tab I hoo (hl hx) (hl hy) he hp
  ·split at h
   ·rename_i v u hx hy
    exact Ij tab I hoo (hop _ _ hx) (hop _ _ hy) h
   ·cases h
 case unOp op T x =>
  cases hx : opl cfg s cs x with
  | none => rw [hx] at h; cases h
  | some l =>
    rw [hx] at h
    simp only at h
    cases he : Jq op l with
    | none => rw [he] at h; cases h
    | some r => rw [he] at h; cases h; exact JE I hoo (hl hx) he
 case convert S T x =>
  cases hx : opl cfg s cs x with
  | none => rw [hx] at h; cases h
  | some l =>
    rw [hx] at h
    exact Bo tab I xH hoo (hl hx).weak h hp
 case makeFunc fn first caps =>
  cases fn <;> simp only [dB] at h <;> first | (cases h; done) | skip
  rename_i f
  cases hf : Nat.beq first.size 0 with
  | false => rw [hf] at h; cases h
  | true =>
    rw [hf] at h
    simp only [cond_true] at h
    cases hv : mg cfg s cs caps.toList with
    | none => rw [hv] at h; cases h
    | some vs =>
      rw [hv] at h
      simp only at h
      cases FN : aS (vs.map (jD s.M)) with
      | none => rw [FN] at h; cases h
      | some ids =>
        rw [FN] at h
        cases h
        obtain ⟨k1, k2⟩ := BJ I (uY hop hv) FN
        exact FM I hoo (Nat.eq_of_beq_eq_true hf) k1 k2
 case makeSlice T n m =>
  split at h
  ·rename_i e' _ _ _ x y hT hx hy
   split at h
   ·rename_i d' sz by' t he
    cases h
    obtain ⟨k, hkx⟩ := hi hx
    obtain ⟨k', hky⟩ := hi hy
    have hp : (0 <= x /\ x <= y) /\ y * (by' : Int) <= 140737488355328 /\ y <= 9223372036854775807 := ⟨⟨hp _ (by simp), hp _ (by simp)⟩, hp _ (by simp), hp _ (by simp)⟩
    exact FP tab I xH hoo hT rfl he rfl hkx hky hp.1.1 hp.1.2 hp.2.1 hp.2.2
   ·cases h
  ·cases h
 case slice T x lo hi' mx =>
  cases mx with
  | some mx =>
    cases hi' with
    | none => simp only [dB] at h; cases h
    | some hi' =>
      simp only [dB] at h
      split at h
      ·rename_i l p q m hx hp' hq hm
       obtain ⟨kb, hkb⟩ := hi hq
       obtain ⟨km, hkm⟩ := hi hm
       refine Dp tab I xH hoo (hl hx).weak (Ac F G hk hp') hkb hkm (fun hz => ?_) h hp
       simp only [Bool.and_eq_true] at hz
       exact ⟨FU hz.1 hkb, FU hz.2 hkm⟩
      ·cases h
  | none =>
    simp only [dB] at h
    split at h
    ·rename_i l p q hx hp' hq
     cases he : lJ cfg s.M T l p q with
     | none => rw [he] at h; cases h
     | some r => obtain ⟨ps, r⟩ := r; rw [he] at h; cases h; exact Ez tab I hoo (hl hx) (Ac F G hk hp') (Ac F G hk hq) he hp
    ·cases h
 case fieldAddr T x f =>
  split at h
  ·rename_i off ft l hf hx
   cases he : lM cfg s.M off ft l with
   | none => rw [he] at h; cases h
   | some r => rw [he] at h; cases h; exact Ew tab I hoo hf (hl hx) he
  ·cases h
 case field T x f =>
  split at h
  ·rename_i off ft v hf hx
   cases ht : cfg.ti ft with
   | none => rw [ht] at h; cases h
   | some ti =>
     rw [ht] at h
     simp only at h
     cases hag : v.agg with
     | false => rw [hag] at h; cases h
     | true =>
       rw [hag] at h
       simp only [cond_true] at h
       cases hr : dO v.ls off ti.size with
       | none => rw [hr] at h; cases h
       | some r => rw [hr] at h; cases h; exact FI tab I hoo hf (hop _ _ hx) hag ht hr
  ·cases h
 case indexAddr T x y =>
  split at h
  ·rename_i l n hx hy
   obtain ⟨k, hky⟩ := hi hy
   cases he : fV cfg s.M T l.weak n with
   | none => rw [he] at h; cases h
   | some r => obtain ⟨p, r⟩ := r; rw [he] at h; cases h; exact zh tab I hoo (hl hx).weak hky he hp
  ·cases h
 case sliceToArrayPointer T x =>
  split at h
  ·rename_i l hx
   cases he : ER cfg T l with
   | none => rw [he] at h; cases h
   | some r => obtain ⟨p, r⟩ := r; rw [he] at h; cases h; exact Ii tab I hoo (hl hx) he hp
  ·cases h
 case index T x y =>
  split at h
  ·rename_i v n hx hy
   obtain ⟨k, hky⟩ := hi hy
   exact ED tab I hoo (hop _ _ hx) hky h hp
  ·cases h
 case makeMap T r =>
  cases r with
  | some r => cases h
  | none => exact BI tab I xH hoo h
 case lookup T x y ok =>
  split at h
  ·rename_i lx ly hx hy
   exact Dt tab I hoo (hl hx) (hl hy) h
  ·cases h
 case mapUpdate T x y z =>
  split at h
  ·rename_i lx ly lz hx hy hz
   exact zi tab I hoo (hl hx) (hl hy) (hl hz) h
  ·cases h
 case range T x =>
  split at h
  ·rename_i l hx
   cases hT : isStr cfg T with
   | false => rw [hT] at h; cases h
   | true => rw [hT] at h; cases h; exact EG tab I xH hoo (hl hx) hT
  ·cases h
 case extract x i =>
  split at h
  ·rename_i l hx
   cases he : l[i]? with
   | none => rw [he] at h; cases h
   | some v =>
     rw [he] at h
     cases h
     obtain ⟨us, h1, h2⟩ := (um F G hk hx : ak c ι w s.M (.tup l) _)
     obtain ⟨u, k1, k2⟩ := h2.get he
     refine au.pure I (v := u) ?_ k2
     simp [execOp, hoo, Instr.extract, h1, k1]
  ·cases h
 case call cl =>
  obtain ⟨ce, args, ts⟩ := cl
  cases ce <;> first | (cases hn; done) | (simp only [dB] at h; cases h; done) | skip
  rename_i b
  cases b <;> simp only [dB] at h <;> first | (cases h; done) | skip
  case append =>
   split at h
   ·rename_i x y T U hx hy
    split at h
    ·rename_i l m hl1 hl2
     exact BF tab I xH hoo rfl hx hy (hl hl1) (hl hl2) h hp
    ·cases h
   ·cases h
  case len =>
   split at h
   ·rename_i x T hx hT
    cases hxl : opl cfg s cs x with
    | none => rw [hxl] at h; cases h
    | some l =>
      rw [hxl] at h
      simp only at h
      cases he : uH cfg s.M T l.weak with
      | none => rw [he] at h; cases h
      | some n => rw [he] at h; cases h; exact Ib tab I hoo rfl hx hT (hl hxl).weak he
   ·cases h
  case cap =>
   split at h
   ·rename_i x T hx hT
    cases hxl : opl cfg s cs x with
    | none => rw [hxl] at h; cases h
    | some l =>
      rw [hxl] at h
      simp only at h
      cases he : uI cfg s.M T l with
      | none => rw [he] at h; cases h
      | some n => rw [he] at h; cases h; exact Ig tab I hoo rfl hx hT (hl hxl) he
   ·cases h
  case clear =>
   split at h
   ·rename_i x T hx hT
    cases hxl : opl cfg s cs x with
    | none => rw [hxl] at h; cases h
    | some l => rw [hxl] at h; exact EF tab I hoo rfl hx hT (hl hxl).weak h
   ·cases h
  case copy =>
   split at h
   ·rename_i x y T U hx hy
    split at h
    ·rename_i l m hl1 hl2
     exact FT tab I hoo rfl hx hy (hl hl1).weak (hl hl2).weak h
    ·cases h
   ·cases h
  case max =>
   split at h
   ·rename_i x y hx
    split at h
    ·rename_i k a' k' b' h1 h2
     split at h
     ·rename_i hkk
      subst hkk
      cases h
      exact Ie I hoo rfl hx (hl h1) (hl h2)
     ·cases h
    ·cases h
   ·cases h
  case min =>
   split at h
   ·rename_i x y hx
    split at h
    ·rename_i k a' k' b' h1 h2
     split at h
     ·rename_i hkk
      subst hkk
      cases h
      exact Ic I hoo rfl hx (hl h1) (hl h2)
     ·cases h
    ·cases h
   ·cases h
end
end Go.Vc
