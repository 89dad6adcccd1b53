/- append. -/
import Derived.Test.YtddakledpipanaaVcOp6
import Derived.Maps.AppendAt
import Derived.Laws.OwnMore
import Derived.Lib.AppendStr
set_option linter.unusedVariables false
set_option linter.unusedSimpArgs false
namespace Go.Vc

section
variable {S : Nat → Prop} {w : World} {e : Ty}
theorem PRep.arr_nil : PRep S w (.arr 0 e) [] [] := ⟨rfl, [], rfl, rfl, fun i x ec h => by simp at h⟩
theorem PRep.arr_cons {l : List e.den} {x : e.den} {ec xs : List Value} (hx : PRep S w e x ec) (h : PRep S w (.arr l.length e) l xs) : PRep S w (.arr (x :: l).length e) (x :: l) (ec ++ xs) := by
  obtain ⟨h1, ess, h2, h3, h4⟩ := h
  refine ⟨rfl, ec :: ess, by simp [h2], by simp [h3], fun i y yc hy hyc => ?_⟩
  cases i with
  | zero => simp at hy hyc; subst hy hyc; exact hx
  | succ i => exact h4 i y yc (by simpa using hy) (by simpa using hyc)
theorem PRep.arr_append {l m : List e.den} {xs ys : List Value} (h : PRep S w (.arr l.length e) l xs) (k : PRep S w (.arr m.length e) m ys) : PRep S w (.arr (l ++ m).length e) (l ++ m) (xs ++ ys) := by
  obtain ⟨h1, ess, h2, h3, h4⟩ := h
  obtain ⟨k1, fss, k2, k3, k4⟩ := k
  refine ⟨rfl, ess ++ fss, by simp [h2, k2], by simp [h3, k3], fun i y yc hy hyc => ?_⟩
  by_cases hi : i < l.length
  · rw [List.getElem?_append_left hi] at hy
    rw [List.getElem?_append_left (by omega)] at hyc
    exact h4 i y yc hy hyc
  · rw [List.getElem?_append_right (by omega)] at hy
    rw [List.getElem?_append_right (by omega), h2] at hyc
    exact k4 _ y yc hy hyc
theorem drop_flatten_const {α : Type} (n : Nat) : ∀ (ess : List (List α)) (lo : Nat), (∀ ec ∈ ess, ec.length = n) → ess.flatten.drop (lo * n) = (ess.drop lo).flatten
  | [], lo, _ => by simp
  | ec :: r, 0, _ => by simp
  | ec :: r, lo + 1, h => by
    rw [List.flatten_cons, List.drop_append, List.drop_of_length_le (by rw [h ec (by simp), Nat.succ_mul]; omega), List.nil_append, h ec (by simp), List.drop_succ_cons,
      show (lo + 1) * n - n = lo * n from by rw [Nat.succ_mul]; omega]
    exact drop_flatten_const n r lo fun x hx => h x (by simp [hx])
theorem take_flatten_const {α : Type} (k : Nat) : ∀ (ess : List (List α)) (n : Nat), (∀ ec ∈ ess, ec.length = k) → ess.flatten.take (n * k) = (ess.take n).flatten
  | [], n, _ => by simp
  | ec :: r, 0, _ => by simp
  | ec :: r, n + 1, h => by
    rw [List.flatten_cons, List.take_append, List.take_of_length_le (by rw [h ec (by simp), Nat.succ_mul]; omega), h ec (by simp), List.take_succ_cons, List.flatten_cons,
      show (n + 1) * k - k = n * k from by rw [Nat.succ_mul]; omega]
    rw [take_flatten_const k r n fun x hx => h x (by simp [hx])]
theorem PRep.arr_part {N : Nat} {l : List e.den} {xs : List Value} (h : PRep S w (.arr N e) l xs) {lo n : Nat} (hn : lo + n ≤ l.length) :
    PRep S w (.arr n e) ((l.drop lo).take n) ((xs.drop (lo * e.sz)).take (n * e.sz)) := by
  obtain ⟨h1, ess, h2, rfl, h4⟩ := h
  have hl : ∀ ec ∈ ess, ec.length = e.sz := by
    intro ec hec
    obtain ⟨j, hj, rfl⟩ := List.getElem_of_mem hec
    exact PRep.len _ _ _ (h4 j (l[j]'(by omega)) ess[j] (by simp) (by simp))
  refine ⟨by rw [List.length_take, List.length_drop]; omega, (ess.drop lo).take n, by rw [List.length_take, List.length_drop]; omega, ?_, fun i y yc hy hyc => ?_⟩
  · rw [drop_flatten_const e.sz ess lo hl, take_flatten_const e.sz _ n fun x hx => hl x (List.mem_of_mem_drop hx)]
  · rw [List.getElem?_take] at hy hyc
    split at hy
    · rename_i hi
      rw [if_pos hi, List.getElem?_drop] at hyc
      rw [List.getElem?_drop] at hy
      exact h4 _ y yc hy hyc
    · cases hy
theorem At.append {ad : Addr} {a b : List Value} (h : At S w ad a) (k : At S w (ad.add a.length) b) : At S w ad (a ++ b) := by
  refine ⟨h.1, fun i v hv => ?_⟩
  by_cases hi : i < a.length
  · rw [List.getElem?_append_left hi] at hv; exact h.2 i v hv
  · rw [List.getElem?_append_right (by omega)] at hv
    have := k.2 _ v hv
    rwa [Addr.add_add, show a.length + (i - a.length) = i by omega] at this
theorem add_block (a : Addr) (k : Nat) : (a.add k).block = a.block := by unfold Addr.add; split <;> rfl
theorem PRep.arr_of_elems : ∀ (l : List e.den) (ad : Addr), S ad.block → (∀ (i : Nat) x, l[i]? = some x → ∃ ecs, PRep S w e x ecs ∧ At S w (ad.add (i * e.sz)) ecs) →
    ∃ xs, PRep S w (.arr l.length e) l xs ∧ At S w ad xs
  | [], ad, hS, _ => ⟨[], PRep.arr_nil, hS, fun i v hv => by simp at hv⟩
  | x :: l, ad, hS, h => by
    obtain ⟨ec, h1, h2⟩ := h 0 x (by simp)
    obtain ⟨xs, h3, h4⟩ := PRep.arr_of_elems l (ad.add e.sz) (by rw [add_block]; exact hS) (fun i y hy => by
      obtain ⟨ecs, k1, k2⟩ := h (i + 1) y (by simpa using hy)
      refine ⟨ecs, k1, ?_⟩
      rw [Addr.add_add, show e.sz + i * e.sz = (i + 1) * e.sz by rw [Nat.succ_mul]; omega]; exact k2)
    rw [Nat.zero_mul, add_zero'] at h2
    exact ⟨ec ++ xs, PRep.arr_cons h1 h3, h2.append (by rw [PRep.len _ _ _ h1]; exact h4)⟩
theorem PRep.arr_of_slice {l : List e.den} {a : Option Addr} {n c : Nat} (h : PRep S w (.slice e) l [.slice a n c]) (h0 : 0 < l.length) :
    ∃ ad xs, a = some ad ∧ PRep S w (.arr l.length e) l xs ∧ At S w ad xs := by
  obtain ⟨a', n', c', h1, h2, h3, h4⟩ := h
  simp only [List.cons.injEq, Value.slice.injEq, and_true] at h1
  obtain ⟨rfl, rfl, rfl⟩ := h1
  obtain ⟨ad, rfl, h6⟩ := h4 (by omega)
  have hS : S ad.block := by
    obtain ⟨x, hx⟩ : ∃ x, l[0]? = some x := ⟨l[0], by simp [h0]⟩
    obtain ⟨ecs, _, h7⟩ := h6 0 x hx
    have := h7.1
    rwa [add_block] at this
  obtain ⟨xs, h7, h8⟩ := PRep.arr_of_elems l ad hS h6
  exact ⟨ad, xs, rfl, h7, h8⟩
end

section
variable {P : Program} {c : Ctx} {ι : Gh} {w : World} {M : Store} {act : Act} {o : Oper} {cfg : Cfg}

/-- A slice's value, with its elements as they lie. -/
def SlSrc (c : Ctx) (ι : Gh) (w : World) (fr : Bool) (e : Ty) (m : List e.den) (v : Value) : Prop :=
  ∃ b cap, v = .slice b m.length cap ∧ m.length ≤ cap ∧
    (0 < m.length → ∃ ad news, b = some ad ∧ PRep (SF c ι fr) w (.arr m.length e) m news ∧ ∀ j u, news[j]? = some u → w.cell? (ad.add j) = some u)

theorem SlSrc.of_slice {fr : Bool} {e : Ty} {m : List e.den} {v : Value} (h : PRep (SF c ι fr) w (.slice e) m [v]) : SlSrc c ι w fr e m v := by
  obtain ⟨a, n, cp, h1, h2, h3, h4⟩ := id h
  simp only [List.cons.injEq, and_true] at h1
  subst h1
  refine ⟨a, cp, by rw [h2], by omega, fun h0 => ?_⟩
  obtain ⟨ad, xs, h5, h6, h7⟩ := h.arr_of_slice h0
  exact ⟨ad, xs, h5, h6, h7.2⟩
theorem SlSrc.of_row {e : Ty} {ap fr : Bool} {e0 id : Nat} {l : List e.den} (h : ERep c ι w M id (.row e0 e fr ap l)) {lo n : Nat} (hn : lo + n ≤ l.length) {a : Option Addr}
    (ha : lo < ι.cap id → a = (ι.base id).map (·.add (lo * e.sz))) : SlSrc c ι w fr e ((l.drop lo).take n) (.slice a n (ι.cap id - lo)) := by
  obtain ⟨xs, h1, h2, h3⟩ := h
  have hlen : ((l.drop lo).take n).length = n := by rw [List.length_take, List.length_drop]; omega
  rcases h3.2 with ⟨hb, hc, hn0, _⟩ | ⟨g, cur, fz, hb, hlb, hg, _, _, hnc, _, hcs, htk⟩
  · exact ⟨a, ι.cap id - lo, by rw [hlen], by omega, fun h0 => by omega⟩
  · refine ⟨a, ι.cap id - lo, by rw [hlen], by omega, fun h0 => ?_⟩
    rw [ha (by omega), hb]
    refine ⟨_, (xs.drop (lo * e.sz)).take (n * e.sz), rfl, by rw [hlen]; exact h1.arr_part hn, fun j u hu => ?_⟩
    rw [Addr.add_add]
    rw [List.getElem?_take] at hu
    split at hu
    · rw [List.getElem?_drop] at hu
      have hadd : (⟨g, 0, none⟩ : Addr).add (lo * e.sz + j) = ⟨g, lo * e.sz + j, none⟩ := by unfold Addr.add; split <;> simp_all
      show w.cell? ((⟨g, 0, none⟩ : Addr).add (lo * e.sz + j)) = some u
      rw [hadd, cell_of_row w g _ cur _ fz hg]
      rw [← htk, List.getElem?_take] at hu
      split at hu
      · simpa using hu
      · cases hu
    · cases hu

theorem listOf_rep (I : Inv c ι w M) {e : Ty} {y : Leaf} {fr : Bool} {m : List e.den} {v : Value} (h : listOf M e y = some (fr, m)) (hr : LRep c ι w M y [v]) (hs : isStrL y = false) :
    SlSrc c ι w fr e m v ∧ Valid (.slice e) m := by
  cases y <;> simp only [listOf, isStrL] at h hs <;> first | (cases h; done) | skip
  case str => cases hs
  case psl fr' t l =>
    split at h
    · rename_i ht; subst ht; cases h
      exact ⟨SlSrc.of_slice hr.1, hr.2⟩
    · cases h
  case nils =>
    cases h
    have : v = .slice none 0 0 := by simpa [LRep] using hr
    subst this
    exact ⟨⟨none, 0, rfl, Nat.le_refl _, fun h0 => by simp at h0⟩, Valid.nil e⟩
  case own id =>
    simp only [LRep] at hr
    cases hm : M.get id with
    | none => rw [hm] at h; cases h
    | some en =>
      rw [hm] at h hr
      cases en with
      | row e0 t fr' ap l =>
        simp only at h hr
        split at h
        · rename_i ht; subst ht; cases h
          have hv : v = .slice (ι.base id) l.length (ι.cap id) := by simpa using hr
          have hE := I.ents id _ hm
          have hs := SlSrc.of_row hE (lo := 0) (n := l.length) (by omega) (a := ι.base id) (fun _ => by
            cases ι.base id with
            | none => rfl
            | some a => simp [add_zero'])
          rw [List.drop_zero, List.take_length, Nat.sub_zero] at hs
          rw [hv]
          show SlSrc c ι w fr t l _ ∧ Valid (.slice t) l
          exact ⟨hs, by obtain ⟨_, _, q, _⟩ := hE; exact q⟩
        · cases h
      | frz t fr' l =>
        simp only at h hr
        split at h
        · rename_i ht; subst ht; cases h
          have hv : v = .slice (ι.base id) l.length (ι.cap id) := by simpa using hr
          have hE := I.ents id _ hm
          rw [hv]; exact ⟨SlSrc.of_slice hE.1, hE.2⟩
        · cases h
      | obj ls => simp only at hr
      | dead => simp only at h; cases h
  case sl id lo n =>
    simp only [LRep] at hr
    cases hm : M.get id with
    | none => rw [hm] at h; cases h
    | some en =>
      rw [hm] at h hr
      cases en with
      | row e0 t fr' ap l =>
        simp only at h hr
        split at h
        · rename_i ht; subst ht; cases h
          obtain ⟨a, e1, e2, e3⟩ := hr
          have hv : v = .slice a n (ι.cap id - lo) := by simpa using e1
          have hE := I.ents id _ hm
          rw [hv]
          exact ⟨SlSrc.of_row hE e2 e3, by obtain ⟨_, _, q, _⟩ := hE; exact q.part _ _⟩
        · cases h
      | frz t fr' l =>
        simp only at h hr
        split at h
        · rename_i ht; subst ht; cases h
          obtain ⟨a, e1, e2, e3⟩ := hr
          have hv : v = .slice a n (ι.cap id - lo) := by simpa using e1
          have hE := I.ents id _ hm
          rw [hv]
          exact ⟨SlSrc.of_slice (hE.1.part e2 e3), hE.2.part _ _⟩
        · cases h
      | obj ls => simp only at hr
      | dead => simp only at h; cases h
  case asl id off lo n =>
    simp only [LRep] at hr
    cases hm : M.get id with
    | none => rw [hm] at h; cases h
    | some en =>
      rw [hm] at h hr
      cases en with
      | obj ls =>
        simp only at h hr
        cases hl : lat ls off with
        | none => rw [hl] at h; cases h
        | some q =>
          rw [hl] at h hr
          cases q <;> simp only at h hr
          rename_i N fr' t l
          split at h
          · rename_i ht; subst ht
            cases hN' : Nat.ble N maxLen with
            | false => rw [hN'] at h; cases h
            | true =>
            rw [hN'] at h; cases h
            have hN' := (ble_iff _ _).1 hN'
            obtain ⟨b, a, h1, h2, h3, h4⟩ := hr
            have hv : v = .slice (some a) n (N - lo) := by simpa using h3
            obtain ⟨b', cs, T, k1, k2, k3⟩ := I.ents id _ hm
            rw [h1] at k1; cases k1
            obtain ⟨⟨p1, p2⟩, p3⟩ := lat_rep hl k3
            have hN : l.length = N := p2.2
            show SlSrc c ι w fr t ((l.drop lo).take n) v ∧ Valid (.slice t) ((l.drop lo).take n)
            have hlen : ((l.drop lo).take n).length = n := by rw [List.length_take, List.length_drop]; omega
            refine ⟨⟨some a, N - lo, by rw [hlen]; exact hv, by omega, fun h0 => ?_⟩, ?_⟩
            · have hlo : lo < N := by omega
              rw [h4 hlo]
              refine ⟨_, _, rfl, by rw [hlen]; exact p1.arr_part (by omega), fun j u hu => ?_⟩
              rw [List.getElem?_take] at hu
              split at hu
              · rename_i hj
                rw [List.getElem?_drop, List.getElem?_take] at hu
                split at hu
                · rw [List.getElem?_drop] at hu
                  rw [Addr.add_lit, cell_of_row w b _ cs.toArray _ (0, 0) k2]
                  rw [Nat.add_assoc]
                  simpa using hu
                · cases hu
              · cases hu
            · exact ⟨fun x hx => p2.1 x (List.mem_of_mem_drop (List.mem_of_mem_take hx)), by omega⟩
          · cases h
      | row => simp only at hr
      | frz => simp only at hr
      | dead => simp only at h; cases h

/-- A row that has grown, in its own block or in a new one. -/
theorem Inv.grown {w' : World} (I : Inv c ι w M) {nid : Nat} (hid : M.get nid = none) {e : Nat} {t : Ty} {fr : Bool} {L : List t.den} {lb n : Nat} {v v' : Value} {xs : List Value}
    (hfree : ∀ k, v.ownBlock = some k → Inv.Free c ι M k) (hown : w'.ownsRow lb e t.sz v' n xs) (hgrow : w.grownBy w' v.ownBlock) (hat : ∀ k, v'.ownBlock = some k → v.ownBlock = some k ∨ w.heap.size ≤ k)
    (hlb : (cond fr c.w0.heap.size 0) ≤ lb) (hr : PRep (SF c ι fr) w (.arr L.length t) L xs) (hn : n = L.length) (hv : Valid (.slice t) L) :
    ∃ ι', Inv c ι' w' (M.set nid (.row e t fr true L)) ∧ Ext ι w M ι' w' (M.set nid (.row e t fr true L)) ∧ v' = .slice (ι'.base nid) L.length (ι'.cap nid) := by
  have tt : Turn w w' (fun k => v.ownBlock = some k) := ⟨hgrow.os, hgrow.tape, hgrow.output, hgrow.size, fun k hk hne => hgrow.block k hk (fun h => hne h.symm)⟩
  rcases hown.2 with ⟨rfl, rfl⟩ | ⟨g, cap, cur, rfl, hbg, hg, hnc, hcm, hcs, htk⟩
  · have x := Ext.adopt I hid tt (fun k hk => (hfree k hk).1) none 0 (.row e t fr true L)
    refine ⟨ι.put nid none 0, Inv.adopt I hid tt hfree none 0 _ (fun a ha => by cases ha) ?_, x, by simp [Gh.put, ← hn]⟩
    exact ⟨xs, PRep.mono (SF.mono x.S) (fun b hb => x.heap b hb.1) _ _ _ hr, hv, by rw [← hn]; exact hown.1, .inl ⟨by simp [Gh.put], by simp [Gh.put], hn.symm, rfl⟩⟩
  · have x := Ext.adopt I hid tt (fun k hk => (hfree k hk).1) (some ⟨g, 0, none⟩) cap (.row e t fr true L)
    refine ⟨ι.put nid (some ⟨g, 0, none⟩) cap, Inv.adopt I hid tt hfree (some ⟨g, 0, none⟩) cap _ (fun a ha _ => ?_) ?_, x, by simp [Gh.put, ← hn]⟩
    · cases ha
      exact hat g rfl
    · refine ⟨xs, PRep.mono (SF.mono x.S) (fun b hb => x.heap b hb.1) _ _ _ hr, hv, by rw [← hn]; exact hown.1, .inr ⟨g, cur, (0, 0), by simp [Gh.put], by omega, hg, fun _ => rfl, by simp, by rw [← hn]; simpa [Gh.put] using hnc, by simpa [Gh.put] using hcm, by simpa [Gh.put] using hcs, by rw [← hn]; exact htk⟩⟩

theorem SF.weak {ι : Gh} {a b : Bool} (h : b = true → a = true) : ∀ k, SF c ι a k → SF c ι b k := fun _ hk => ⟨hk.1, fun hb => hk.2 (h hb)⟩

theorem ownsRow_weak {lb lb' e sz n : Nat} {v : Value} {xs : List Value} (hlb : lb' ≤ lb) (h : w.ownsRow lb e sz v n xs) : w.ownsRow lb' e sz v n xs := by
  refine ⟨h.1, ?_⟩
  rcases h.2 with hn | ⟨g, cap, cur, hv, hb, rest⟩
  · exact .inl hn
  · exact .inr ⟨g, cap, cur, hv, by omega, rest⟩
theorem ok_inj {α : Type} {a b : α} {w1 w2 : World} (h : (Result.ok a w1 : Result α) = .ok b w2) : a = b ∧ w1 = w2 := by cases h; exact ⟨rfl, rfl⟩
theorem run_append_str_at {lb t u ty e : Nat} {i : TypeInfo} (ht : P.underlying t = some (.slice e)) (hu : P.underlying u = some .string) (hi : P.info? e = some i) (hz : i.zero = some (.int .u8 0))
    (hsize : i.size = 1) (hby : i.bytes = 1) {v : Value} {n : Nat} {xs : List Value} (hown : w.ownsRow lb e 1 v n xs) (s : ByteArray)
    (h63 : n + s.size ≤ maxLen) (hb : n + s.size ≤ 140737488355328) (hbase : lb ≤ w.heap.size) :
    ∃ v' w', (Builtin.append_ #[t, u] ty #[v, .string s]).run P w = .ok v' w' ∧ w'.ownsRow lb e 1 v' (n + s.size) (xs ++ Lib.strCells s) ∧ w.grownBy w' v.ownBlock ∧
      (∀ k, v'.ownBlock = some k → v.ownBlock = some k ∨ w.heap.size ≤ k) := by
  rcases hown.2 with ⟨rfl, rfl⟩ | ⟨g, cap, cur, rfl, hbg, hg, hnc, hcm, hcs, htake⟩
  · have hx : xs = [] := List.eq_nil_of_length_eq_zero (by simpa using hown.1)
    subst hx
    obtain ⟨v', w', k1, k2, k3, _⟩ := Lib.run_append_own_string (P := P) w w.heap.size t u ty e i ht hu hi hz hsize hby _ 0 [] (World.ownsRow_nil w _ e 1) s h63 hb (Nat.le_refl _)
    exact ⟨v', w', k1, ownsRow_weak hbase k2, k3, fun k hk => .inr (k2.lt k hk).1⟩
  · obtain ⟨v', w', k1, k2, k3, _⟩ := Lib.run_append_own_string (P := P) w lb t u ty e i ht hu hi hz hsize hby _ n xs hown s h63 hb hbase
    refine ⟨v', w', k1, k2, k3, fun k hk => ?_⟩
    have hcs' : cur.size = cap := by simpa using hcs
    by_cases hroom : n + s.size ≤ cap
    · have hr := Lib.run_append_room_string (P := P) w t u ty e i ht hu hi hsize g n cap cur hg s hroom (by omega)
      rw [k1] at hr
      obtain ⟨rfl, _⟩ := ok_inj hr
      left; simpa [Value.ownBlock] using hk
    · have holds : ∀ j u, xs[j]? = some u → w.cell? ((⟨g, 0, none⟩ : Addr).add j) = some u := hown.cells (g := g) rfl
      have hr := Lib.run_append_grow_string (P := P) w t u ty e i (.int .u8 0) ht hu hi hz ⟨g, 0, none⟩ n cap xs (by rw [hsize]; simpa using hown.1) holds s (by omega) (by simp only [maxLen] at h63; omega) (by rw [hby]; exact growslice_fits (by omega) (by omega))
      rw [k1] at hr
      obtain ⟨rfl, _⟩ := ok_inj hr
      right; simp [Value.ownBlock] at hk; omega

theorem strCells_bs (l : List Int) (hl : ∀ x ∈ l, Byte x) : Lib.strCells (bs l) = l.map fun x => Value.int .u8 x := by
  simp only [Lib.strCells, bs, List.map_map]
  refine List.map_congr_left fun x hx => ?_
  simp only [Function.comp]
  rw [byte_back (hl x hx)]
theorem PRep.bytes {S : Nat → Prop} (l : List Int) : PRep S w (.arr l.length (.int .u8)) l (l.map fun x => Value.int .u8 x) := by
  refine ⟨rfl, l.map fun x => [Value.int .u8 x], by simp, ?_, fun i x ec hx hec => ?_⟩
  · induction l with
    | nil => rfl
    | cons x r ih => simp [ih]
  · rw [List.getElem?_map, hx] at hec
    simp at hec; subst hec; rfl
theorem byte_valid {l : List Int} (h : ∀ x ∈ l, Byte x) : ∀ x ∈ l, Valid (.int .u8) x := fun x hx => h x hx

/-- What append does in the machine, onto a row of one's own (or nil). -/
theorem run_append_src {T U e ty : Nat} (hu : P.underlying T = some (.slice e)) {i : TypeInfo} {z : Value} (hi : P.info? e = some i) (hz : i.zero = some z) {te : Ty} (hs : i.size = te.sz) (hzc : z.cells.toList = zcells te) (hz1 : te.isAgg = false → z.oneCell' = true) (h0 : 0 < te.sz)
    {y : Leaf} {yv : Value} {fy : Bool} {m : List te.den} (I : Inv c ι w M) (hl : listOf M te y = some (fy, m)) (hy : LRep c ι w M y [yv]) (hty : cond (isStrL y) (P.underlying U = some .string ∧ i.bytes = 1) (U = T))
    {lb n : Nat} {v : Value} {xs : List Value} (hown : w.ownsRow lb e te.sz v n xs) (hb : (n + m.length) * i.bytes ≤ 140737488355328) (h63 : n + m.length ≤ maxLen) (hbase : lb ≤ w.heap.size) :
    ∃ v' w' news, (Builtin.append_ #[T, U] ty #[v, yv]).run P w = .ok v' w' ∧ w'.ownsRow lb e te.sz v' (n + m.length) (xs ++ news) ∧ w.grownBy w' v.ownBlock ∧ (∀ k, v'.ownBlock = some k → v.ownBlock = some k ∨ w.heap.size ≤ k) ∧
      PRep (SF c ι fy) w (.arr m.length te) m news ∧ (∀ x ∈ m, Valid te x) := by
  cases hstr : isStrL y with
  | false =>
    rw [hstr] at hty
    have hty : U = T := hty
    subst hty
    obtain ⟨⟨b, cap, hv, hcap, hsrc⟩, hval⟩ := listOf_rep I hl hy hstr
    subst hv
    by_cases hm : 0 < m.length
    · obtain ⟨ad, news, rfl, h1, h2⟩ := hsrc hm
      have hlen : news.length = m.length * te.sz := PRep.len _ _ _ h1
      have hzs : z.cells.size = te.sz := by rw [← Array.length_toList, hzc, zcells_len]
      obtain ⟨v', w', k1, k2, k3, _, k5⟩ := run_append_own_at (P := P) w lb U ty e i z te.sz i.bytes hu hi hz hs rfl hzs h0 v n xs hown ad m.length cap news hlen h2 (PRep.one _ _ _ h1) h63 hb hbase
      exact ⟨v', w', news, k1, k2, k3, fun k hk => k5.elim (fun h => .inl (h ▸ hk)) (fun h => .inr (by rw [h] at hk; cases hk; exact Nat.le_refl _)), h1, hval.1⟩
    · have hm0 : m.length = 0 := by omega
      have hm1 : m = [] := List.eq_nil_of_length_eq_zero hm0
      subst hm1
      refine ⟨v, w, [], ?_, by simpa using hown, ⟨rfl, rfl, rfl, Nat.le_refl _, fun _ _ _ => rfl⟩, fun k hk => .inl hk, PRep.arr_nil, fun x hx => by cases hx⟩
      rcases hown.2 with ⟨rfl, _⟩ | ⟨g, cp, cur, rfl, _, _, hnc, _⟩
      · cases b <;> simp [Builtin.append_, run_underlying hu, sizeOf, typeInfo, hi, Builtin.lenOf, Builtin.firstCells, loadCells, loadCellsFrom]
      · cases b <;> simp [Builtin.append_, run_underlying hu, sizeOf, typeInfo, hi, Builtin.lenOf, Builtin.firstCells, hnc, storeCells, loadCells, loadCellsFrom]
  | true =>
    rw [hstr] at hty
    obtain ⟨hU, hby⟩ := (hty : _ ∧ _)
    cases y <;> simp only [isStrL, Bool.false_eq_true] at hstr
    rename_i l
    obtain ⟨hv, hval⟩ := hy
    have hv : yv = .string (bs l) := by simpa using hv
    subst hv
    simp only [listOf] at hl
    split at hl
    case h_2 => cases hl
    cases hl
    have hs1 : i.size = 1 := hs
    have hz2 : i.zero = some (.int .u8 0) := by
      have h1 := hz1 rfl
      rw [hz]
      cases z <;> first | (simp [Value.oneCell'] at h1; done) | (simp [Value.cells, zcells] at hzc ⊢ <;> first | exact hzc | exact absurd hzc (by simp))
    obtain ⟨v', w', k1, k2, k3, k4⟩ := run_append_str_at (P := P) (ty := ty) hu hU hi hz2 hs1 hby hown (bs l) (by rw [bs_size]; exact h63) (by rw [bs_size]; rw [hby, Nat.mul_one] at hb; exact hb) hbase
    rw [strCells_bs l hval.1, bs_size] at k2
    exact ⟨v', w', _, k1, k2, k3, k4, PRep.bytes l, byte_valid hval.1⟩

theorem exec_append {x y : Operand} {T U : Nat} {cl : Call} (ho : o.op = .call cl) (hc : cl.callee = .builtin .append) (ha : cl.args.toList = [x, y]) (ht : cl.argTypes.toList = [T, U]) {v : Value} {w' : World}
    (hr : (Builtin.append_ #[T, U] o.type #[act.eval x, act.eval y]).run P w = .ok v w') : (execOp act.eval o).run P w = .ok (.value v) w' := by
  obtain ⟨ce, as, ts⟩ := cl
  have ha' : as = #[x, y] := by apply Array.ext'; simpa using ha
  have ht' : ts = #[T, U] := by apply Array.ext'; simpa using ht
  have hc' : ce = .builtin .append := hc
  subst ha' ht' hc'
  simp [execOp, ho, resolve, invoke, builtin, hr, Result.andThen]

theorem PRep.flat {S S' : Nat → Prop} {w : World} : ∀ (t : Ty) (x : t.den) (cs : List Value), flatT t = true → PRep S w t x cs → PRep S' w t x cs
  | .int _, _, _, _, h => h
  | .bool, _, _, _, h => h
  | .str, _, _, _, h => h
  | .unit, _, _, _, h => h
  | .slice _, _, _, hf, _ => by cases hf
  | .arr n e, l, cs, hf, ⟨h1, ess, h2, h3, h4⟩ => ⟨h1, ess, h2, h3, fun i x ec hx he => PRep.flat e x ec hf (h4 i x ec hx he)⟩
  | .pair a b, x, cs, hf, ⟨c1, c2, h1, h2, h3⟩ => by
    simp only [flatT, Bool.and_eq_true] at hf
    exact ⟨c1, c2, h1, PRep.flat a x.1 c1 hf.1 h2, PRep.flat b x.2 c2 hf.2 h3⟩
theorem flat_rep {fy : Bool} {n : Nat} {te : Ty} {m : List te.den} {cs : List Value} (h : PRep (SF c ι fy) w (.arr n te) m cs) : PRep (SF c ι (fy || flatT te)) w (.arr n te) m cs := by
  cases hf : flatT te with
  | false => rw [Bool.or_false]; exact h
  | true => exact PRep.flat (.arr n te) m cs hf h
theorem evAppend_sound (tab : TabOk P cfg) (I : Inv c ι w M) {nid T U : Nat} (hid : M.get nid = none) {x y : Operand} {cl : Call} (ho : o.op = .call cl) (hc : cl.callee = .builtin .append) (ha : cl.args.toList = [x, y]) (ht : cl.argTypes.toList = [T, U])
    {lx ly : Leaf} (hx : LRep c ι w M lx [act.eval x]) (hy : LRep c ι w M ly [act.eval y]) {ef : Eff} (h : evAppend cfg M nid T U lx ly = some ef) (hp : ∀ p ∈ ef.pre, p) : OpWp P c ι w M act o ef.sv ef.upd := by
  unfold evAppend at h
  split at h
  · rename_i e tsz tby tty hT
    split at h
    · rename_i ed esz bytes te he
      cases hcond : (Nat.blt 0 te.sz && cond (isStrL ly) (isStr cfg U && Nat.beq bytes 1) (Nat.beq U T)) with
      | false => rw [hcond] at h; cases h
      | true =>
        rw [hcond] at h
        simp only [cond_true] at h
        simp only [Bool.and_eq_true] at hcond
        have h0 : 0 < te.sz := by simpa using hcond.1
        obtain ⟨d, i', hu, _, _, _, h3, _⟩ := (tab T _ hT).ex
        have hu : P.underlying T = some (.slice e) := by rw [hu, show d = _ from h3]
        obtain ⟨z, hz, hzc, i, hi, hiz, his, hiby, hz1⟩ := zero_run (tab e _ he) rfl
        obtain ⟨_, _, _, _, _, _, _, _, h7⟩ := (tab e _ he).ex
        obtain ⟨h8, _, _⟩ := h7 te rfl
        have hisz : i.size = te.sz := by rw [his, h8]
        have hiby : i.bytes = bytes := hiby
        have hty : cond (isStrL ly) (P.underlying U = some .string ∧ i.bytes = 1) (U = T) := by
          have h2 := hcond.2
          cases hs : isStrL ly with
          | true =>
            rw [hs] at h2
            simp only [cond_true, Bool.and_eq_true] at h2
            exact ⟨isStr_ok tab h2.1, by rw [hiby]; exact Nat.eq_of_beq_eq_true h2.2⟩
          | false =>
            rw [hs] at h2
            exact Nat.eq_of_beq_eq_true h2
        cases hl : listOf M te ly with
        | none => rw [hl] at h; cases h
        | some fm =>
          obtain ⟨fy, m⟩ := fm
          rw [hl] at h
          simp only at h
          cases lx <;> simp only at h <;> first | (cases h; done) | skip
          case nils =>
            cases h
            have hxv : act.eval x = .slice none 0 0 := by simpa [LRep] using hx
            have p1 := hp (m.length * bytes ≤ 140737488355328) (by simp)
            have p2 := hp (m.length ≤ maxLen) (by simp)
            obtain ⟨v', w', news, k1, k2, k3, k4, k5, k6⟩ := run_append_src (T := T) (U := U) (ty := o.type) (P := P) hu hi hiz hisz hzc hz1 h0 I hl hy hty (World.ownsRow_nil w w.heap.size e te.sz) (by rw [Nat.zero_add, hiby]; exact p1) (by rw [Nat.zero_add]; exact p2) (Nat.le_refl _)
            have k5 := flat_rep k5
            rw [← hxv] at k1
            obtain ⟨ι', I', x', hv'⟩ := Inv.grown I hid (fun k hk => by simp [Value.ownBlock] at hk) k2 k3 k4 (fr := fy || flatT te) (L := m) (by cases (fy || flatT te) <;> simp [I.kept.size]) (by simpa using k5) (by omega) ⟨k6, p2⟩
            exact OpWp.of_run (exec_append ho hc ha ht k1) I' x' (SVRep.one (own_rep (Store.get_set_same ..) hv'))
          case own id =>
            cases hm : M.get id with
            | none => rw [hm] at h; cases h
            | some en =>
              rw [hm] at h
              cases en <;> first | (simp only at h; cases h; done) | skip
              rename_i e' t fr ap l
              cases ap <;> simp only at h <;> first | (cases h; done) | skip
              split at h
              · rename_i htt
                subst htt
                cases hee : Nat.beq e' e with
                | false => rw [hee] at h; cases h
                | true =>
                  rw [hee] at h
                  have hee : e' = e := Nat.eq_of_beq_eq_true hee
                  subst hee
                  cases h
                  have p1 := hp ((l.length + m.length) * bytes ≤ 140737488355328) (by simp)
                  have p2 := hp (l.length + m.length ≤ maxLen) (by simp)
                  have hxv : act.eval x = .slice (ι.base id) l.length (ι.cap id) := by simpa [LRep, hm] using hx
                  obtain ⟨xs, q1, q2, q3⟩ := I.ents id _ hm
                  have hown : w.ownsRow (cond fr c.w0.heap.size 0) e' t.sz (act.eval x) l.length xs := by
                    refine ⟨q3.1, ?_⟩
                    rcases q3.2 with ⟨hb, hcp, hn, _⟩ | ⟨g, cur, fz, hb, hlb, hg, hfz, _, hnc, hcm, hcs, htk⟩
                    · exact .inl ⟨by rw [hxv, hb, hcp, hn], hn⟩
                    · have := hfz rfl; subst this
                      exact .inr ⟨g, ι.cap id, cur, by rw [hxv, hb], hlb, hg, hnc, hcm, hcs, htk⟩
                  obtain ⟨v', w', news, k1, k2, k3, k4, k5, k6⟩ := run_append_src (T := T) (U := U) (ty := o.type) (P := P) hu hi hiz hisz hzc hz1 h0 I hl hy hty hown (by rw [hiby]; exact p1) p2 (by cases fr <;> simp [I.kept.size])
                  have k5 := flat_rep k5
                  generalize (fy || flatT t) = fy at k5
                  obtain ⟨I1, x1, hfr⟩ := I.kill hm
                  have hne : nid ≠ id := fun hh => by rw [hh, hm] at hid; cases hid
                  have hid1 : (M.set id .dead).get nid = none := by rw [Store.get_set_other _ _ _ _ hne]; exact hid
                  have hob : (act.eval x).ownBlock = ι.blk id := by
                    rw [hxv]
                    cases hb : ι.base id with
                    | none => simp [Value.ownBlock, Gh.blk, hb]
                    | some a => simp [Value.ownBlock, Gh.blk, hb]
                  obtain ⟨ι', I', x', hv'⟩ := Inv.grown I1 hid1 (fun k hk => hfr rfl k (by rw [← hob]; exact hk)) k2 k3 k4 (fr := fr && fy) (L := l ++ m) (by cases fr <;> cases fy <;> simp)
                    (PRep.arr_append (PRep.mono (SF.weak (fun hb => by simp only [Bool.and_eq_true] at hb; exact hb.1)) (fun _ _ => rfl) _ _ _ q1) (PRep.mono (SF.weak (fun hb => by simp only [Bool.and_eq_true] at hb; exact hb.2)) (fun _ _ => rfl) _ _ _ k5))
                    (by simp) ⟨fun z hz => (List.mem_append.1 hz).elim (q2.1 z) (k6 z), by rw [List.length_append]; exact p2⟩
                  exact OpWp.of_run (exec_append ho hc ha ht k1) I' (x1.trans x') (SVRep.one (own_rep (Store.get_set_same ..) hv'))
              · cases h
    · cases h
  · cases h
end
end Go.Vc
