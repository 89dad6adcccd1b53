/- From a summary of a law's function to the given statement's step: arguments as they come in are plain data. -/
import Derived.Test.YtddakledpipanaaVcRet
import Derived.WalkKit
import Derived.ProofKit
import Derived.OpenShut
import Derived.ShutString
import Derived.ChangeOld
import Derived.SizedLaws
import Derived.Carry
set_option linter.unusedSimpArgs false
set_option linter.unusedVariables false
namespace Go.Vc
open Go.ChangeShapes Go.WideShapes Go.ChangeAt Go.RowKit
open Go.ChangeMaps (open_string)

/-- A struct's fields are those of a type. -/
def fieldsB (P : Program) (r : TypeId → Ty → Bool) : List Field → Nat → Ty → Bool
  | [], _, y => match y with
    | .unit => true
    | _ => false
  | [f], off, y => (match y with
      | .pair a .unit => Nat.beq f.offset off && Nat.beq (P.cellsOf f.type) a.sz && r f.type a
      | _ => false) || (Nat.beq f.offset off && Nat.beq (P.cellsOf f.type) y.sz && r f.type y)
  | f :: g :: l, off, y => match y with
    | .pair a b => Nat.beq f.offset off && Nat.beq (P.cellsOf f.type) a.sz && r f.type a && fieldsB P r (g :: l) (off + a.sz) b
    | _ => false
/-- The program's type is this type of plain data. -/
def tyB (P : Program) : Nat → TypeId → Ty → Bool
  | 0, _, _ => false
  | n + 1, T, y => match P.underlying T, y with
    | some .bool, .bool => true
    | some (.int k), .int k' => k == k'
    | some .string, .str => true
    | some (.slice e), .slice t => Nat.beq (P.cellsOf e) t.sz && (Nat.blt 0 t.sz && Nat.blt 0 (P.bytesOf e)) && tyB P n e t
    | some (.array m e), .arr m' t => Nat.beq m m' && Nat.beq (P.cellsOf e) t.sz && Nat.beq (P.cellsOf T) (m * t.sz) && tyB P n e t
    | some (.struct fs), y => Nat.beq (P.cellsOf T) y.sz && fieldsB P (tyB P n) fs.toList 0 y && y.isAgg
    | _, _ => false

/-- Nothing is longer than a machine's memory. -/
def Short : (t : Ty) → t.den → Prop
  | .int _, _ => True
  | .bool, _ => True
  | .str, l => l.length ≤ reachBytes
  | .unit, _ => True
  | .slice e, l => (∀ x ∈ l, Short e x) ∧ l.length ≤ reachBytes
  | .arr _ e, l => ∀ x ∈ l, Short e x
  | .pair a b, x => Short a x.1 ∧ Short b x.2
theorem weightsAll_mem {H : Type} {P : Program} {e : TypeId} {d : DataW H} {n : Nat} : ∀ {l : List (DataW H)}, d ∈ l → n ∈ d.weights P e → n ∈ DataW.weightsAll P e l
  | [], h, _ => by cases h
  | x :: r, h, hn => by
    rw [DataW.weightsAll, List.mem_append]
    rcases List.mem_cons.1 h with rfl | h
    · exact .inl hn
    · exact .inr (weightsAll_mem h hn)

theorem block_lt {w : World} {a : Addr} {v : Value} (h : w.cell? a = some v) : a.block < w.heap.size := by
  rcases Nat.lt_or_ge a.block w.heap.size with h1 | h1
  · exact h1
  · have : w.heap[a.block]? = none := Array.getElem?_eq_none h1
    simp [World.cell?, this] at h
theorem list_of {α : Type} {p : Nat → α → Prop} : ∀ (n : Nat), (∀ i, i < n → ∃ x, p i x) → ∃ l : List α, l.length = n ∧ ∀ (i : Nat) x, l[i]? = some x → p i x
  | 0, _ => ⟨[], rfl, fun i x h => by simp at h⟩
  | n + 1, h => by
    obtain ⟨l, h1, h2⟩ := list_of n fun i hi => h i (by omega)
    obtain ⟨y, hy⟩ := h n (by omega)
    refine ⟨l ++ [y], by simp [h1], fun i x hx => ?_⟩
    by_cases hi : i < l.length
    · rw [List.getElem?_append_left hi] at hx; exact h2 i x hx
    · rw [List.getElem?_append_right (by omega)] at hx
      have : i - l.length = 0 := by
        rcases Nat.eq_zero_or_pos (i - l.length) with h0 | h0
        · exact h0
        · rw [List.getElem?_eq_none (by simp only [List.length_singleton]; omega)] at hx; cases hx
      rw [this] at hx
      simp at hx
      subst hx
      rw [show i = n by omega]; exact hy

section
variable {H : Type} {enc : TypeId × Value → H} {P : Program} {w : World} {sp : Nat → Bool} {held : Bool}

abbrev Old (w : World) : Nat → Prop := fun b => b < w.heap.size

theorem fields_rep {r : TypeId → Ty → Bool} {cs : List Value} (hr : ∀ T y, r T y = true → ∀ fuel ds x, DataW.trod enc P w 0 sp held fuel T ds = some x → ∃ v : y.den, PRep (Old w) w y v ds ∧ Valid y v ∧ ((∀ n ∈ x.1.weights P T, n ≤ reachBytes) → Short y v)) {B : Prop} :
    ∀ (l : List Field) (off : Nat) (y : Ty), fieldsB P r l off y = true → off + y.sz = cs.length → (∀ (f : Field), f ∈ l → ∃ fuel x, DataW.trod enc P w 0 sp held fuel f.type ((cs.drop f.offset).take (P.cellsOf f.type)) = some x ∧ (B → ∀ n ∈ x.1.weights P f.type, n ≤ reachBytes)) →
      ∃ v : y.den, PRep (Old w) w y v (cs.drop off) ∧ Valid y v ∧ (B → Short y v)
  | [], off, y, h, hl, _ => by
    unfold fieldsB at h
    split at h
    · refine ⟨(), ?_, trivial, fun _ => trivial⟩
      show cs.drop off = []
      exact List.drop_eq_nil_of_le (by simp only [Ty.sz] at hl; omega)
    · cases h
  | [f], off, y, h, hl, hf => by
    unfold fieldsB at h
    rw [Bool.or_eq_true] at h
    obtain ⟨fuel, x, hx, hB⟩ := hf f (by simp)
    rcases h with h | h
    · split at h
      · rename_i a
        simp only [Bool.and_eq_true] at h
        obtain ⟨⟨h1, h2⟩, h3⟩ := h
        have h1 := Nat.eq_of_beq_eq_true h1
        have h2 := Nat.eq_of_beq_eq_true h2
        rw [h1, h2] at hx
        obtain ⟨v, k1, k2, kB⟩ := hr _ _ h3 _ _ _ hx
        refine ⟨(v, ()), ⟨(cs.drop off).take a.sz, [], ?_, k1, rfl⟩, ⟨k2, trivial⟩, fun b => ⟨kB (hB b), trivial⟩⟩
        rw [List.append_nil, List.take_of_length_le]
        simp only [Ty.sz] at hl
        rw [List.length_drop]; omega
      · cases h
    · simp only [Bool.and_eq_true] at h
      obtain ⟨⟨h1, h2⟩, h3⟩ := h
      have h1 := Nat.eq_of_beq_eq_true h1
      have h2 := Nat.eq_of_beq_eq_true h2
      rw [h1, h2] at hx
      obtain ⟨v, k1, k2, kB⟩ := hr _ _ h3 _ _ _ hx
      refine ⟨v, ?_, k2, fun b => kB (hB b)⟩
      rw [List.take_of_length_le] at k1
      · exact k1
      · rw [List.length_drop]; omega
  | f :: g :: l, off, y, h, hl, hf => by
    unfold fieldsB at h
    split at h
    · rename_i a b
      simp only [Bool.and_eq_true] at h
      obtain ⟨⟨⟨h1, h2⟩, h3⟩, h4⟩ := h
      have h1 := Nat.eq_of_beq_eq_true h1
      have h2 := Nat.eq_of_beq_eq_true h2
      obtain ⟨fuel, x, hx, hB⟩ := hf f (by simp)
      rw [h1, h2] at hx
      obtain ⟨v, k1, k2, kB⟩ := hr _ _ h3 _ _ _ hx
      obtain ⟨v', k3, k4, k5⟩ := fields_rep hr (g :: l) (off + a.sz) b h4 (by simp only [Ty.sz] at hl; omega) (fun f' hf' => hf f' (List.mem_cons_of_mem _ hf'))
      refine ⟨(v, v'), ⟨_, _, ?_, k1, k3⟩, ⟨k2, k4⟩, fun b => ⟨kB (hB b), k5 b⟩⟩
      rw [← List.drop_drop, List.take_append_drop]
    · cases h

theorem trod_rep : ∀ (n : Nat) (T : TypeId) (y : Ty), tyB P n T y = true → ∀ fuel cs x, DataW.trod enc P w 0 sp held fuel T cs = some x → ∃ v : y.den, PRep (Old w) w y v cs ∧ Valid y v ∧ ((∀ n ∈ x.1.weights P T, n ≤ reachBytes) → Short y v)
  | 0, T, y, h => by cases h
  | n + 1, T, y, h => by
    intro fuel cs x hx
    unfold tyB at h
    split at h
    · rename_i ht
      obtain ⟨b, rfl, _⟩ := DataW.trod_bool ht hx
      exact ⟨b, rfl, trivial, fun _ => trivial⟩
    · rename_i k k' ht
      have hk : k = k' := by simpa using h
      subst hk
      obtain ⟨m, rfl, _, hw⟩ := DataW.trod_int ht hx
      refine ⟨m, rfl, ?_, fun _ => trivial⟩
      simpa [Lit.wf, Valid] using hw
    · rename_i ht
      obtain ⟨s, rfl, rfl, hs⟩ := DataW.trod_string ht hx
      refine ⟨s.data.toList.map fun b => (b.toNat : Int), ?_, ⟨fun z hz => ?_, ?_⟩, fun h => ?_⟩
      · show _ = _
        rw [bs_back]
      · obtain ⟨b, _, rfl⟩ := List.mem_map.1 hz
        have := b.toNat_lt
        exact ⟨by omega, by omega⟩
      · rw [List.length_map, Array.length_toList]; exact hs
      · show List.length _ ≤ _
        rw [List.length_map]
        exact h _ (by simp [DataW.weights])
    · rename_i e t ht
      simp only [Bool.and_eq_true] at h
      obtain ⟨⟨h1, h2, hby⟩, h3⟩ := h
      have h1 := Nat.eq_of_beq_eq_true h1
      have h2 : 0 < t.sz := by simpa [Nat.blt_eq] using h2
      have hby : 0 < P.bytesOf e := by simpa [Nat.blt_eq] using hby
      rcases DataW.trod_slice ht hx with ⟨rfl, _⟩ | ⟨a, len, cap, elems, rest, m, _, rfl, rfl, _, hlc, hcm, hel, hget, _⟩
      · exact ⟨[], PRep.nil_slice _ _ _, Valid.nil _, fun _ => ⟨fun _ h => by (cases h), Nat.zero_le _⟩⟩
      · have each : ∀ i, i < len → ∃ v : t.den, ∃ ecs, PRep (Old w) w t v ecs ∧ Valid t v ∧ At (Old w) w (a.add (i * t.sz)) ecs ∧ ((∀ n ∈ (DataW.slice (elems.map (·.1)) (rest.map (·.1))).weights P T, n ≤ reachBytes) → Short t v) := by
          intro i hi
          have := hget i hi
          rw [List.getElem?_eq_getElem (by omega), Option.bind_eq_some_iff] at this
          obtain ⟨ecs, k1, k2⟩ := this
          rw [h1] at k1
          obtain ⟨_, k3, k4⟩ := World.cells?_some k1
          obtain ⟨v, k5, k6, k7⟩ := trod_rep n e t h3 _ _ _ k2
          refine ⟨v, ecs, k5, k6, ⟨?_, fun j u hu => ?_⟩, fun hw => k7 fun m hm => hw m ?_⟩
          · have h0 := k4 0 h2
            rw [List.getElem?_eq_getElem (by omega)] at h0
            have := block_lt h0
            have hb : ((a.add (i * t.sz)).add 0).block = (a.add (i * t.sz)).block := by unfold Addr.add; split <;> rfl
            rw [hb] at this; exact this
          · have hj := (List.getElem?_eq_some_iff.1 hu).1
            rw [k4 j (by omega), hu]
          · simp only [DataW.weights, ht, List.mem_cons, List.mem_append]
            exact .inr (.inl (weightsAll_mem (List.mem_map_of_mem (List.getElem_mem (by omega))) hm))
        obtain ⟨l, hl1, hl2⟩ := list_of len each
        refine ⟨l, ⟨some a, len, cap, rfl, hl1, hlc, fun h0 => ⟨a, rfl, fun i v hv => ?_⟩⟩, ⟨fun v hv => ?_, ?_⟩, fun hw => ⟨fun v hv => ?_, ?_⟩⟩
        · obtain ⟨ecs, q1, _, q3, _⟩ := hl2 i v hv
          exact ⟨ecs, q1, q3⟩
        · obtain ⟨i, hi, rfl⟩ := List.getElem_of_mem hv
          obtain ⟨ecs, _, q2, _⟩ := hl2 i _ (List.getElem?_eq_getElem hi)
          exact q2
        · rw [hl1]; omega
        · obtain ⟨i, hi, rfl⟩ := List.getElem_of_mem hv
          obtain ⟨ecs, _, _, _, q4⟩ := hl2 i _ (List.getElem?_eq_getElem hi)
          exact q4 hw
        · have := hw (((elems.map (·.1)).length + (rest.map (·.1)).length) * P.bytesOf e) (by simp [DataW.weights, ht])
          rw [List.length_map, hel] at this
          rw [hl1]
          exact Nat.le_trans (Nat.le_trans (Nat.le_add_right _ _) (Nat.le_mul_of_pos_right _ hby)) this
    · rename_i m e m' t ht
      simp only [Bool.and_eq_true] at h
      obtain ⟨⟨⟨h0, h1⟩, h2⟩, h3⟩ := h
      have h0 := Nat.eq_of_beq_eq_true h0
      have h1 := Nat.eq_of_beq_eq_true h1
      have h2 := Nat.eq_of_beq_eq_true h2
      subst h0
      obtain ⟨xs, f, _, rfl, hlen, hxl, hget⟩ := DataW.trod_array ht hx
      have each : ∀ i, i < m → ∃ v : t.den, PRep (Old w) w t v ((cs.drop (i * t.sz)).take t.sz) ∧ Valid t v ∧ ((∀ n ∈ (DataW.agg (xs.map (·.1))).weights P T, n ≤ reachBytes) → Short t v) := by
        intro i hi
        have := hget i hi
        rw [List.getElem?_eq_getElem (by omega), h1] at this
        obtain ⟨v, k1, k2, k3⟩ := trod_rep n e t h3 _ _ _ this
        refine ⟨v, k1, k2, fun hw => k3 fun q hq => hw q ?_⟩
        simp only [DataW.weights, ht]
        exact weightsAll_mem (List.mem_map_of_mem (List.getElem_mem (by omega))) hq
      obtain ⟨l, hl1, hl2⟩ := list_of m each
      refine ⟨l, ⟨hl1, (List.range m).map fun i => (cs.drop (i * t.sz)).take t.sz, by simp, ?_, fun i v ec hv he => ?_⟩, ⟨fun v hv => ?_, hl1⟩, fun hw v hv => ?_⟩
      · exact chunks m t.sz cs (by rw [hlen, h2])
      · have hi := (List.getElem?_eq_some_iff.1 hv).1
        rw [List.getElem?_map, List.getElem?_range (by omega)] at he
        cases he
        exact (hl2 i v hv).1
      · obtain ⟨i, hi, rfl⟩ := List.getElem_of_mem hv
        exact (hl2 i _ (List.getElem?_eq_getElem hi)).2.1
      · obtain ⟨i, hi, rfl⟩ := List.getElem_of_mem hv
        exact (hl2 i _ (List.getElem?_eq_getElem hi)).2.2 hw
    · rename_i fs ht
      simp only [Bool.and_eq_true] at h
      obtain ⟨⟨h1, h2⟩, _⟩ := h
      have h1 := Nat.eq_of_beq_eq_true h1
      obtain ⟨xs, f, _, rfl, hlen, hxl, hget⟩ := DataW.trod_struct ht hx
      have := fields_rep (cs := cs) (B := ∀ n ∈ (DataW.agg (xs.map (·.1))).weights P T, n ≤ reachBytes) (fun T y hr => trod_rep n T y hr) fs.toList 0 _ h2 (by omega) (fun fl hfl => by
        obtain ⟨i, hi, rfl⟩ := List.getElem_of_mem hfl
        have hi' : i < fs.size := by simpa using hi
        have := hget i fs[i] (Array.getElem?_eq_getElem hi')
        rw [List.getElem?_eq_getElem (by omega)] at this
        refine ⟨_, _, by simpa using this, fun hw q hq => hw q ?_⟩
        simp only [DataW.weights, ht]
        exact DataW.weights_mem_each (j := i) (t := fs.toList[i].type) (by simp [hi']) (by rw [List.getElem?_map, List.getElem?_eq_getElem (by omega)]; rfl) q (by simpa using hq))
      simpa using this
    · cases h
where
  chunks (m sz : Nat) (cs : List Value) (h : cs.length = m * sz) : cs = ((List.range m).map fun i => (cs.drop (i * sz)).take sz).flatten := by
    induction m generalizing cs with
    | zero => simp at h; simp [h]
    | succ m ih =>
      rw [List.range_succ_eq_map, List.map_cons, List.flatten_cons, List.map_map]
      have := ih (cs.drop sz) (by rw [List.length_drop, h, Nat.succ_mul]; omega)
      rw [Nat.zero_mul, List.drop_zero]
      conv => lhs; rw [← List.take_append_drop sz cs, this]
      congr 3
      funext i
      show _ = List.take sz (List.drop ((i + 1) * sz) cs)
      rw [List.drop_drop, Nat.succ_mul, Nat.add_comm]

theorem arg_rep {n : Nat} {T : TypeId} {y : Ty} (h : tyB P n T y = true) {v : Value} {d : DataW H} {p : List MemPlace} {base : Nat} (hok : Value.okWide P w .any base T v) (ht : DataW.Trod enc P w 0 sp held T v d p) :
    ∃ x : y.den, ARep (Old w) w y x v ∧ ((∀ n ∈ d.weights P T, n ≤ reachBytes) → Short y x) := by
  have ht' := ht
  obtain ⟨fuel, hf⟩ := ht
  obtain ⟨x, h1, h2, h3⟩ := trod_rep n T y h _ _ _ hf
  refine ⟨x, ⟨⟨v.cells.toList, h1, ?_⟩, h2⟩, h3⟩
  cases n with
  | zero => cases h
  | succ n =>
    unfold tyB at h
    split at h
    · rename_i hu; obtain ⟨b, rfl, _⟩ := open_bool hu hok ht'; rfl
    · rename_i k k' hu; obtain ⟨b, rfl, _⟩ := open_int hu hok ht'; rfl
    · rename_i hu; obtain ⟨b, rfl, _⟩ := open_string hu hok ht'; rfl
    · rename_i e t hu; obtain ⟨a, l, c, rfl⟩ := okWide_slice hu hok; rfl
    · rename_i m e m' t hu
      simp only [Value.okWide, hu] at hok
      obtain ⟨cs, rfl, _⟩ := hok
      simp [Ty.isAgg, Value.cells]
    · rename_i fs hu
      simp only [Bool.and_eq_true] at h
      simp only [Value.okWide, hu] at hok
      obtain ⟨cs, rfl, _⟩ := hok
      rw [h.2]
      simp [Value.cells]
    · cases h

def tysB (P : Program) : List TypeId → List Ty → Bool
  | [], [] => true
  | T :: r, y :: s => tyB P 24 T y && P.readableRec T && Nat.blt T P.types.size && tysB P r s
  | _, _ => false
def ShortL : (ts : List Ty) → DenL ts → Prop
  | [], _ => True
  | [t], x => Short t x
  | t :: u :: r, x => Short t x.1 ∧ ShortL (u :: r) x.2
theorem args_rep {base : Nat} (hl : laidOutB P = true) : ∀ {Ts : List TypeId} {ts : List Ty} {vs : List Value} {ds : List (DataW H)} {p : List MemPlace}, tysB P Ts ts = true → (∀ (j : Nat) t v, Ts[j]? = some t → vs[j]? = some v → Value.okWide P w .any base t v) →
    DataW.TrodAll enc P w 0 (fun _ => true) true Ts vs ds p → (∃ x : DenL ts, ArgsRep (Old w) w ts x vs ∧ ((∀ n ∈ DataW.weightsEach P Ts ds, n ≤ reachBytes) → ShortL ts x)) ∧ ds.length = ts.length ∧
      ∀ w', Below w.heap.size w w' → ∃ p', DataW.TrodAll enc P w' 0 (fun b => decide (b < w.heap.size)) true Ts vs ds p' := by
  intro Ts
  induction Ts with
  | nil =>
    intro ts vs ds p h _ ht
    cases ts with
    | cons _ _ => cases h
    | nil =>
      obtain ⟨rfl, rfl, rfl⟩ := trodAll_nil ht
      exact ⟨⟨(), rfl, fun _ => trivial⟩, rfl, fun _ _ => ⟨[], rfl⟩⟩
  | cons T Tr ih =>
    intro ts vs ds p h hok ht
    cases ts with
    | nil => cases h
    | cons t r =>
      simp only [tysB, Bool.and_eq_true] at h
      obtain ⟨⟨⟨h1, h2⟩, h3⟩, h4⟩ := h
      obtain ⟨v, vs', d, ds', p1, q, rfl, rfl, rfl, k1, k2⟩ := trodAll_cons ht
      have hok0 := hok 0 T v rfl rfl
      obtain ⟨x, hx, hs⟩ := arg_rep h1 hok0 k1
      obtain ⟨⟨x', hx', hs'⟩, hl', hb'⟩ := ih h4 (fun j t v hj hv => hok (j + 1) t v (by simpa using hj) (by simpa using hv)) k2
      refine ⟨?_, by simp [hl'], fun w' hb => ?_⟩
      · cases r with
        | nil =>
          have hx' : vs' = [] := hx'
          subst hx'
          exact ⟨x, ⟨v, rfl, hx⟩, fun hw => hs fun n hn => hw n (by rw [DataW.weightsEach, List.mem_append]; exact .inl hn)⟩
        | cons u r => exact ⟨(x, x'), ⟨v, vs', rfl, hx, hx'⟩, fun hw => ⟨hs fun n hn => hw n (by rw [DataW.weightsEach, List.mem_append]; exact .inl hn), hs' fun n hn => hw n (by rw [DataW.weightsEach, List.mem_append]; exact .inr hn)⟩⟩
      · obtain ⟨p', hp'⟩ := hb' w' hb
        have lt : ∀ y ∈ p1, y.block < w.heap.size := by obtain ⟨m, hm⟩ := k1; exact DataW.trod_lt m _ _ _ hm
        exact ⟨_, trodAll_cons_mk (Below.trod hl h2 (by simpa [Nat.blt_eq] using h3) k1 hb lt) hp'⟩
end

/-- A call that comes back with R. -/
theorem Does.calls {P : Program} {f : Nat} {fn : Func} {b : Code} {args : Array Value} {w : World} {R : Value → World → Prop} (hf : P.funcs[f]? = some fn) (hn : (fn.name == "runtime.NumGoroutine") = false) (hb : fn.body = some b)
    (h : Does P f args w R) : Calls P f args w fun e w' => ∃ v, e = .returned v ∧ R v w' := by
  have h1 := h { dst := some 0, op := .move (.const undef), type := 0, pos := default, after := #[], guard := none } ⟨#[undef], []⟩ (fun a' w' => ∃ v, R v w' ∧ a' = ⟨#[v], []⟩) (fun _ _ _ => False) (fun v w' hv => ⟨v, hv, rfl⟩)
  have hr : (callFunc f args).run P w = .ok (.enter f args) w := by
    have h1 : fn.name ≠ "runtime.NumGoroutine" := by simpa using hn
    simp [callFunc, run_program, hf, h1, hb]
  rw [hr, Oper.upon_enter] at h1
  refine Calls.mono h1 fun e w' he => ?_
  cases e with
  | returned v =>
    obtain ⟨u, hu, e⟩ := he
    have : v = u := by
      have e := congrArg Act.tmps e
      simpa [Act.put] using e
    subst this
    exact ⟨v, rfl, hu⟩
  | panicked _ => exact he.elim
  | outgrown => obtain ⟨_, _, h⟩ := he; exact h.elim

def sayTrue (ts : List Ty) : DenL ts → Done := fun x => ⟨[ShortL ts x], .one (.bool true), [], []⟩

/-- The given statement's step, from the law's summary: it says true of all plain data. -/
theorem law_step {C : Checked} {f : FuncId} {fn : Func} {s : ChangeSpec} {T : TypeId} {conds : List PathCond} (ts : List Ty) (own : ownKnob C.prog.godebug = none) (noInit : C.prog.inits.idxOf? f = none) (hfn : C.prog.funcs[f]? = some fn)
    (hname : (fn.name == "runtime.NumGoroutine") = false) (hbody : fn.body.isSome = true) (laid : laidOutB C.prog = true) (hvars : s.vars = []) (hty : tysB C.prog fn.params.toList ts = true) (hres : fn.resultTypes = #[T]) (hT : C.prog.underlying T = some .bool)
    (hspec : ∀ (H : Type) (ds : List (DataW H)), ds.length = ts.length → s.fn H ds = { results := [.lit (.bool true)], args := ds })
    (P : PureOk C.prog f ts (sayTrue ts)) (os : Os) (started : os.Started) (H : Type) (enc : TypeId × Value → H)
    (witness : ∃ (w : World) (tape : Tape) (i : Input), w.os = os ∧ (w.forCall tape i).Shaped C.prog ∧ i.vars = [] ∧ Input.okWide C.prog (w.forCall tape i) .any w.heap.size f i ∧
      s.pre6 enc C.prog fn conds false (w.forCall tape i).memory i.args ∧ Assume.holds {} C.prog (lone (Frame.enter C.prog f i.args .normal) [] (w.forCall tape i))) :
    ReturnsInHanded {} C os f .any (s.pre6 enc C.prog fn conds false) (s.post enc C.prog fn false true false false) := by
  obtain ⟨b, hbody⟩ := Option.isSome_iff_exists.1 hbody
  refine returnsInHanded_of_change_sized (C := C) own started noInit hfn witness ?_
  intro W base args ds gs before hval hW _ hsz _
  have hW' := hW
  obtain ⟨p, q, hA, hV, _⟩ := hW
  rw [hvars] at hV
  obtain ⟨rfl, rfl⟩ := trodVars_none hV
  rw [List.append_nil] at hsz
  obtain ⟨⟨x, hx, hshort⟩, hlen, hback⟩ := args_rep laid hty (fun j t v hj hv => hval j t v (by simpa using hj) (by simpa using hv)) hA
  have hd := P x args.toList W (Old W) (fun _ h => h) hx (fun p hp => by
    rw [List.mem_singleton.1 hp]
    refine hshort fun n hn => ?_
    have e : (s.plain.varTypes C.prog) = [] := by simp [ChangeSpec.plain, DataSpec.varTypes, hvars]
    rw [e, List.append_nil] at hsz
    simpa using List.all_eq_true.1 hsz n hn)
  refine (Does.calls hfn hname hbody hd).mono fun e W' ⟨v, he, ι', I, hv⟩ => ?_
  refine ⟨v, he, ?_⟩
  have hv := bool_rep (x := true) (by simpa [sayTrue, numFrom, SV.one, Vc.one] using hv)
  subst hv
  have hk := I.kept
  have bel : Below W.heap.size W W' := ⟨hk.os, hk.tape, hk.output, hk.size, fun k hk' => hk.block k hk' (fun h => h)⟩
  obtain ⟨p', hp'⟩ := hback W' bel
  have hs := hspec H ds hlen
  have hs' : s.fn H (ds ++ []) = { results := [.lit (.bool true)], args := ds } := by rw [List.append_nil]; exact hs
  refine ⟨ds, [], _, [], p', [], hW', ?_, ?_, ?_, bel.frame _, fun h => by cases h⟩
  · rw [hs', hres]; exact trodAll_mk1 (shut_bool hT _)
  · rw [hs']; exact hp'
  · rw [hvars, hs']; rfl
end Go.Vc
