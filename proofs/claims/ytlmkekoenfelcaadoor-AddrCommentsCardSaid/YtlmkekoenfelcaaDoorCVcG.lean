/- strings.Builder: what copyCheck and String do to entries of one's own. -/
import Derived.Test.YtlmkekoenfelcaaDoorCVcF
import Derived.Shelf.Strings.Builder1
set_option linter.unusedVariables false
set_option linter.unusedSimpArgs false
namespace Go.Proofs
open Go.Shelf Go.RowKit
variable {P : Program} {ρ : Ren}
open Go.Vc in
set_option maxHeartbeats 1000000 in
set_option maxRecDepth 100000 in
theorem GL (L : Lays.n169 P ρ) (X : Builder.Extra P ρ) (b g cap : Nat) (p : Value) (cur : Array Value) (fz : Nat × Nat) (l : List UInt8) (w : World) (h0 : l ≠ [])
 (hbk : w.heap[b]? = some (.cells #[p, .slice (some ⟨g, 0, none⟩) l.length cap] (ρ.t 72) (0, 0))) (hg : w.heap[g]? = some (.cells cur (ρ.t 5) fz)) (hn : l.length <= cap) (hcm : cap <= maxLen) (hcs : cur.size = cap)
 (htk : cur.toList.take l.length = Lib.byteCells l) :
 Calls P (ρ.f 169) #[.pointer (some ⟨b, 0, none⟩)] w fun e w' => e = .returned (.string ⟨l.toArray⟩) /\ Turn w w' (fun k => k = g) := by
 have hl0 : l.length ≠ 0 := by simpa using h0
 have c1 : w.drew.cell? ⟨b, 1, none⟩ = some (.slice (some ⟨g, 0, none⟩) l.length cap) := by
  have : w.drew.heap[b]? = some (.cells #[p, .slice (some ⟨g, 0, none⟩) l.length cap] (ρ.t 72) (0, 0)) := hbk
  rw [Lib.cell_of_heap this]; rfl
 have hSD : (Builtin.unsafeSliceData_ #[(ρ.t 37)] (ρ.t 127) #[.slice (some ⟨g, 0, none⟩) l.length cap]).run P w.drew = .ok (.pointer (some ⟨g, 0, none⟩)) w.drew :=
  Lib.run_unsafeSliceData_row _ _ _ _ _ _ (by omega)
 have hUS : (Builtin.unsafeString_ #[(ρ.t 127), (ρ.t 3)] (ρ.t 9) #[.pointer (some ⟨g, 0, none⟩), .int .i64 l.length]).run P w.drew = .ok (.string ⟨l.toArray⟩) (w.drew.freeze ⟨g, 0, none⟩ l.length) := by
  refine Lib.run_unsafeString_row w.drew (ρ.t 127) (ρ.t 3) (ρ.t 9) (ρ.t 5) L.t127 X.cellsByte g cur.size (by have hg' : w.drew.heap[g]? = some (.cells cur (ρ.t 5) fz) := hg; simp [World.shape?, hg']) l h0 (by omega) (by unfold maxLen at hcm; omega) ?_
  intro j x hx
  have hg' : w.drew.heap[g]? = some (.cells cur (ρ.t 5) fz) := hg
  have hj : j < l.length := (List.getElem?_eq_some_iff.1 hx).1
  have hadd : (⟨g, 0, none⟩ : Addr).add j = ⟨g, j, none⟩ := by unfold Addr.add; split <;> simp_all
  rw [hadd, Lib.cell_of_heap hg']
  have h2 := congrArg (fun z => z[j]?) htk
  simp only [List.getElem?_take, hj, if_true, Lib.byteCells, List.getElem?_map, hx, Option.map_some] at h2
  rw [<- h2]; simp
 have mixed := L.mixed
 have t72 := L.t72; have a72 := L.a72; have z72 := L.z72; have v72 := L.v72; have u72 := run_underlying L.t72
 have t70 := L.t70; have a70 := L.a70; have z70 := L.z70; have v70 := L.v70; have u70 := run_underlying L.t70
 have t37 := L.t37; have a37 := L.a37; have z37 := L.z37; have v37 := L.v37; have u37 := run_underlying L.t37
 have t127 := L.t127; have a127 := L.a127; have z127 := L.z127; have v127 := L.v127; have u127 := run_underlying L.t127
 have t3 := L.t3; have a3 := L.a3; have z3 := L.z3; have v3 := L.v3; have u3 := run_underlying L.t3
 have t9 := L.t9; have a9 := L.a9; have z9 := L.z9; have v9 := L.v9; have u9 := run_underlying L.t9
 have t5 := X.t5; have a5 := X.a5; have z5 := X.z5; have v5 := X.v5; have u5 := run_underlying X.t5
 have fin : Turn w (w.drew.freeze ⟨g, 0, none⟩ l.length) (fun k => k = g) := by
  refine (Turn.drew w _).trans ?_
  unfold World.freeze
  split
  ·exact Turn.refl _ _
  ·exact ⟨rfl, rfl, rfl, by simp, fun k _ hk => by
    simp only [Array.getElem?_modify]
    rw [if_neg (fun h => hk h.symm)]⟩
 go_enter L.f169, Body.n169_ntmps ρ
 go_wp2
 go_region_o
 all_goals (go_wp2; go_ret; exact ⟨rfl, fin⟩)
open Go.Vc in
set_option maxHeartbeats 2000000 in
set_option maxRecDepth 100000 in
theorem GN (L : Lays.n169 P ρ) (X : Builder.Extra P ρ) (b : Nat) (p : Value) (w : World) (hbk : w.heap[b]? = some (.cells #[p, .slice none 0 0] (ρ.t 72) (0, 0))) :
 Calls P (ρ.f 169) #[.pointer (some ⟨b, 0, none⟩)] w fun e w' => e = .returned (.string ⟨#[]⟩) /\ Turn w w' (fun _ => False) := by
 have hUS := Any.unsafeString_none L X
 have c1 : w.drew.cell? ⟨b, 1, none⟩ = some (.slice none 0 0) := by
  have : w.drew.heap[b]? = some (.cells #[p, .slice none 0 0] (ρ.t 72) (0, 0)) := hbk
  rw [Lib.cell_of_heap this]; rfl
 have hSD : (Builtin.unsafeSliceData_ #[(ρ.t 37)] (ρ.t 127) #[.slice none 0 0]).run P w.drew = .ok (.pointer none) w.drew := rfl
 have mixed := L.mixed
 have t72 := L.t72; have a72 := L.a72; have z72 := L.z72; have v72 := L.v72; have u72 := run_underlying L.t72
 have t70 := L.t70; have a70 := L.a70; have z70 := L.z70; have v70 := L.v70; have u70 := run_underlying L.t70
 have t37 := L.t37; have a37 := L.a37; have z37 := L.z37; have v37 := L.v37; have u37 := run_underlying L.t37
 have t127 := L.t127; have a127 := L.a127; have z127 := L.z127; have v127 := L.v127; have u127 := run_underlying L.t127
 have t3 := L.t3; have a3 := L.a3; have z3 := L.z3; have v3 := L.v3; have u3 := run_underlying L.t3
 have t9 := L.t9; have a9 := L.a9; have z9 := L.z9; have v9 := L.v9; have u9 := run_underlying L.t9
 have t5 := X.t5; have a5 := X.a5; have z5 := X.z5; have v5 := X.v5; have u5 := run_underlying X.t5
 go_enter L.f169, Body.n169_ntmps ρ
 go_wp2
 go_region_o
 all_goals (go_wp2; go_ret; exact ⟨rfl, Turn.drew w _⟩)
end Go.Proofs
namespace Go.Vc
def xJ (T : Nat) (m : Leaf) : Bool := match gW m with | some n => Nat.beq n T | none => false
def ckD (m x : Leaf) (r : List Entry) : Done := ⟨[], .tup [], .obj [.ptr 0 0, x, m] :: r, []⟩
def ckF (T : Nat) (args : List V) (es : List Entry) : Option Done :=
 match args, es with
 | [⟨false, [.ptr i o]⟩], .obj [.bI, x, m] :: r => cond (Nat.beq i 0 && Nat.beq o 0 && (xJ T m && Nat.beq x.width 1)) (some (ckD m x r)) none
 | [⟨false, [.ptr i o]⟩], .obj [.ptr j q, x, m] :: r => cond (Nat.beq i 0 && Nat.beq o 0 && (Nat.beq j 0 && Nat.beq q 0 && (xJ T m && Nat.beq x.width 1))) (some (ckD m x r)) none
 | _, _ => none
theorem Ar {α : Type} {b : Bool} {x y : α} (h : cond b (some x) none = some y) : b = true /\ y = x := by
 cases b with
 | false => cases h
 | true => cases h; exact ⟨rfl, rfl⟩
theorem PD {T : Nat} {m : Leaf} (h : xJ T m = true) : gW m = some T := by
 unfold xJ at h
 split at h
 ·rename_i n hn; rw [hn, Nat.eq_of_beq_eq_true h]
 ·cases h
theorem tag_nil {c : Ctx} {ι : Gh} {w : World} {M : Store} {m : Leaf} {T : Nat} {cs : List Value} (h : gW m = some T) (hr : aj c ι w M m cs) : cs = [] := by
 have hl := hr.len
 have : m.width = 0 := by
  unfold gW at h
  split at h
  ·simp [Leaf.width]
  ·cases h
 rw [this] at hl
 exact List.length_eq_zero_iff.1 hl
theorem OE {cs : List Value} (h : cs.length = 1) : ∃ v, cs = [v] := by
 match cs, h with
 | [v], _ => exact ⟨v, rfl⟩
theorem Eb {c : Ctx} {ι : Gh} {w : World} {M : Store} {id T : Nat} {m p x : Leaf} (h : bM c ι w M id (.obj [p, x, m])) (ht : xJ T m = true) (hp : p.width = 1) (hx : x.width = 1) :
 ∃ b u v, ι.base id = some ⟨b, 0, none⟩ /\ w.heap[b]? = some (.cells #[u, v] T (0, 0)) /\ aj c ι w M m [] /\ aj c ι w M p [u] /\ aj c ι w M x [v] /\ bn T [p, x, m] := by
 obtain ⟨b, cs, T', h1, h2, ⟨d1, d2, rfl, r2, e1, e2, rfl, r3, c1, c2, rfl, r1, r4⟩, h4⟩ := h
 have htag := PD ht
 have hT : T = T' := h4 m (by simp) _ htag
 subst hT
 have := tag_nil htag r1; subst this
 obtain ⟨u, rfl⟩ := OE (r2.len.trans hp)
 obtain ⟨v, rfl⟩ := OE (r3.len.trans hx)
 have r4 : c2 = [] := r4
 subst r4
 exact ⟨b, u, v, h1, h2, r1, r2, r3, h4⟩
theorem Au {c : Ctx} {ι : Gh} {w : World} {M : Store} {id b : Nat} {ls : List Leaf} {us : List Value} (hm : M.get id = some (.obj ls)) (hb : ι.base id = some ⟨b, 0, none⟩) (h : aP c ι w M [⟨false, [.ptr id 0]⟩] us) : us = [.pointer (some ⟨b, 0, none⟩)] := by
 obtain ⟨v, ws, rfl, ⟨cs, ⟨c1, c2, rfl, r1, r2⟩, hv⟩, hws⟩ := h
 have r2 : c2 = [] := r2
 subst r2
 have hws : ws = [] := hws
 subst hws
 simp only [aj, hm] at r1
 obtain ⟨b', h1, h2⟩ := r1
 rw [hb] at h1; cases h1
 have hv : c1 ++ [] = [v] := hv.1
 rw [List.append_nil, h2] at hv
 cases hv; rfl
theorem SL {P : Program} {gl : Nat -> Option (Sigma Ty.den)} {f T : Nat} {fn : Func} {bd : Code} (hf : P.funcs[f]? = some fn) (hn : (fn.name == "runtime.NumGoroutine") = false) (hb : fn.body = some bd)
 (hfresh : ∀ (b : Nat) (w : World), w.cell? ⟨b, 0, none⟩ = some (.pointer none) -> w.shape? b = some (T, 2) -> w.frozen? ⟨b, 0, none⟩ = false ->
   Calls P f #[.pointer (some ⟨b, 0, none⟩)] w fun e w' => e = .returned (.tuple #[]) /\ w' = w.setCell ⟨b, 0, none⟩ (.pointer (some ⟨b, 0, none⟩)))
 (RX : ∀ (b : Nat) (w : World), w.cell? ⟨b, 0, none⟩ = some (.pointer (some ⟨b, 0, none⟩)) -> Calls P f #[.pointer (some ⟨b, 0, none⟩)] w fun e w' => e = .returned (.tuple #[]) /\ w' = w) : MQ P gl f (ckF T) := by
 intro args es d hF c ι us I hS _ hus _
 unfold ckF at hF
 split at hF
 ·rename_i i o x m r
  obtain ⟨hc, rfl⟩ := Ar hF
  simp only [Bool.and_eq_true, Nat.beq_eq] at hc
  obtain ⟨⟨rfl, rfl⟩, ht, hx⟩ := hc
  have hm : Store.get (au 0 (.obj [.bI, x, m] :: r)) 0 = some (.obj [.bI, x, m]) := rfl
  obtain ⟨b, u, v, hb1, hh, r1, r2, r3, htg⟩ := Eb (I.ents 0 _ hm) ht rfl hx
  have r2 : [u] = [Value.pointer none] := r2
  cases r2
  have hus := Au hm hb1 hus
  subst hus
  refine Does.lC hf hn hb ((hfresh b c.w0 (by rw [Lib.cell_of_heap hh]; rfl) (by simp [World.shape?, hh]) (by simp [World.frozen?, hh])).mono ?_)
  rintro e w' ⟨rfl, rfl⟩
  have hset : c.w0.setCell ⟨b, 0, none⟩ (.pointer (some ⟨b, 0, none⟩)) = c.w0.setRow b #[.pointer (some ⟨b, 0, none⟩), v] := by
   rw [setCell_eq_setRow c.w0 b 0 _ T (0, 0) _ hh]; rfl
  rw [hset]
  have tt : Turn c.w0 (c.w0.setRow b #[.pointer (some ⟨b, 0, none⟩), v]) (fun k => ι.blk 0 = some k) :=
   (Turn.setRow c.w0 b _).mono (fun k hk => by rw [hk, Gh.blk, hb1]; rfl)
  have hsh : bZ [.bI, x, m] [.ptr 0 0, x, m] = true := by
   have key : ∀ y : Leaf, ∀ l l' : List Leaf, bZ l l' = true -> bZ (y :: l) (y :: l') = true := by
    intro y l l' h
    cases y <;> simp [bZ, h, Nat.beq_refl]
   show bZ [x, m] [x, m] = true
   exact key x _ _ (key m [] [] rfl)
  have hev : Ev (.obj [.bI, x, m]) (.obj [.ptr 0 0, x, m]) := jM hsh
  have xx := Ext.change I hm rfl hev tt
  have hrep : aG c ι c.w0 (au 0 (.obj [.bI, x, m] :: r)) [.ptr 0 0, x, m] [.pointer (some ⟨b, 0, none⟩), v] :=
   ⟨[.pointer (some ⟨b, 0, none⟩)], [v], rfl, by simp only [aj, hm]; exact ⟨b, hb1, rfl⟩, [v], [], rfl, r3, [], [], rfl, r1, rfl⟩
  have I' := Inv.change I hm rfl hev tt ⟨b, [.pointer (some ⟨b, 0, none⟩), v], T, hb1, setRow_heap c.w0 b _ _ _ _ hh, hrep.mono xx, htg.shape hsh⟩
  have hM : Store.set (au 0 (Entry.obj [.bI, x, m] :: r)) 0 (.obj [.ptr 0 0, x, m]) = au 0 ((ckD m x r).back ++ (ckD m x r).made) := by
   show _ = au 0 ((Entry.obj [.ptr 0 0, x, m] :: r) ++ [])
   rw [List.append_nil]; rfl
  rw [hM] at I'
  refine ⟨ι, I', fun _ h => h, fun k hk => tt.block k (I.stb k hk) (fun h => (I.own 0 _ k hm rfl h).1 hk), fun _ _ => ⟨rfl, rfl⟩, fun j e hj => ?_, [], rfl, rfl⟩
  cases j with
  | zero => simp at hj; subst hj; exact ⟨_, rfl, hev⟩
  | succ j => exact ⟨e, hj, Ev.refl _⟩
 ·rename_i i o j q x m r
  obtain ⟨hc, rfl⟩ := Ar hF
  simp only [Bool.and_eq_true, Nat.beq_eq] at hc
  obtain ⟨⟨rfl, rfl⟩, ⟨rfl, rfl⟩, ht, hx⟩ := hc
  have hm : Store.get (au 0 (.obj [.ptr 0 0, x, m] :: r)) 0 = some (.obj [.ptr 0 0, x, m]) := rfl
  obtain ⟨b, u, v, hb1, hh, r1, r2, r3, htg⟩ := Eb (I.ents 0 _ hm) ht rfl hx
  simp only [aj, hm] at r2
  obtain ⟨b', hb', r2⟩ := r2
  rw [hb1] at hb'; cases hb'
  cases r2
  have hus := Au hm hb1 hus
  subst hus
  refine Does.lC hf hn hb ((RX b c.w0 (by rw [Lib.cell_of_heap hh]; rfl)).mono ?_)
  rintro e w' ⟨rfl, rfl⟩
  have hM : au 0 (Entry.obj [.ptr 0 0, x, m] :: r) = au 0 ((ckD m x r).back ++ (ckD m x r).made) := by
   show _ = au 0 ((Entry.obj [.ptr 0 0, x, m] :: r) ++ [])
   rw [List.append_nil]
  rw [hM] at I
  exact ⟨ι, I, fun _ h => h, fun k hk => rfl, fun _ _ => ⟨rfl, rfl⟩, fun j e hj => ⟨e, hj, Ev.refl _⟩, [], rfl, rfl⟩
 ·cases hF
def NI (T e8 : Nat) (args : List V) (es : List Entry) : Option Done :=
 match args, es with
 | [⟨false, [.ptr i o]⟩], [.obj [p, .bK, m]] => cond (Nat.beq i 0 && Nat.beq o 0 && (xJ T m && Nat.beq p.width 1)) (some ⟨[], .one (.str []), [.dead], []⟩) none
 | [⟨false, [.ptr i o]⟩], [.obj [p, .own j, m], .row e (.int .u8) fr ap l] => cond (Nat.beq i 0 && Nat.beq o 0 && (Nat.beq j 1 && Nat.beq e e8 && (xJ T m && Nat.beq p.width 1))) (some ⟨[0 < List.length l], .one (.str l), [.dead, .dead], []⟩) none
 | _, _ => none
theorem Jv {S : Nat -> Prop} {w : World} : ∀ {l : List Int} {n : Nat} {xs : List Value}, ah S w (.arr n (.int .u8)) l xs -> (∀ x ∈ l, Byte x) -> xs = Lib.byteCells (l.map fun x => UInt8.ofNat x.toNat)
 | [], n, xs, ⟨h0, ess, h1, h2, h3⟩, _ => by
   have h0 : 0 = n := h0
   have : ess = [] := List.length_eq_zero_iff.1 (h1.trans h0.symm)
   rw [h2, this]; rfl
 | x :: l, n, xs, ⟨h0, ess, h1, h2, h3⟩, hb => by
   have h0 : List.length l + 1 = n := h0
   match ess, h1, h2, h3 with
   | [], h1, _, _ => rw [<- h0] at h1; simp at h1
   | ec :: ess, h1, h2, h3 =>
     have e1 : ec = [.int .u8 x] := h3 0 x ec rfl rfl
     have ih := Jv (S := S) (w := w) (l := l) (n := List.length l) (xs := ess.flatten) ⟨rfl, ess, by simp at h1; omega, rfl, fun i y ed hy he => h3 (i + 1) y ed hy he⟩ (fun y hy => hb y (List.mem_cons_of_mem _ hy))
     have hx := hb x (.head _)
     rw [h2, List.flatten_cons, ih, e1]
     have : (((UInt8.ofNat x.toNat).toNat : Nat) : Int) = x := by rw [UInt8.toNat_ofNat']; have := hx.1; have := hx.2; omega
     show Value.int .u8 x :: _ = Value.int .u8 ((UInt8.ofNat x.toNat).toNat : Nat) :: _
     rw [this]; rfl
theorem Jw {c : Ctx} {ι : Gh} {w : World} {M : Store} (I : Inv c ι c.w0 M) {w' : World} {f : Nat -> Prop} (t : Turn c.w0 w' f) (hf : ∀ k, f k -> ∃ i e, M.get i = some e /\ e.live = true /\ ι.blk i = some k) (n : Nat) {M' : Store} (hM : ∀ j e, M'.get j = some e -> e = .dead) :
 Inv c ι w' M' /\ ∀ b, ι.S b -> w'.heap[b]? = c.w0.heap[b]? := by
 have hfo : ∀ k, f k -> ¬ ι.S k /\ (c.w0.heap.size <= k ∨ c.O k) := fun k hk => by
  obtain ⟨i, e, h1, h2, h3⟩ := hf k hk
  exact I.own i e k h1 h2 h3
 refine ⟨⟨I.kept.turn t (fun k hk => (hfo k hk).2), fun j e hj => ?_, fun i j ei ej k hi _ li => ?_, fun i e k hi li => ?_, fun k hk => Nat.lt_of_lt_of_le (I.stb k hk) t.size, I.src⟩, fun k hk => t.block k (I.stb k hk) (fun h => (hfo k h).1 hk)⟩
 ·rw [hM j e hj]; trivial
 ·rw [hM i ei hi] at li; cases li
 ·rw [hM i e hi] at li; cases li
theorem Rk {P : Program} {gl : Nat -> Option (Sigma Ty.den)} {f T e8 : Nat} {fn : Func} {bd : Code} (hf : P.funcs[f]? = some fn) (hn : (fn.name == "runtime.NumGoroutine") = false) (hb : fn.body = some bd)
 (hrow : ∀ (b g cap : Nat) (p : Value) (cur : Array Value) (fz : Nat × Nat) (l : List UInt8) (w : World), l ≠ [] -> w.heap[b]? = some (.cells #[p, .slice (some ⟨g, 0, none⟩) l.length cap] T (0, 0)) -> w.heap[g]? = some (.cells cur e8 fz) ->
   l.length <= cap -> cap <= maxLen -> cur.size = cap -> cur.toList.take l.length = Lib.byteCells l -> Calls P f #[.pointer (some ⟨b, 0, none⟩)] w fun e w' => e = .returned (.string ⟨l.toArray⟩) /\ Turn w w' (fun k => k = g))
 (hnil : ∀ (b : Nat) (p : Value) (w : World), w.heap[b]? = some (.cells #[p, .slice none 0 0] T (0, 0)) -> Calls P f #[.pointer (some ⟨b, 0, none⟩)] w fun e w' => e = .returned (.string ⟨#[]⟩) /\ Turn w w' (fun _ => False)) : MQ P gl f (NI T e8) := by
 intro args es d hF c ι us I hS _ hus hp
 unfold NI at hF
 split at hF
 ·rename_i i o p m
  obtain ⟨hc, rfl⟩ := Ar hF
  simp only [Bool.and_eq_true, Nat.beq_eq] at hc
  obtain ⟨⟨rfl, rfl⟩, ht, hpw⟩ := hc
  have hm : Store.get (au 0 [.obj [p, .bK, m]]) 0 = some (.obj [p, .bK, m]) := rfl
  obtain ⟨b, u, v, hb1, hh, r1, r2, r3, htg⟩ := Eb (I.ents 0 _ hm) ht hpw rfl
  have r3 : [v] = [Value.slice none 0 0] := r3
  cases r3
  have hus := Au hm hb1 hus
  subst hus
  refine Does.lC hf hn hb ((hnil b u c.w0 hh).mono ?_)
  rintro e w' ⟨rfl, tt⟩
  obtain ⟨I', hst⟩ := Jw (w := c.w0) I tt (fun k hk => hk.elim) 0 (M' := au 0 [.dead]) (fun j e hj => by
   rw [bY] at hj
   cases j with
   | zero => simp at hj; exact hj.symm
   | succ j => simp at hj)
  refine ⟨ι, I', fun _ h => h, hst, fun _ _ => ⟨rfl, rfl⟩, fun j e hj => ?_, ⟨[.string (bs [])], ⟨_, _, rfl, ⟨rfl, ⟨fun x hx => (List.not_mem_nil hx).elim, Nat.zero_le _⟩⟩, rfl⟩, rfl, rfl⟩⟩
  cases j with
  | zero => exact ⟨.dead, rfl, by cases e <;> trivial⟩
  | succ j => simp at hj
 ·rename_i i o p j m e fr ap l
  obtain ⟨hc, rfl⟩ := Ar hF
  simp only [Bool.and_eq_true, Nat.beq_eq] at hc
  obtain ⟨⟨rfl, rfl⟩, ⟨rfl, rfl⟩, ht, hpw⟩ := hc
  have hl0 : 0 < List.length l := hp _ (by simp)
  have hm : Store.get (au 0 [.obj [p, .own 1, m], .row e (.int .u8) fr ap l]) 0 = some (.obj [p, .own 1, m]) := rfl
  have hm1 : Store.get (au 0 [.obj [p, .own 1, m], .row e (.int .u8) fr ap l]) 1 = some (.row e (.int .u8) fr ap l) := rfl
  obtain ⟨b, u, v, hb1, hh, r1, r2, r3, htg⟩ := Eb (I.ents 0 _ hm) ht hpw rfl
  simp only [aj, hm1] at r3
  obtain ⟨a, r3, ha⟩ := r3
  cases r3
  obtain ⟨xs, q1, q2, q3, hq⟩ := I.ents 1 _ hm1
  rcases hq with ⟨_, _, hz, _⟩ | ⟨g, cur, fz, hbg, _, hg, _, _, hnc, hcm, hcs, htk, _⟩
  ·omega
  have ha := ha (by omega)
  rw [hbg] at ha; subst ha
  have hus := Au hm hb1 hus
  subst hus
  have hby : ∀ x ∈ (l : List Int), Byte x := fun x hx => byte_of (q2.1 x hx)
  have hcells := Jv q1 hby
  have hlen : (List.map (fun x : Int => UInt8.ofNat x.toNat) l).length = List.length (α := Int) l := List.length_map _
  refine Does.lC hf hn hb ((hrow b g (ι.cap 1) u cur fz (List.map (fun x : Int => UInt8.ofNat x.toNat) l) c.w0 (fun h => by have h2 : l = ([] : List Int) := List.map_eq_nil_iff.1 h; rw [h2] at hl0; exact absurd hl0 (Nat.lt_irrefl 0)) (by rw [hlen]; exact hh) hg (by rw [hlen]; exact hnc) hcm (by rw [hcs]; exact Nat.mul_one _) (by rw [hlen, <- hcells, <- htk]; congr 1; exact (Nat.mul_one _).symm)).mono ?_)
  rintro ex w' ⟨rfl, tt⟩
  obtain ⟨I', hst⟩ := Jw (w := c.w0) I tt (fun k hk => ⟨1, _, hm1, rfl, by rw [hk, Gh.blk, hbg]; rfl⟩) 0 (M' := au 0 [.dead, .dead]) (fun j e hj => by
   rw [bY] at hj
   match j, hj with
   | 0, hj => simp at hj; exact hj.symm
   | 1, hj => simp at hj; exact hj.symm
   | j + 2, hj => simp at hj)
  refine ⟨ι, I', fun _ h => h, hst, fun _ _ => ⟨rfl, rfl⟩, fun j e hj => ?_, ⟨[.string (bs l)], ⟨_, _, rfl, ⟨rfl, q2⟩, rfl⟩, rfl, rfl⟩⟩
  match j, hj with
  | 0, hj => exact ⟨.dead, rfl, by cases e <;> trivial⟩
  | 1, hj => exact ⟨.dead, rfl, by cases e <;> trivial⟩
  | j + 2, hj => simp at hj
 ·cases hF
end Go.Vc
