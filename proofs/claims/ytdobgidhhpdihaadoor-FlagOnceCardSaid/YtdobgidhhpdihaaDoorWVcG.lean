/- strings.Join of a row of one's own, as a summary. -/
import Derived.Test.YtdobgidhhpdihaaDoorWVcF
import Derived.Lib.Join
import Derived.Below
set_option linter.unusedVariables false
set_option linter.unusedSimpArgs false
namespace Go.Vc
def joinL (s : List Int) : List (List Int) -> List Int
 | [] => []
 | x :: r => x ++ (r.map (s ++ ·)).flatten
def Ns (e : Nat) (fr ap : Bool) (l : List (List Int)) (s : List Int) : Done := ⟨[(joinL s l).length <= 1000000 /\ l.length <= 1000000], .one (.str (joinL s l)), [.row e .str fr ap l], []⟩
def Kz (args : List V) (es : List Entry) : Option Done :=
 match args, es with
 | [⟨false, [.own i]⟩, ⟨false, [.str s]⟩], [.row e .str fr ap l] => cond (Nat.beq i 0) (some (Ns e fr ap l s)) none
 | _, _ => none
theorem NZ {α : Type} {b : Bool} {x y : α} (h : cond b (some x) none = some y) : b = true /\ y = x := by
 cases b with
 | false => cases h
 | true => cases h; exact ⟨rfl, rfl⟩
theorem KA {s : List Int} {l : List (List Int)} (hs : ∀ x ∈ s, Byte x) (hl : ∀ x ∈ l, ∀ y ∈ x, Byte y) : ∀ x ∈ joinL s l, Byte x := by
 intro x hx
 cases l with
 | nil => cases hx
 | cons y r =>
   rcases List.mem_append.1 hx with hx | hx
   ·exact hl y (by simp) x hx
   ·obtain ⟨z, hz, hx⟩ := List.mem_flatten.1 hx
    obtain ⟨u, hu, rfl⟩ := List.mem_map.1 hz
    rcases List.mem_append.1 hx with hx | hx
    ·exact hs x hx
    ·exact hl u (List.mem_cons_of_mem _ hu) x hx
theorem Jo (s : List Int) (l : List (List Int)) : Lib.join ((l.map bs).map (·.data.toList)) (bs s).data.toList = (joinL s l).map fun x => UInt8.ofNat x.toNat := by
 cases l with
 | nil => rfl
 | cons x r =>
   rw [List.map_cons, List.map_cons, Lib.join_cons, joinL, List.map_append, Jm]
   congr 1
   unfold Lib.joinTail
   rw [List.map_flatten, List.map_map, List.map_map, List.map_map]
   congr 1
   refine List.map_congr_left fun y _ => ?_
   simp only [Function.comp, List.map_append, Jm]
theorem OM {P : Program} {gl : Nat -> Option (Sigma Ty.den)} {f : Nat} {fn : Func} {bd : Code} (hf : P.funcs[f]? = some fn) (hn : (fn.name == "runtime.NumGoroutine") = false) (hb : fn.body = some bd)
 (hnone : ∀ (a : Option Addr) (c : Nat) (sep : ByteArray) (w : World), Calls P f #[.slice a 0 c, .string sep] w fun e w' => e = .returned (.string ⟨#[]⟩) /\ w' = w)
 (Pq : ∀ (bk o c : Nat) (xs : List ByteArray) (sep : ByteArray) (w : World), (∀ (j : Nat) x, xs[j]? = some x -> w.cell? ⟨bk, o + j, none⟩ = some (.string x)) -> bk < w.heap.size -> xs.length <= 140737488355328 -> xs.length <= c ->
   (Lib.join (xs.map (·.data.toList)) sep.data.toList).length <= 140737488355328 ->
   Calls P f #[.slice (some ⟨bk, o, none⟩) xs.length c, .string sep] w fun e w' => e = .returned (.string ⟨(Lib.join (xs.map (·.data.toList)) sep.data.toList).toArray⟩) /\ Go.RowKit.Below w.heap.size w w') : Nc P gl f Kz := by
 intro args es d hF c ι us I hS _ hus hp
 unfold Kz at hF
 split at hF
 ·rename_i i s e fr ap l
  obtain ⟨hc, rfl⟩ := NZ hF
  have hi : i = 0 := Nat.eq_of_beq_eq_true hc
  subst hi
  obtain ⟨hp1, hp2⟩ := hp ((joinL s l).length <= 1000000 /\ List.length (α := List Int) l <= 1000000) (by simp [Ns])
  have hm : Store.get (ay 0 [.row e .str fr ap l]) 0 = some (.row e .str fr ap l) := rfl
  obtain ⟨v1, ws, rfl, r1, v2, ws2, rfl, r2, hws⟩ := hus
  have hws : ws2 = [] := hws
  subst hws
  have r1 := aI.leaf (x := ⟨false, [.own 0]⟩) (l := .own 0) rfl r1
  have r2 := aI.leaf (x := ⟨false, [.str s]⟩) (l := .str s) rfl r2
  obtain ⟨r2, hsv⟩ := r2
  have r2 : v2 = .string (bs s) := by simpa using r2
  subst r2
  simp only [aj, hm] at r1
  obtain ⟨a, r1, ha⟩ := r1
  have r1 : v1 = .slice a (List.length (α := List Int) l) (ι.cap 0) := by simpa using r1
  subst r1
  obtain ⟨xs, q1, q2, q3, hq⟩ := I.ents 0 _ hm
  have hlb : ∀ x ∈ (l : List (List Int)), ∀ y ∈ x, Byte y := fun x hx => (q2.1 x hx).1
  have hjb := KA hsv.1 hlb
  have hjv : Valid .str (joinL s l) := ⟨hjb, by show (joinL s l).length <= 9223372036854775807; omega⟩
  rcases Nat.eq_zero_or_pos (List.length (α := List Int) l) with h0 | h0
  ·have hl0 : (l : List (List Int)) = [] := List.length_eq_zero_iff.1 h0
   subst hl0
   refine Does.vk hf hn hb ((hnone a (ι.cap 0) (bs s) c.w0).mono ?_)
   rintro ex w' ⟨rfl, rfl⟩
   exact ⟨ι, I, fun _ h => h, fun k hk => rfl, fun _ _ => ⟨rfl, rfl⟩, fun j e hj => ⟨e, hj, Ev.refl _⟩, ⟨[.string (bs [])], ⟨_, _, rfl, ⟨rfl, hjv⟩, rfl⟩, rfl, rfl⟩⟩
  ·rcases hq with ⟨_, _, hz, _⟩ | ⟨g, cur, fz, hbg, _, hg, _, _, hnc, hcm, hcs, htk, _⟩
   ·omega
   have ha := ha (by omega)
   rw [hbg] at ha; subst ha
   have hlen : (List.map bs l).length = List.length (α := List Int) l := List.length_map _
   have hj := Pq g 0 (ι.cap 0) (List.map bs l) (bs s) c.w0 (fun j x hx => by
    rw [List.getElem?_map] at hx
    obtain ⟨y, hy, rfl⟩ := Option.map_eq_some_iff.1 hx
    obtain ⟨_, ess, k1, k2, k3⟩ := q1
    have hjl : j < List.length (α := List Int) l := (List.getElem?_eq_some_iff.1 hy).1
    have hjs : j < ess.length := by rw [k1]; exact hjl
    have k4 : ess[j] = [.string (bs y)] := k3 j y _ hy (List.getElem?_eq_getElem hjs)
    have hall : ∀ u ∈ ess, u.length = 1 := fun u hu => by
     obtain ⟨i', hi', rfl⟩ := List.getElem_of_mem hu
     have hl' : i' < List.length (α := List Int) l := by rw [<- k1]; exact hi'
     have k5 : ess[i'] = [.string (bs l[i'])] := k3 i' l[i'] _ (List.getElem?_eq_getElem hl') (List.getElem?_eq_getElem hi')
     rw [k5]; rfl
    have hxj : xs[j]? = some (.string (bs y)) := by
     rw [k2]
     have key : ∀ (ess : List (List Value)) (j : Nat) (v : Value), (∀ u ∈ ess, u.length = 1) -> ess[j]? = some [v] -> ess.flatten[j]? = some v := by
      intro ess
      induction ess with
      | nil => intro j v _ h; simp at h
      | cons u r ih =>
        intro j v h1 h2
        match u, h1 u (by simp) with
        | [z], _ =>
          cases j with
          | zero => simp at h2 ⊢; exact h2
          | succ j => simp at h2 ⊢; exact ih j v (fun u hu => h1 u (List.mem_cons_of_mem _ hu)) h2
     exact key ess j _ hall (by rw [List.getElem?_eq_getElem hjs, k4])
    rw [Nat.zero_add, cell_of_row c.w0 g j cur _ fz hg]
    rw [<- htk, List.getElem?_take] at hxj
    split at hxj
    ·simpa using hxj
    ·cases hxj) (Array.getElem?_eq_some_iff.1 hg).1 (by rw [hlen]; omega) (by rw [hlen]; omega) (by rw [Jo, List.length_map]; omega)
   rw [hlen] at hj
   refine Does.vk hf hn hb (hj.mono ?_)
   rintro ex w' ⟨rfl, hB⟩
   have t : Turn c.w0 w' (fun _ => False) := ⟨hB.os, hB.tape, hB.output, hB.size, fun k hk _ => hB.block k hk⟩
   obtain ⟨I', x'⟩ := I.O4 t
   refine ⟨ι, I', fun _ h => h, fun k hk => t.block k (I.stb k hk) id, fun _ _ => ⟨rfl, rfl⟩, fun j e hj => ⟨e, hj, Ev.refl _⟩, ⟨[.string (bs (joinL s l))], ⟨_, _, rfl, ⟨rfl, hjv⟩, rfl⟩, ?_, rfl⟩⟩
   rw [Jo]; rfl
 ·cases hF
end Go.Vc
