/- What is owed of the functions, proved in plain Lean. -/
import Derived.Test.YtggccomebfpfpaaDoorCB
import Derived.Test.YtggccomebfpfpaaDoorCA
set_option linter.unusedSimpArgs false
set_option linter.unusedVariables false
set_option maxRecDepth 100000
namespace Go.Proofs.YtggccomebfpfpaaDoor
open Go.Vc
open Go.Vc.T
theorem Ru {α : Type} {l : List α} {f : α -> Bool} {i : Int} (h0 : 0 <= i) (hi : i < l.length) : (l.drop i.toNat).any f = (f l[i.toNat] || (l.drop (i + 1).toNat).any f) := by
 rw [drop_at h0 hi]; rfl
theorem TB (l : List Int) (c : Int) : U.cZ l [c] = cond (U.dM l [c]) (l.take (l.length - 1)) l := rfl
theorem MP (l : List Int) : (U.says l).length <= l.length := by
 have key : ∀ (m : List Int) (c : Int), (U.cZ m [c]).length <= m.length := fun m c => by
  rw [TB]; cases U.dM m [c]
  ·exact Nat.le_refl _
  ·show (m.take _).length <= _; rw [List.length_take]; omega
 unfold U.says
 cases U.dM l [10]
 ·exact Nat.le_refl _
 ·exact Nat.le_trans (key _ _) (key _ _)
theorem EU (x c : Int) (l : List Int) : aF (x :: l) c = if x = c then 0 else if aF l c = -1 then -1 else aF l c + 1 := rfl
theorem Oj (l : List Int) : wY l := by
 unfold wY
 refine ⟨by omega, ?_⟩
 show bif U.dM l [10] then 0 < 1 /\ U.cZ (U.cZ l [10]) [13] = U.says l /\ True else _
 unfold U.says
 cases U.dM l [10]
 ·exact ⟨rfl, trivial⟩
 ·exact ⟨by omega, rfl, trivial⟩
theorem Iy (c : Int) : oN c := by
 unfold oN U.zi; rw [TY]; exact ⟨rfl, trivial⟩
theorem MQ (l : List Int) (hl : l.length <= maxLen) : uY l := by
 unfold uY
 rw [maxLen_eq] at hl
 have hg : (([0] : List Int).set 0 58).getD 0 0 = 58 := rfl
 have hb := dJ l 58
 have hn : (U.aB l 58).length <= l.length := by
  unfold U.aB; cases decide (aF l 58 >= 0)
  ·exact Nat.le_refl _
  ·show (l.take _).length <= _; rw [List.length_take]; omega
 rw [hg, uF, uF]
 refine ⟨by omega, rfl, ?_⟩
 cases hc : (decide (aF l 58 >= 0) && decide (((U.aB l 58).length : Int) >= 1) && decide (((U.aB l 58).length : Int) <= 60)) with
 | false =>
   refine ⟨rfl, rfl, ?_, trivial⟩
   unfold U.begins
   revert hc
   cases decide (aF l 58 >= 0)
   ·intro _; rfl
   ·by_cases h1 : (U.aB l 58).length >= 1
    ·rw [decide_eq_true (by omega : ((U.aB l 58).length : Int) >= 1), decide_eq_true h1]
     by_cases h2 : (U.aB l 58).length <= 60
     ·rw [decide_eq_true (by omega : ((U.aB l 58).length : Int) <= 60)]; intro h; cases h
     ·rw [decide_eq_false h2]; intro _; rfl
    ·rw [decide_eq_false h1]; intro _; rfl
 | true =>
   simp only [Bool.and_eq_true, decide_eq_true_eq] at hc
   obtain ⟨⟨h1, h2⟩, h3⟩ := hc
   have hbg : U.begins l = !((U.aB l 58).any U.zi) := by
    unfold U.begins
    rw [decide_eq_true h1, decide_eq_true (by omega : (U.aB l 58).length >= 1), decide_eq_true (by omega : (U.aB l 58).length <= 60)]; rfl
   refine ⟨0, ⟨rfl, ⟨Int.le_refl 0, by omega⟩, rfl⟩, ?_⟩
   rintro i ⟨⟨i0, i1⟩, hI⟩
   rw [cond_prop]
   refine ⟨fun hi => ?_, fun hi => ?_⟩
   ·have hi : i < (U.aB l 58).length := of_decide_eq_true hi
    rw [Ru i0 hi] at hI
    rw [getD_at (by omega : i.toNat < (U.aB l 58).length)]
    refine ⟨i0, hi, ?_⟩
    cases ho : U.zi (U.aB l 58)[i.toNat] with
    | true =>
      rw [ho] at hI
      refine ⟨rfl, rfl, ?_, trivial⟩
      rw [hbg, <- hI, decide_eq_true (by omega : i >= 0)]; rfl
    | false =>
      rw [ho, Bool.false_or] at hI
      exact ⟨i + 1, by rw [iL (by omega) (by omega)], ⟨⟨by omega, by omega⟩, hI⟩, by simp only [dR]; omega⟩
   ·have hi : ¬ i < (U.aB l 58).length := of_decide_eq_false hi
    rw [drop_end (by omega)] at hI
    refine ⟨rfl, rfl, ?_, trivial⟩
    rw [hbg, <- hI]; rfl
theorem JE (b : List Int) (h : b.length <= 1000000000) : qI b := by
 unfold qI Kt
 refine ⟨h, by omega, ?_⟩
 by_cases hc : (40 : Int) < ((U.hread b).1.1.length : Int)
 ·rw [if_pos hc]; exact ⟨by omega, by omega, rfl, trivial⟩
 ·rw [if_neg hc]
  refine ⟨by omega, by omega, ?_, trivial⟩
  show (U.hread b).1.1.take _ = (U.hread b).1.1.take 40
  rw [Iu _ (by rw [dR]; omega), Iu _ (by omega)]
theorem MR (c : Int) (h : 0 <= c /\ c <= 255) : uZ c := by
 unfold uZ U.small
 rw [uF, show decide (c >= 65) = decide (65 <= c) from rfl]
 cases hc : (decide (65 <= c) && decide (c <= 90)) with
 | true =>
   simp only [Bool.and_eq_true, decide_eq_true_eq] at hc
   refine ⟨?_, trivial⟩
   rw [OY, wrap_u8]; show _ = c + 32; omega
 | false => exact ⟨rfl, trivial⟩
theorem JF (c : Int) (h : 0 <= c /\ c <= 255) : qJ c := by
 unfold qJ U.small
 rw [uF, show decide (c >= 65) = decide (65 <= c) from rfl]
 cases hc : (decide (65 <= c) && decide (c <= 90)) with
 | true =>
   simp only [Bool.and_eq_true, decide_eq_true_eq] at hc
   refine ⟨?_, trivial⟩
   rw [OY, wrap_u8]; show _ = c + 32; omega
 | false => exact ⟨rfl, trivial⟩
theorem JG (x y : Int) : zK x y := ⟨rfl, trivial⟩
theorem Uh {a b : List Int} (h : U.bU a b = true) {i : Nat} (ha : i < a.length) (hb : i < b.length) : U.small a[i] = U.small b[i] := by
 have h : a.map U.small = b.map U.small := of_decide_eq_true h
 have h2 : (a.map U.small)[i]? = (b.map U.small)[i]? := by rw [h]
 rw [List.getElem?_map, List.getElem?_map, List.getElem?_eq_getElem ha, List.getElem?_eq_getElem hb] at h2
 simpa using h2
theorem SN {a b : List Int} (h : U.bU a b = true) : a.length = b.length := by
 have h : a.map U.small = b.map U.small := of_decide_eq_true h
 have := congrArg List.length h
 simpa using this
theorem MS {a b : List Int} (h : ¬ a.length = b.length) : U.bU a b = false := by
 cases hs : U.bU a b with
 | false => rfl
 | true => exact absurd (SN hs) h
theorem MV {a b : List Int} {i : Nat} (ha : i < a.length) (hb : i < b.length) (h : ¬ U.small a[i] = U.small b[i]) : U.bU a b = false := by
 cases hs : U.bU a b with
 | false => rfl
 | true => exact absurd (Uh hs ha hb) h
theorem Jj {a b : List Int} {i : Int} (i0 : 0 <= i) (ha : i < a.length) (hb : i < b.length) (h : (a.take i.toNat).map U.small = (b.take i.toNat).map U.small) (hx : U.small a[i.toNat] = U.small b[i.toNat]) : (a.take (i + 1).toNat).map U.small = (b.take (i + 1).toNat).map U.small := by
 rw [take_at i0 ha, take_at i0 hb, List.map_append, List.map_append, h, List.map_singleton, List.map_singleton, hx]
theorem MW {a b : List Int} {i : Int} (ha : a.length <= i) (hb : b.length <= i) (h : (a.take i.toNat).map U.small = (b.take i.toNat).map U.small) : U.bU a b = true := by
 rw [EG ha, EG hb] at h; exact decide_eq_true h
theorem Ol (a b : List Int) (hl : a.length <= maxLen) : xk a b := by
 unfold xk
 rw [maxLen_eq] at hl
 by_cases hab : a.length = b.length
 ·rw [show ((a.length : Int) != (b.length : Int)) = false by rw [bne_eq_false_iff_eq]; omega]
  refine ⟨0, ⟨rfl, ⟨Int.le_refl 0, by omega⟩, hab, rfl⟩, ?_⟩
  rintro i ⟨⟨i0, i1⟩, _, hI⟩
  rw [cond_prop]
  refine ⟨fun hi => ?_, fun hi => ?_⟩
  ·have hi : i < a.length := of_decide_eq_true hi
   rw [getD_at (by omega : i.toNat < a.length), getD_at (by omega : i.toNat < b.length)]
   refine ⟨i0, hi, by omega, i0, by omega, by omega, ?_⟩
   by_cases hx : U.small a[i.toNat] = U.small b[i.toNat]
   ·rw [decide_eq_true hx]
    exact ⟨i + 1, by rw [iL (by omega) (by omega)], ⟨⟨by omega, by omega⟩, hab, Jj i0 hi (by omega) hI hx⟩, by simp only [dR]; omega⟩
   ·rw [decide_eq_false hx]; exact ⟨(MV _ _ hx).symm, trivial⟩
  ·have hi : ¬ i < a.length := of_decide_eq_false hi
   exact ⟨(MW (by omega) (by omega) hI).symm, trivial⟩
 ·rw [show ((a.length : Int) != (b.length : Int)) = true by rw [bne_iff_ne]; omega]
  exact ⟨(MS hab).symm, trivial⟩
theorem Qs (b n : List Int) (h : b.length <= 1000000000) : zn b n := by
 unfold zn
 have hf : (U.fieldsOf b).length <= 40 := by unfold U.fieldsOf; rw [List.length_take]; omega
 refine ⟨h, 0, ⟨rfl, ⟨Int.le_refl 0, by omega⟩, rfl⟩, ?_⟩
 rintro i ⟨⟨i0, i1⟩, hI⟩
 rw [cond_prop]
 refine ⟨fun hi => ?_, fun hi => ?_⟩
 ·have hi : i < (U.fieldsOf b).length := of_decide_eq_true hi
  rw [drop_at i0 hi, U.kU] at hI
  rw [getD_at (by omega : i.toNat < (U.fieldsOf b).length)]
  refine ⟨i0, hi, ?_⟩
  cases hs : U.bU (U.fieldsOf b)[i.toNat].1 n with
  | true => rw [hs] at hI; rw [<- hI]; exact ⟨rfl, rfl, trivial⟩
  | false =>
    rw [hs] at hI
    exact ⟨i + 1, by rw [iL (by omega) (by omega)], ⟨⟨by omega, by omega⟩, hI⟩, by simp only [dR]; omega⟩
 ·have hi : ¬ i < (U.fieldsOf b).length := of_decide_eq_false hi
  rw [drop_end (by omega)] at hI
  rw [<- hI]; exact ⟨rfl, rfl, trivial⟩
theorem MX (b : List Int) : BK b := ⟨by omega, rfl, rfl, trivial⟩
theorem Rw {b : List Int} {q : Int} (hq : (b.length : Int) <= q) : U.endOf b q = b.length := by
 unfold U.endOf; rw [drop_end hq]; rfl
theorem MZ (l : List Int) : List.take (U.trimB l).length (List.drop (U.bP (List.take (U.aW l) l)) l) = U.trimB l := by
 rw [Jg]
 unfold U.trimB
 rw [List.drop_take]
theorem Na (a b : List Int) (hl : a.length <= maxLen) : vg a b := by
 unfold vg
 rw [maxLen_eq] at hl
 by_cases hab : a.length = b.length
 ·rw [show ((a.length : Int) != (b.length : Int)) = false by rw [bne_eq_false_iff_eq]; omega]
  refine ⟨0, ⟨rfl, ⟨Int.le_refl 0, by omega⟩, hab, rfl⟩, ?_⟩
  rintro i ⟨⟨i0, i1⟩, _, hI⟩
  rw [cond_prop]
  refine ⟨fun hi => ?_, fun hi => ?_⟩
  ·have hi : i < a.length := of_decide_eq_true hi
   rw [getD_at (by omega : i.toNat < a.length), getD_at (by omega : i.toNat < b.length)]
   refine ⟨i0, hi, i0, by omega, ?_⟩
   by_cases hx : U.small a[i.toNat] = U.small b[i.toNat]
   ·rw [show (U.small a[i.toNat] != U.small b[i.toNat]) = false by rw [bne_eq_false_iff_eq]; exact hx]
    exact ⟨i + 1, by rw [iL (by omega) (by omega)], ⟨⟨by omega, by omega⟩, hab, Jj i0 hi (by omega) hI hx⟩, by simp only [dR]; omega⟩
   ·rw [show (U.small a[i.toNat] != U.small b[i.toNat]) = true by rw [bne_iff_ne]; exact hx]; exact ⟨(MV _ _ hx).symm, trivial⟩
  ·have hi : ¬ i < a.length := of_decide_eq_false hi
   exact ⟨(MW (by omega) (by omega) hI).symm, trivial⟩
 ·rw [show ((a.length : Int) != (b.length : Int)) = true by rw [bne_iff_ne]; omega]
  exact ⟨(MS hab).symm, trivial⟩
theorem JH {α : Type} {l : List α} {k : Nat} {x d : α} (h : k < l.length) : (l.set k x).getD k d = x := by
 rw [getD_at (by rw [List.length_set]; exact h), List.getElem_set_self]
theorem set2 {fs : List Field} {v : List Int} {e : Int} {k : Nat} (hk : k = fs.length - 1) (h : 0 < fs.length) : (fs.set k ((fs.getD k ([], [], 0, 0)).1, v, (fs.getD k ([], [], 0, 0)).2.2)).set k (((fs.set k ((fs.getD k ([], [], 0, 0)).1, v, (fs.getD k ([], [], 0, 0)).2.2)).getD k ([], [], 0, 0)).1, ((fs.set k ((fs.getD k ([], [], 0, 0)).1, v, (fs.getD k ([], [], 0, 0)).2.2)).getD k ([], [], 0, 0)).2.1, ((fs.set k ((fs.getD k ([], [], 0, 0)).1, v, (fs.getD k ([], [], 0, 0)).2.2)).getD k ([], [], 0, 0)).2.2.1, e) = U.setLast fs v e := by
 subst hk
 rw [JH (by omega), List.set_set]; rfl
theorem Ec (fs : List Field) (v : List Int) (e : Int) : (U.setLast fs v e).length = fs.length := List.length_set
theorem Rx (c : Int) : decide (aF [32, 9] c >= 0) = U.blank c := by
 unfold U.blank
 rw [EU, EU]
 by_cases h1 : (32 : Int) = c
 ·rw [if_pos h1, decide_eq_true h1.symm]; rfl
 ·rw [if_neg h1, decide_eq_false (fun h => h1 h.symm : ¬ c = 32)]
  by_cases h2 : (9 : Int) = c
  ·rw [if_pos h2, decide_eq_true h2.symm]; rfl
  ·rw [if_neg h2, decide_eq_false (fun h => h2 h.symm : ¬ c = 9)]; rfl
theorem Ui (fs : List Field) (v : List Int) (en : Int) (l : List Int) : (U.blank ((U.says l).getD 0 0) && decide ((fs.length : Int) > 0)) = U.more (fs, v, en) l := by
 unfold U.more
 congr 1
 rw [decide_eq_decide]
 constructor
 ·rintro h rfl; simp at h
 ·intro h
  have h2 : 0 < fs.length := List.length_pos_iff.2 h
  omega
theorem Ry (s : U.HS) : U.cu s [] = (s, 0) := rfl
theorem EW (s : U.HS) (r : List (List Int)) : U.cu s ([] :: r) = (s, 0) := by unfold U.cu; rfl
theorem CY (s : U.HS) {l : List Int} (r : List (List Int)) (h : ¬ l = []) : U.cu s (l :: r) = cond (U.goes s l) (U.cu (U.Ko s l) r) (s, cond (decide (U.says l = [])) (l.length : Int) 0) := by
 rw [U.cu, decide_eq_false h]; rfl
theorem Iz (s : U.HS) {l : List Int} (r : List (List Int)) (h : ¬ l = []) (hs : U.says l = []) : U.cu s (l :: r) = (s, (l.length : Int)) := by
 rw [CY s r h]; unfold U.goes; rw [decide_eq_true hs]; rfl
theorem IB (fs : List Field) (v : List Int) (en : Int) {l : List Int} (r : List (List Int)) (h : ¬ l = []) (hs : ¬ U.says l = []) (hm : U.more (fs, v, en) l = true) :
 U.cu (fs, v, en) (l :: r) = U.cu (U.setLast fs (U.trimB (v ++ U.says l)) (en + l.length), v ++ U.says l, en + l.length) r := by
 rw [CY _ r h]; unfold U.goes U.Ko U.Qq U.J9; rw [decide_eq_false hs, hm]; rfl
theorem EX (fs : List Field) (v : List Int) (en : Int) {l : List Int} (r : List (List Int)) (h : ¬ l = []) (hs : ¬ U.says l = []) (hm : U.more (fs, v, en) l = false) (hb : U.begins (U.says l) = true) :
 U.cu (fs, v, en) (l :: r) = U.cu (U.setLast (fs ++ [(U.aB (U.says l) 58, [], en, 0)]) (U.trimB (U.bH (U.says l) 58)) (en + l.length), U.bH (U.says l) 58, en + l.length) r := by
 rw [CY _ r h]; unfold U.goes U.Ko U.Qq U.J9; rw [decide_eq_false hs, hm, hb]; rfl
theorem IC (fs : List Field) (v : List Int) (en : Int) {l : List Int} (r : List (List Int)) (h : ¬ l = []) (hs : ¬ U.says l = []) (hm : U.more (fs, v, en) l = false) (hb : U.begins (U.says l) = false) :
 U.cu (fs, v, en) (l :: r) = ((fs, v, en), 0) := by
 rw [CY _ r h]; unfold U.goes; rw [decide_eq_false hs, hm, hb]; rfl
theorem Ed (c : Int) : ∀ s, (U.ah c s).flatten = s
 | [] => rfl
 | x :: r => by
   have ih := Ed c r
   rw [U.ah]
   split
   ·rw [List.flatten_cons, ih]; rfl
   ·cases hs : U.ah c r with
    | nil => exact absurd hs (Bo c r)
    | cons a m => rw [hs, List.flatten_cons] at ih; show ((x :: a) :: m).flatten = _; rw [List.flatten_cons, <- ih]; rfl
theorem SQ (l : List Int) (c : Int) : (U.bH l c).length <= l.length := by
 unfold U.bH
 cases decide (aF l c >= 0)
 ·exact Nat.zero_le _
 ·show (l.drop _).length <= _; rw [List.length_drop]; omega
theorem Rz : U.trimB [] = [] := rfl
theorem len0 {α : Type} {l : List α} : ((l.length : Int) = 0) ↔ l = [] := by
 constructor
 ·intro h; exact List.length_eq_zero_iff.1 (by omega)
 ·rintro rfl; rfl
theorem Om (b : List Int) (hb : ∀ x ∈ b, Valid (.int .u8) x) (hl : b.length <= 1000000000) : wZ b := by
 unfold wZ
 have hg : (([0] : List Int).set 0 10).getD 0 0 = 10 := rfl
 rw [hg]
 have hfl := Ed 10 b
 have bound : ∀ k, k < (U.ah 10 b).length -> ((U.ah 10 b).take k).flatten.length + ((U.ah 10 b).getD k []).length = ((U.ah 10 b).take (k + 1)).flatten.length /\ ((U.ah 10 b).take (k + 1)).flatten.length <= b.length := by
  intro k hk
  have h1 : (U.ah 10 b).take (k + 1) = (U.ah 10 b).take k ++ [(U.ah 10 b).getD k []] := by rw [List.take_succ_eq_append_getElem hk, getD_at hk]
  have h2 := congrArg List.length hfl
  rw [<- List.take_append_drop (k + 1) (U.ah 10 b), List.flatten_append, List.length_append] at h2
  refine ⟨?_, by omega⟩
  rw [h1, List.flatten_append, List.length_append]; simp
 refine ⟨by omega, rfl, rfl, ([], [], 0, 0), ⟨rfl, ⟨rfl, rfl, Int.le_refl 0, Int.le_refl 0⟩, rfl⟩, ?_, ?_⟩
 ·rintro ⟨fs, v, en, k⟩ ⟨hI, hen, hf, hv⟩ hk
  dsimp only at hI hen hf hv hk ⊢
  obtain ⟨b1, b2⟩ := bound k hk
  have hd : (U.ah 10 b).drop k = (U.ah 10 b).getD k [] :: (U.ah 10 b).drop (k + 1) := by rw [List.drop_eq_getElem_cons hk, getD_at hk]
  rw [hd] at hI
  revert hI b1
  generalize (U.ah 10 b).getD k [] = l
  intro hI b1
  have hsl := MP l
  rw [cond_prop]
  refine ⟨fun h0 => ?_, fun h0 => ?_⟩
  ·have h0 : l = [] := len0.1 (of_decide_eq_true h0)
   subst h0
   rw [EW] at hI
   rw [hI]; exact ⟨rfl, rfl, rfl, rfl, trivial⟩
  have h0 : ¬ l = [] := fun h => of_decide_eq_false h0 (len0.2 h)
  rw [cond_prop]
  refine ⟨fun hs => ?_, fun hs => ?_⟩
  ·have hs : U.says l = [] := len0.1 (of_decide_eq_true hs)
   rw [Iz _ _ h0 hs] at hI
   rw [hI]; exact ⟨rfl, rfl, rfl, rfl, trivial⟩
  have hs : ¬ U.says l = [] := fun h => of_decide_eq_false hs (len0.2 h)
  have hsp := List.length_pos_iff.2 hs
  refine ⟨by omega, by omega, ?_⟩
  rw [uF, Rx, Ui fs v en l]
  have hw : IntKind.i64.wrap (en.add (l.length : Int)) = en + l.length := iL (by omega) (by omega)
  rw [hw]
  cases hm : U.more (fs, v, en) l with
  | true =>
    rw [IB fs v en _ h0 hs hm] at hI
    have hfs : 0 < fs.length := by
     unfold U.more at hm
     simp only [Bool.and_eq_true, decide_eq_true_eq] at hm
     exact List.length_pos_iff.2 hm.2
    have hK : (IntKind.i64.wrap ((fs.length : Int).sub 1)).toNat = fs.length - 1 := by rw [vZ (by omega) (by omega)]; omega
    have hK2 : IntKind.i64.wrap ((fs.length : Int).sub 1) = (fs.length : Int) - 1 := vZ (by omega) (by omega)
    show (v.length.add (U.says l).length).mul 1 <= _ /\ _
    rw [MZ, set2 hK hfs, hK, hK2]
    refine ⟨by simp only [jc, xY]; omega, by simp only [jc, maxLen_eq]; omega, by omega, by omega, rfl, by omega, by rw [List.length_set]; omega, ?_⟩
    exact ⟨(U.setLast fs (U.trimB (v ++ U.says l)) (en + l.length), v ++ U.says l, en + l.length, k + 1), rfl, ⟨hI, by show en + (l.length : Int) = (((U.ah 10 b).take (k + 1)).flatten.length : Int); omega, by show ((U.setLast _ _ _).length : Int) <= en + l.length; rw [Ec]; omega, by show ((v ++ U.says l).length : Int) <= en + l.length; rw [List.length_append]; push_cast; omega⟩, rfl⟩
  | false =>
    cases hbg : U.begins (U.says l) with
    | true =>
      rw [EX fs v en _ h0 hs hm hbg] at hI
      have hcz := SQ (U.says l) 58
      have hlp := List.length_pos_iff.2 h0
      have hF : (fs.append ([(([], [], 0, 0) : Field)].set 0 (U.aB (U.says l) 58, [], en, 0))) = fs ++ [(U.aB (U.says l) 58, [], en, 0)] := rfl
      have hF1 : (fs ++ [((U.aB (U.says l) 58, [], en, 0) : Field)]).length = fs.length + 1 := by rw [List.length_append]; rfl
      show (fs.length.add 1).mul 48 <= _ /\ _
      refine ⟨by simp only [jc, xY]; omega, by simp only [jc, maxLen_eq]; omega, ?_⟩
      rw [hF]
      have hK : (IntKind.i64.wrap (((fs ++ [((U.aB (U.says l) 58, [], en, 0) : Field)]).length : Int).sub 1)).toNat = (fs ++ [((U.aB (U.says l) 58, [], en, 0) : Field)]).length - 1 := by rw [vZ (by omega) (by omega)]; omega
      have hK2 : IntKind.i64.wrap (((fs ++ [((U.aB (U.says l) 58, [], en, 0) : Field)]).length : Int).sub 1) = (fs.length : Int) := by rw [vZ (by omega) (by omega)]; omega
      intro nb hn1 _
      have fin : ∃ y : List Field × List Int × Int × Nat, U.bY b (U.setLast (fs ++ [(U.aB (U.says l) 58, [], en, 0)]) (U.trimB (U.bH (U.says l) 58)) (en + l.length)) (U.bH (U.says l) 58) (en + l.length) y.2.2.2 = U.bY b y.1 y.2.1 y.2.2.1 y.2.2.2 /\ U.fJ b y.1 y.2.1 y.2.2.1 y.2.2.2 /\ y.2.2.2 = k.add 1 :=
       ⟨(_, _, en + l.length, k + 1), rfl, ⟨hI, by show en + (l.length : Int) = (((U.ah 10 b).take (k + 1)).flatten.length : Int); omega, by show ((U.setLast _ _ _).length : Int) <= en + l.length; rw [Ec, hF1]; push_cast; omega, by show ((U.bH _ _).length : Int) <= en + l.length; omega⟩, rfl⟩
      cases nb with
      | true =>
        have hz : U.bH (U.says l) 58 = [] := List.length_eq_zero_iff.1 (hn1 rfl)
        rw [hz, Rz] at fin
        show (0 : Int) <= _ /\ _
        rw [set2 hK (by omega), hK, hK2, List.length_set]
        exact ⟨by omega, by omega, by omega, by omega, fin⟩
      | false =>
        show (Nat.add 0 _).mul 1 <= _ /\ _
        rw [MZ, set2 hK (by omega), hK, hK2, List.length_set]
        exact ⟨by simp only [jc, xY]; omega, by simp only [jc, maxLen_eq]; omega, by omega, by omega, rfl, by omega, by omega, fin⟩
    | false =>
      rw [IC fs v en _ h0 hs hm hbg] at hI
      rw [hI]; exact ⟨rfl, rfl, rfl, rfl, trivial⟩
 ·rintro ⟨fs, v, en, k⟩ ⟨hI, hen, hf, hv⟩ hk
  dsimp only at hI hk ⊢
  rw [hk, List.drop_length, Ry] at hI
  rw [hI]; exact ⟨rfl, rfl, rfl, rfl, trivial⟩
theorem BL {b : List Int} {p : Int} (p0 : 0 <= p) (hp : p < b.length) : p < U.endOf b p /\ U.endOf b p <= b.length /\ ∃ r, U.ah 10 (b.drop p.toNat) = List.take ((U.endOf b p).toNat.sub p.toNat) (List.drop p.toNat b) :: r /\ ∀ s, U.cu s r = U.cu s (U.ah 10 (b.drop (U.endOf b p).toNat)) := by
 have hb := dJ (b.drop p.toNat) 10
 rw [List.length_drop] at hb
 unfold U.endOf
 by_cases hi : aF (b.drop p.toNat) 10 >= 0
 ·rw [decide_eq_true hi]
  show p < p + _ + 1 /\ p + _ + 1 <= _ /\ ∃ r, _ = List.take ((p + aF (b.drop p.toNat) 10 + 1).toNat.sub p.toNat) _ :: r /\ ∀ s, _ = U.cu s (U.ah 10 (b.drop (p + aF (b.drop p.toNat) 10 + 1).toNat))
  refine ⟨by omega, by omega, _, ?_, fun s => rfl⟩
  rw [zh 10 _ hi, List.drop_drop]
  congr 2
  ·rw [dR]; omega
  ·congr 1; omega
 ·rw [decide_eq_false hi]
  show p < _ /\ (b.length : Int) <= _ /\ ∃ r, _ = List.take (((b.length : Int)).toNat.sub p.toNat) _ :: r /\ ∀ s, _ = U.cu s (U.ah 10 (b.drop ((b.length : Int)).toNat))
  refine ⟨hp, by omega, [], ?_, fun s => ?_⟩
  ·rw [Bq 10 _ (by omega), oL]
  ·rw [List.drop_eq_nil_of_le (by omega), Ry]
   show _ = U.cu s [[]]
   rw [EW]
theorem CZ (s : U.HS) {b : List Int} {p : Int} (hp : (b.length : Int) <= p) : U.cu s (U.ah 10 (b.drop p.toNat)) = (s, 0) := by
 rw [List.drop_eq_nil_of_le (by omega)]
 show U.cu s [[]] = _
 rw [EW]
theorem RD {S : List Int} (h : U.begins S = true) : U.Rt S = aF S 58 /\ 1 <= aF S 58 /\ aF S 58 < S.length /\ U.aB S 58 = S.take (aF S 58).toNat /\ U.bH S 58 = S.drop (aF S 58 + 1).toNat := by
 have hb := dJ S 58
 have h' := h
 unfold U.begins at h'
 simp only [Bool.and_eq_true, decide_eq_true_eq] at h'
 obtain ⟨h1, h2, _⟩ := h'
 have hcA : U.aB S 58 = S.take (aF S 58).toNat := by unfold U.aB; rw [decide_eq_true h1]; rfl
 have hl : (U.aB S 58).length = (aF S 58).toNat := by rw [hcA, List.length_take]; omega
 refine ⟨?_, by omega, hb.2, hcA, by unfold U.bH; rw [decide_eq_true h1]; rfl⟩
 unfold U.Rt; rw [h, hl]; show (((aF S 58).toNat : Nat) : Int) = _; omega
theorem Nb (b : List Int) : ∀ (n : Nat) (s : U.HS), 0 <= s.2.2 -> s.2.2 <= b.length -> b.length - s.2.2.toNat <= n -> ∀ R, R = U.cu s (U.ah 10 (b.drop s.2.2.toNat)) ->
 0 <= R.1.2.2 /\ R.1.2.2 <= b.length /\ ((R.1.2.2 < b.length /\ U.says (List.take ((U.endOf b R.1.2.2).toNat.sub R.1.2.2.toNat) (List.drop R.1.2.2.toNat b)) = [] /\ R.1.2.2 + R.2 = U.endOf b R.1.2.2) ∨
  (R.2 = 0 /\ (R.1.2.2 < b.length -> ¬ U.says (List.take ((U.endOf b R.1.2.2).toNat.sub R.1.2.2.toNat) (List.drop R.1.2.2.toNat b)) = [])))
 | 0, s, h0, h1, hn, R, hR => by
   rw [CZ s (by omega)] at hR
   subst hR
   exact ⟨h0, h1, .inr ⟨rfl, fun h => by dsimp only at h; omega⟩⟩
 | n + 1, (fs, v, en), h0, h1, hn, R, hR => by
   dsimp only at h0 h1 hn hR
   by_cases hi : en < b.length
   ·obtain ⟨q1, q2, r, hr, hrr⟩ := BL h0 hi
    have hll : (List.take ((U.endOf b en).toNat.sub en.toNat) (List.drop en.toNat b)).length = (U.endOf b en).toNat - en.toNat := by rw [List.length_take, List.length_drop, dR]; omega
    rw [hr] at hR
    obtain ⟨l, hl⟩ : ∃ l, l = List.take ((U.endOf b en).toNat.sub en.toNat) (List.drop en.toNat b) := ⟨_, rfl⟩
    rw [<- hl] at hR hll
    have hq : U.endOf b en = en + l.length := by omega
    have hne : ¬ l = [] := by intro h; rw [h] at hll; simp at hll; omega
    by_cases hs : U.says l = []
    ·rw [Iz _ _ hne hs] at hR
     subst hR
     exact ⟨h0, h1, .inl ⟨hi, by show U.says (List.take ((U.endOf b en).toNat.sub en.toNat) (List.drop en.toNat b)) = []; rw [<- hl]; exact hs, hq.symm⟩⟩
    ·cases hm : U.more (fs, v, en) l with
     | true =>
       rw [IB fs v en _ hne hs hm, hrr, hq] at hR
       exact Nb b n (_, _, en + l.length) (by show 0 <= en + (l.length : Int); omega) (by show en + (l.length : Int) <= _; omega) (by show b.length - (en + (l.length : Int)).toNat <= n; omega) R hR
     | false =>
       cases hbg : U.begins (U.says l) with
       | true =>
         rw [EX fs v en _ hne hs hm hbg, hrr, hq] at hR
         exact Nb b n (_, _, en + l.length) (by show 0 <= en + (l.length : Int); omega) (by show en + (l.length : Int) <= _; omega) (by show b.length - (en + (l.length : Int)).toNat <= n; omega) R hR
       | false =>
         rw [IC fs v en _ hne hs hm hbg] at hR
         subst hR
         exact ⟨h0, h1, .inr ⟨rfl, fun _ => by show ¬ U.says (List.take ((U.endOf b en).toNat.sub en.toNat) (List.drop en.toNat b)) = []; rw [<- hl]; exact hs⟩⟩
   ·rw [CZ _ (by omega)] at hR
    subst hR
    exact ⟨h0, h1, .inr ⟨rfl, fun h => absurd h hi⟩⟩
theorem Jk (b : List Int) : 0 <= (U.hread b).1.2.2 /\ (U.hread b).1.2.2 <= b.length /\ (((U.hread b).1.2.2 < b.length /\ U.says (List.take ((U.endOf b (U.hread b).1.2.2).toNat.sub (U.hread b).1.2.2.toNat) (List.drop (U.hread b).1.2.2.toNat b)) = [] /\ (U.hread b).1.2.2 + (U.hread b).2 = U.endOf b (U.hread b).1.2.2) ∨
 ((U.hread b).2 = 0 /\ ((U.hread b).1.2.2 < b.length -> ¬ U.says (List.take ((U.endOf b (U.hread b).1.2.2).toNat.sub (U.hread b).1.2.2.toNat) (List.drop (U.hread b).1.2.2.toNat b)) = []))) :=
 Nb b b.length ([], [], 0) (Int.le_refl 0) (by show (0 : Int) <= _; omega) (Nat.sub_le _ _) _ rfl
theorem SS {b : List Int} {p : Int} (h0 : 0 <= p) (h1 : p <= b.length) : p <= U.endOf b p /\ U.endOf b p <= b.length := by
 by_cases h : p < b.length
 ·have := BL h0 h; omega
 ·rw [Rw (by omega)]; omega
theorem O1 (b : List Int) : (U.hread b).1.2.2 <= U.textOf b /\ U.textOf b <= b.length := by
 obtain ⟨h0, h1, h2⟩ := Jk b
 have := SS h0 h1
 unfold U.textOf
 rcases h2 with ⟨_, _, h⟩ | ⟨h, _⟩ <;> omega
theorem Oo (b : List Int) (hb : ∀ x ∈ b, Valid (.int .u8) x) (h : b.length <= 1000000000) : xg b := by
 unfold xg
 have h1 := Jk b
 have h2 := O1 b
 unfold U.textOf at *
 refine ⟨h, ?_, trivial⟩
 rw [iL (by omega) (by omega)]
end Go.Proofs.YtggccomebfpfpaaDoor
set_option linter.unusedSimpArgs false
set_option maxRecDepth 100000
set_option linter.unusedVariables false
namespace Go.Proofs.YtggccomebfpfpaaDoor
open Go.Vc
theorem Qu (x : aK [aA]) : dB Tryd.prog (bJ iU) (GR x) 43 (dh [aA] x) [] (zk x) = wY x := by kernel_rfl
theorem Qv : Pok 43 [aA] (fun x => zk x) := by
 refine pk (L := fun x => GR x) (l := iU) qh (fun _ => rfl) ?_
 intro x hv hp
 rw [Qu]
 exact Oj x
theorem Qw : bZ Tryd.prog gl 43 GN := Qv
theorem Ee : bK rJ := .cons Qw qh
theorem JI (x : aK [.int .u8]) : dB Tryd.prog (bJ rJ) (zJ x) 59 (dh [.int .u8] x) [] (qH x) = oN x := by kernel_rfl
theorem JJ : Pok 59 [.int .u8] (fun x => qH x) := by
 refine pk (L := fun x => zJ x) (l := rJ) Ee (fun _ => rfl) ?_
 intro x hv hp
 rw [JI]
 exact Iy x
theorem JK : bZ Tryd.prog gl 59 zI := JJ
theorem x9 : bK lD := .cons JK Ee
theorem Oq (x : aK [aA]) : dB Tryd.prog (bJ lD) (D5 x) 44 (dh [aA] x) [] (wU x) = uY x := by kernel_rfl
theorem Ot : Pok 44 [aA] (fun x => wU x) := by
 refine pk (L := fun x => D5 x) (l := lD) x9 (fun _ => rfl) ?_
 intro x hv hp
 rw [Oq]
 exact MQ x hv.2
theorem Ou : bZ Tryd.prog gl 44 DZ := Ot
theorem BM : bK o9 := .cons Ou x9
theorem Qx (x : aK [aA]) : dB Tryd.prog (bJ o9) (GV x) 22 (dh [aA] x) [] (rM x) = wZ x := by kernel_rfl
theorem Qy : Pok 22 [aA] (fun x => rM x) := by
 refine pk (L := fun x => GV x) (l := o9) BM (fun _ => rfl) ?_
 intro x hv hp
 rw [Qx]
 exact Om x hv.1 (hp (List.length x <= 1000000000) (by simp [rM]))
theorem Qz : bZ Tryd.prog gl 22 GU := Qy
theorem Ef : bK rO := .cons Qz BM
theorem Nc (x : aK [aA]) : dB Tryd.prog (bJ rO) (BF x) 11 (dh [aA] x) [] (nR x) = qI x := by kernel_rfl
theorem Nh : Pok 11 [aA] (fun x => nR x) := by
 refine pk (L := fun x => BF x) (l := rO) Ef (fun _ => rfl) ?_
 intro x hv hp
 rw [Nc]
 exact JE x (hp (List.length x <= 1000000000) (by simp [nR]))
theorem Nj : bZ Tryd.prog gl 11 BD := Nh
theorem zL : bK nT := .cons Nj Ef
theorem QA (x : aK [aA]) : dB Tryd.prog (bJ nT) (GY x) 13 (dh [aA] x) [] (rP x) = xg x := by kernel_rfl
theorem QB : Pok 13 [aA] (fun x => rP x) := by
 refine pk (L := fun x => GY x) (l := nT) zL (fun _ => rfl) ?_
 intro x hv hp
 rw [QA]
 exact Oo x hv.1 (hp (List.length x <= 1000000000) (by simp [rP]))
theorem QC : bZ Tryd.prog gl 13 GX := QB
theorem Eh : bK rQ := .cons QC zL
theorem Ov (x : aK [.int .u8]) : dB Tryd.prog (bJ rQ) (D7 x) 29 (dh [.int .u8] x) [] (wV x) = uZ x := by kernel_rfl
theorem Ox : Pok 29 [.int .u8] (fun x => wV x) := by
 refine pk (L := fun x => D7 x) (l := rQ) Eh (fun _ => rfl) ?_
 intro x hv hp
 rw [Ov]
 exact MR x (T.vU8 hv)
theorem Oy : bZ Tryd.prog gl 29 D6 := Ox
theorem BN : bK pq := .cons Oy Eh
theorem Nk (x : aK [.int .u8, .int .u8]) : dB Tryd.prog (bJ pq) (BH x.1 x.2) 28 (dh [.int .u8, .int .u8] x) [] (uV x.1 x.2) = zK x.1 x.2 := by kernel_rfl
theorem Nl : Pok 28 [.int .u8, .int .u8] (fun x => uV x.1 x.2) := by
 refine pk (L := fun x => BH x.1 x.2) (l := pq) BN (fun _ => rfl) ?_
 intro x hv hp
 rw [Nk]
 exact JG x.1 x.2
theorem Np : bZ Tryd.prog gl 28 BG := Nl
theorem zM : bK nU := .cons Np BN
theorem QD (x : aK [.str, .str]) : dB Tryd.prog (bJ nU) (G5 x.1 x.2) 17 (dh [.str, .str] x) [] (zl x.1 x.2) = xk x.1 x.2 := by kernel_rfl
theorem QE : Pok 17 [.str, .str] (fun x => zl x.1 x.2) := by
 refine pk (L := fun x => G5 x.1 x.2) (l := nU) zM (fun _ => rfl) ?_
 intro x hv hp
 rw [QD]
 exact Ol x.1 x.2 hv.1.2
theorem QF : bZ Tryd.prog gl 17 GZ := QE
theorem Ei : bK rU := .cons QF zM
theorem RF (x : aK [aA, .str]) : dB Tryd.prog (bJ rU) (Ji x.1 x.2) 8 (dh [aA, .str] x) [] (wo x.1 x.2) = zn x.1 x.2 := by kernel_rfl
theorem RG : Pok 8 [aA, .str] (fun x => wo x.1 x.2) := by
 refine pk (L := fun x => Ji x.1 x.2) (l := rU) Ei (fun _ => rfl) ?_
 intro x hv hp
 rw [RF]
 exact Qs x.1 x.2 (hp (List.length x.1 <= 1000000000) (by simp [wo]))
theorem RH : bZ Tryd.prog gl 8 Jh := RG
theorem G6 : bK wu := .cons RH Ei
theorem Oz (x : aK [aA]) : dB Tryd.prog (bJ wu) (D9 x) 15 (dh [aA] x) [] (wW x) = BK x := by kernel_rfl
theorem OA : Pok 15 [aA] (fun x => wW x) := by
 refine pk (L := fun x => D9 x) (l := wu) G6 (fun _ => rfl) ?_
 intro x hv hp
 rw [Oz]
 exact MX x
theorem OB : bZ Tryd.prog gl 15 D8 := OA
theorem BO : bK pz := .cons OB G6
theorem Nq (x : aK [.int .u8]) : dB Tryd.prog (bJ pz) (BJ x) 30 (dh [.int .u8] x) [] (uX x) = qJ x := by kernel_rfl
theorem Nr : Pok 30 [.int .u8] (fun x => uX x) := by
 refine pk (L := fun x => BJ x) (l := pz) BO (fun _ => rfl) ?_
 intro x hv hp
 rw [Nq]
 exact JF x (T.vU8 hv)
theorem Ns : bZ Tryd.prog gl 30 BI := Nr
theorem zN : bK nV := .cons Ns BO
theorem OC (x : aK [.str, .str]) : dB Tryd.prog (bJ nV) (Eb x.1 x.2) 18 (dh [.str, .str] x) [] (wX x.1 x.2) = vg x.1 x.2 := by kernel_rfl
theorem OD : Pok 18 [.str, .str] (fun x => wX x.1 x.2) := by
 refine pk (L := fun x => Eb x.1 x.2) (l := nV) zN (fun _ => rfl) ?_
 intro x hv hp
 rw [OC]
 exact Na x.1 x.2 hv.1.2
theorem OE : bZ Tryd.prog gl 18 Ea := OD
theorem BP : bK pF := .cons OE zN
end Go.Proofs.YtggccomebfpfpaaDoor
