/- What is owed of the functions, proved in plain Lean. -/
import Derived.Test.YtggccomebfpfpaaDoorDB
import Derived.Test.YtggccomebfpfpaaDoorDA
set_option linter.unusedSimpArgs false
set_option linter.unusedVariables false
set_option maxRecDepth 100000
namespace Go.Proofs.YtggccomebfpfpaaDoor
open Go.Vc
open Go.Vc.T
theorem QU {α : Type} {l : List α} {f : α -> Bool} {i : Int} (h0 : 0 <= i) (hi : i < l.length) : (l.drop i.toNat).any f = (f l[i.toNat] || (l.drop (i + 1).toNat).any f) := by
 rw [drop_at h0 hi]; rfl
theorem S9 (l : List Int) (c : Int) : U.dh l [c] = cond (U.dO l [c]) (l.take (l.length - 1)) l := rfl
theorem MG (l : List Int) : (U.says l).length <= l.length := by
 have key : ∀ (m : List Int) (c : Int), (U.dh m [c]).length <= m.length := fun m c => by
  rw [S9]; cases U.dO m [c]
  ·exact Nat.le_refl _
  ·show (m.take _).length <= _; rw [List.length_take]; omega
 unfold U.says
 cases U.dO l [10]
 ·exact Nat.le_refl _
 ·exact Nat.le_trans (key _ _) (key _ _)
theorem EL (x c : Int) (l : List Int) : aF (x :: l) c = if x = c then 0 else if aF l c = -1 then -1 else aF l c + 1 := rfl
theorem NT (l : List Int) : wU l := by
 unfold wU
 refine ⟨by omega, ?_⟩
 show bif U.dO l [10] then 0 < 1 /\ U.dh (U.dh l [10]) [13] = U.says l /\ True else _
 unfold U.says
 cases U.dO l [10]
 ·exact ⟨rfl, trivial⟩
 ·exact ⟨by omega, rfl, trivial⟩
theorem Ij (c : Int) : oM c := by
 unfold oM U.y7; rw [TG]; exact ⟨rfl, trivial⟩
theorem MH (l : List Int) (hl : l.length <= maxLen) : uV l := by
 unfold uV
 rw [maxLen_eq] at hl
 have hg : (([0] : List Int).set 0 58).getD 0 0 = 58 := rfl
 have hb := dK l 58
 have hn : (U.aB l 58).length <= l.length := by
  unfold U.aB; cases decide (aF l 58 >= 0)
  ·exact Nat.le_refl _
  ·show (l.take _).length <= _; rw [List.length_take]; omega
 rw [hg, uz, uz]
 refine ⟨by omega, rfl, ?_⟩
 cases hc : (decide (aF l 58 >= 0) && decide (((U.aB l 58).length : Int) >= 1) && decide (((U.aB l 58).length : Int) <= 60)) with
 | false =>
   refine ⟨rfl, rfl, ?_, trivial⟩
   unfold U.begins
   revert hc
   cases decide (aF l 58 >= 0)
   ·intro _; rfl
   ·by_cases h1 : (U.aB l 58).length >= 1
    ·rw [decide_eq_true (by omega : ((U.aB l 58).length : Int) >= 1), decide_eq_true h1]
     by_cases h2 : (U.aB l 58).length <= 60
     ·rw [decide_eq_true (by omega : ((U.aB l 58).length : Int) <= 60)]; intro h; cases h
     ·rw [decide_eq_false h2]; intro _; rfl
    ·rw [decide_eq_false h1]; intro _; rfl
 | true =>
   simp only [Bool.and_eq_true, decide_eq_true_eq] at hc
   obtain ⟨⟨h1, h2⟩, h3⟩ := hc
   have hbg : U.begins l = !((U.aB l 58).any U.y7) := by
    unfold U.begins
    rw [decide_eq_true h1, decide_eq_true (by omega : (U.aB l 58).length >= 1), decide_eq_true (by omega : (U.aB l 58).length <= 60)]; rfl
   refine ⟨0, ⟨rfl, ⟨Int.le_refl 0, by omega⟩, rfl⟩, ?_⟩
   rintro i ⟨⟨i0, i1⟩, hI⟩
   rw [cond_prop]
   refine ⟨fun hi => ?_, fun hi => ?_⟩
   ·have hi : i < (U.aB l 58).length := of_decide_eq_true hi
    rw [QU i0 hi] at hI
    rw [getD_at (by omega : i.toNat < (U.aB l 58).length)]
    refine ⟨i0, hi, ?_⟩
    cases ho : U.y7 (U.aB l 58)[i.toNat] with
    | true =>
      rw [ho] at hI
      refine ⟨rfl, rfl, ?_, trivial⟩
      rw [hbg, <- hI, decide_eq_true (by omega : i >= 0)]; rfl
    | false =>
      rw [ho, Bool.false_or] at hI
      exact ⟨i + 1, by rw [je (by omega) (by omega)], ⟨⟨by omega, by omega⟩, hI⟩, by simp only [eF]; omega⟩
   ·have hi : ¬ i < (U.aB l 58).length := of_decide_eq_false hi
    rw [drop_end (by omega)] at hI
    refine ⟨rfl, rfl, ?_, trivial⟩
    rw [hbg, <- hI]; rfl
theorem Ju (b : List Int) (h : b.length <= 1000000000) : qH b := by
 unfold qH J4
 refine ⟨h, by omega, ?_⟩
 by_cases hc : (40 : Int) < ((U.hread b).1.1.length : Int)
 ·rw [if_pos hc]; exact ⟨by omega, by omega, rfl, trivial⟩
 ·rw [if_neg hc]
  refine ⟨by omega, by omega, ?_, trivial⟩
  show (U.hread b).1.1.take _ = (U.hread b).1.1.take 40
  rw [Ii _ (by rw [eF]; omega), Ii _ (by omega)]
theorem MI (c : Int) (h : 0 <= c /\ c <= 255) : uX c := by
 unfold uX U.small
 rw [uz, show decide (c >= 65) = decide (65 <= c) from rfl]
 cases hc : (decide (65 <= c) && decide (c <= 90)) with
 | true =>
   simp only [Bool.and_eq_true, decide_eq_true_eq] at hc
   refine ⟨?_, trivial⟩
   rw [Ic, wrap_u8]; show _ = c + 32; omega
 | false => exact ⟨rfl, trivial⟩
theorem Jv (x y : Int) : zH x y := ⟨rfl, trivial⟩
theorem TT {a b : List Int} (h : U.cu a b = true) {i : Nat} (ha : i < a.length) (hb : i < b.length) : U.small a[i] = U.small b[i] := by
 have h : a.map U.small = b.map U.small := of_decide_eq_true h
 have h2 : (a.map U.small)[i]? = (b.map U.small)[i]? := by rw [h]
 rw [List.getElem?_map, List.getElem?_map, List.getElem?_eq_getElem ha, List.getElem?_eq_getElem hb] at h2
 simpa using h2
theorem RZ {a b : List Int} (h : U.cu a b = true) : a.length = b.length := by
 have h : a.map U.small = b.map U.small := of_decide_eq_true h
 have := congrArg List.length h
 simpa using this
theorem Si {a b : List Int} (h : ¬ a.length = b.length) : U.cu a b = false := by
 cases hs : U.cu a b with
 | false => rfl
 | true => exact absurd (RZ hs) h
theorem Sj {a b : List Int} {i : Nat} (ha : i < a.length) (hb : i < b.length) (h : ¬ U.small a[i] = U.small b[i]) : U.cu a b = false := by
 cases hs : U.cu a b with
 | false => rfl
 | true => exact absurd (TT hs ha hb) h
theorem QV {a b : List Int} {i : Int} (i0 : 0 <= i) (ha : i < a.length) (hb : i < b.length) (h : (a.take i.toNat).map U.small = (b.take i.toNat).map U.small) (hx : U.small a[i.toNat] = U.small b[i.toNat]) : (a.take (i + 1).toNat).map U.small = (b.take (i + 1).toNat).map U.small := by
 rw [take_at i0 ha, take_at i0 hb, List.map_append, List.map_append, h, List.map_singleton, List.map_singleton, hx]
theorem Sl {a b : List Int} {i : Int} (ha : a.length <= i) (hb : b.length <= i) (h : (a.take i.toNat).map U.small = (b.take i.toNat).map U.small) : U.cu a b = true := by
 rw [Et ha, Et hb] at h; exact decide_eq_true h
theorem NU (a b : List Int) (hl : a.length <= maxLen) : wX a b := by
 unfold wX
 rw [maxLen_eq] at hl
 by_cases hab : a.length = b.length
 ·rw [show ((a.length : Int) != (b.length : Int)) = false by rw [bne_eq_false_iff_eq]; omega]
  refine ⟨0, ⟨rfl, ⟨Int.le_refl 0, by omega⟩, hab, rfl⟩, ?_⟩
  rintro i ⟨⟨i0, i1⟩, _, hI⟩
  rw [cond_prop]
  refine ⟨fun hi => ?_, fun hi => ?_⟩
  ·have hi : i < a.length := of_decide_eq_true hi
   rw [getD_at (by omega : i.toNat < a.length), getD_at (by omega : i.toNat < b.length)]
   refine ⟨i0, hi, by omega, i0, by omega, by omega, ?_⟩
   by_cases hx : U.small a[i.toNat] = U.small b[i.toNat]
   ·rw [decide_eq_true hx]
    exact ⟨i + 1, by rw [je (by omega) (by omega)], ⟨⟨by omega, by omega⟩, hab, QV i0 hi (by omega) hI hx⟩, by simp only [eF]; omega⟩
   ·rw [decide_eq_false hx]; exact ⟨(Sj _ _ hx).symm, trivial⟩
  ·have hi : ¬ i < a.length := of_decide_eq_false hi
   exact ⟨(Sl (by omega) (by omega) hI).symm, trivial⟩
 ·rw [show ((a.length : Int) != (b.length : Int)) = true by rw [bne_iff_ne]; omega]
  exact ⟨(Si hab).symm, trivial⟩
theorem P8 (b n : List Int) (h : b.length <= 1000000000) : zf b n := by
 unfold zf
 have hf : (U.fieldsOf b).length <= 40 := by unfold U.fieldsOf; rw [List.length_take]; omega
 refine ⟨h, 0, ⟨rfl, ⟨Int.le_refl 0, by omega⟩, rfl⟩, ?_⟩
 rintro i ⟨⟨i0, i1⟩, hI⟩
 rw [cond_prop]
 refine ⟨fun hi => ?_, fun hi => ?_⟩
 ·have hi : i < (U.fieldsOf b).length := of_decide_eq_true hi
  rw [drop_at i0 hi, U.dM] at hI
  rw [getD_at (by omega : i.toNat < (U.fieldsOf b).length)]
  refine ⟨i0, hi, ?_⟩
  cases hs : U.cu (U.fieldsOf b)[i.toNat].1 n with
  | true => rw [hs] at hI; rw [<- hI]; exact ⟨rfl, rfl, trivial⟩
  | false =>
    rw [hs] at hI
    exact ⟨i + 1, by rw [je (by omega) (by omega)], ⟨⟨by omega, by omega⟩, hI⟩, by simp only [eF]; omega⟩
 ·have hi : ¬ i < (U.fieldsOf b).length := of_decide_eq_false hi
  rw [drop_end (by omega)] at hI
  rw [<- hI]; exact ⟨rfl, rfl, trivial⟩
theorem MJ (b : List Int) : BD b := ⟨by omega, rfl, rfl, trivial⟩
theorem QW {b : List Int} {q : Int} (hq : (b.length : Int) <= q) : U.endOf b q = b.length := by
 unfold U.endOf; rw [drop_end hq]; rfl
theorem MK (l : List Int) : List.take (U.trimB l).length (List.drop (U.bK (List.take (U.aW l) l)) l) = U.trimB l := by
 rw [I7]
 unfold U.trimB
 rw [List.drop_take]
theorem Jw {α : Type} {l : List α} {k : Nat} {x d : α} (h : k < l.length) : (l.set k x).getD k d = x := by
 rw [getD_at (by rw [List.length_set]; exact h), List.getElem_set_self]
theorem set2 {fs : List Field} {v : List Int} {e : Int} {k : Nat} (hk : k = fs.length - 1) (h : 0 < fs.length) : (fs.set k ((fs.getD k ([], [], 0, 0)).1, v, (fs.getD k ([], [], 0, 0)).2.2)).set k (((fs.set k ((fs.getD k ([], [], 0, 0)).1, v, (fs.getD k ([], [], 0, 0)).2.2)).getD k ([], [], 0, 0)).1, ((fs.set k ((fs.getD k ([], [], 0, 0)).1, v, (fs.getD k ([], [], 0, 0)).2.2)).getD k ([], [], 0, 0)).2.1, ((fs.set k ((fs.getD k ([], [], 0, 0)).1, v, (fs.getD k ([], [], 0, 0)).2.2)).getD k ([], [], 0, 0)).2.2.1, e) = U.setLast fs v e := by
 subst hk
 rw [Jw (by omega), List.set_set]; rfl
theorem DY (fs : List Field) (v : List Int) (e : Int) : (U.setLast fs v e).length = fs.length := List.length_set
theorem QX (c : Int) : decide (aF [32, 9] c >= 0) = U.blank c := by
 unfold U.blank
 rw [EL, EL]
 by_cases h1 : (32 : Int) = c
 ·rw [if_pos h1, decide_eq_true h1.symm]; rfl
 ·rw [if_neg h1, decide_eq_false (fun h => h1 h.symm : ¬ c = 32)]
  by_cases h2 : (9 : Int) = c
  ·rw [if_pos h2, decide_eq_true h2.symm]; rfl
  ·rw [if_neg h2, decide_eq_false (fun h => h2 h.symm : ¬ c = 9)]; rfl
theorem TU (fs : List Field) (v : List Int) (en : Int) (l : List Int) : (U.blank ((U.says l).getD 0 0) && decide ((fs.length : Int) > 0)) = U.more (fs, v, en) l := by
 unfold U.more
 congr 1
 rw [decide_eq_decide]
 constructor
 ·rintro h rfl; simp at h
 ·intro h
  have h2 : 0 < fs.length := List.length_pos_iff.2 h
  omega
theorem QY (s : U.HS) : U.cO s [] = (s, 0) := rfl
theorem EM (s : U.HS) (r : List (List Int)) : U.cO s ([] :: r) = (s, 0) := by unfold U.cO; rfl
theorem CO (s : U.HS) {l : List Int} (r : List (List Int)) (h : ¬ l = []) : U.cO s (l :: r) = cond (U.goes s l) (U.cO (U.JY s l) r) (s, cond (decide (U.says l = [])) (l.length : Int) 0) := by
 rw [U.cO, decide_eq_false h]; rfl
theorem Ik (s : U.HS) {l : List Int} (r : List (List Int)) (h : ¬ l = []) (hs : U.says l = []) : U.cO s (l :: r) = (s, (l.length : Int)) := by
 rw [CO s r h]; unfold U.goes; rw [decide_eq_true hs]; rfl
theorem Il (fs : List Field) (v : List Int) (en : Int) {l : List Int} (r : List (List Int)) (h : ¬ l = []) (hs : ¬ U.says l = []) (hm : U.more (fs, v, en) l = true) :
 U.cO (fs, v, en) (l :: r) = U.cO (U.setLast fs (U.trimB (v ++ U.says l)) (en + l.length), v ++ U.says l, en + l.length) r := by
 rw [CO _ r h]; unfold U.goes U.JY U.P6 U.JX; rw [decide_eq_false hs, hm]; rfl
theorem EN (fs : List Field) (v : List Int) (en : Int) {l : List Int} (r : List (List Int)) (h : ¬ l = []) (hs : ¬ U.says l = []) (hm : U.more (fs, v, en) l = false) (hb : U.begins (U.says l) = true) :
 U.cO (fs, v, en) (l :: r) = U.cO (U.setLast (fs ++ [(U.aB (U.says l) 58, [], en, 0)]) (U.trimB (U.bH (U.says l) 58)) (en + l.length), U.bH (U.says l) 58, en + l.length) r := by
 rw [CO _ r h]; unfold U.goes U.JY U.P6 U.JX; rw [decide_eq_false hs, hm, hb]; rfl
theorem Io (fs : List Field) (v : List Int) (en : Int) {l : List Int} (r : List (List Int)) (h : ¬ l = []) (hs : ¬ U.says l = []) (hm : U.more (fs, v, en) l = false) (hb : U.begins (U.says l) = false) :
 U.cO (fs, v, en) (l :: r) = ((fs, v, en), 0) := by
 rw [CO _ r h]; unfold U.goes; rw [decide_eq_false hs, hm, hb]; rfl
theorem DZ (c : Int) : ∀ s, (U.ah c s).flatten = s
 | [] => rfl
 | x :: r => by
   have ih := DZ c r
   rw [U.ah]
   split
   ·rw [List.flatten_cons, ih]; rfl
   ·cases hs : U.ah c r with
    | nil => exact absurd hs (Bg c r)
    | cons a m => rw [hs, List.flatten_cons] at ih; show ((x :: a) :: m).flatten = _; rw [List.flatten_cons, <- ih]; rfl
theorem Sm (l : List Int) (c : Int) : (U.bH l c).length <= l.length := by
 unfold U.bH
 cases decide (aF l c >= 0)
 ·exact Nat.zero_le _
 ·show (l.drop _).length <= _; rw [List.length_drop]; omega
theorem QZ : U.trimB [] = [] := rfl
theorem len0 {α : Type} {l : List α} : ((l.length : Int) = 0) ↔ l = [] := by
 constructor
 ·intro h; exact List.length_eq_zero_iff.1 (by omega)
 ·rintro rfl; rfl
theorem NV (b : List Int) (hb : ∀ x ∈ b, Valid (.int .u8) x) (hl : b.length <= 1000000000) : wV b := by
 unfold wV
 have hg : (([0] : List Int).set 0 10).getD 0 0 = 10 := rfl
 rw [hg]
 have hfl := DZ 10 b
 have bound : ∀ k, k < (U.ah 10 b).length -> ((U.ah 10 b).take k).flatten.length + ((U.ah 10 b).getD k []).length = ((U.ah 10 b).take (k + 1)).flatten.length /\ ((U.ah 10 b).take (k + 1)).flatten.length <= b.length := by
  intro k hk
  have h1 : (U.ah 10 b).take (k + 1) = (U.ah 10 b).take k ++ [(U.ah 10 b).getD k []] := by rw [List.take_succ_eq_append_getElem hk, getD_at hk]
  have h2 := congrArg List.length hfl
  rw [<- List.take_append_drop (k + 1) (U.ah 10 b), List.flatten_append, List.length_append] at h2
  refine ⟨?_, by omega⟩
  rw [h1, List.flatten_append, List.length_append]; simp
 refine ⟨by omega, rfl, rfl, ([], [], 0, 0), ⟨rfl, ⟨rfl, rfl, Int.le_refl 0, Int.le_refl 0⟩, rfl⟩, ?_, ?_⟩
 ·rintro ⟨fs, v, en, k⟩ ⟨hI, hen, hf, hv⟩ hk
  dsimp only at hI hen hf hv hk ⊢
  obtain ⟨b1, b2⟩ := bound k hk
  have hd : (U.ah 10 b).drop k = (U.ah 10 b).getD k [] :: (U.ah 10 b).drop (k + 1) := by rw [List.drop_eq_getElem_cons hk, getD_at hk]
  rw [hd] at hI
  revert hI b1
  generalize (U.ah 10 b).getD k [] = l
  intro hI b1
  have hsl := MG l
  rw [cond_prop]
  refine ⟨fun h0 => ?_, fun h0 => ?_⟩
  ·have h0 : l = [] := len0.1 (of_decide_eq_true h0)
   subst h0
   rw [EM] at hI
   rw [hI]; exact ⟨rfl, rfl, rfl, rfl, trivial⟩
  have h0 : ¬ l = [] := fun h => of_decide_eq_false h0 (len0.2 h)
  rw [cond_prop]
  refine ⟨fun hs => ?_, fun hs => ?_⟩
  ·have hs : U.says l = [] := len0.1 (of_decide_eq_true hs)
   rw [Ik _ _ h0 hs] at hI
   rw [hI]; exact ⟨rfl, rfl, rfl, rfl, trivial⟩
  have hs : ¬ U.says l = [] := fun h => of_decide_eq_false hs (len0.2 h)
  have hsp := List.length_pos_iff.2 hs
  refine ⟨by omega, by omega, ?_⟩
  rw [uz, QX, TU fs v en l]
  have hw : IntKind.i64.wrap (en.add (l.length : Int)) = en + l.length := je (by omega) (by omega)
  rw [hw]
  cases hm : U.more (fs, v, en) l with
  | true =>
    rw [Il fs v en _ h0 hs hm] at hI
    have hfs : 0 < fs.length := by
     unfold U.more at hm
     simp only [Bool.and_eq_true, decide_eq_true_eq] at hm
     exact List.length_pos_iff.2 hm.2
    have hK : (IntKind.i64.wrap ((fs.length : Int).sub 1)).toNat = fs.length - 1 := by rw [oW (by omega) (by omega)]; omega
    have hK2 : IntKind.i64.wrap ((fs.length : Int).sub 1) = (fs.length : Int) - 1 := oW (by omega) (by omega)
    show (v.length.add (U.says l).length).mul 1 <= _ /\ _
    rw [MK, set2 hK hfs, hK, hK2]
    refine ⟨by simp only [jd, xR]; omega, by simp only [jd, maxLen_eq]; omega, by omega, by omega, rfl, by omega, by rw [List.length_set]; omega, ?_⟩
    exact ⟨(U.setLast fs (U.trimB (v ++ U.says l)) (en + l.length), v ++ U.says l, en + l.length, k + 1), rfl, ⟨hI, by show en + (l.length : Int) = (((U.ah 10 b).take (k + 1)).flatten.length : Int); omega, by show ((U.setLast _ _ _).length : Int) <= en + l.length; rw [DY]; omega, by show ((v ++ U.says l).length : Int) <= en + l.length; rw [List.length_append]; push_cast; omega⟩, rfl⟩
  | false =>
    cases hbg : U.begins (U.says l) with
    | true =>
      rw [EN fs v en _ h0 hs hm hbg] at hI
      have hcz := Sm (U.says l) 58
      have hlp := List.length_pos_iff.2 h0
      have hF : (fs.append ([(([], [], 0, 0) : Field)].set 0 (U.aB (U.says l) 58, [], en, 0))) = fs ++ [(U.aB (U.says l) 58, [], en, 0)] := rfl
      have hF1 : (fs ++ [((U.aB (U.says l) 58, [], en, 0) : Field)]).length = fs.length + 1 := by rw [List.length_append]; rfl
      show (fs.length.add 1).mul 48 <= _ /\ _
      refine ⟨by simp only [jd, xR]; omega, by simp only [jd, maxLen_eq]; omega, ?_⟩
      rw [hF]
      have hK : (IntKind.i64.wrap (((fs ++ [((U.aB (U.says l) 58, [], en, 0) : Field)]).length : Int).sub 1)).toNat = (fs ++ [((U.aB (U.says l) 58, [], en, 0) : Field)]).length - 1 := by rw [oW (by omega) (by omega)]; omega
      have hK2 : IntKind.i64.wrap (((fs ++ [((U.aB (U.says l) 58, [], en, 0) : Field)]).length : Int).sub 1) = (fs.length : Int) := by rw [oW (by omega) (by omega)]; omega
      intro nb hn1 _
      have fin : ∃ y : List Field × List Int × Int × Nat, U.bZ b (U.setLast (fs ++ [(U.aB (U.says l) 58, [], en, 0)]) (U.trimB (U.bH (U.says l) 58)) (en + l.length)) (U.bH (U.says l) 58) (en + l.length) y.2.2.2 = U.bZ b y.1 y.2.1 y.2.2.1 y.2.2.2 /\ U.fP b y.1 y.2.1 y.2.2.1 y.2.2.2 /\ y.2.2.2 = k.add 1 :=
       ⟨(_, _, en + l.length, k + 1), rfl, ⟨hI, by show en + (l.length : Int) = (((U.ah 10 b).take (k + 1)).flatten.length : Int); omega, by show ((U.setLast _ _ _).length : Int) <= en + l.length; rw [DY, hF1]; push_cast; omega, by show ((U.bH _ _).length : Int) <= en + l.length; omega⟩, rfl⟩
      cases nb with
      | true =>
        have hz : U.bH (U.says l) 58 = [] := List.length_eq_zero_iff.1 (hn1 rfl)
        rw [hz, QZ] at fin
        show (0 : Int) <= _ /\ _
        rw [set2 hK (by omega), hK, hK2, List.length_set]
        exact ⟨by omega, by omega, by omega, by omega, fin⟩
      | false =>
        show (Nat.add 0 _).mul 1 <= _ /\ _
        rw [MK, set2 hK (by omega), hK, hK2, List.length_set]
        exact ⟨by simp only [jd, xR]; omega, by simp only [jd, maxLen_eq]; omega, by omega, by omega, rfl, by omega, by omega, fin⟩
    | false =>
      rw [Io fs v en _ h0 hs hm hbg] at hI
      rw [hI]; exact ⟨rfl, rfl, rfl, rfl, trivial⟩
 ·rintro ⟨fs, v, en, k⟩ ⟨hI, hen, hf, hv⟩ hk
  dsimp only at hI hk ⊢
  rw [hk, List.drop_length, QY] at hI
  rw [hI]; exact ⟨rfl, rfl, rfl, rfl, trivial⟩
theorem BF {b : List Int} {p : Int} (p0 : 0 <= p) (hp : p < b.length) : p < U.endOf b p /\ U.endOf b p <= b.length /\ ∃ r, U.ah 10 (b.drop p.toNat) = List.take ((U.endOf b p).toNat.sub p.toNat) (List.drop p.toNat b) :: r /\ ∀ s, U.cO s r = U.cO s (U.ah 10 (b.drop (U.endOf b p).toNat)) := by
 have hb := dK (b.drop p.toNat) 10
 rw [List.length_drop] at hb
 unfold U.endOf
 by_cases hi : aF (b.drop p.toNat) 10 >= 0
 ·rw [decide_eq_true hi]
  show p < p + _ + 1 /\ p + _ + 1 <= _ /\ ∃ r, _ = List.take ((p + aF (b.drop p.toNat) 10 + 1).toNat.sub p.toNat) _ :: r /\ ∀ s, _ = U.cO s (U.ah 10 (b.drop (p + aF (b.drop p.toNat) 10 + 1).toNat))
  refine ⟨by omega, by omega, _, ?_, fun s => rfl⟩
  rw [yZ 10 _ hi, List.drop_drop]
  congr 2
  ·rw [eF]; omega
  ·congr 1; omega
 ·rw [decide_eq_false hi]
  show p < _ /\ (b.length : Int) <= _ /\ ∃ r, _ = List.take (((b.length : Int)).toNat.sub p.toNat) _ :: r /\ ∀ s, _ = U.cO s (U.ah 10 (b.drop ((b.length : Int)).toNat))
  refine ⟨hp, by omega, [], ?_, fun s => ?_⟩
  ·rw [Bh 10 _ (by omega), oK]
  ·rw [List.drop_eq_nil_of_le (by omega), QY]
   show _ = U.cO s [[]]
   rw [EM]
theorem CP (s : U.HS) {b : List Int} {p : Int} (hp : (b.length : Int) <= p) : U.cO s (U.ah 10 (b.drop p.toNat)) = (s, 0) := by
 rw [List.drop_eq_nil_of_le (by omega)]
 show U.cO s [[]] = _
 rw [EM]
theorem Q5 {S : List Int} (h : U.begins S = true) : U.QT S = aF S 58 /\ 1 <= aF S 58 /\ aF S 58 < S.length /\ U.aB S 58 = S.take (aF S 58).toNat /\ U.bH S 58 = S.drop (aF S 58 + 1).toNat := by
 have hb := dK S 58
 have h' := h
 unfold U.begins at h'
 simp only [Bool.and_eq_true, decide_eq_true_eq] at h'
 obtain ⟨h1, h2, _⟩ := h'
 have hcA : U.aB S 58 = S.take (aF S 58).toNat := by unfold U.aB; rw [decide_eq_true h1]; rfl
 have hl : (U.aB S 58).length = (aF S 58).toNat := by rw [hcA, List.length_take]; omega
 refine ⟨?_, by omega, hb.2, hcA, by unfold U.bH; rw [decide_eq_true h1]; rfl⟩
 unfold U.QT; rw [h, hl]; show (((aF S 58).toNat : Nat) : Int) = _; omega
theorem ML (b : List Int) : ∀ (n : Nat) (s : U.HS), 0 <= s.2.2 -> s.2.2 <= b.length -> b.length - s.2.2.toNat <= n -> ∀ R, R = U.cO s (U.ah 10 (b.drop s.2.2.toNat)) ->
 0 <= R.1.2.2 /\ R.1.2.2 <= b.length /\ ((R.1.2.2 < b.length /\ U.says (List.take ((U.endOf b R.1.2.2).toNat.sub R.1.2.2.toNat) (List.drop R.1.2.2.toNat b)) = [] /\ R.1.2.2 + R.2 = U.endOf b R.1.2.2) ∨
  (R.2 = 0 /\ (R.1.2.2 < b.length -> ¬ U.says (List.take ((U.endOf b R.1.2.2).toNat.sub R.1.2.2.toNat) (List.drop R.1.2.2.toNat b)) = [])))
 | 0, s, h0, h1, hn, R, hR => by
   rw [CP s (by omega)] at hR
   subst hR
   exact ⟨h0, h1, .inr ⟨rfl, fun h => by dsimp only at h; omega⟩⟩
 | n + 1, (fs, v, en), h0, h1, hn, R, hR => by
   dsimp only at h0 h1 hn hR
   by_cases hi : en < b.length
   ·obtain ⟨q1, q2, r, hr, hrr⟩ := BF h0 hi
    have hll : (List.take ((U.endOf b en).toNat.sub en.toNat) (List.drop en.toNat b)).length = (U.endOf b en).toNat - en.toNat := by rw [List.length_take, List.length_drop, eF]; omega
    rw [hr] at hR
    obtain ⟨l, hl⟩ : ∃ l, l = List.take ((U.endOf b en).toNat.sub en.toNat) (List.drop en.toNat b) := ⟨_, rfl⟩
    rw [<- hl] at hR hll
    have hq : U.endOf b en = en + l.length := by omega
    have hne : ¬ l = [] := by intro h; rw [h] at hll; simp at hll; omega
    by_cases hs : U.says l = []
    ·rw [Ik _ _ hne hs] at hR
     subst hR
     exact ⟨h0, h1, .inl ⟨hi, by show U.says (List.take ((U.endOf b en).toNat.sub en.toNat) (List.drop en.toNat b)) = []; rw [<- hl]; exact hs, hq.symm⟩⟩
    ·cases hm : U.more (fs, v, en) l with
     | true =>
       rw [Il fs v en _ hne hs hm, hrr, hq] at hR
       exact ML b n (_, _, en + l.length) (by show 0 <= en + (l.length : Int); omega) (by show en + (l.length : Int) <= _; omega) (by show b.length - (en + (l.length : Int)).toNat <= n; omega) R hR
     | false =>
       cases hbg : U.begins (U.says l) with
       | true =>
         rw [EN fs v en _ hne hs hm hbg, hrr, hq] at hR
         exact ML b n (_, _, en + l.length) (by show 0 <= en + (l.length : Int); omega) (by show en + (l.length : Int) <= _; omega) (by show b.length - (en + (l.length : Int)).toNat <= n; omega) R hR
       | false =>
         rw [Io fs v en _ hne hs hm hbg] at hR
         subst hR
         exact ⟨h0, h1, .inr ⟨rfl, fun _ => by show ¬ U.says (List.take ((U.endOf b en).toNat.sub en.toNat) (List.drop en.toNat b)) = []; rw [<- hl]; exact hs⟩⟩
   ·rw [CP _ (by omega)] at hR
    subst hR
    exact ⟨h0, h1, .inr ⟨rfl, fun h => absurd h hi⟩⟩
theorem Ja (b : List Int) : 0 <= (U.hread b).1.2.2 /\ (U.hread b).1.2.2 <= b.length /\ (((U.hread b).1.2.2 < b.length /\ U.says (List.take ((U.endOf b (U.hread b).1.2.2).toNat.sub (U.hread b).1.2.2.toNat) (List.drop (U.hread b).1.2.2.toNat b)) = [] /\ (U.hread b).1.2.2 + (U.hread b).2 = U.endOf b (U.hread b).1.2.2) ∨
 ((U.hread b).2 = 0 /\ ((U.hread b).1.2.2 < b.length -> ¬ U.says (List.take ((U.endOf b (U.hread b).1.2.2).toNat.sub (U.hread b).1.2.2.toNat) (List.drop (U.hread b).1.2.2.toNat b)) = []))) :=
 ML b b.length ([], [], 0) (Int.le_refl 0) (by show (0 : Int) <= _; omega) (Nat.sub_le _ _) _ rfl
theorem Sr {b : List Int} {p : Int} (h0 : 0 <= p) (h1 : p <= b.length) : p <= U.endOf b p /\ U.endOf b p <= b.length := by
 by_cases h : p < b.length
 ·have := BF h0 h; omega
 ·rw [QW (by omega)]; omega
theorem OA (b : List Int) : (U.hread b).1.2.2 <= U.textOf b /\ U.textOf b <= b.length := by
 obtain ⟨h0, h1, h2⟩ := Ja b
 have := Sr h0 h1
 unfold U.textOf
 rcases h2 with ⟨_, _, h⟩ | ⟨h, _⟩ <;> omega
theorem NW (b : List Int) (hb : ∀ x ∈ b, Valid (.int .u8) x) (h : b.length <= 1000000000) : wW b := by
 unfold wW
 have h1 := Ja b
 have h2 := OA b
 unfold U.textOf at *
 refine ⟨h, ?_, trivial⟩
 rw [je (by omega) (by omega)]
end Go.Proofs.YtggccomebfpfpaaDoor
set_option linter.unusedSimpArgs false
set_option maxRecDepth 100000
set_option linter.unusedVariables false
namespace Go.Proofs.YtggccomebfpfpaaDoor
open Go.Vc
theorem P9 (x : aO [aA]) : dR Tryd.prog (bM iW) (Gy x) 43 (dF [aA] x) [] (y8 x) = wU x := by kernel_rfl
theorem Qa : Pok 43 [aA] (fun x => y8 x) := by
 refine pk (L := fun x => Gy x) (l := iW) qg (fun _ => rfl) ?_
 intro x hv hp
 rw [P9]
 exact NT x
theorem Qb : dw Tryd.prog gl 43 Gx := Qa
theorem D5 : bP rG := .cons Qb qg
theorem Jy (x : aO [.int .u8]) : dR Tryd.prog (bM rG) (zG x) 59 (dF [.int .u8] x) [] (qG x) = oM x := by kernel_rfl
theorem Jz : Pok 59 [.int .u8] (fun x => qG x) := by
 refine pk (L := fun x => zG x) (l := rG) D5 (fun _ => rfl) ?_
 intro x hv hp
 rw [Jy]
 exact Ij x
theorem JA : dw Tryd.prog gl 59 zF := Jz
theorem xU : bP lF := .cons JA D5
theorem NY (x : aO [aA]) : dR Tryd.prog (bM lF) (DT x) 44 (dF [aA] x) [] (wQ x) = uV x := by kernel_rfl
theorem NZ : Pok 44 [aA] (fun x => wQ x) := by
 refine pk (L := fun x => DT x) (l := lF) xU (fun _ => rfl) ?_
 intro x hv hp
 rw [NY]
 exact MH x hv.2
theorem N7 : dw Tryd.prog gl 44 DR := NZ
theorem BG : bP o9 := .cons N7 xU
theorem Qc (x : aO [aA]) : dR Tryd.prog (bM o9) (GH x) 22 (dF [aA] x) [] (rH x) = wV x := by kernel_rfl
theorem Qd : Pok 22 [aA] (fun x => rH x) := by
 refine pk (L := fun x => GH x) (l := o9) BG (fun _ => rfl) ?_
 intro x hv hp
 rw [Qc]
 exact NV x hv.1 (hp (List.length x <= 1000000000) (by simp [rH]))
theorem Qe : dw Tryd.prog gl 22 Gz := Qd
theorem D6 : bP rJ := .cons Qe BG
theorem MN (x : aO [aA]) : dR Tryd.prog (bM rJ) (Bv x) 11 (dF [aA] x) [] (nR x) = qH x := by kernel_rfl
theorem MO : Pok 11 [aA] (fun x => nR x) := by
 refine pk (L := fun x => Bv x) (l := rJ) D6 (fun _ => rfl) ?_
 intro x hv hp
 rw [MN]
 exact Ju x (hp (List.length x <= 1000000000) (by simp [nR]))
theorem MP : dw Tryd.prog gl 11 Bq := MO
theorem zI : bP nT := .cons MP D6
theorem Qg (x : aO [aA]) : dR Tryd.prog (bM nT) (GK x) 13 (dF [aA] x) [] (rM x) = wW x := by kernel_rfl
theorem Qh : Pok 13 [aA] (fun x => rM x) := by
 refine pk (L := fun x => GK x) (l := nT) zI (fun _ => rfl) ?_
 intro x hv hp
 rw [Qg]
 exact NW x hv.1 (hp (List.length x <= 1000000000) (by simp [rM]))
theorem Qi : dw Tryd.prog gl 13 GI := Qh
theorem D7 : bP rO := .cons Qi zI
theorem N8 (x : aO [.int .u8]) : dR Tryd.prog (bM rO) (DV x) 29 (dF [.int .u8] x) [] (wR x) = uX x := by kernel_rfl
theorem N9 : Pok 29 [.int .u8] (fun x => wR x) := by
 refine pk (L := fun x => DV x) (l := rO) D7 (fun _ => rfl) ?_
 intro x hv hp
 rw [N8]
 exact MI x (T.vU8 hv)
theorem Oa : dw Tryd.prog gl 29 DU := N9
theorem BH : bP pq := .cons Oa D7
theorem MQ (x : aO [.int .u8, .int .u8]) : dR Tryd.prog (bM pq) (BA x.1 x.2) 28 (dF [.int .u8, .int .u8] x) [] (uU x.1 x.2) = zH x.1 x.2 := by kernel_rfl
theorem MR : Pok 28 [.int .u8, .int .u8] (fun x => uU x.1 x.2) := by
 refine pk (L := fun x => BA x.1 x.2) (l := pq) BH (fun _ => rfl) ?_
 intro x hv hp
 rw [MQ]
 exact Jv x.1 x.2
theorem MS : dw Tryd.prog gl 28 Bz := MR
theorem zJ : bP nU := .cons MS BH
theorem Qj (x : aO [.str, .str]) : dR Tryd.prog (bM nU) (GN x.1 x.2) 17 (dF [.str, .str] x) [] (y9 x.1 x.2) = wX x.1 x.2 := by kernel_rfl
theorem Qk : Pok 17 [.str, .str] (fun x => y9 x.1 x.2) := by
 refine pk (L := fun x => GN x.1 x.2) (l := nU) zJ (fun _ => rfl) ?_
 intro x hv hp
 rw [Qj]
 exact NU x.1 x.2 hv.1.2
theorem Ql : dw Tryd.prog gl 17 GL := Qk
theorem D8 : bP rP := .cons Ql zJ
theorem Q7 (x : aO [aA, .str]) : dR Tryd.prog (bM rP) (I9 x.1 x.2) 8 (dF [aA, .str] x) [] (vY x.1 x.2) = zf x.1 x.2 := by kernel_rfl
theorem Q8 : Pok 8 [aA, .str] (fun x => vY x.1 x.2) := by
 refine pk (L := fun x => I9 x.1 x.2) (l := rP) D8 (fun _ => rfl) ?_
 intro x hv hp
 rw [Q7]
 exact P8 x.1 x.2 (hp (List.length x.1 <= 1000000000) (by simp [vY]))
theorem Q9 : dw Tryd.prog gl 8 I8 := Q8
theorem GR : bP vZ := .cons Q9 D8
theorem Ob (x : aO [aA]) : dR Tryd.prog (bM vZ) (DX x) 15 (dF [aA] x) [] (wS x) = BD x := by kernel_rfl
theorem Oc : Pok 15 [aA] (fun x => wS x) := by
 refine pk (L := fun x => DX x) (l := vZ) GR (fun _ => rfl) ?_
 intro x hv hp
 rw [Ob]
 exact MJ x
theorem Oe : dw Tryd.prog gl 15 DW := Oc
theorem BI : bP pz := .cons Oe GR
end Go.Proofs.YtggccomebfpfpaaDoor
