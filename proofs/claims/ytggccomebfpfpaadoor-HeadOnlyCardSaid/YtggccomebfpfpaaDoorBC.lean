/- What is owed of the functions, proved in plain Lean. -/
import Derived.Test.YtggccomebfpfpaaDoorBB
import Derived.Test.YtggccomebfpfpaaDoorBA
set_option linter.unusedSimpArgs false
set_option linter.unusedVariables false
set_option maxRecDepth 100000
namespace Go.Proofs.YtggccomebfpfpaaDoor
open Go.Vc
open Go.Vc.T
theorem Pq {α : Type} {l : List α} {f : α -> Bool} {i : Int} (h0 : 0 <= i) (hi : i < l.length) : (l.drop i.toNat).any f = (f l[i.toNat] || (l.drop (i + 1).toNat).any f) := by
 rw [drop_at h0 hi]; rfl
theorem WG (l : List Int) (c : Int) : U.dh l [c] = (decide (0 < l.length) && decide (l.getD (l.length - 1) 0 = c)) := by
 unfold U.dh
 rw [Bool.eq_iff_iff]
 simp only [Bool.and_eq_true, decide_eq_true_eq, List.length_singleton]
 constructor
 ·rintro ⟨h1, h2⟩
  refine ⟨h1, ?_⟩
  rw [List.drop_eq_getElem_cons (by omega)] at h2
  rw [getD_at (by omega)]; exact (List.cons.inj h2).1
 ·rintro ⟨h1, h2⟩
  refine ⟨h1, ?_⟩
  rw [List.drop_eq_getElem_cons (by omega), List.drop_eq_nil_of_le (by omega), <- h2, getD_at (by omega)]
theorem NC (l : List Int) (c : Int) : U.cu l [c] = cond (U.dh l [c]) (l.take (l.length - 1)) l := rfl
theorem H6 (l : List Int) : (U.says l).length <= l.length := by
 have key : ∀ (m : List Int) (c : Int), (U.cu m [c]).length <= m.length := fun m c => by
  rw [NC]; cases U.dh m [c]
  ·exact Nat.le_refl _
  ·show (m.take _).length <= _; rw [List.length_take]; omega
 unfold U.says
 cases U.dh l [10]
 ·exact Nat.le_refl _
 ·exact Nat.le_trans (key _ _) (key _ _)
theorem qw (x c : Int) (l : List Int) : aH (x :: l) c = if x = c then 0 else if aH l c = -1 then -1 else aH l c + 1 := rfl
theorem Pv (c : Int) : ∀ (a b : List Int), (∀ x ∈ a, x ≠ c) -> aH (a ++ b) c = if aH b c = -1 then -1 else a.length + aH b c
 | [], b, _ => by
   have := bG b c
   rw [List.nil_append]; split
   ·assumption
   ·simp
 | x :: a, b, h => by
   have ih := Pv c a b fun y hy => h y (List.mem_cons_of_mem _ hy)
   have hx : x ≠ c := h x (by simp)
   have := bG b c
   rw [List.cons_append, qw, if_neg hx, ih, List.length_cons]
   by_cases hb : aH b c = -1
   ·simp [hb]
   ·rw [if_neg hb, if_neg (by omega), if_neg hb]; push_cast; omega
theorem QU (l : List Int) : yT l := by
 unfold yT
 refine ⟨by omega, ?_⟩
 show bif U.dh l [10] then 0 < 1 /\ U.cu (U.cu l [10]) [13] = U.says l /\ True else _
 unfold U.says
 cases U.dh l [10]
 ·exact ⟨rfl, trivial⟩
 ·exact ⟨by omega, rfl, trivial⟩
theorem KI (c : Int) : qo c := by
 unfold qo U.lT; rw [ER]; exact ⟨rfl, trivial⟩
theorem Px (l : List Int) (hl : l.length <= maxLen) : wZ l := by
 unfold wZ
 rw [maxLen_eq] at hl
 have hg : (([0] : List Int).set 0 58).getD 0 0 = 58 := rfl
 have hb := bG l 58
 have hn : (U.aC l 58).length <= l.length := by
  unfold U.aC; cases decide (aH l 58 >= 0)
  ·exact Nat.le_refl _
  ·show (l.take _).length <= _; rw [List.length_take]; omega
 rw [hg, iD, iD]
 refine ⟨by omega, rfl, ?_⟩
 cases hc : (decide (aH l 58 >= 0) && decide (((U.aC l 58).length : Int) >= 1) && decide (((U.aC l 58).length : Int) <= 60)) with
 | false =>
   refine ⟨rfl, rfl, ?_, trivial⟩
   unfold U.begins
   revert hc
   cases decide (aH l 58 >= 0)
   ·intro _; rfl
   ·by_cases h1 : (U.aC l 58).length >= 1
    ·rw [decide_eq_true (by omega : ((U.aC l 58).length : Int) >= 1), decide_eq_true h1]
     by_cases h2 : (U.aC l 58).length <= 60
     ·rw [decide_eq_true (by omega : ((U.aC l 58).length : Int) <= 60)]; intro h; cases h
     ·rw [decide_eq_false h2]; intro _; rfl
    ·rw [decide_eq_false h1]; intro _; rfl
 | true =>
   simp only [Bool.and_eq_true, decide_eq_true_eq] at hc
   obtain ⟨⟨h1, h2⟩, h3⟩ := hc
   have hbg : U.begins l = !((U.aC l 58).any U.lT) := by
    unfold U.begins
    rw [decide_eq_true h1, decide_eq_true (by omega : (U.aC l 58).length >= 1), decide_eq_true (by omega : (U.aC l 58).length <= 60)]; rfl
   refine ⟨0, ⟨rfl, ⟨Int.le_refl 0, by omega⟩, rfl⟩, ?_⟩
   rintro i ⟨⟨i0, i1⟩, hI⟩
   rw [cond_prop]
   refine ⟨fun hi => ?_, fun hi => ?_⟩
   ·have hi : i < (U.aC l 58).length := of_decide_eq_true hi
    rw [Pq i0 hi] at hI
    rw [getD_at (by omega : i.toNat < (U.aC l 58).length)]
    refine ⟨i0, hi, ?_⟩
    cases ho : U.lT (U.aC l 58)[i.toNat] with
    | true =>
      rw [ho] at hI
      refine ⟨rfl, rfl, ?_, trivial⟩
      rw [hbg, <- hI, decide_eq_true (by omega : i >= 0)]; rfl
    | false =>
      rw [ho, Bool.false_or] at hI
      exact ⟨i + 1, by rw [dQ (by omega) (by omega)], ⟨⟨by omega, by omega⟩, hI⟩, by simp only [bV]; omega⟩
   ·have hi : ¬ i < (U.aC l 58).length := of_decide_eq_false hi
    rw [drop_end (by omega)] at hI
    refine ⟨rfl, rfl, ?_, trivial⟩
    rw [hbg, <- hI]; rfl
theorem MI (b : List Int) (h : b.length <= 1000000000) : sO b := by
 unfold sO NH
 refine ⟨h, by omega, ?_⟩
 by_cases hc : (40 : Int) < ((U.hread b).1.1.length : Int)
 ·rw [if_pos hc]; exact ⟨by omega, by omega, rfl, trivial⟩
 ·rw [if_neg hc]
  refine ⟨by omega, by omega, ?_, trivial⟩
  show (U.hread b).1.1.take _ = (U.hread b).1.1.take 40
  rw [ES _ (by rw [bV]; omega), ES _ (by omega)]
theorem Py (c : Int) (h : 0 <= c /\ c <= 255) : xg c := by
 unfold xg U.small
 rw [iD, show decide (c >= 65) = decide (65 <= c) from rfl]
 cases hc : (decide (65 <= c) && decide (c <= 90)) with
 | true =>
   simp only [Bool.and_eq_true, decide_eq_true_eq] at hc
   refine ⟨?_, trivial⟩
   rw [Sz, wrap_u8]; show _ = c + 32; omega
 | false => exact ⟨rfl, trivial⟩
theorem MJ (c : Int) (h : 0 <= c /\ c <= 255) : sV c := by
 unfold sV U.small
 rw [iD, show decide (c >= 65) = decide (65 <= c) from rfl]
 cases hc : (decide (65 <= c) && decide (c <= 90)) with
 | true =>
   simp only [Bool.and_eq_true, decide_eq_true_eq] at hc
   refine ⟨?_, trivial⟩
   rw [Sz, wrap_u8]; show _ = c + 32; omega
 | false => exact ⟨rfl, trivial⟩
theorem MK (x y : Int) : BD x y := ⟨rfl, trivial⟩
theorem Xd {a b : List Int} (h : U.dn a b = true) {i : Nat} (ha : i < a.length) (hb : i < b.length) : U.small a[i] = U.small b[i] := by
 have h : a.map U.small = b.map U.small := of_decide_eq_true h
 have h2 : (a.map U.small)[i]? = (b.map U.small)[i]? := by rw [h]
 rw [List.getElem?_map, List.getElem?_map, List.getElem?_eq_getElem ha, List.getElem?_eq_getElem hb] at h2
 simpa using h2
theorem V6 {a b : List Int} (h : U.dn a b = true) : a.length = b.length := by
 have h : a.map U.small = b.map U.small := of_decide_eq_true h
 have := congrArg List.length h
 simpa using this
theorem Pz {a b : List Int} (h : ¬ a.length = b.length) : U.dn a b = false := by
 cases hs : U.dn a b with
 | false => rfl
 | true => exact absurd (V6 hs) h
theorem PD {a b : List Int} {i : Nat} (ha : i < a.length) (hb : i < b.length) (h : ¬ U.small a[i] = U.small b[i]) : U.dn a b = false := by
 cases hs : U.dn a b with
 | false => rfl
 | true => exact absurd (Xd hs ha hb) h
theorem LJ {a b : List Int} {i : Int} (i0 : 0 <= i) (ha : i < a.length) (hb : i < b.length) (h : (a.take i.toNat).map U.small = (b.take i.toNat).map U.small) (hx : U.small a[i.toNat] = U.small b[i.toNat]) : (a.take (i + 1).toNat).map U.small = (b.take (i + 1).toNat).map U.small := by
 rw [take_at i0 ha, take_at i0 hb, List.map_append, List.map_append, h, List.map_singleton, List.map_singleton, hx]
theorem PE {a b : List Int} {i : Int} (ha : a.length <= i) (hb : b.length <= i) (h : (a.take i.toNat).map U.small = (b.take i.toNat).map U.small) : U.dn a b = true := by
 rw [Hf ha, Hf hb] at h; exact decide_eq_true h
theorem QV (a b : List Int) (hl : a.length <= maxLen) : yX a b := by
 unfold yX
 rw [maxLen_eq] at hl
 by_cases hab : a.length = b.length
 ·rw [show ((a.length : Int) != (b.length : Int)) = false by rw [bne_eq_false_iff_eq]; omega]
  refine ⟨0, ⟨rfl, ⟨Int.le_refl 0, by omega⟩, hab, rfl⟩, ?_⟩
  rintro i ⟨⟨i0, i1⟩, _, hI⟩
  rw [cond_prop]
  refine ⟨fun hi => ?_, fun hi => ?_⟩
  ·have hi : i < a.length := of_decide_eq_true hi
   rw [getD_at (by omega : i.toNat < a.length), getD_at (by omega : i.toNat < b.length)]
   refine ⟨i0, hi, by omega, i0, by omega, by omega, ?_⟩
   by_cases hx : U.small a[i.toNat] = U.small b[i.toNat]
   ·rw [decide_eq_true hx]
    exact ⟨i + 1, by rw [dQ (by omega) (by omega)], ⟨⟨by omega, by omega⟩, hab, LJ i0 hi (by omega) hI hx⟩, by simp only [bV]; omega⟩
   ·rw [decide_eq_false hx]; exact ⟨(PD _ _ hx).symm, trivial⟩
  ·have hi : ¬ i < a.length := of_decide_eq_false hi
   exact ⟨(PE (by omega) (by omega) hI).symm, trivial⟩
 ·rw [show ((a.length : Int) != (b.length : Int)) = true by rw [bne_iff_ne]; omega]
  exact ⟨(Pz hab).symm, trivial⟩
theorem Ut (b n : List Int) (h : b.length <= 1000000000) : AV b n := by
 unfold AV
 have hf : (U.fieldsOf b).length <= 40 := by unfold U.fieldsOf; rw [List.length_take]; omega
 refine ⟨h, 0, ⟨rfl, ⟨Int.le_refl 0, by omega⟩, rfl⟩, ?_⟩
 rintro i ⟨⟨i0, i1⟩, hI⟩
 rw [cond_prop]
 refine ⟨fun hi => ?_, fun hi => ?_⟩
 ·have hi : i < (U.fieldsOf b).length := of_decide_eq_true hi
  rw [drop_at i0 hi, U.lU] at hI
  rw [getD_at (by omega : i.toNat < (U.fieldsOf b).length)]
  refine ⟨i0, hi, ?_⟩
  cases hs : U.dn (U.fieldsOf b)[i.toNat].1 n with
  | true => rw [hs] at hI; rw [<- hI]; exact ⟨rfl, rfl, trivial⟩
  | false =>
    rw [hs] at hI
    exact ⟨i + 1, by rw [dQ (by omega) (by omega)], ⟨⟨by omega, by omega⟩, hI⟩, by simp only [bV]; omega⟩
 ·have hi : ¬ i < (U.fieldsOf b).length := of_decide_eq_false hi
  rw [drop_end (by omega)] at hI
  rw [<- hI]; exact ⟨rfl, rfl, trivial⟩
theorem PG (b : List Int) : D6 b := ⟨by omega, rfl, rfl, trivial⟩
theorem ML (c : Int) : sQ c := by
 unfold sQ U.blank; rw [ER]; exact ⟨rfl, trivial⟩
theorem V7 {b : List Int} {q : Int} (q0 : 0 <= q) (hq : q < b.length) : U.endOf b q = if b[q.toNat] = 10 then q + 1 else U.endOf b (q + 1) := by
 unfold U.endOf
 rw [drop_at q0 hq, qw]
 have hb := bG (b.drop (q + 1).toNat) 10
 by_cases hx : b[q.toNat] = 10
 ·rw [if_pos hx, if_pos hx]; show q + 0 + 1 = _; omega
 ·rw [if_neg hx, if_neg hx]
  by_cases hi : aH (b.drop (q + 1).toNat) 10 = -1
  ·rw [if_pos hi, hi]; rfl
  ·rw [if_neg hi, decide_eq_true (by omega : aH (b.drop (q + 1).toNat) 10 >= 0), decide_eq_true (by omega : aH (b.drop (q + 1).toNat) 10 + 1 >= 0)]
   show q + (aH (b.drop (q + 1).toNat) 10 + 1) + 1 = q + 1 + aH (b.drop (q + 1).toNat) 10 + 1; omega
theorem LK {b : List Int} {q : Int} (hq : (b.length : Int) <= q) : U.endOf b q = b.length := by
 unfold U.endOf; rw [drop_end hq]; rfl
theorem QW (b : List Int) (p : Int) (hl : b.length <= maxLen) (hp : 0 <= p /\ p <= (b.length : Int)) : yY b p := by
 unfold yY
 rw [maxLen_eq] at hl
 refine ⟨p, ⟨rfl, hp.1, Int.le_refl p, hp.2, rfl⟩, ?_⟩
 rintro q ⟨h0, h1, h2, hI⟩
 rw [cond_prop]
 refine ⟨fun hq => ?_, fun hq => ?_⟩
 ·have hq : q < b.length := of_decide_eq_true hq
  rw [V7 (by omega) hq] at hI
  rw [dQ (by omega) (by omega), iH (by omega) (by omega), show q + 1 - 1 = q by omega, getD_at (by omega : q.toNat < b.length)]
  refine ⟨by omega, hq, ?_⟩
  by_cases hx : b[q.toNat] = 10
  ·rw [if_pos hx] at hI
   rw [decide_eq_true hx]; exact ⟨hI, trivial⟩
  ·rw [if_neg hx] at hI
   rw [decide_eq_false hx]
   exact ⟨q + 1, rfl, ⟨h0, by omega, by omega, hI⟩, by simp only [bV]; omega⟩
 ·have hq : ¬ q < b.length := of_decide_eq_false hq
  rw [LK (by omega)] at hI
  exact ⟨by omega, trivial⟩
theorem PI (l : List Int) (hl : l.length <= maxLen) : xk l := by
 unfold xk
 rw [maxLen_eq] at hl
 have hg : decide ((l.length : Int) > 0) = decide (0 < l.length) := by rw [decide_eq_decide]; omega
 have hg1 : decide ((l.length : Int) > 1) = decide (1 < l.length) := by rw [decide_eq_decide]; omega
 rw [hg, hg1, iH (by omega) (by omega), iH (by omega) (by omega), iD, iD, show ((l.length : Int) - 1).toNat = l.length - 1 by omega, show ((l.length : Int) - 2).toNat = l.length - 2 by omega, jC, <- WG]
 refine ⟨fun h => by have := of_decide_eq_true h; omega, fun h => by omega, ?_⟩
 unfold U.says
 cases he : U.dh l [10] with
 | false => exact ⟨rfl, trivial⟩
 | true =>
   have h1 := AL he
   rw [List.length_singleton] at h1
   have hlt : (l.take (l.length - 1)).length = l.length - 1 := by rw [List.length_take]; omega
   have ht : U.cu l [10] = l.take (l.length - 1) := by rw [NC, he]; rfl
   rw [hlt]
   refine ⟨by omega, by omega, by omega, fun h => by have := of_decide_eq_true h; omega, fun h => by have := of_decide_eq_true h; omega, ?_⟩
   have e13 : (decide (1 < l.length) && decide ((l.take (l.length - 1)).getD (l.length - 2) 0 = 13)) = U.dh (l.take (l.length - 1)) [13] := by
    rw [WG, hlt, show l.length - 1 - 1 = l.length - 2 by omega]
    congr 1; rw [decide_eq_decide]; omega
   rw [e13]
   show bif U.dh (l.take (l.length - 1)) [13] then _ else _ = U.cu (U.cu l [10]) [13] /\ True
   rw [ht, NC, hlt]
   cases he2 : U.dh (l.take (l.length - 1)) [13] with
   | true =>
     have h2 := AL he2
     rw [List.length_singleton, hlt] at h2
     refine ⟨by omega, by omega, by omega, ?_, trivial⟩
     rw [jC, show l.length - 1 - 1 = l.length - 2 by omega]; rfl
   | false => exact ⟨rfl, trivial⟩
theorem MN (l : List Int) (hl : l.length <= maxLen) : sU l := by
 unfold sU
 rw [maxLen_eq] at hl
 refine ⟨0, ⟨rfl, ⟨Int.le_refl 0, by omega⟩, by omega, rfl⟩, ?_⟩
 rintro i ⟨⟨i0, i1⟩, i61, hA⟩
 have hA : ∀ x ∈ l.take i.toNat, U.lT x = false /\ x ≠ 58 := by
  intro x hx
  have := List.all_eq_true.1 hA x hx
  simp only [Bool.and_eq_true, Bool.not_eq_true', decide_eq_true_eq] at this
  exact this
 have hti : (l.take i.toNat).length = i.toNat := by rw [List.length_take]; omega
 have hsk := Pv 58 (l.take i.toNat) (l.drop i.toNat) fun x hx => (hA x hx).2
 rw [List.take_append_drop, hti] at hsk
 have hbd := bG (l.drop i.toNat) 58
 rw [iD]
 rw [cond_prop]
 refine ⟨fun hi => ?_, fun hi => ?_⟩
 ·simp only [Bool.and_eq_true, decide_eq_true_eq] at hi
  obtain ⟨hi, h60⟩ := hi
  rw [getD_at (by omega : i.toNat < l.length)]
  rw [drop_at i0 hi, qw] at hsk
  refine ⟨i0, hi, ?_⟩
  by_cases hx : l[i.toNat] = 58
  ·rw [decide_eq_true hx]
   rw [if_pos hx, if_neg (by omega)] at hsk
   refine ⟨?_, trivial⟩
   have hix : aH l 58 = i := by omega
   have hcut : U.aC l 58 = l.take i.toNat := by unfold U.aC; rw [hix, decide_eq_true (by omega : i >= 0)]; rfl
   have hno : (l.take i.toNat).any U.lT = false := by
    rw [List.any_eq_false]; intro x hx; rw [(hA x hx).1]; simp
   unfold U.ay U.begins
   rw [hcut, hno, hti, hix, decide_eq_true (by omega : i >= 0), decide_eq_true (by omega : i.toNat <= 60)]
   by_cases h0 : i = 0
   ·subst h0; rfl
   ·rw [decide_eq_true (by omega : i.toNat >= 1)]; show i = ((i.toNat : Nat) : Int); omega
  ·rw [decide_eq_false hx]
   rw [if_neg hx] at hsk
   refine ⟨i0, hi, fun _ => i0, fun _ => hi, ?_⟩
   rw [ER]
   have hodd : (decide (l[i.toNat] < 33) || decide (l[i.toNat] > 126)) = U.lT l[i.toNat] := by
    unfold U.lT; congr 1; rw [decide_eq_decide]; omega
   rw [hodd]
   cases ho : U.lT l[i.toNat] with
   | true =>
     refine ⟨?_, trivial⟩
     have hbf : U.begins l = false := by
      unfold U.begins
      by_cases hidx : aH l 58 >= 0
      ·have hbd2 := bG (l.drop (i + 1).toNat) 58
       have hgt : i < aH l 58 := by
        by_cases hm : aH (l.drop (i + 1).toNat) 58 = -1
        ·rw [if_pos hm, if_pos rfl] at hsk; omega
        ·rw [if_neg hm, if_neg (by omega)] at hsk; omega
       have hb := bG l 58
       have hcut : U.aC l 58 = l.take (aH l 58).toNat := by unfold U.aC; rw [decide_eq_true hidx]; rfl
       have hany : (U.aC l 58).any U.lT = true := by
        rw [hcut, List.any_eq_true]
        refine ⟨l[i.toNat], ?_, ho⟩
        rw [List.mem_take_iff_getElem]
        exact ⟨i.toNat, by omega, rfl⟩
       rw [hany]; simp
      ·rw [decide_eq_false hidx]; rfl
     unfold U.ay; rw [hbf]; rfl
   | false =>
     refine ⟨i + 1, by rw [dQ (by omega) (by omega)], ⟨⟨by omega, by omega⟩, by omega, ?_⟩, by simp only [bV]; omega⟩
     rw [List.all_eq_true]
     intro x hx
     rw [take_at i0 hi, List.mem_append, List.mem_singleton] at hx
     rcases hx with hx | rfl
     ·have := hA x hx; rw [this.1, decide_eq_true this.2]; rfl
     ·rw [ho, decide_eq_true hx]; rfl
 ·refine ⟨?_, trivial⟩
  have hbf : U.begins l = false := by
   unfold U.begins
   by_cases hidx : aH l 58 >= 0
   ·have hb := bG l 58
    have hcut : (U.aC l 58).length = (aH l 58).toNat := by unfold U.aC; rw [decide_eq_true hidx]; show (l.take _).length = _; rw [List.length_take]; omega
    have : ¬ (U.aC l 58).length <= 60 := by
     rw [hcut]
     intro h
     have hlt : i.toNat <= (aH l 58).toNat := by
      by_cases hm : aH (l.drop i.toNat) 58 = -1
      ·rw [if_pos hm] at hsk; omega
      ·rw [if_neg hm] at hsk; omega
     have hi2 : ¬ (i < l.length /\ i <= 60) := by
      intro hh
      rw [decide_eq_true hh.1, decide_eq_true hh.2] at hi; cases hi
     omega
    rw [decide_eq_false this]; simp
   ·rw [decide_eq_false hidx]; rfl
  unfold U.ay; rw [hbf]; rfl
theorem D8 : ∀ (a b : List Int), U.aA (a ++ b) = cond (decide (U.aA a = a.length)) (a.length + U.aA b) (U.aA a)
 | [], b => by show U.aA b = 0 + _; omega
 | x :: a, b => by
   have ih := D8 a b
   have hle := qj a
   rw [List.cons_append, U.aA, U.aA, List.length_cons]
   cases U.blank x
   ·rw [decide_eq_false (show ¬ (cond false (U.aA a + 1) 0) = a.length + 1 by show ¬ 0 = _; omega)]; rfl
   ·show U.aA (a ++ b) + 1 = cond (decide (U.aA a + 1 = a.length + 1)) _ (U.aA a + 1)
    rw [ih]
    by_cases h : U.aA a = a.length
    ·rw [decide_eq_true h, decide_eq_true (by omega : U.aA a + 1 = a.length + 1)]; show a.length + U.aA b + 1 = a.length + 1 + U.aA b; omega
    ·rw [decide_eq_false h, decide_eq_false (by omega : ¬ U.aA a + 1 = a.length + 1)]; rfl
theorem Uu (l : List Int) : U.aA (l.take (U.aA l)) = U.aA l := by
 induction l with
 | nil => rfl
 | cons x r ih =>
   rw [U.aA]
   cases hb : U.blank x
   ·rfl
   ·show U.aA (x :: r.take (U.aA r)) = U.aA r + 1
    rw [U.aA, hb, ih]; rfl
theorem Uw (l : List Int) : U.aA (l.drop (U.aA l)) = 0 := by
 induction l with
 | nil => rfl
 | cons x r ih =>
   rw [U.aA]
   cases hb : U.blank x
   ·show U.aA (x :: r) = 0
    rw [U.aA, hb]; rfl
   ·exact ih
theorem D9 : ∀ (l : List Int), U.aA l = l.length -> ∀ x ∈ l, U.blank x = true
 | [], _, _, h => by cases h
 | y :: r, h, x, hx => by
   rw [U.aA, List.length_cons] at h
   cases hb : U.blank y with
   | false => rw [hb] at h; have h : 0 = r.length + 1 := h; omega
   | true =>
     rw [hb] at h
     have h : U.aA r + 1 = r.length + 1 := h
     rcases List.mem_cons.1 hx with rfl | hx
     ·exact hb
     ·exact D9 r (by omega) x hx
theorem Ea : ∀ (l : List Int), (∀ x ∈ l, U.blank x = true) -> U.aA l = l.length
 | [], _ => rfl
 | y :: r, h => by
   rw [U.aA, h y (by simp), List.length_cons]
   show U.aA r + 1 = _
   rw [Ea r fun x hx => h x (List.mem_cons_of_mem _ hx)]
theorem Vq (a m : List Int) (h : 0 < U.aJ m) : U.aJ (a ++ m) = a.length + U.aJ m := by
 unfold U.aJ at *
 have hle := qj m.reverse
 rw [List.length_reverse] at hle
 rw [List.reverse_append, List.length_append, D8, List.length_reverse, decide_eq_false (by omega : ¬ U.aA m.reverse = m.length)]
 show a.length + m.length - U.aA m.reverse = _; omega
theorem Vr {x : Int} {r : List Int} (h : U.blank x = false) : 0 < U.aJ (x :: r) := by
 unfold U.aJ
 have hle := qj (x :: r).reverse
 rw [List.length_reverse] at hle
 by_cases he : U.aA (x :: r).reverse = (x :: r).reverse.length
 ·have := D9 _ he x (by simp)
  rw [h] at this; cases this
 ·rw [List.length_reverse] at he; omega
theorem PK {α : Type} (A B : List α) (t : Nat) : (A ++ B).take (A.length + t) = A ++ B.take t := by
 rw [List.take_append, List.take_of_length_le (by omega), show A.length + t - A.length = t by omega]
theorem PL (l : List Int) : U.trimF l = U.trimB l := by
 have hL := qj l
 have hd := Uw l
 have hs : l.take (U.aA l) ++ l.drop (U.aA l) = l := List.take_append_drop _ _
 have hal : (l.take (U.aA l)).length = U.aA l := by rw [List.length_take]; omega
 unfold U.trimF U.trimB
 cases hm : l.drop (U.aA l) with
 | nil =>
   rw [hm, List.append_nil] at hs
   have hall : ∀ x ∈ l, U.blank x = true := D9 l (by have := congrArg List.length hs; omega)
   have hT : U.aJ l = 0 := by
    unfold U.aJ
    rw [Ea l.reverse fun x hx => hall x (List.mem_reverse.1 hx), List.length_reverse]; omega
   rw [hT]; rfl
 | cons x r =>
   have hx : U.blank x = false := by
    rw [hm, U.aA] at hd
    cases hb : U.blank x
    ·rfl
    ·rw [hb] at hd; have hd : U.aA r + 1 = 0 := hd; omega
   have hp := Vr (r := r) hx
   have hT : U.aJ l = U.aA l + U.aJ (x :: r) := by
    have := Vq (l.take (U.aA l)) (x :: r) hp
    rw [hal, <- hm, hs] at this; rw [<- hm]; exact this
   have hlead : U.aA (l.take (U.aJ l)) = U.aA l := by
    have e : l.take (U.aJ l) = l.take (U.aA l) ++ (x :: r).take (U.aJ (x :: r)) := by
     have := PK (l.take (U.aA l)) (x :: r) (U.aJ (x :: r))
     rw [<- hm, hs, hal, hm, <- hT] at this; exact this
    rw [e, D8, hal, Uu, decide_eq_true rfl]
    show U.aA l + U.aA _ = _
    obtain ⟨n, hn⟩ : ∃ n, U.aJ (x :: r) = n + 1 := ⟨U.aJ (x :: r) - 1, by omega⟩
    rw [hn, List.take_succ_cons, U.aA, hx]; rfl
   rw [hlead, List.drop_take, <- hm, hm, hT]
   congr 1; omega
theorem PN (l : List Int) : List.take (U.trimB l).length (List.drop (U.aA (List.take (U.aJ l) l)) l) = U.trimB l := by
 rw [LD]
 unfold U.trimB
 rw [List.drop_take]
theorem PO (l : List Int) (hl : l.length <= maxLen) : xq l := by
 unfold xq
 rw [maxLen_eq] at hl
 refine ⟨0, ⟨rfl, Nat.zero_le _, rfl⟩, ?_⟩
 rintro k ⟨hk, hI⟩
 have hL := qj l
 refine ⟨fun _ => by omega, fun h => of_decide_eq_true h, ?_⟩
 rw [iD, cond_prop]
 have hdl : (l.drop k).length = l.length - k := List.length_drop
 refine ⟨fun h => ?_, fun h => ?_⟩
 ·simp only [Bool.and_eq_true, decide_eq_true_eq] at h
  obtain ⟨h1, h2⟩ := h
  have hkl : k < l.length := by omega
  have hc : l.drop k = l[k] :: l.drop (k + 1) := List.drop_eq_getElem_cons hkl
  have hx : (l.drop k).getD 0 0 = l[k] := by rw [hc]; rfl
  rw [hx] at h2
  rw [hc, U.aA, h2] at hI
  have hI : U.aA (l.drop (k + 1)) + 1 + k = U.aA l := hI
  refine ⟨by omega, by omega, by omega, k + 1, ?_, ⟨by omega, by omega⟩, by simp only [bV]; omega⟩
  rw [kQ, List.drop_drop]; rfl
 ·have hz : U.aA (l.drop k) = 0 := by
   cases hd : l.drop k with
   | nil => rfl
   | cons x r =>
     rw [hd] at h
     rw [decide_eq_true (by rw [List.length_cons]; omega : (((x :: r).length : Nat) : Int) > 0)] at h
     have h : U.blank x = false := h
     rw [U.aA, h]; rfl
  have hk2 : k = U.aA l := by omega
  subst hk2
  clear hI h hz hk hdl
  have hml : (l.drop (U.aA l)).length = l.length - U.aA l := List.length_drop
  have htl := wS (l.drop (U.aA l))
  refine ⟨(l.drop (U.aA l)).length, ⟨by unfold U.lH; rw [List.take_length], Nat.le_refl _, htl, by rw [List.take_length]⟩, ?_⟩
  rintro n ⟨h1, h2, h3⟩
  have hln : ((l.drop (U.aA l)).take n).length = n := by rw [List.length_take]; omega
  rw [hln]
  by_cases hn : n = 0
  ·subst hn
   refine ⟨by simp, by simp, ?_⟩
   show ((l.drop (U.aA l)).take 0) = U.trimF l /\ True
   unfold U.trimF
   rw [show U.aJ (l.drop (U.aA l)) = 0 by omega]; exact ⟨rfl, trivial⟩
  ·rw [iH (by omega) (by omega), show ((n : Int) - 1).toNat = n - 1 by omega]
   refine ⟨fun _ => by omega, fun _ => by omega, ?_⟩
   have ht : (l.drop (U.aA l)).take n = (l.drop (U.aA l)).take (n - 1) ++ [(l.drop (U.aA l)).getD (n - 1) 0] := by
    have := List.take_succ_eq_append_getElem (l := l.drop (U.aA l)) (i := n - 1) (by omega)
    rw [show n - 1 + 1 = n by omega] at this
    rw [this, getD_at (by omega)]
   have hx : ((l.drop (U.aA l)).take n).getD (n - 1) 0 = (l.drop (U.aA l)).getD (n - 1) 0 := by
    rw [getD_at (by omega), getD_at (by omega), List.getElem_take]
   have hs := Jt ((l.drop (U.aA l)).take (n - 1)) ((l.drop (U.aA l)).getD (n - 1) 0)
   rw [<- ht, h3] at hs
   rw [hx, decide_eq_true (by omega : (n : Int) > 0)]
   cases hb : U.blank ((l.drop (U.aA l)).getD (n - 1) 0) with
   | true =>
     rw [hb] at hs
     have hs : U.aJ (l.drop (U.aA l)) = U.aJ ((l.drop (U.aA l)).take (n - 1)) := hs
     have hle := wS ((l.drop (U.aA l)).take (n - 1))
     rw [List.length_take] at hle
     refine ⟨by omega, by omega, by omega, n - 1, ?_, ⟨by omega, by omega, hs.symm⟩, by omega⟩
     rw [jC, List.take_take, Nat.min_eq_left (by omega)]; rfl
   | false =>
     rw [hb, List.length_take] at hs
     have hs : U.aJ (l.drop (U.aA l)) = min (n - 1) (l.drop (U.aA l)).length + 1 := hs
     refine ⟨?_, trivial⟩
     unfold U.trimF
     congr 1; omega
theorem PS (a b : List Int) (hl : a.length <= maxLen) : xw a b := by
 unfold xw
 rw [maxLen_eq] at hl
 by_cases hab : a.length = b.length
 ·rw [show ((a.length : Int) != (b.length : Int)) = false by rw [bne_eq_false_iff_eq]; omega]
  refine ⟨0, ⟨rfl, ⟨Int.le_refl 0, by omega⟩, hab, rfl⟩, ?_⟩
  rintro i ⟨⟨i0, i1⟩, _, hI⟩
  rw [cond_prop]
  refine ⟨fun hi => ?_, fun hi => ?_⟩
  ·have hi : i < a.length := of_decide_eq_true hi
   rw [getD_at (by omega : i.toNat < a.length), getD_at (by omega : i.toNat < b.length)]
   refine ⟨i0, hi, i0, by omega, ?_⟩
   by_cases hx : U.small a[i.toNat] = U.small b[i.toNat]
   ·rw [show (U.small a[i.toNat] != U.small b[i.toNat]) = false by rw [bne_eq_false_iff_eq]; exact hx]
    exact ⟨i + 1, by rw [dQ (by omega) (by omega)], ⟨⟨by omega, by omega⟩, hab, LJ i0 hi (by omega) hI hx⟩, by simp only [bV]; omega⟩
   ·rw [show (U.small a[i.toNat] != U.small b[i.toNat]) = true by rw [bne_iff_ne]; exact hx]; exact ⟨(PD _ _ hx).symm, trivial⟩
  ·have hi : ¬ i < a.length := of_decide_eq_false hi
   exact ⟨(PE (by omega) (by omega) hI).symm, trivial⟩
 ·rw [show ((a.length : Int) != (b.length : Int)) = true by rw [bne_iff_ne]; omega]
  exact ⟨(Pz hab).symm, trivial⟩
theorem KJ (b : List Int) (h : b.length <= 1000000000) : qp b := by
 unfold qp
 refine ⟨h, ?_⟩
 rw [cond_prop]
 refine ⟨fun hc => ?_, fun hc => ?_⟩
 ·have hc := of_decide_eq_true hc
  exact ⟨by omega, by omega, by omega, rfl, trivial⟩
 ·have hc := of_decide_eq_false hc
  unfold U.fieldsOf
  rw [ES _ (by omega)]; exact ⟨rfl, trivial⟩
theorem PU (a b : List Int) : D7 a b := ⟨SA a b, trivial⟩
theorem MO {α : Type} {l : List α} {k : Nat} {x d : α} (h : k < l.length) : (l.set k x).getD k d = x := by
 rw [getD_at (by rw [List.length_set]; exact h), List.getElem_set_self]
theorem set2 {fs : List Field} {v : List Int} {e : Int} {k : Nat} (hk : k = fs.length - 1) (h : 0 < fs.length) : (fs.set k ((fs.getD k ([], [], 0, 0)).1, v, (fs.getD k ([], [], 0, 0)).2.2)).set k (((fs.set k ((fs.getD k ([], [], 0, 0)).1, v, (fs.getD k ([], [], 0, 0)).2.2)).getD k ([], [], 0, 0)).1, ((fs.set k ((fs.getD k ([], [], 0, 0)).1, v, (fs.getD k ([], [], 0, 0)).2.2)).getD k ([], [], 0, 0)).2.1, ((fs.set k ((fs.getD k ([], [], 0, 0)).1, v, (fs.getD k ([], [], 0, 0)).2.2)).getD k ([], [], 0, 0)).2.2.1, e) = U.setLast fs v e := by
 subst hk
 rw [MO (by omega), List.set_set]; rfl
theorem qQ (fs : List Field) (v : List Int) (e : Int) : (U.setLast fs v e).length = fs.length := List.length_set
theorem Vs (c : Int) : decide (aH [32, 9] c >= 0) = U.blank c := by
 unfold U.blank
 rw [qw, qw]
 by_cases h1 : (32 : Int) = c
 ·rw [if_pos h1, decide_eq_true h1.symm]; rfl
 ·rw [if_neg h1, decide_eq_false (fun h => h1 h.symm : ¬ c = 32)]
  by_cases h2 : (9 : Int) = c
  ·rw [if_pos h2, decide_eq_true h2.symm]; rfl
  ·rw [if_neg h2, decide_eq_false (fun h => h2 h.symm : ¬ c = 9)]; rfl
theorem SC (fs : List Field) (v : List Int) (en : Int) (l : List Int) : (U.blank ((U.says l).getD 0 0) && decide ((fs.length : Int) > 0)) = U.more (fs, v, en) l := by
 unfold U.more
 congr 1
 rw [decide_eq_decide]
 constructor
 ·rintro h rfl; simp at h
 ·intro h
  have h2 : 0 < fs.length := List.length_pos_iff.2 h
  omega
theorem Vt (s : U.HS) : U.dA s [] = (s, 0) := rfl
theorem H7 (s : U.HS) (r : List (List Int)) : U.dA s ([] :: r) = (s, 0) := by unfold U.dA; rfl
theorem ET (s : U.HS) {l : List Int} (r : List (List Int)) (h : ¬ l = []) : U.dA s (l :: r) = cond (U.goes s l) (U.dA (U.Nz s l) r) (s, cond (decide (U.says l = [])) (l.length : Int) 0) := by
 rw [U.dA, decide_eq_false h]; rfl
theorem EU (s : U.HS) {l : List Int} (r : List (List Int)) (h : ¬ l = []) (hs : U.says l = []) : U.dA s (l :: r) = (s, (l.length : Int)) := by
 rw [ET s r h]; unfold U.goes; rw [decide_eq_true hs]; rfl
theorem EW (fs : List Field) (v : List Int) (en : Int) {l : List Int} (r : List (List Int)) (h : ¬ l = []) (hs : ¬ U.says l = []) (hm : U.more (fs, v, en) l = true) :
 U.dA (fs, v, en) (l :: r) = U.dA (U.setLast fs (U.trimB (v ++ U.says l)) (en + l.length), v ++ U.says l, en + l.length) r := by
 rw [ET _ r h]; unfold U.goes U.Nz U.Us U.Ny; rw [decide_eq_false hs, hm]; rfl
theorem AX (fs : List Field) (v : List Int) (en : Int) {l : List Int} (r : List (List Int)) (h : ¬ l = []) (hs : ¬ U.says l = []) (hm : U.more (fs, v, en) l = false) (hb : U.begins (U.says l) = true) :
 U.dA (fs, v, en) (l :: r) = U.dA (U.setLast (fs ++ [(U.aC (U.says l) 58, [], en, 0)]) (U.trimB (U.bJ (U.says l) 58)) (en + l.length), U.bJ (U.says l) 58, en + l.length) r := by
 rw [ET _ r h]; unfold U.goes U.Nz U.Us U.Ny; rw [decide_eq_false hs, hm, hb]; rfl
theorem EX (fs : List Field) (v : List Int) (en : Int) {l : List Int} (r : List (List Int)) (h : ¬ l = []) (hs : ¬ U.says l = []) (hm : U.more (fs, v, en) l = false) (hb : U.begins (U.says l) = false) :
 U.dA (fs, v, en) (l :: r) = ((fs, v, en), 0) := by
 rw [ET _ r h]; unfold U.goes; rw [decide_eq_false hs, hm, hb]; rfl
theorem Gv (c : Int) : ∀ s, (U.ah c s).flatten = s
 | [] => rfl
 | x :: r => by
   have ih := Gv c r
   rw [U.ah]
   split
   ·rw [List.flatten_cons, ih]; rfl
   ·cases hs : U.ah c r with
    | nil => exact absurd hs (DF c r)
    | cons a m => rw [hs, List.flatten_cons] at ih; show ((x :: a) :: m).flatten = _; rw [List.flatten_cons, <- ih]; rfl
theorem PV (l : List Int) (c : Int) : (U.bJ l c).length <= l.length := by
 unfold U.bJ
 cases decide (aH l c >= 0)
 ·exact Nat.zero_le _
 ·show (l.drop _).length <= _; rw [List.length_drop]; omega
theorem Vu : U.trimB [] = [] := rfl
theorem len0 {α : Type} {l : List α} : ((l.length : Int) = 0) ↔ l = [] := by
 constructor
 ·intro h; exact List.length_eq_zero_iff.1 (by omega)
 ·rintro rfl; rfl
theorem QX (b : List Int) (hb : ∀ x ∈ b, Valid (.int .u8) x) (hl : b.length <= 1000000000) : yU b := by
 unfold yU
 have hg : (([0] : List Int).set 0 10).getD 0 0 = 10 := rfl
 rw [hg]
 have hfl := Gv 10 b
 have bound : ∀ k, k < (U.ah 10 b).length -> ((U.ah 10 b).take k).flatten.length + ((U.ah 10 b).getD k []).length = ((U.ah 10 b).take (k + 1)).flatten.length /\ ((U.ah 10 b).take (k + 1)).flatten.length <= b.length := by
  intro k hk
  have h1 : (U.ah 10 b).take (k + 1) = (U.ah 10 b).take k ++ [(U.ah 10 b).getD k []] := by rw [List.take_succ_eq_append_getElem hk, getD_at hk]
  have h2 := congrArg List.length hfl
  rw [<- List.take_append_drop (k + 1) (U.ah 10 b), List.flatten_append, List.length_append] at h2
  refine ⟨?_, by omega⟩
  rw [h1, List.flatten_append, List.length_append]; simp
 refine ⟨by omega, rfl, rfl, ([], [], 0, 0), ⟨rfl, ⟨rfl, rfl, Int.le_refl 0, Int.le_refl 0⟩, rfl⟩, ?_, ?_⟩
 ·rintro ⟨fs, v, en, k⟩ ⟨hI, hen, hf, hv⟩ hk
  dsimp only at hI hen hf hv hk ⊢
  obtain ⟨b1, b2⟩ := bound k hk
  have hd : (U.ah 10 b).drop k = (U.ah 10 b).getD k [] :: (U.ah 10 b).drop (k + 1) := by rw [List.drop_eq_getElem_cons hk, getD_at hk]
  rw [hd] at hI
  revert hI b1
  generalize (U.ah 10 b).getD k [] = l
  intro hI b1
  have hsl := H6 l
  rw [cond_prop]
  refine ⟨fun h0 => ?_, fun h0 => ?_⟩
  ·have h0 : l = [] := len0.1 (of_decide_eq_true h0)
   subst h0
   rw [H7] at hI
   rw [hI]; exact ⟨rfl, rfl, rfl, rfl, trivial⟩
  have h0 : ¬ l = [] := fun h => of_decide_eq_false h0 (len0.2 h)
  rw [cond_prop]
  refine ⟨fun hs => ?_, fun hs => ?_⟩
  ·have hs : U.says l = [] := len0.1 (of_decide_eq_true hs)
   rw [EU _ _ h0 hs] at hI
   rw [hI]; exact ⟨rfl, rfl, rfl, rfl, trivial⟩
  have hs : ¬ U.says l = [] := fun h => of_decide_eq_false hs (len0.2 h)
  have hsp := List.length_pos_iff.2 hs
  refine ⟨by omega, by omega, ?_⟩
  rw [iD, Vs, SC fs v en l]
  have hw : IntKind.i64.wrap (en.add (l.length : Int)) = en + l.length := dQ (by omega) (by omega)
  rw [hw]
  cases hm : U.more (fs, v, en) l with
  | true =>
    rw [EW fs v en _ h0 hs hm] at hI
    have hfs : 0 < fs.length := by
     unfold U.more at hm
     simp only [Bool.and_eq_true, decide_eq_true_eq] at hm
     exact List.length_pos_iff.2 hm.2
    have hK : (IntKind.i64.wrap ((fs.length : Int).sub 1)).toNat = fs.length - 1 := by rw [iH (by omega) (by omega)]; omega
    have hK2 : IntKind.i64.wrap ((fs.length : Int).sub 1) = (fs.length : Int) - 1 := iH (by omega) (by omega)
    show (v.length.add (U.says l).length).mul 1 <= _ /\ _
    rw [PN, set2 hK hfs, hK, hK2]
    refine ⟨by simp only [dD, jX]; omega, by simp only [dD, maxLen_eq]; omega, by omega, by omega, rfl, by omega, by rw [List.length_set]; omega, ?_⟩
    exact ⟨(U.setLast fs (U.trimB (v ++ U.says l)) (en + l.length), v ++ U.says l, en + l.length, k + 1), rfl, ⟨hI, by show en + (l.length : Int) = (((U.ah 10 b).take (k + 1)).flatten.length : Int); omega, by show ((U.setLast _ _ _).length : Int) <= en + l.length; rw [qQ]; omega, by show ((v ++ U.says l).length : Int) <= en + l.length; rw [List.length_append]; push_cast; omega⟩, rfl⟩
  | false =>
    cases hbg : U.begins (U.says l) with
    | true =>
      rw [AX fs v en _ h0 hs hm hbg] at hI
      have hcz := PV (U.says l) 58
      have hlp := List.length_pos_iff.2 h0
      have hF : (fs.append ([(([], [], 0, 0) : Field)].set 0 (U.aC (U.says l) 58, [], en, 0))) = fs ++ [(U.aC (U.says l) 58, [], en, 0)] := rfl
      have hF1 : (fs ++ [((U.aC (U.says l) 58, [], en, 0) : Field)]).length = fs.length + 1 := by rw [List.length_append]; rfl
      show (fs.length.add 1).mul 48 <= _ /\ _
      refine ⟨by simp only [dD, jX]; omega, by simp only [dD, maxLen_eq]; omega, ?_⟩
      rw [hF]
      have hK : (IntKind.i64.wrap (((fs ++ [((U.aC (U.says l) 58, [], en, 0) : Field)]).length : Int).sub 1)).toNat = (fs ++ [((U.aC (U.says l) 58, [], en, 0) : Field)]).length - 1 := by rw [iH (by omega) (by omega)]; omega
      have hK2 : IntKind.i64.wrap (((fs ++ [((U.aC (U.says l) 58, [], en, 0) : Field)]).length : Int).sub 1) = (fs.length : Int) := by rw [iH (by omega) (by omega)]; omega
      intro nb hn1 _
      have fin : ∃ y : List Field × List Int × Int × Nat, U.dB b (U.setLast (fs ++ [(U.aC (U.says l) 58, [], en, 0)]) (U.trimB (U.bJ (U.says l) 58)) (en + l.length)) (U.bJ (U.says l) 58) (en + l.length) y.2.2.2 = U.dB b y.1 y.2.1 y.2.2.1 y.2.2.2 /\ U.fU b y.1 y.2.1 y.2.2.1 y.2.2.2 /\ y.2.2.2 = k.add 1 :=
       ⟨(_, _, en + l.length, k + 1), rfl, ⟨hI, by show en + (l.length : Int) = (((U.ah 10 b).take (k + 1)).flatten.length : Int); omega, by show ((U.setLast _ _ _).length : Int) <= en + l.length; rw [qQ, hF1]; push_cast; omega, by show ((U.bJ _ _).length : Int) <= en + l.length; omega⟩, rfl⟩
      cases nb with
      | true =>
        have hz : U.bJ (U.says l) 58 = [] := List.length_eq_zero_iff.1 (hn1 rfl)
        rw [hz, Vu] at fin
        show (0 : Int) <= _ /\ _
        rw [set2 hK (by omega), hK, hK2, List.length_set]
        exact ⟨by omega, by omega, by omega, by omega, fin⟩
      | false =>
        show (Nat.add 0 _).mul 1 <= _ /\ _
        rw [PN, set2 hK (by omega), hK, hK2, List.length_set]
        exact ⟨by simp only [dD, jX]; omega, by simp only [dD, maxLen_eq]; omega, by omega, by omega, rfl, by omega, by omega, fin⟩
    | false =>
      rw [EX fs v en _ h0 hs hm hbg] at hI
      rw [hI]; exact ⟨rfl, rfl, rfl, rfl, trivial⟩
 ·rintro ⟨fs, v, en, k⟩ ⟨hI, hen, hf, hv⟩ hk
  dsimp only at hI hk ⊢
  rw [hk, List.drop_length, Vt] at hI
  rw [hI]; exact ⟨rfl, rfl, rfl, rfl, trivial⟩
theorem yh {b : List Int} {p : Int} (p0 : 0 <= p) (hp : p < b.length) : p < U.endOf b p /\ U.endOf b p <= b.length /\ ∃ r, U.ah 10 (b.drop p.toNat) = List.take ((U.endOf b p).toNat.sub p.toNat) (List.drop p.toNat b) :: r /\ ∀ s, U.dA s r = U.dA s (U.ah 10 (b.drop (U.endOf b p).toNat)) := by
 have hb := bG (b.drop p.toNat) 10
 rw [List.length_drop] at hb
 unfold U.endOf
 by_cases hi : aH (b.drop p.toNat) 10 >= 0
 ·rw [decide_eq_true hi]
  show p < p + _ + 1 /\ p + _ + 1 <= _ /\ ∃ r, _ = List.take ((p + aH (b.drop p.toNat) 10 + 1).toNat.sub p.toNat) _ :: r /\ ∀ s, _ = U.dA s (U.ah 10 (b.drop (p + aH (b.drop p.toNat) 10 + 1).toNat))
  refine ⟨by omega, by omega, _, ?_, fun s => rfl⟩
  rw [AP 10 _ hi, List.drop_drop]
  congr 2
  ·rw [bV]; omega
  ·congr 1; omega
 ·rw [decide_eq_false hi]
  show p < _ /\ (b.length : Int) <= _ /\ ∃ r, _ = List.take (((b.length : Int)).toNat.sub p.toNat) _ :: r /\ ∀ s, _ = U.dA s (U.ah 10 (b.drop ((b.length : Int)).toNat))
  refine ⟨hp, by omega, [], ?_, fun s => ?_⟩
  ·rw [DI 10 _ (by omega), kQ]
  ·rw [List.drop_eq_nil_of_le (by omega), Vt]
   show _ = U.dA s [[]]
   rw [H7]
theorem zF (s : U.HS) {b : List Int} {p : Int} (hp : (b.length : Int) <= p) : U.dA s (U.ah 10 (b.drop p.toNat)) = (s, 0) := by
 rw [List.drop_eq_nil_of_le (by omega)]
 show U.dA s [[]] = _
 rw [H7]
theorem LM {S : List Int} (h : U.begins S = true) : U.ay S = aH S 58 /\ 1 <= aH S 58 /\ aH S 58 < S.length /\ U.aC S 58 = S.take (aH S 58).toNat /\ U.bJ S 58 = S.drop (aH S 58 + 1).toNat := by
 have hb := bG S 58
 have h' := h
 unfold U.begins at h'
 simp only [Bool.and_eq_true, decide_eq_true_eq] at h'
 obtain ⟨h1, h2, _⟩ := h'
 have hcA : U.aC S 58 = S.take (aH S 58).toNat := by unfold U.aC; rw [decide_eq_true h1]; rfl
 have hl : (U.aC S 58).length = (aH S 58).toNat := by rw [hcA, List.length_take]; omega
 refine ⟨?_, by omega, hb.2, hcA, by unfold U.bJ; rw [decide_eq_true h1]; rfl⟩
 unfold U.ay; rw [h, hl]; show (((aH S 58).toNat : Nat) : Int) = _; omega
theorem PW (b : List Int) (hb : ∀ x ∈ b, Valid (.int .u8) x) (hl : b.length <= 1000000000) : xu b := by
 unfold xu
 refine ⟨([], [], 0), ⟨rfl, Int.le_refl 0, by show (0 : Int) <= _; omega, rfl, Int.le_refl 0, Int.le_refl 0⟩, ?_⟩
 rintro ⟨fs, v, en⟩ ⟨e0, e1, hI, hf, hv⟩
 dsimp only at e0 e1 hI hf hv ⊢
 rw [cond_prop]
 refine ⟨fun hi => ?_, fun hi => ?_⟩
 ·have hi : en < b.length := of_decide_eq_true hi
  obtain ⟨q1, q2, r, hr, hrr⟩ := yh e0 hi
  have hll : (List.take ((U.endOf b en).toNat.sub en.toNat) (List.drop en.toNat b)).length = (U.endOf b en).toNat - en.toNat := by rw [List.length_take, List.length_drop, bV]; omega
  refine ⟨⟨e0, e1⟩, e0, by omega, q2, ?_⟩
  rw [hr] at hI
  revert hI hll
  generalize List.take ((U.endOf b en).toNat.sub en.toNat) (List.drop en.toNat b) = l
  intro hI hll
  have hq : U.endOf b en = en + l.length := by omega
  rw [hq] at hrr q2 ⊢
  have hsl := H6 l
  have h0 : ¬ l = [] := by rintro rfl; simp at hll; omega
  rw [cond_prop]
  refine ⟨fun hs => ?_, fun hs => ?_⟩
  ·have hs : U.says l = [] := len0.1 (of_decide_eq_true hs)
   rw [EU _ _ h0 hs] at hI
   rw [hI]; exact ⟨rfl, rfl, trivial⟩
  have hs : ¬ U.says l = [] := fun h => of_decide_eq_false hs (len0.2 h)
  have hsp := List.length_pos_iff.2 hs
  refine ⟨by omega, by omega, ?_⟩
  rw [iD, SC fs v en l]
  cases hm : U.more (fs, v, en) l with
  | true =>
    rw [EW fs v en _ h0 hs hm, hrr] at hI
    have hfs : 0 < fs.length := by
     unfold U.more at hm
     simp only [Bool.and_eq_true, decide_eq_true_eq] at hm
     exact List.length_pos_iff.2 hm.2
    have hK : (IntKind.i64.wrap ((fs.length : Int).sub 1)).toNat = fs.length - 1 := by rw [iH (by omega) (by omega)]; omega
    have hK2 : IntKind.i64.wrap ((fs.length : Int).sub 1) = (fs.length : Int) - 1 := iH (by omega) (by omega)
    show (v.length.add (U.says l).length).mul 1 <= _ /\ _
    rw [List.length_set, set2 hK hfs, hK, hK2, PL]
    refine ⟨by simp only [dD, jX]; omega, by simp only [dD, maxLen_eq]; omega, by omega, by omega, by omega, by omega, by omega, by omega, ?_⟩
    exact ⟨(U.setLast fs (U.trimB (v ++ U.says l)) (en + l.length), v ++ U.says l, en + l.length), rfl, ⟨by show 0 <= en + (l.length : Int); omega, q2, hI, by show ((U.setLast _ _ _).length : Int) <= en + l.length; rw [qQ]; omega, by show ((v ++ U.says l).length : Int) <= en + l.length; rw [List.length_append]; push_cast; omega⟩, by simp only [bV]; omega⟩
  | false =>
    cases hbg : U.begins (U.says l) with
    | true =>
      rw [AX fs v en _ h0 hs hm hbg, hrr] at hI
      obtain ⟨c1, c2, c3, c4, c5⟩ := LM hbg
      rw [c1, decide_eq_true (by omega : aH (U.says l) 58 > 0), dQ (by omega) (by omega), kQ, jC, <- c4, <- c5, PL (U.bJ (U.says l) 58)]
      have hcz := PV (U.says l) 58
      have hlp := List.length_pos_iff.2 h0
      have hF : (fs.append ([(([], [], 0, 0) : Field)].set 0 (U.aC (U.says l) 58, [], en, 0))) = fs ++ [(U.aC (U.says l) 58, [], en, 0)] := rfl
      have hF1 : (fs ++ [((U.aC (U.says l) 58, [], en, 0) : Field)]).length = fs.length + 1 := by rw [List.length_append]; rfl
      show (0 : Int) <= 0 /\ _
      rw [hF]
      have hK : (IntKind.i64.wrap (((fs ++ [((U.aC (U.says l) 58, [], en, 0) : Field)]).length : Int).sub 1)).toNat = (fs ++ [((U.aC (U.says l) 58, [], en, 0) : Field)]).length - 1 := by rw [iH (by omega) (by omega)]; omega
      have hK2 : IntKind.i64.wrap (((fs ++ [((U.aC (U.says l) 58, [], en, 0) : Field)]).length : Int).sub 1) = (fs.length : Int) := by rw [iH (by omega) (by omega)]; omega
      rw [List.length_set, set2 hK (by omega), hK, hK2, hF1]
      refine ⟨by omega, by omega, by omega, by simp only [dD, jX]; omega, by simp only [dD, maxLen_eq]; omega, by omega, by omega, by omega, by simp only [dD, jX]; omega, by simp only [dD, maxLen_eq]; omega, by omega, by omega, by omega, by omega, by omega, by omega, ?_⟩
      exact ⟨(_, _, en + l.length), rfl, ⟨by show 0 <= en + (l.length : Int); omega, q2, hI, by show ((U.setLast _ _ _).length : Int) <= en + l.length; rw [qQ, hF1]; push_cast; omega, by show ((U.bJ _ _).length : Int) <= en + l.length; omega⟩, by simp only [bV]; omega⟩
    | false =>
      rw [EX fs v en _ h0 hs hm hbg] at hI
      have hc0 : U.ay (U.says l) = 0 := by unfold U.ay; rw [hbg]; rfl
      rw [hc0, hI]; exact ⟨rfl, rfl, trivial⟩
 ·have hi : ¬ en < b.length := of_decide_eq_false hi
  rw [zF _ (by omega)] at hI
  rw [hI]; exact ⟨rfl, rfl, trivial⟩
theorem PX (b : List Int) : ∀ (n : Nat) (s : U.HS), 0 <= s.2.2 -> s.2.2 <= b.length -> b.length - s.2.2.toNat <= n -> ∀ R, R = U.dA s (U.ah 10 (b.drop s.2.2.toNat)) ->
 0 <= R.1.2.2 /\ R.1.2.2 <= b.length /\ ((R.1.2.2 < b.length /\ U.says (List.take ((U.endOf b R.1.2.2).toNat.sub R.1.2.2.toNat) (List.drop R.1.2.2.toNat b)) = [] /\ R.1.2.2 + R.2 = U.endOf b R.1.2.2) ∨
  (R.2 = 0 /\ (R.1.2.2 < b.length -> ¬ U.says (List.take ((U.endOf b R.1.2.2).toNat.sub R.1.2.2.toNat) (List.drop R.1.2.2.toNat b)) = [])))
 | 0, s, h0, h1, hn, R, hR => by
   rw [zF s (by omega)] at hR
   subst hR
   exact ⟨h0, h1, .inr ⟨rfl, fun h => by dsimp only at h; omega⟩⟩
 | n + 1, (fs, v, en), h0, h1, hn, R, hR => by
   dsimp only at h0 h1 hn hR
   by_cases hi : en < b.length
   ·obtain ⟨q1, q2, r, hr, hrr⟩ := yh h0 hi
    have hll : (List.take ((U.endOf b en).toNat.sub en.toNat) (List.drop en.toNat b)).length = (U.endOf b en).toNat - en.toNat := by rw [List.length_take, List.length_drop, bV]; omega
    rw [hr] at hR
    obtain ⟨l, hl⟩ : ∃ l, l = List.take ((U.endOf b en).toNat.sub en.toNat) (List.drop en.toNat b) := ⟨_, rfl⟩
    rw [<- hl] at hR hll
    have hq : U.endOf b en = en + l.length := by omega
    have hne : ¬ l = [] := by intro h; rw [h] at hll; simp at hll; omega
    by_cases hs : U.says l = []
    ·rw [EU _ _ hne hs] at hR
     subst hR
     exact ⟨h0, h1, .inl ⟨hi, by show U.says (List.take ((U.endOf b en).toNat.sub en.toNat) (List.drop en.toNat b)) = []; rw [<- hl]; exact hs, hq.symm⟩⟩
    ·cases hm : U.more (fs, v, en) l with
     | true =>
       rw [EW fs v en _ hne hs hm, hrr, hq] at hR
       exact PX b n (_, _, en + l.length) (by show 0 <= en + (l.length : Int); omega) (by show en + (l.length : Int) <= _; omega) (by show b.length - (en + (l.length : Int)).toNat <= n; omega) R hR
     | false =>
       cases hbg : U.begins (U.says l) with
       | true =>
         rw [AX fs v en _ hne hs hm hbg, hrr, hq] at hR
         exact PX b n (_, _, en + l.length) (by show 0 <= en + (l.length : Int); omega) (by show en + (l.length : Int) <= _; omega) (by show b.length - (en + (l.length : Int)).toNat <= n; omega) R hR
       | false =>
         rw [EX fs v en _ hne hs hm hbg] at hR
         subst hR
         exact ⟨h0, h1, .inr ⟨rfl, fun _ => by show ¬ U.says (List.take ((U.endOf b en).toNat.sub en.toNat) (List.drop en.toNat b)) = []; rw [<- hl]; exact hs⟩⟩
   ·rw [zF _ (by omega)] at hR
    subst hR
    exact ⟨h0, h1, .inr ⟨rfl, fun h => absurd h hi⟩⟩
theorem LP (b : List Int) : 0 <= (U.hread b).1.2.2 /\ (U.hread b).1.2.2 <= b.length /\ (((U.hread b).1.2.2 < b.length /\ U.says (List.take ((U.endOf b (U.hread b).1.2.2).toNat.sub (U.hread b).1.2.2.toNat) (List.drop (U.hread b).1.2.2.toNat b)) = [] /\ (U.hread b).1.2.2 + (U.hread b).2 = U.endOf b (U.hread b).1.2.2) ∨
 ((U.hread b).2 = 0 /\ ((U.hread b).1.2.2 < b.length -> ¬ U.says (List.take ((U.endOf b (U.hread b).1.2.2).toNat.sub (U.hread b).1.2.2.toNat) (List.drop (U.hread b).1.2.2.toNat b)) = []))) :=
 PX b b.length ([], [], 0) (Int.le_refl 0) (by show (0 : Int) <= _; omega) (Nat.sub_le _ _) _ rfl
theorem V8 {b : List Int} {p : Int} (h0 : 0 <= p) (h1 : p <= b.length) : p <= U.endOf b p /\ U.endOf b p <= b.length := by
 by_cases h : p < b.length
 ·have := yh h0 h; omega
 ·rw [LK (by omega)]; omega
theorem SE (b : List Int) : (U.hread b).1.2.2 <= U.textOf b /\ U.textOf b <= b.length := by
 obtain ⟨h0, h1, h2⟩ := LP b
 have := V8 h0 h1
 unfold U.textOf
 rcases h2 with ⟨_, _, h⟩ | ⟨h, _⟩ <;> omega
theorem QY (b : List Int) (hb : ∀ x ∈ b, Valid (.int .u8) x) (h : b.length <= 1000000000) : yV b := by
 unfold yV
 have h1 := LP b
 have h2 := SE b
 unfold U.textOf at *
 refine ⟨h, ?_, trivial⟩
 rw [dQ (by omega) (by omega)]
end Go.Proofs.YtggccomebfpfpaaDoor
set_option linter.unusedSimpArgs false
set_option maxRecDepth 100000
set_option linter.unusedVariables false
namespace Go.Proofs.YtggccomebfpfpaaDoor
open Go.Vc
theorem Ux (x : aK [au]) : bZ Tryd.prog (bg ji) (Jw x) 43 (bU [au] x) [] (AQ x) = yT x := by kernel_rfl
theorem Uy : Pok 43 [au] (fun x => AQ x) := by
 refine pk (L := fun x => Jw x) (l := ji) rO (fun _ => rfl) ?_
 intro x hv hp
 rw [Ux]
 exact QU x
theorem Uz : bQ Tryd.prog gl 43 Jv := Uy
theorem Gw : bn uD := .cons Uz rO
theorem MP (x : aK [.int .u8]) : bZ Tryd.prog (bg uD) (Bv x) 59 (bU [.int .u8] x) [] (sN x) = qo x := by kernel_rfl
theorem MQ : Pok 59 [.int .u8] (fun x => sN x) := by
 refine pk (L := fun x => Bv x) (l := uD) Gw (fun _ => rfl) ?_
 intro x hv hp
 rw [MP]
 exact KI x
theorem MR : bQ Tryd.prog gl 59 Bq := MQ
theorem zG : bn mJ := .cons MR Gw
theorem QZ (x : aK [au]) : bZ Tryd.prog (bg mJ) (F7 x) 44 (bU [au] x) [] (yM x) = wZ x := by kernel_rfl
theorem Q5 : Pok 44 [au] (fun x => yM x) := by
 refine pk (L := fun x => F7 x) (l := mJ) zG (fun _ => rfl) ?_
 intro x hv hp
 rw [QZ]
 exact Px x hv.2
theorem Q7 : bQ Tryd.prog gl 44 F5 := Q5
theorem Eb : bn qH := .cons Q7 zG
theorem UA (x : aK [au]) : bZ Tryd.prog (bg qH) (Jz x) 22 (bU [au] x) [] (uF x) = yU x := by kernel_rfl
theorem UC : Pok 22 [au] (fun x => uF x) := by
 refine pk (L := fun x => Jz x) (l := qH) Eb (fun _ => rfl) ?_
 intro x hv hp
 rw [UA]
 exact QX x hv.1 (hp (List.length x <= 1000000000) (by simp [uF]))
theorem UD : bQ Tryd.prog gl 22 Jy := UC
theorem Gx : bn uG := .cons UD Eb
theorem PY (x : aK [au]) : bZ Tryd.prog (bg uG) (DR x) 11 (bU [au] x) [] (o7 x) = sO x := by kernel_rfl
theorem PZ : Pok 11 [au] (fun x => o7 x) := by
 refine pk (L := fun x => DR x) (l := uG) Gx (fun _ => rfl) ?_
 intro x hv hp
 rw [PY]
 exact MI x (hp (List.length x <= 1000000000) (by simp [o7]))
theorem P5 : bQ Tryd.prog gl 11 DN := PZ
theorem BF : bn o8 := .cons P5 Gx
theorem UE (x : aK [au]) : bZ Tryd.prog (bg o8) (JB x) 13 (bU [au] x) [] (uH x) = yV x := by kernel_rfl
theorem UF : Pok 13 [au] (fun x => uH x) := by
 refine pk (L := fun x => JB x) (l := o8) BF (fun _ => rfl) ?_
 intro x hv hp
 rw [UE]
 exact QY x hv.1 (hp (List.length x <= 1000000000) (by simp [uH]))
theorem UG : bQ Tryd.prog gl 13 JA := UF
theorem Gy : bn uI := .cons UG BF
theorem Q8 (x : aK [.int .u8]) : bZ Tryd.prog (bg uI) (F9 x) 29 (bU [.int .u8] x) [] (yN x) = xg x := by kernel_rfl
theorem Q9 : Pok 29 [.int .u8] (fun x => yN x) := by
 refine pk (L := fun x => F9 x) (l := uI) Gy (fun _ => rfl) ?_
 intro x hv hp
 rw [Q8]
 exact Py x (T.vU8 hv)
theorem Rf : bQ Tryd.prog gl 29 F8 := Q9
theorem Ec : bn qI := .cons Rf Gy
theorem P6 (x : aK [.int .u8, .int .u8]) : bZ Tryd.prog (bg qI) (DU x.1 x.2) 28 (bU [.int .u8, .int .u8] x) [] (wV x.1 x.2) = BD x.1 x.2 := by kernel_rfl
theorem P7 : Pok 28 [.int .u8, .int .u8] (fun x => wV x.1 x.2) := by
 refine pk (L := fun x => DU x.1 x.2) (l := qI) Ec (fun _ => rfl) ?_
 intro x hv hp
 rw [P6]
 exact MK x.1 x.2
theorem P8 : bQ Tryd.prog gl 28 DT := P7
theorem BG : bn o9 := .cons P8 Ec
theorem UH (x : aK [.str, .str]) : bZ Tryd.prog (bg o9) (JD x.1 x.2) 17 (bU [.str, .str] x) [] (AU x.1 x.2) = yX x.1 x.2 := by kernel_rfl
theorem UJ : Pok 17 [.str, .str] (fun x => AU x.1 x.2) := by
 refine pk (L := fun x => JD x.1 x.2) (l := o9) BG (fun _ => rfl) ?_
 intro x hv hp
 rw [UH]
 exact QV x.1 x.2 hv.1.2
theorem UK : bQ Tryd.prog gl 17 JC := UJ
theorem Gz : bn uJ := .cons UK BG
theorem Vw (x : aK [au, .str]) : bZ Tryd.prog (bg uJ) (LH x.1 x.2) 8 (bU [au, .str] x) [] (x9 x.1 x.2) = AV x.1 x.2 := by kernel_rfl
theorem Vx : Pok 8 [au, .str] (fun x => x9 x.1 x.2) := by
 refine pk (L := fun x => LH x.1 x.2) (l := uJ) Gz (fun _ => rfl) ?_
 intro x hv hp
 rw [Vw]
 exact Ut x.1 x.2 (hp (List.length x.1 <= 1000000000) (by simp [x9]))
theorem Vy : bQ Tryd.prog gl 8 LG := Vx
theorem JG : bn yg := .cons Vy Gz
theorem Rh (x : aK [au]) : bZ Tryd.prog (bg yg) (Gg x) 15 (bU [au] x) [] (yO x) = D6 x := by kernel_rfl
theorem Ri : Pok 15 [au] (fun x => yO x) := by
 refine pk (L := fun x => Gg x) (l := yg) JG (fun _ => rfl) ?_
 intro x hv hp
 rw [Rh]
 exact PG x
theorem Rj : bQ Tryd.prog gl 15 Gf := Ri
theorem Ed : bn qJ := .cons Rj JG
theorem P9 (x : aK [.int .u8]) : bZ Tryd.prog (bg qJ) (DW x) 36 (bU [.int .u8] x) [] (wW x) = sQ x := by kernel_rfl
theorem Qa : Pok 36 [.int .u8] (fun x => wW x) := by
 refine pk (L := fun x => DW x) (l := qJ) Ed (fun _ => rfl) ?_
 intro x hv hp
 rw [P9]
 exact ML x
theorem Qb : bQ Tryd.prog gl 36 DV := Qa
theorem BH : bn pq := .cons Qb Ed
theorem UL (x : aK [au, .int .i64]) : bZ Tryd.prog (bg pq) (JF x.1 x.2) 25 (bU [au, .int .i64] x) [] (uK x.1 x.2) = yY x.1 x.2 := by kernel_rfl
theorem UM : Pok 25 [au, .int .i64] (fun x => uK x.1 x.2) := by
 refine pk (L := fun x => JF x.1 x.2) (l := pq) BH (fun _ => rfl) ?_
 intro x hv hp
 rw [UL]
 exact QW x.1 x.2 hv.1.2 (hp (0 <= x.2 /\ x.2 <= (List.length x.1 : Int)) (by simp [uK]))
theorem UN : bQ Tryd.prog gl 25 JE := UM
theorem GH : bn uM := .cons UN BH
theorem Rk (x : aK [au]) : bZ Tryd.prog (bg uM) (Gj x) 24 (bU [au] x) [] (yP x) = xk x := by kernel_rfl
theorem Rl : Pok 24 [au] (fun x => yP x) := by
 refine pk (L := fun x => Gj x) (l := uM) GH (fun _ => rfl) ?_
 intro x hv hp
 rw [Rk]
 exact PI x hv.2
theorem Rn : bQ Tryd.prog gl 24 Gi := Rl
theorem Ee : bn qK := .cons Rn GH
theorem Qc (x : aK [au]) : bZ Tryd.prog (bg qK) (DY x) 35 (bU [au] x) [] (wX x) = sU x := by kernel_rfl
theorem Qd : Pok 35 [au] (fun x => wX x) := by
 refine pk (L := fun x => DY x) (l := qK) Ee (fun _ => rfl) ?_
 intro x hv hp
 rw [Qc]
 exact MN x hv.2
theorem Qe : bQ Tryd.prog gl 35 DX := Qd
theorem BI : bn pz := .cons Qe Ee
theorem Ro (x : aK [au]) : bZ Tryd.prog (bg pz) (Gm x) 37 (bU [au] x) [] (yQ x) = xq x := by kernel_rfl
theorem Rq : Pok 37 [au] (fun x => yQ x) := by
 refine pk (L := fun x => Gm x) (l := pz) BI (fun _ => rfl) ?_
 intro x hv hp
 rw [Ro]
 exact PO x hv.2
theorem Rt : bQ Tryd.prog gl 37 Gl := Rq
theorem Ef : bn qL := .cons Rt BI
theorem Ru (x : aK [au]) : bZ Tryd.prog (bg qL) (Gp x) 23 (bU [au] x) [] (qM x) = xu x := by kernel_rfl
theorem Rw : Pok 23 [au] (fun x => qM x) := by
 refine pk (L := fun x => Gp x) (l := qL) Ef (fun _ => rfl) ?_
 intro x hv hp
 rw [Ru]
 exact PW x hv.1 (hp (List.length x <= 1000000000) (by simp [qM]))
theorem Rx : bQ Tryd.prog gl 23 Gn := Rw
theorem Eh : bn qN := .cons Rx Ef
theorem MS (x : aK [au]) : bZ Tryd.prog (bg qN) (BA x) 12 (bU [au] x) [] (mM x) = qp x := by kernel_rfl
theorem MV : Pok 12 [au] (fun x => mM x) := by
 refine pk (L := fun x => BA x) (l := qN) Eh (fun _ => rfl) ?_
 intro x hv hp
 rw [MS]
 exact KJ x (hp (List.length x <= 1000000000) (by simp [mM]))
theorem MW : bQ Tryd.prog gl 12 Bz := MV
theorem zH : bn mO := .cons MW Eh
theorem Qg (x : aK [.int .u8]) : bZ Tryd.prog (bg mO) (D5 x) 30 (bU [.int .u8] x) [] (wY x) = sV x := by kernel_rfl
theorem Qh : Pok 30 [.int .u8] (fun x => wY x) := by
 refine pk (L := fun x => D5 x) (l := mO) zH (fun _ => rfl) ?_
 intro x hv hp
 rw [Qg]
 exact MJ x (T.vU8 hv)
theorem Qi : bQ Tryd.prog gl 30 DZ := Qh
theorem BJ : bn pF := .cons Qi zH
theorem Ry (x : aK [.str, .str]) : bZ Tryd.prog (bg pF) (Gs x.1 x.2) 18 (bU [.str, .str] x) [] (yR x.1 x.2) = xw x.1 x.2 := by kernel_rfl
theorem Rz : Pok 18 [.str, .str] (fun x => yR x.1 x.2) := by
 refine pk (L := fun x => Gs x.1 x.2) (l := pF) BJ (fun _ => rfl) ?_
 intro x hv hp
 rw [Ry]
 exact PS x.1 x.2 hv.1.2
theorem RD : bQ Tryd.prog gl 18 Gq := Rz
theorem Ei : bn qO := .cons RD BJ
theorem RF (x : aK [au, au]) : bZ Tryd.prog (bg qO) (Gu x.1 x.2) 20 (bU [au, au] x) [] (yS x.1 x.2) = D7 x.1 x.2 := by kernel_rfl
theorem RG : Pok 20 [au, au] (fun x => yS x.1 x.2) := by
 refine pk (L := fun x => Gu x.1 x.2) (l := qO) Ei (fun _ => rfl) ?_
 intro x hv hp
 rw [RF]
 exact PU x.1 x.2
theorem RH : bQ Tryd.prog gl 20 Gt := RG
theorem Ej : bn qP := .cons RH Ei
end Go.Proofs.YtggccomebfpfpaaDoor
