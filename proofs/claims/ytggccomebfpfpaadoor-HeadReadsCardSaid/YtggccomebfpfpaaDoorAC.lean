/- What is owed of the functions, proved in plain Lean. -/
import Derived.Test.YtggccomebfpfpaaDoorAB
import Derived.Test.YtggccomebfpfpaaDoorAA
set_option linter.unusedSimpArgs false
set_option linter.unusedVariables false
set_option maxRecDepth 100000
namespace Go.Proofs.YtggccomebfpfpaaDoor
open Go.Vc
open Go.Vc.T
theorem VI {α : Type} {l : List α} {f : α -> Bool} {i : Int} (h0 : 0 <= i) (hi : i < l.length) : (l.drop i.toNat).any f = (f l[i.toNat] || (l.drop (i + 1).toNat).any f) := by
 rw [drop_at h0 hi]; rfl
theorem Xa (l : List Int) (c : Int) : U.dh l [c] = (decide (0 < l.length) && decide (l.getD (l.length - 1) 0 = c)) := by
 unfold U.dh
 rw [Bool.eq_iff_iff]
 simp only [Bool.and_eq_true, decide_eq_true_eq, List.length_singleton]
 constructor
 ·rintro ⟨h1, h2⟩
  refine ⟨h1, ?_⟩
  rw [List.drop_eq_getElem_cons (by omega)] at h2
  rw [getD_at (by omega)]; exact (List.cons.inj h2).1
 ·rintro ⟨h1, h2⟩
  refine ⟨h1, ?_⟩
  rw [List.drop_eq_getElem_cons (by omega), List.drop_eq_nil_of_le (by omega), <- h2, getD_at (by omega)]
theorem NW (l : List Int) (c : Int) : U.cu l [c] = cond (U.dh l [c]) (l.take (l.length - 1)) l := rfl
theorem Ik (l : List Int) : (U.says l).length <= l.length := by
 have key : ∀ (m : List Int) (c : Int), (U.cu m [c]).length <= m.length := fun m c => by
  rw [NW]; cases U.dh m [c]
  ·exact Nat.le_refl _
  ·show (m.take _).length <= _; rw [List.length_take]; omega
 unfold U.says
 cases U.dh l [10]
 ·exact Nat.le_refl _
 ·exact Nat.le_trans (key _ _) (key _ _)
theorem qy (x c : Int) (l : List Int) : aH (x :: l) c = if x = c then 0 else if aH l c = -1 then -1 else aH l c + 1 := rfl
theorem PV (c : Int) : ∀ (a b : List Int), (∀ x ∈ a, x ≠ c) -> aH (a ++ b) c = if aH b c = -1 then -1 else a.length + aH b c
 | [], b, _ => by
   have := bG b c
   rw [List.nil_append]; split
   ·assumption
   ·simp
 | x :: a, b, h => by
   have ih := PV c a b fun y hy => h y (List.mem_cons_of_mem _ hy)
   have hx : x ≠ c := h x (by simp)
   have := bG b c
   rw [List.cons_append, qy, if_neg hx, ih, List.length_cons]
   by_cases hb : aH b c = -1
   ·simp [hb]
   ·rw [if_neg hb, if_neg (by omega), if_neg hb]; push_cast; omega
theorem Ro (l : List Int) : y7 l := by
 unfold y7
 refine ⟨by omega, ?_⟩
 show bif U.dh l [10] then 0 < 1 /\ U.cu (U.cu l [10]) [13] = U.says l /\ True else _
 unfold U.says
 cases U.dh l [10]
 ·exact ⟨rfl, trivial⟩
 ·exact ⟨by omega, rfl, trivial⟩
theorem La (c : Int) : qw c := by
 unfold qw U.lN; rw [zM]; exact ⟨rfl, trivial⟩
theorem PW (l : List Int) (hl : l.length <= maxLen) : xB l := by
 unfold xB
 rw [maxLen_eq] at hl
 have hg : (([0] : List Int).set 0 58).getD 0 0 = 58 := rfl
 have hb := bG l 58
 have hn : (U.aC l 58).length <= l.length := by
  unfold U.aC; cases decide (aH l 58 >= 0)
  ·exact Nat.le_refl _
  ·show (l.take _).length <= _; rw [List.length_take]; omega
 rw [hg, iC, iC]
 refine ⟨by omega, rfl, ?_⟩
 cases hc : (decide (aH l 58 >= 0) && decide (((U.aC l 58).length : Int) >= 1) && decide (((U.aC l 58).length : Int) <= 60)) with
 | false =>
   refine ⟨rfl, rfl, ?_, trivial⟩
   unfold U.begins
   revert hc
   cases decide (aH l 58 >= 0)
   ·intro _; rfl
   ·by_cases h1 : (U.aC l 58).length >= 1
    ·rw [decide_eq_true (by omega : ((U.aC l 58).length : Int) >= 1), decide_eq_true h1]
     by_cases h2 : (U.aC l 58).length <= 60
     ·rw [decide_eq_true (by omega : ((U.aC l 58).length : Int) <= 60)]; intro h; cases h
     ·rw [decide_eq_false h2]; intro _; rfl
    ·rw [decide_eq_false h1]; intro _; rfl
 | true =>
   simp only [Bool.and_eq_true, decide_eq_true_eq] at hc
   obtain ⟨⟨h1, h2⟩, h3⟩ := hc
   have hbg : U.begins l = !((U.aC l 58).any U.lN) := by
    unfold U.begins
    rw [decide_eq_true h1, decide_eq_true (by omega : (U.aC l 58).length >= 1), decide_eq_true (by omega : (U.aC l 58).length <= 60)]; rfl
   refine ⟨0, ⟨rfl, ⟨Int.le_refl 0, by omega⟩, rfl⟩, ?_⟩
   rintro i ⟨⟨i0, i1⟩, hI⟩
   rw [cond_prop]
   refine ⟨fun hi => ?_, fun hi => ?_⟩
   ·have hi : i < (U.aC l 58).length := of_decide_eq_true hi
    rw [VI i0 hi] at hI
    rw [getD_at (by omega : i.toNat < (U.aC l 58).length)]
    refine ⟨i0, hi, ?_⟩
    cases ho : U.lN (U.aC l 58)[i.toNat] with
    | true =>
      rw [ho] at hI
      refine ⟨rfl, rfl, ?_, trivial⟩
      rw [hbg, <- hI, decide_eq_true (by omega : i >= 0)]; rfl
    | false =>
      rw [ho, Bool.false_or] at hI
      exact ⟨i + 1, by rw [dW (by omega) (by omega)], ⟨⟨by omega, by omega⟩, hI⟩, by simp only [bW]; omega⟩
   ·have hi : ¬ i < (U.aC l 58).length := of_decide_eq_false hi
    rw [drop_end (by omega)] at hI
    refine ⟨rfl, rfl, ?_, trivial⟩
    rw [hbg, <- hI]; rfl
theorem MX (b : List Int) (h : b.length <= 1000000000) : sU b := by
 unfold sU N7
 refine ⟨h, by omega, ?_⟩
 by_cases hc : (40 : Int) < ((U.hread b).1.1.length : Int)
 ·rw [if_pos hc]; exact ⟨by omega, by omega, rfl, trivial⟩
 ·rw [if_neg hc]
  refine ⟨by omega, by omega, ?_, trivial⟩
  show (U.hread b).1.1.take _ = (U.hread b).1.1.take 40
  rw [Fa _ (by rw [bW]; omega), Fa _ (by omega)]
theorem PX (c : Int) (h : 0 <= c /\ c <= 255) : xC c := by
 unfold xC U.small
 rw [iC, show decide (c >= 65) = decide (65 <= c) from rfl]
 cases hc : (decide (65 <= c) && decide (c <= 90)) with
 | true =>
   simp only [Bool.and_eq_true, decide_eq_true_eq] at hc
   refine ⟨?_, trivial⟩
   rw [S9, wrap_u8]; show _ = c + 32; omega
 | false => exact ⟨rfl, trivial⟩
theorem MZ (c : Int) (h : 0 <= c /\ c <= 255) : sZ c := by
 unfold sZ U.small
 rw [iC, show decide (c >= 65) = decide (65 <= c) from rfl]
 cases hc : (decide (65 <= c) && decide (c <= 90)) with
 | true =>
   simp only [Bool.and_eq_true, decide_eq_true_eq] at hc
   refine ⟨?_, trivial⟩
   rw [S9, wrap_u8]; show _ = c + 32; omega
 | false => exact ⟨rfl, trivial⟩
theorem Na (x y : Int) : BN x y := ⟨rfl, trivial⟩
theorem Xv {a b : List Int} (h : U.dF a b = true) {i : Nat} (ha : i < a.length) (hb : i < b.length) : U.small a[i] = U.small b[i] := by
 have h : a.map U.small = b.map U.small := of_decide_eq_true h
 have h2 : (a.map U.small)[i]? = (b.map U.small)[i]? := by rw [h]
 rw [List.getElem?_map, List.getElem?_map, List.getElem?_eq_getElem ha, List.getElem?_eq_getElem hb] at h2
 simpa using h2
theorem WH {a b : List Int} (h : U.dF a b = true) : a.length = b.length := by
 have h : a.map U.small = b.map U.small := of_decide_eq_true h
 have := congrArg List.length h
 simpa using this
theorem PY {a b : List Int} (h : ¬ a.length = b.length) : U.dF a b = false := by
 cases hs : U.dF a b with
 | false => rfl
 | true => exact absurd (WH hs) h
theorem PZ {a b : List Int} {i : Nat} (ha : i < a.length) (hb : i < b.length) (h : ¬ U.small a[i] = U.small b[i]) : U.dF a b = false := by
 cases hs : U.dF a b with
 | false => rfl
 | true => exact absurd (Xv hs ha hb) h
theorem L8 {a b : List Int} {i : Int} (i0 : 0 <= i) (ha : i < a.length) (hb : i < b.length) (h : (a.take i.toNat).map U.small = (b.take i.toNat).map U.small) (hx : U.small a[i.toNat] = U.small b[i.toNat]) : (a.take (i + 1).toNat).map U.small = (b.take (i + 1).toNat).map U.small := by
 rw [take_at i0 ha, take_at i0 hb, List.map_append, List.map_append, h, List.map_singleton, List.map_singleton, hx]
theorem P5 {a b : List Int} {i : Int} (ha : a.length <= i) (hb : b.length <= i) (h : (a.take i.toNat).map U.small = (b.take i.toNat).map U.small) : U.dF a b = true := by
 rw [ql ha, ql hb] at h; exact decide_eq_true h
theorem Rq (a b : List Int) (hl : a.length <= maxLen) : zf a b := by
 unfold zf
 rw [maxLen_eq] at hl
 by_cases hab : a.length = b.length
 ·rw [show ((a.length : Int) != (b.length : Int)) = false by rw [bne_eq_false_iff_eq]; omega]
  refine ⟨0, ⟨rfl, ⟨Int.le_refl 0, by omega⟩, hab, rfl⟩, ?_⟩
  rintro i ⟨⟨i0, i1⟩, _, hI⟩
  rw [cond_prop]
  refine ⟨fun hi => ?_, fun hi => ?_⟩
  ·have hi : i < a.length := of_decide_eq_true hi
   rw [getD_at (by omega : i.toNat < a.length), getD_at (by omega : i.toNat < b.length)]
   refine ⟨i0, hi, by omega, i0, by omega, by omega, ?_⟩
   by_cases hx : U.small a[i.toNat] = U.small b[i.toNat]
   ·rw [decide_eq_true hx]
    exact ⟨i + 1, by rw [dW (by omega) (by omega)], ⟨⟨by omega, by omega⟩, hab, L8 i0 hi (by omega) hI hx⟩, by simp only [bW]; omega⟩
   ·rw [decide_eq_false hx]; exact ⟨(PZ _ _ hx).symm, trivial⟩
  ·have hi : ¬ i < a.length := of_decide_eq_false hi
   exact ⟨(P5 (by omega) (by omega) hI).symm, trivial⟩
 ·rw [show ((a.length : Int) != (b.length : Int)) = true by rw [bne_iff_ne]; omega]
  exact ⟨(PY hab).symm, trivial⟩
theorem UJ (b n : List Int) (h : b.length <= 1000000000) : Bg b n := by
 unfold Bg
 have hf : (U.fieldsOf b).length <= 40 := by unfold U.fieldsOf; rw [List.length_take]; omega
 refine ⟨h, 0, ⟨rfl, ⟨Int.le_refl 0, by omega⟩, rfl⟩, ?_⟩
 rintro i ⟨⟨i0, i1⟩, hI⟩
 rw [cond_prop]
 refine ⟨fun hi => ?_, fun hi => ?_⟩
 ·have hi : i < (U.fieldsOf b).length := of_decide_eq_true hi
  rw [drop_at i0 hi, U.eF] at hI
  rw [getD_at (by omega : i.toNat < (U.fieldsOf b).length)]
  refine ⟨i0, hi, ?_⟩
  cases hs : U.dF (U.fieldsOf b)[i.toNat].1 n with
  | true => rw [hs] at hI; rw [<- hI]; exact ⟨rfl, rfl, trivial⟩
  | false =>
    rw [hs] at hI
    exact ⟨i + 1, by rw [dW (by omega) (by omega)], ⟨⟨by omega, by omega⟩, hI⟩, by simp only [bW]; omega⟩
 ·have hi : ¬ i < (U.fieldsOf b).length := of_decide_eq_false hi
  rw [drop_end (by omega)] at hI
  rw [<- hI]; exact ⟨rfl, rfl, trivial⟩
theorem P6 (b : List Int) : Ei b := ⟨by omega, rfl, rfl, trivial⟩
theorem Nb (c : Int) : sV c := by
 unfold sV U.blank; rw [zM]; exact ⟨rfl, trivial⟩
theorem WI {b : List Int} {q : Int} (q0 : 0 <= q) (hq : q < b.length) : U.endOf b q = if b[q.toNat] = 10 then q + 1 else U.endOf b (q + 1) := by
 unfold U.endOf
 rw [drop_at q0 hq, qy]
 have hb := bG (b.drop (q + 1).toNat) 10
 by_cases hx : b[q.toNat] = 10
 ·rw [if_pos hx, if_pos hx]; show q + 0 + 1 = _; omega
 ·rw [if_neg hx, if_neg hx]
  by_cases hi : aH (b.drop (q + 1).toNat) 10 = -1
  ·rw [if_pos hi, hi]; rfl
  ·rw [if_neg hi, decide_eq_true (by omega : aH (b.drop (q + 1).toNat) 10 >= 0), decide_eq_true (by omega : aH (b.drop (q + 1).toNat) 10 + 1 >= 0)]
   show q + (aH (b.drop (q + 1).toNat) 10 + 1) + 1 = q + 1 + aH (b.drop (q + 1).toNat) 10 + 1; omega
theorem L9 {b : List Int} {q : Int} (hq : (b.length : Int) <= q) : U.endOf b q = b.length := by
 unfold U.endOf; rw [drop_end hq]; rfl
theorem Rt (b : List Int) (p : Int) (hl : b.length <= maxLen) (hp : 0 <= p /\ p <= (b.length : Int)) : zh b p := by
 unfold zh
 rw [maxLen_eq] at hl
 refine ⟨p, ⟨rfl, hp.1, Int.le_refl p, hp.2, rfl⟩, ?_⟩
 rintro q ⟨h0, h1, h2, hI⟩
 rw [cond_prop]
 refine ⟨fun hq => ?_, fun hq => ?_⟩
 ·have hq : q < b.length := of_decide_eq_true hq
  rw [WI (by omega) hq] at hI
  rw [dW (by omega) (by omega), jf (by omega) (by omega), show q + 1 - 1 = q by omega, getD_at (by omega : q.toNat < b.length)]
  refine ⟨by omega, hq, ?_⟩
  by_cases hx : b[q.toNat] = 10
  ·rw [if_pos hx] at hI
   rw [decide_eq_true hx]; exact ⟨hI, trivial⟩
  ·rw [if_neg hx] at hI
   rw [decide_eq_false hx]
   exact ⟨q + 1, rfl, ⟨h0, by omega, by omega, hI⟩, by simp only [bW]; omega⟩
 ·have hq : ¬ q < b.length := of_decide_eq_false hq
  rw [L9 (by omega)] at hI
  exact ⟨by omega, trivial⟩
theorem P7 (l : List Int) (hl : l.length <= maxLen) : xE l := by
 unfold xE
 rw [maxLen_eq] at hl
 have hg : decide ((l.length : Int) > 0) = decide (0 < l.length) := by rw [decide_eq_decide]; omega
 have hg1 : decide ((l.length : Int) > 1) = decide (1 < l.length) := by rw [decide_eq_decide]; omega
 rw [hg, hg1, jf (by omega) (by omega), jf (by omega) (by omega), iC, iC, show ((l.length : Int) - 1).toNat = l.length - 1 by omega, show ((l.length : Int) - 2).toNat = l.length - 2 by omega, jy, <- Xa]
 refine ⟨fun h => by have := of_decide_eq_true h; omega, fun h => by omega, ?_⟩
 unfold U.says
 cases he : U.dh l [10] with
 | false => exact ⟨rfl, trivial⟩
 | true =>
   have h1 := AZ he
   rw [List.length_singleton] at h1
   have hlt : (l.take (l.length - 1)).length = l.length - 1 := by rw [List.length_take]; omega
   have ht : U.cu l [10] = l.take (l.length - 1) := by rw [NW, he]; rfl
   rw [hlt]
   refine ⟨by omega, by omega, by omega, fun h => by have := of_decide_eq_true h; omega, fun h => by have := of_decide_eq_true h; omega, ?_⟩
   have e13 : (decide (1 < l.length) && decide ((l.take (l.length - 1)).getD (l.length - 2) 0 = 13)) = U.dh (l.take (l.length - 1)) [13] := by
    rw [Xa, hlt, show l.length - 1 - 1 = l.length - 2 by omega]
    congr 1; rw [decide_eq_decide]; omega
   rw [e13]
   show bif U.dh (l.take (l.length - 1)) [13] then _ else _ = U.cu (U.cu l [10]) [13] /\ True
   rw [ht, NW, hlt]
   cases he2 : U.dh (l.take (l.length - 1)) [13] with
   | true =>
     have h2 := AZ he2
     rw [List.length_singleton, hlt] at h2
     refine ⟨by omega, by omega, by omega, ?_, trivial⟩
     rw [jy, show l.length - 1 - 1 = l.length - 2 by omega]; rfl
   | false => exact ⟨rfl, trivial⟩
theorem Nc (l : List Int) (hl : l.length <= maxLen) : sW l := by
 unfold sW
 rw [maxLen_eq] at hl
 refine ⟨0, ⟨rfl, ⟨Int.le_refl 0, by omega⟩, by omega, rfl⟩, ?_⟩
 rintro i ⟨⟨i0, i1⟩, i61, hA⟩
 have hA : ∀ x ∈ l.take i.toNat, U.lN x = false /\ x ≠ 58 := by
  intro x hx
  have := List.all_eq_true.1 hA x hx
  simp only [Bool.and_eq_true, Bool.not_eq_true', decide_eq_true_eq] at this
  exact this
 have hti : (l.take i.toNat).length = i.toNat := by rw [List.length_take]; omega
 have hsk := PV 58 (l.take i.toNat) (l.drop i.toNat) fun x hx => (hA x hx).2
 rw [List.take_append_drop, hti] at hsk
 have hbd := bG (l.drop i.toNat) 58
 rw [iC]
 rw [cond_prop]
 refine ⟨fun hi => ?_, fun hi => ?_⟩
 ·simp only [Bool.and_eq_true, decide_eq_true_eq] at hi
  obtain ⟨hi, h60⟩ := hi
  rw [getD_at (by omega : i.toNat < l.length)]
  rw [drop_at i0 hi, qy] at hsk
  refine ⟨i0, hi, ?_⟩
  by_cases hx : l[i.toNat] = 58
  ·rw [decide_eq_true hx]
   rw [if_pos hx, if_neg (by omega)] at hsk
   refine ⟨?_, trivial⟩
   have hix : aH l 58 = i := by omega
   have hcut : U.aC l 58 = l.take i.toNat := by unfold U.aC; rw [hix, decide_eq_true (by omega : i >= 0)]; rfl
   have hno : (l.take i.toNat).any U.lN = false := by
    rw [List.any_eq_false]; intro x hx; rw [(hA x hx).1]; simp
   unfold U.ay U.begins
   rw [hcut, hno, hti, hix, decide_eq_true (by omega : i >= 0), decide_eq_true (by omega : i.toNat <= 60)]
   by_cases h0 : i = 0
   ·subst h0; rfl
   ·rw [decide_eq_true (by omega : i.toNat >= 1)]; show i = ((i.toNat : Nat) : Int); omega
  ·rw [decide_eq_false hx]
   rw [if_neg hx] at hsk
   refine ⟨i0, hi, fun _ => i0, fun _ => hi, ?_⟩
   rw [zM]
   have hodd : (decide (l[i.toNat] < 33) || decide (l[i.toNat] > 126)) = U.lN l[i.toNat] := by
    unfold U.lN; congr 1; rw [decide_eq_decide]; omega
   rw [hodd]
   cases ho : U.lN l[i.toNat] with
   | true =>
     refine ⟨?_, trivial⟩
     have hbf : U.begins l = false := by
      unfold U.begins
      by_cases hidx : aH l 58 >= 0
      ·have hbd2 := bG (l.drop (i + 1).toNat) 58
       have hgt : i < aH l 58 := by
        by_cases hm : aH (l.drop (i + 1).toNat) 58 = -1
        ·rw [if_pos hm, if_pos rfl] at hsk; omega
        ·rw [if_neg hm, if_neg (by omega)] at hsk; omega
       have hb := bG l 58
       have hcut : U.aC l 58 = l.take (aH l 58).toNat := by unfold U.aC; rw [decide_eq_true hidx]; rfl
       have hany : (U.aC l 58).any U.lN = true := by
        rw [hcut, List.any_eq_true]
        refine ⟨l[i.toNat], ?_, ho⟩
        rw [List.mem_take_iff_getElem]
        exact ⟨i.toNat, by omega, rfl⟩
       rw [hany]; simp
      ·rw [decide_eq_false hidx]; rfl
     unfold U.ay; rw [hbf]; rfl
   | false =>
     refine ⟨i + 1, by rw [dW (by omega) (by omega)], ⟨⟨by omega, by omega⟩, by omega, ?_⟩, by simp only [bW]; omega⟩
     rw [List.all_eq_true]
     intro x hx
     rw [take_at i0 hi, List.mem_append, List.mem_singleton] at hx
     rcases hx with hx | rfl
     ·have := hA x hx; rw [this.1, decide_eq_true this.2]; rfl
     ·rw [ho, decide_eq_true hx]; rfl
 ·refine ⟨?_, trivial⟩
  have hbf : U.begins l = false := by
   unfold U.begins
   by_cases hidx : aH l 58 >= 0
   ·have hb := bG l 58
    have hcut : (U.aC l 58).length = (aH l 58).toNat := by unfold U.aC; rw [decide_eq_true hidx]; show (l.take _).length = _; rw [List.length_take]; omega
    have : ¬ (U.aC l 58).length <= 60 := by
     rw [hcut]
     intro h
     have hlt : i.toNat <= (aH l 58).toNat := by
      by_cases hm : aH (l.drop i.toNat) 58 = -1
      ·rw [if_pos hm] at hsk; omega
      ·rw [if_neg hm] at hsk; omega
     have hi2 : ¬ (i < l.length /\ i <= 60) := by
      intro hh
      rw [decide_eq_true hh.1, decide_eq_true hh.2] at hi; cases hi
     omega
    rw [decide_eq_false this]; simp
   ·rw [decide_eq_false hidx]; rfl
  unfold U.ay; rw [hbf]; rfl
theorem Ej : ∀ (a b : List Int), U.aA (a ++ b) = cond (decide (U.aA a = a.length)) (a.length + U.aA b) (U.aA a)
 | [], b => by show U.aA b = 0 + _; omega
 | x :: a, b => by
   have ih := Ej a b
   have hle := qm a
   rw [List.cons_append, U.aA, U.aA, List.length_cons]
   cases U.blank x
   ·rw [decide_eq_false (show ¬ (cond false (U.aA a + 1) 0) = a.length + 1 by show ¬ 0 = _; omega)]; rfl
   ·show U.aA (a ++ b) + 1 = cond (decide (U.aA a + 1 = a.length + 1)) _ (U.aA a + 1)
    rw [ih]
    by_cases h : U.aA a = a.length
    ·rw [decide_eq_true h, decide_eq_true (by omega : U.aA a + 1 = a.length + 1)]; show a.length + U.aA b + 1 = a.length + 1 + U.aA b; omega
    ·rw [decide_eq_false h, decide_eq_false (by omega : ¬ U.aA a + 1 = a.length + 1)]; rfl
theorem UK (l : List Int) : U.aA (l.take (U.aA l)) = U.aA l := by
 induction l with
 | nil => rfl
 | cons x r ih =>
   rw [U.aA]
   cases hb : U.blank x
   ·rfl
   ·show U.aA (x :: r.take (U.aA r)) = U.aA r + 1
    rw [U.aA, hb, ih]; rfl
theorem UL (l : List Int) : U.aA (l.drop (U.aA l)) = 0 := by
 induction l with
 | nil => rfl
 | cons x r ih =>
   rw [U.aA]
   cases hb : U.blank x
   ·show U.aA (x :: r) = 0
    rw [U.aA, hb]; rfl
   ·exact ih
theorem Em : ∀ (l : List Int), U.aA l = l.length -> ∀ x ∈ l, U.blank x = true
 | [], _, _, h => by cases h
 | y :: r, h, x, hx => by
   rw [U.aA, List.length_cons] at h
   cases hb : U.blank y with
   | false => rw [hb] at h; have h : 0 = r.length + 1 := h; omega
   | true =>
     rw [hb] at h
     have h : U.aA r + 1 = r.length + 1 := h
     rcases List.mem_cons.1 hx with rfl | hx
     ·exact hb
     ·exact Em r (by omega) x hx
theorem En : ∀ (l : List Int), (∀ x ∈ l, U.blank x = true) -> U.aA l = l.length
 | [], _ => rfl
 | y :: r, h => by
   rw [U.aA, h y (by simp), List.length_cons]
   show U.aA r + 1 = _
   rw [En r fun x hx => h x (List.mem_cons_of_mem _ hx)]
theorem VJ (a m : List Int) (h : 0 < U.aK m) : U.aK (a ++ m) = a.length + U.aK m := by
 unfold U.aK at *
 have hle := qm m.reverse
 rw [List.length_reverse] at hle
 rw [List.reverse_append, List.length_append, Ej, List.length_reverse, decide_eq_false (by omega : ¬ U.aA m.reverse = m.length)]
 show a.length + m.length - U.aA m.reverse = _; omega
theorem VK {x : Int} {r : List Int} (h : U.blank x = false) : 0 < U.aK (x :: r) := by
 unfold U.aK
 have hle := qm (x :: r).reverse
 rw [List.length_reverse] at hle
 by_cases he : U.aA (x :: r).reverse = (x :: r).reverse.length
 ·have := Em _ he x (by simp)
  rw [h] at this; cases this
 ·rw [List.length_reverse] at he; omega
theorem P8 {α : Type} (A B : List α) (t : Nat) : (A ++ B).take (A.length + t) = A ++ B.take t := by
 rw [List.take_append, List.take_of_length_le (by omega), show A.length + t - A.length = t by omega]
theorem P9 (l : List Int) : U.trimF l = U.trimB l := by
 have hL := qm l
 have hd := UL l
 have hs : l.take (U.aA l) ++ l.drop (U.aA l) = l := List.take_append_drop _ _
 have hal : (l.take (U.aA l)).length = U.aA l := by rw [List.length_take]; omega
 unfold U.trimF U.trimB
 cases hm : l.drop (U.aA l) with
 | nil =>
   rw [hm, List.append_nil] at hs
   have hall : ∀ x ∈ l, U.blank x = true := Em l (by have := congrArg List.length hs; omega)
   have hT : U.aK l = 0 := by
    unfold U.aK
    rw [En l.reverse fun x hx => hall x (List.mem_reverse.1 hx), List.length_reverse]; omega
   rw [hT]; rfl
 | cons x r =>
   have hx : U.blank x = false := by
    rw [hm, U.aA] at hd
    cases hb : U.blank x
    ·rfl
    ·rw [hb] at hd; have hd : U.aA r + 1 = 0 := hd; omega
   have hp := VK (r := r) hx
   have hT : U.aK l = U.aA l + U.aK (x :: r) := by
    have := VJ (l.take (U.aA l)) (x :: r) hp
    rw [hal, <- hm, hs] at this; rw [<- hm]; exact this
   have hlead : U.aA (l.take (U.aK l)) = U.aA l := by
    have e : l.take (U.aK l) = l.take (U.aA l) ++ (x :: r).take (U.aK (x :: r)) := by
     have := P8 (l.take (U.aA l)) (x :: r) (U.aK (x :: r))
     rw [<- hm, hs, hal, hm, <- hT] at this; exact this
    rw [e, Ej, hal, UK, decide_eq_true rfl]
    show U.aA l + U.aA _ = _
    obtain ⟨n, hn⟩ : ∃ n, U.aK (x :: r) = n + 1 := ⟨U.aK (x :: r) - 1, by omega⟩
    rw [hn, List.take_succ_cons, U.aA, hx]; rfl
   rw [hlead, List.drop_take, <- hm, hm, hT]
   congr 1; omega
theorem Qa (l : List Int) : List.take (U.trimB l).length (List.drop (U.aA (List.take (U.aK l) l)) l) = U.trimB l := by
 rw [LY]
 unfold U.trimB
 rw [List.drop_take]
theorem Qb (l : List Int) (hl : l.length <= maxLen) : xG l := by
 unfold xG
 rw [maxLen_eq] at hl
 refine ⟨0, ⟨rfl, Nat.zero_le _, rfl⟩, ?_⟩
 rintro k ⟨hk, hI⟩
 have hL := qm l
 refine ⟨fun _ => by omega, fun h => of_decide_eq_true h, ?_⟩
 rw [iC, cond_prop]
 have hdl : (l.drop k).length = l.length - k := List.length_drop
 refine ⟨fun h => ?_, fun h => ?_⟩
 ·simp only [Bool.and_eq_true, decide_eq_true_eq] at h
  obtain ⟨h1, h2⟩ := h
  have hkl : k < l.length := by omega
  have hc : l.drop k = l[k] :: l.drop (k + 1) := List.drop_eq_getElem_cons hkl
  have hx : (l.drop k).getD 0 0 = l[k] := by rw [hc]; rfl
  rw [hx] at h2
  rw [hc, U.aA, h2] at hI
  have hI : U.aA (l.drop (k + 1)) + 1 + k = U.aA l := hI
  refine ⟨by omega, by omega, by omega, k + 1, ?_, ⟨by omega, by omega⟩, by simp only [bW]; omega⟩
  rw [kP, List.drop_drop]; rfl
 ·have hz : U.aA (l.drop k) = 0 := by
   cases hd : l.drop k with
   | nil => rfl
   | cons x r =>
     rw [hd] at h
     rw [decide_eq_true (by rw [List.length_cons]; omega : (((x :: r).length : Nat) : Int) > 0)] at h
     have h : U.blank x = false := h
     rw [U.aA, h]; rfl
  have hk2 : k = U.aA l := by omega
  subst hk2
  clear hI h hz hk hdl
  have hml : (l.drop (U.aA l)).length = l.length - U.aA l := List.length_drop
  have htl := wZ (l.drop (U.aA l))
  refine ⟨(l.drop (U.aA l)).length, ⟨by unfold U.lD; rw [List.take_length], Nat.le_refl _, htl, by rw [List.take_length]⟩, ?_⟩
  rintro n ⟨h1, h2, h3⟩
  have hln : ((l.drop (U.aA l)).take n).length = n := by rw [List.length_take]; omega
  rw [hln]
  by_cases hn : n = 0
  ·subst hn
   refine ⟨by simp, by simp, ?_⟩
   show ((l.drop (U.aA l)).take 0) = U.trimF l /\ True
   unfold U.trimF
   rw [show U.aK (l.drop (U.aA l)) = 0 by omega]; exact ⟨rfl, trivial⟩
  ·rw [jf (by omega) (by omega), show ((n : Int) - 1).toNat = n - 1 by omega]
   refine ⟨fun _ => by omega, fun _ => by omega, ?_⟩
   have ht : (l.drop (U.aA l)).take n = (l.drop (U.aA l)).take (n - 1) ++ [(l.drop (U.aA l)).getD (n - 1) 0] := by
    have := List.take_succ_eq_append_getElem (l := l.drop (U.aA l)) (i := n - 1) (by omega)
    rw [show n - 1 + 1 = n by omega] at this
    rw [this, getD_at (by omega)]
   have hx : ((l.drop (U.aA l)).take n).getD (n - 1) 0 = (l.drop (U.aA l)).getD (n - 1) 0 := by
    rw [getD_at (by omega), getD_at (by omega), List.getElem_take]
   have hs := JG ((l.drop (U.aA l)).take (n - 1)) ((l.drop (U.aA l)).getD (n - 1) 0)
   rw [<- ht, h3] at hs
   rw [hx, decide_eq_true (by omega : (n : Int) > 0)]
   cases hb : U.blank ((l.drop (U.aA l)).getD (n - 1) 0) with
   | true =>
     rw [hb] at hs
     have hs : U.aK (l.drop (U.aA l)) = U.aK ((l.drop (U.aA l)).take (n - 1)) := hs
     have hle := wZ ((l.drop (U.aA l)).take (n - 1))
     rw [List.length_take] at hle
     refine ⟨by omega, by omega, by omega, n - 1, ?_, ⟨by omega, by omega, hs.symm⟩, by omega⟩
     rw [jy, List.take_take, Nat.min_eq_left (by omega)]; rfl
   | false =>
     rw [hb, List.length_take] at hs
     have hs : U.aK (l.drop (U.aA l)) = min (n - 1) (l.drop (U.aA l)).length + 1 := hs
     refine ⟨?_, trivial⟩
     unfold U.trimF
     congr 1; omega
theorem Qc (a b : List Int) (hl : a.length <= maxLen) : xJ a b := by
 unfold xJ
 rw [maxLen_eq] at hl
 by_cases hab : a.length = b.length
 ·rw [show ((a.length : Int) != (b.length : Int)) = false by rw [bne_eq_false_iff_eq]; omega]
  refine ⟨0, ⟨rfl, ⟨Int.le_refl 0, by omega⟩, hab, rfl⟩, ?_⟩
  rintro i ⟨⟨i0, i1⟩, _, hI⟩
  rw [cond_prop]
  refine ⟨fun hi => ?_, fun hi => ?_⟩
  ·have hi : i < a.length := of_decide_eq_true hi
   rw [getD_at (by omega : i.toNat < a.length), getD_at (by omega : i.toNat < b.length)]
   refine ⟨i0, hi, i0, by omega, ?_⟩
   by_cases hx : U.small a[i.toNat] = U.small b[i.toNat]
   ·rw [show (U.small a[i.toNat] != U.small b[i.toNat]) = false by rw [bne_eq_false_iff_eq]; exact hx]
    exact ⟨i + 1, by rw [dW (by omega) (by omega)], ⟨⟨by omega, by omega⟩, hab, L8 i0 hi (by omega) hI hx⟩, by simp only [bW]; omega⟩
   ·rw [show (U.small a[i.toNat] != U.small b[i.toNat]) = true by rw [bne_iff_ne]; exact hx]; exact ⟨(PZ _ _ hx).symm, trivial⟩
  ·have hi : ¬ i < a.length := of_decide_eq_false hi
   exact ⟨(P5 (by omega) (by omega) hI).symm, trivial⟩
 ·rw [show ((a.length : Int) != (b.length : Int)) = true by rw [bne_iff_ne]; omega]
  exact ⟨(PY hab).symm, trivial⟩
theorem Lc (b : List Int) (h : b.length <= 1000000000) : qx b := by
 unfold qx
 refine ⟨h, ?_⟩
 rw [cond_prop]
 refine ⟨fun hc => ?_, fun hc => ?_⟩
 ·have hc := of_decide_eq_true hc
  exact ⟨by omega, by omega, by omega, rfl, trivial⟩
 ·have hc := of_decide_eq_false hc
  unfold U.fieldsOf
  rw [Fa _ (by omega)]; exact ⟨rfl, trivial⟩
theorem Ru (b n : List Int) (h : b.length <= 1000000000) : zi b n := by
 unfold zi
 have hf : (U.fieldsOf b).length <= 40 := by unfold U.fieldsOf; rw [List.length_take]; omega
 refine ⟨h, 0, ⟨rfl, ⟨Int.le_refl 0, by omega⟩, rfl⟩, ?_⟩
 rintro i ⟨⟨i0, i1⟩, hI⟩
 rw [cond_prop]
 refine ⟨fun hi => ?_, fun hi => ?_⟩
 ·have hi : i < (U.fieldsOf b).length := of_decide_eq_true hi
  rw [drop_at i0 hi, U.eF] at hI
  rw [getD_at (by omega : i.toNat < (U.fieldsOf b).length)]
  refine ⟨i0, hi, ?_⟩
  cases hs : U.dF (U.fieldsOf b)[i.toNat].1 n with
  | true => rw [hs] at hI; rw [<- hI]; exact ⟨i0, hi, rfl, rfl, trivial⟩
  | false =>
    rw [hs] at hI
    exact ⟨i + 1, by rw [dW (by omega) (by omega)], ⟨⟨by omega, by omega⟩, hI⟩, by simp only [bW]; omega⟩
 ·have hi : ¬ i < (U.fieldsOf b).length := of_decide_eq_false hi
  rw [drop_end (by omega)] at hI
  rw [<- hI]; exact ⟨rfl, rfl, trivial⟩
theorem Nh (b : List Int) (hl : b.length <= maxLen) : tq b := by
 unfold tq
 rw [maxLen_eq] at hl
 refine ⟨(0, 0), ⟨rfl, ⟨Int.le_refl 0, by show (0 : Int) <= _; omega⟩, rfl⟩, ?_⟩
 rintro ⟨n, i⟩ ⟨⟨i0, i1⟩, hn⟩
 dsimp only at i0 i1 hn ⊢
 rw [cond_prop]
 refine ⟨fun hi => ?_, fun hi => ?_⟩
 ·have hi : i < b.length := of_decide_eq_true hi
  have hle := Tc (b.take i.toNat) 10
  rw [List.length_take] at hle
  have hst : ((mV (b.take (i + 1).toNat) 10 : Nat) : Int) = n + if b[i.toNat] = 10 then 1 else 0 := by
   rw [hn, take_at i0 hi]; unfold mV
   rw [List.filter_append, List.length_append]
   by_cases hx : b[i.toNat] = 10 <;> simp [hx]
  rw [getD_at (by omega : i.toNat < b.length)]
  refine ⟨i0, hi, ?_⟩
  by_cases hx : b[i.toNat] = 10
  ·rw [decide_eq_true hx]
   rw [if_pos hx] at hst
   exact ⟨(n + 1, i + 1), by rw [dW (by omega) (by omega), dW (by omega) (by omega)], ⟨⟨by show 0 <= i + 1; omega, by show i + 1 <= _; omega⟩, hst.symm⟩, by simp only [bW]; omega⟩
  ·rw [decide_eq_false hx]
   rw [if_neg hx, Int.add_zero] at hst
   exact ⟨(n, i + 1), by rw [dW (by omega) (by omega)], ⟨⟨by show 0 <= i + 1; omega, by show i + 1 <= _; omega⟩, hst.symm⟩, by simp only [bW]; omega⟩
 ·have hi : ¬ i < b.length := of_decide_eq_false hi
  rw [ql (by omega)] at hn
  exact ⟨hn, trivial⟩
theorem VL (x y : Field) : (x.1.beq y.1 && (x.2.1.beq y.2.1 && (decide (x.2.2.1 = y.2.2.1) && (decide (x.2.2.2 = y.2.2.2) && true)))) = decide (x = y) := by
 rw [KU, KU, Bool.eq_iff_iff]
 simp only [Bool.and_true, Bool.and_eq_true, decide_eq_true_eq]
 constructor
 ·rintro ⟨h1, h2, h3, h4⟩; exact Prod.ext h1 (Prod.ext h2 (Prod.ext h3 h4))
 ·rintro rfl; exact ⟨rfl, rfl, rfl, rfl⟩
theorem Eo (a b : List Field) (hl : a.length <= maxLen) : kS a b := by
 unfold kS
 rw [maxLen_eq] at hl
 by_cases hab : a.length = b.length
 ·rw [show ((a.length : Int) != (b.length : Int)) = false by rw [bne_eq_false_iff_eq]; omega]
  refine ⟨0, ⟨rfl, ⟨Int.le_refl 0, by omega⟩, hab, rfl⟩, ?_⟩
  rintro i ⟨⟨i0, i1⟩, _, hI⟩
  rw [cond_prop]
  refine ⟨fun hi => ?_, fun hi => ?_⟩
  ·have hi : i < a.length := of_decide_eq_true hi
   rw [getD_at (by omega : i.toNat < a.length), getD_at (by omega : i.toNat < b.length), VL]
   refine ⟨i0, hi, i0, by omega, ?_⟩
   by_cases hx : a[i.toNat] = b[i.toNat]
   ·rw [decide_eq_true hx]
    refine ⟨i + 1, by rw [dW (by omega) (by omega)], ⟨⟨by omega, by omega⟩, hab, ?_⟩, by simp only [bW]; omega⟩
    rw [take_at i0 hi, take_at i0 (by omega), hI, hx]
   ·rw [decide_eq_false hx]
    refine ⟨?_, trivial⟩
    rw [decide_eq_false]; rintro rfl; exact hx rfl
  ·have hi : ¬ i < a.length := of_decide_eq_false hi
   rw [ql (by omega), ql (by omega)] at hI
   exact ⟨(decide_eq_true hI).symm, trivial⟩
 ·rw [show ((a.length : Int) != (b.length : Int)) = true by rw [bne_iff_ne]; omega]
  refine ⟨?_, trivial⟩
  rw [decide_eq_false]; rintro rfl; exact hab rfl
theorem Nj {α : Type} {l : List α} {k : Nat} {x d : α} (h : k < l.length) : (l.set k x).getD k d = x := by
 rw [getD_at (by rw [List.length_set]; exact h), List.getElem_set_self]
theorem set2 {fs : List Field} {v : List Int} {e : Int} {k : Nat} (hk : k = fs.length - 1) (h : 0 < fs.length) : (fs.set k ((fs.getD k ([], [], 0, 0)).1, v, (fs.getD k ([], [], 0, 0)).2.2)).set k (((fs.set k ((fs.getD k ([], [], 0, 0)).1, v, (fs.getD k ([], [], 0, 0)).2.2)).getD k ([], [], 0, 0)).1, ((fs.set k ((fs.getD k ([], [], 0, 0)).1, v, (fs.getD k ([], [], 0, 0)).2.2)).getD k ([], [], 0, 0)).2.1, ((fs.set k ((fs.getD k ([], [], 0, 0)).1, v, (fs.getD k ([], [], 0, 0)).2.2)).getD k ([], [], 0, 0)).2.2.1, e) = U.setLast fs v e := by
 subst hk
 rw [Nj (by omega), List.set_set]; rfl
theorem qW (fs : List Field) (v : List Int) (e : Int) : (U.setLast fs v e).length = fs.length := List.length_set
theorem VN (c : Int) : decide (aH [32, 9] c >= 0) = U.blank c := by
 unfold U.blank
 rw [qy, qy]
 by_cases h1 : (32 : Int) = c
 ·rw [if_pos h1, decide_eq_true h1.symm]; rfl
 ·rw [if_neg h1, decide_eq_false (fun h => h1 h.symm : ¬ c = 32)]
  by_cases h2 : (9 : Int) = c
  ·rw [if_pos h2, decide_eq_true h2.symm]; rfl
  ·rw [if_neg h2, decide_eq_false (fun h => h2 h.symm : ¬ c = 9)]; rfl
theorem Tf (fs : List Field) (v : List Int) (en : Int) (l : List Int) : (U.blank ((U.says l).getD 0 0) && decide ((fs.length : Int) > 0)) = U.more (fs, v, en) l := by
 unfold U.more
 congr 1
 rw [decide_eq_decide]
 constructor
 ·rintro h rfl; simp at h
 ·intro h
  have h2 : 0 < fs.length := List.length_pos_iff.2 h
  omega
theorem VO (s : U.HS) : U.dw s [] = (s, 0) := rfl
theorem Il (s : U.HS) (r : List (List Int)) : U.dw s ([] :: r) = (s, 0) := by unfold U.dw; rfl
theorem Fb (s : U.HS) {l : List Int} (r : List (List Int)) (h : ¬ l = []) : U.dw s (l :: r) = cond (U.goes s l) (U.dw (U.NV s l) r) (s, cond (decide (U.says l = [])) (l.length : Int) 0) := by
 rw [U.dw, decide_eq_false h]; rfl
theorem Fe (s : U.HS) {l : List Int} (r : List (List Int)) (h : ¬ l = []) (hs : U.says l = []) : U.dw s (l :: r) = (s, (l.length : Int)) := by
 rw [Fb s r h]; unfold U.goes; rw [decide_eq_true hs]; rfl
theorem Fg (fs : List Field) (v : List Int) (en : Int) {l : List Int} (r : List (List Int)) (h : ¬ l = []) (hs : ¬ U.says l = []) (hm : U.more (fs, v, en) l = true) :
 U.dw (fs, v, en) (l :: r) = U.dw (U.setLast fs (U.trimB (v ++ U.says l)) (en + l.length), v ++ U.says l, en + l.length) r := by
 rw [Fb _ r h]; unfold U.goes U.NV U.UG U.NU; rw [decide_eq_false hs, hm]; rfl
theorem Bh (fs : List Field) (v : List Int) (en : Int) {l : List Int} (r : List (List Int)) (h : ¬ l = []) (hs : ¬ U.says l = []) (hm : U.more (fs, v, en) l = false) (hb : U.begins (U.says l) = true) :
 U.dw (fs, v, en) (l :: r) = U.dw (U.setLast (fs ++ [(U.aC (U.says l) 58, [], en, 0)]) (U.trimB (U.bK (U.says l) 58)) (en + l.length), U.bK (U.says l) 58, en + l.length) r := by
 rw [Fb _ r h]; unfold U.goes U.NV U.UG U.NU; rw [decide_eq_false hs, hm, hb]; rfl
theorem Fh (fs : List Field) (v : List Int) (en : Int) {l : List Int} (r : List (List Int)) (h : ¬ l = []) (hs : ¬ U.says l = []) (hm : U.more (fs, v, en) l = false) (hb : U.begins (U.says l) = false) :
 U.dw (fs, v, en) (l :: r) = ((fs, v, en), 0) := by
 rw [Fb _ r h]; unfold U.goes; rw [decide_eq_false hs, hm, hb]; rfl
theorem GX (c : Int) : ∀ s, (U.ah c s).flatten = s
 | [] => rfl
 | x :: r => by
   have ih := GX c r
   rw [U.ah]
   split
   ·rw [List.flatten_cons, ih]; rfl
   ·cases hs : U.ah c r with
    | nil => exact absurd hs (DV c r)
    | cons a m => rw [hs, List.flatten_cons] at ih; show ((x :: a) :: m).flatten = _; rw [List.flatten_cons, <- ih]; rfl
theorem Qd (l : List Int) (c : Int) : (U.bK l c).length <= l.length := by
 unfold U.bK
 cases decide (aH l c >= 0)
 ·exact Nat.zero_le _
 ·show (l.drop _).length <= _; rw [List.length_drop]; omega
theorem VP : U.trimB [] = [] := rfl
theorem len0 {α : Type} {l : List α} : ((l.length : Int) = 0) ↔ l = [] := by
 constructor
 ·intro h; exact List.length_eq_zero_iff.1 (by omega)
 ·rintro rfl; rfl
theorem Rw (b : List Int) (hb : ∀ x ∈ b, Valid (.int .u8) x) (hl : b.length <= 1000000000) : y8 b := by
 unfold y8
 have hg : (([0] : List Int).set 0 10).getD 0 0 = 10 := rfl
 rw [hg]
 have hfl := GX 10 b
 have bound : ∀ k, k < (U.ah 10 b).length -> ((U.ah 10 b).take k).flatten.length + ((U.ah 10 b).getD k []).length = ((U.ah 10 b).take (k + 1)).flatten.length /\ ((U.ah 10 b).take (k + 1)).flatten.length <= b.length := by
  intro k hk
  have h1 : (U.ah 10 b).take (k + 1) = (U.ah 10 b).take k ++ [(U.ah 10 b).getD k []] := by rw [List.take_succ_eq_append_getElem hk, getD_at hk]
  have h2 := congrArg List.length hfl
  rw [<- List.take_append_drop (k + 1) (U.ah 10 b), List.flatten_append, List.length_append] at h2
  refine ⟨?_, by omega⟩
  rw [h1, List.flatten_append, List.length_append]; simp
 refine ⟨by omega, rfl, rfl, ([], [], 0, 0), ⟨rfl, ⟨rfl, rfl, Int.le_refl 0, Int.le_refl 0⟩, rfl⟩, ?_, ?_⟩
 ·rintro ⟨fs, v, en, k⟩ ⟨hI, hen, hf, hv⟩ hk
  dsimp only at hI hen hf hv hk ⊢
  obtain ⟨b1, b2⟩ := bound k hk
  have hd : (U.ah 10 b).drop k = (U.ah 10 b).getD k [] :: (U.ah 10 b).drop (k + 1) := by rw [List.drop_eq_getElem_cons hk, getD_at hk]
  rw [hd] at hI
  revert hI b1
  generalize (U.ah 10 b).getD k [] = l
  intro hI b1
  have hsl := Ik l
  rw [cond_prop]
  refine ⟨fun h0 => ?_, fun h0 => ?_⟩
  ·have h0 : l = [] := len0.1 (of_decide_eq_true h0)
   subst h0
   rw [Il] at hI
   rw [hI]; exact ⟨rfl, rfl, rfl, rfl, trivial⟩
  have h0 : ¬ l = [] := fun h => of_decide_eq_false h0 (len0.2 h)
  rw [cond_prop]
  refine ⟨fun hs => ?_, fun hs => ?_⟩
  ·have hs : U.says l = [] := len0.1 (of_decide_eq_true hs)
   rw [Fe _ _ h0 hs] at hI
   rw [hI]; exact ⟨rfl, rfl, rfl, rfl, trivial⟩
  have hs : ¬ U.says l = [] := fun h => of_decide_eq_false hs (len0.2 h)
  have hsp := List.length_pos_iff.2 hs
  refine ⟨by omega, by omega, ?_⟩
  rw [iC, VN, Tf fs v en l]
  have hw : IntKind.i64.wrap (en.add (l.length : Int)) = en + l.length := dW (by omega) (by omega)
  rw [hw]
  cases hm : U.more (fs, v, en) l with
  | true =>
    rw [Fg fs v en _ h0 hs hm] at hI
    have hfs : 0 < fs.length := by
     unfold U.more at hm
     simp only [Bool.and_eq_true, decide_eq_true_eq] at hm
     exact List.length_pos_iff.2 hm.2
    have hK : (IntKind.i64.wrap ((fs.length : Int).sub 1)).toNat = fs.length - 1 := by rw [jf (by omega) (by omega)]; omega
    have hK2 : IntKind.i64.wrap ((fs.length : Int).sub 1) = (fs.length : Int) - 1 := jf (by omega) (by omega)
    show (v.length.add (U.says l).length).mul 1 <= _ /\ _
    rw [Qa, set2 hK hfs, hK, hK2]
    refine ⟨by simp only [dV, nU]; omega, by simp only [dV, maxLen_eq]; omega, by omega, by omega, rfl, by omega, by rw [List.length_set]; omega, ?_⟩
    exact ⟨(U.setLast fs (U.trimB (v ++ U.says l)) (en + l.length), v ++ U.says l, en + l.length, k + 1), rfl, ⟨hI, by show en + (l.length : Int) = (((U.ah 10 b).take (k + 1)).flatten.length : Int); omega, by show ((U.setLast _ _ _).length : Int) <= en + l.length; rw [qW]; omega, by show ((v ++ U.says l).length : Int) <= en + l.length; rw [List.length_append]; push_cast; omega⟩, rfl⟩
  | false =>
    cases hbg : U.begins (U.says l) with
    | true =>
      rw [Bh fs v en _ h0 hs hm hbg] at hI
      have hcz := Qd (U.says l) 58
      have hlp := List.length_pos_iff.2 h0
      have hF : (fs.append ([(([], [], 0, 0) : Field)].set 0 (U.aC (U.says l) 58, [], en, 0))) = fs ++ [(U.aC (U.says l) 58, [], en, 0)] := rfl
      have hF1 : (fs ++ [((U.aC (U.says l) 58, [], en, 0) : Field)]).length = fs.length + 1 := by rw [List.length_append]; rfl
      show (fs.length.add 1).mul 48 <= _ /\ _
      refine ⟨by simp only [dV, nU]; omega, by simp only [dV, maxLen_eq]; omega, ?_⟩
      rw [hF]
      have hK : (IntKind.i64.wrap (((fs ++ [((U.aC (U.says l) 58, [], en, 0) : Field)]).length : Int).sub 1)).toNat = (fs ++ [((U.aC (U.says l) 58, [], en, 0) : Field)]).length - 1 := by rw [jf (by omega) (by omega)]; omega
      have hK2 : IntKind.i64.wrap (((fs ++ [((U.aC (U.says l) 58, [], en, 0) : Field)]).length : Int).sub 1) = (fs.length : Int) := by rw [jf (by omega) (by omega)]; omega
      intro nb hn1 _
      have fin : ∃ y : List Field × List Int × Int × Nat, U.dA b (U.setLast (fs ++ [(U.aC (U.says l) 58, [], en, 0)]) (U.trimB (U.bK (U.says l) 58)) (en + l.length)) (U.bK (U.says l) 58) (en + l.length) y.2.2.2 = U.dA b y.1 y.2.1 y.2.2.1 y.2.2.2 /\ U.fV b y.1 y.2.1 y.2.2.1 y.2.2.2 /\ y.2.2.2 = k.add 1 :=
       ⟨(_, _, en + l.length, k + 1), rfl, ⟨hI, by show en + (l.length : Int) = (((U.ah 10 b).take (k + 1)).flatten.length : Int); omega, by show ((U.setLast _ _ _).length : Int) <= en + l.length; rw [qW, hF1]; push_cast; omega, by show ((U.bK _ _).length : Int) <= en + l.length; omega⟩, rfl⟩
      cases nb with
      | true =>
        have hz : U.bK (U.says l) 58 = [] := List.length_eq_zero_iff.1 (hn1 rfl)
        rw [hz, VP] at fin
        show (0 : Int) <= _ /\ _
        rw [set2 hK (by omega), hK, hK2, List.length_set]
        exact ⟨by omega, by omega, by omega, by omega, fin⟩
      | false =>
        show (Nat.add 0 _).mul 1 <= _ /\ _
        rw [Qa, set2 hK (by omega), hK, hK2, List.length_set]
        exact ⟨by simp only [dV, nU]; omega, by simp only [dV, maxLen_eq]; omega, by omega, by omega, rfl, by omega, by omega, fin⟩
    | false =>
      rw [Fh fs v en _ h0 hs hm hbg] at hI
      rw [hI]; exact ⟨rfl, rfl, rfl, rfl, trivial⟩
 ·rintro ⟨fs, v, en, k⟩ ⟨hI, hen, hf, hv⟩ hk
  dsimp only at hI hk ⊢
  rw [hk, List.drop_length, VO] at hI
  rw [hI]; exact ⟨rfl, rfl, rfl, rfl, trivial⟩
theorem yC {b : List Int} {p : Int} (p0 : 0 <= p) (hp : p < b.length) : p < U.endOf b p /\ U.endOf b p <= b.length /\ ∃ r, U.ah 10 (b.drop p.toNat) = List.take ((U.endOf b p).toNat.sub p.toNat) (List.drop p.toNat b) :: r /\ ∀ s, U.dw s r = U.dw s (U.ah 10 (b.drop (U.endOf b p).toNat)) := by
 have hb := bG (b.drop p.toNat) 10
 rw [List.length_drop] at hb
 unfold U.endOf
 by_cases hi : aH (b.drop p.toNat) 10 >= 0
 ·rw [decide_eq_true hi]
  show p < p + _ + 1 /\ p + _ + 1 <= _ /\ ∃ r, _ = List.take ((p + aH (b.drop p.toNat) 10 + 1).toNat.sub p.toNat) _ :: r /\ ∀ s, _ = U.dw s (U.ah 10 (b.drop (p + aH (b.drop p.toNat) 10 + 1).toNat))
  refine ⟨by omega, by omega, _, ?_, fun s => rfl⟩
  rw [Ba 10 _ hi, List.drop_drop]
  congr 2
  ·rw [bW]; omega
  ·congr 1; omega
 ·rw [decide_eq_false hi]
  show p < _ /\ (b.length : Int) <= _ /\ ∃ r, _ = List.take (((b.length : Int)).toNat.sub p.toNat) _ :: r /\ ∀ s, _ = U.dw s (U.ah 10 (b.drop ((b.length : Int)).toNat))
  refine ⟨hp, by omega, [], ?_, fun s => ?_⟩
  ·rw [DW 10 _ (by omega), kP]
  ·rw [List.drop_eq_nil_of_le (by omega), VO]
   show _ = U.dw s [[]]
   rw [Il]
theorem zN (s : U.HS) {b : List Int} {p : Int} (hp : (b.length : Int) <= p) : U.dw s (U.ah 10 (b.drop p.toNat)) = (s, 0) := by
 rw [List.drop_eq_nil_of_le (by omega)]
 show U.dw s [[]] = _
 rw [Il]
theorem Mc {S : List Int} (h : U.begins S = true) : U.ay S = aH S 58 /\ 1 <= aH S 58 /\ aH S 58 < S.length /\ U.aC S 58 = S.take (aH S 58).toNat /\ U.bK S 58 = S.drop (aH S 58 + 1).toNat := by
 have hb := bG S 58
 have h' := h
 unfold U.begins at h'
 simp only [Bool.and_eq_true, decide_eq_true_eq] at h'
 obtain ⟨h1, h2, _⟩ := h'
 have hcA : U.aC S 58 = S.take (aH S 58).toNat := by unfold U.aC; rw [decide_eq_true h1]; rfl
 have hl : (U.aC S 58).length = (aH S 58).toNat := by rw [hcA, List.length_take]; omega
 refine ⟨?_, by omega, hb.2, hcA, by unfold U.bK; rw [decide_eq_true h1]; rfl⟩
 unfold U.ay; rw [h, hl]; show (((aH S 58).toNat : Nat) : Int) = _; omega
theorem Qe (b : List Int) (hb : ∀ x ∈ b, Valid (.int .u8) x) (hl : b.length <= 1000000000) : xH b := by
 unfold xH
 refine ⟨([], [], 0), ⟨rfl, Int.le_refl 0, by show (0 : Int) <= _; omega, rfl, Int.le_refl 0, Int.le_refl 0⟩, ?_⟩
 rintro ⟨fs, v, en⟩ ⟨e0, e1, hI, hf, hv⟩
 dsimp only at e0 e1 hI hf hv ⊢
 rw [cond_prop]
 refine ⟨fun hi => ?_, fun hi => ?_⟩
 ·have hi : en < b.length := of_decide_eq_true hi
  obtain ⟨q1, q2, r, hr, hrr⟩ := yC e0 hi
  have hll : (List.take ((U.endOf b en).toNat.sub en.toNat) (List.drop en.toNat b)).length = (U.endOf b en).toNat - en.toNat := by rw [List.length_take, List.length_drop, bW]; omega
  refine ⟨⟨e0, e1⟩, e0, by omega, q2, ?_⟩
  rw [hr] at hI
  revert hI hll
  generalize List.take ((U.endOf b en).toNat.sub en.toNat) (List.drop en.toNat b) = l
  intro hI hll
  have hq : U.endOf b en = en + l.length := by omega
  rw [hq] at hrr q2 ⊢
  have hsl := Ik l
  have h0 : ¬ l = [] := by rintro rfl; simp at hll; omega
  rw [cond_prop]
  refine ⟨fun hs => ?_, fun hs => ?_⟩
  ·have hs : U.says l = [] := len0.1 (of_decide_eq_true hs)
   rw [Fe _ _ h0 hs] at hI
   rw [hI]; exact ⟨rfl, rfl, trivial⟩
  have hs : ¬ U.says l = [] := fun h => of_decide_eq_false hs (len0.2 h)
  have hsp := List.length_pos_iff.2 hs
  refine ⟨by omega, by omega, ?_⟩
  rw [iC, Tf fs v en l]
  cases hm : U.more (fs, v, en) l with
  | true =>
    rw [Fg fs v en _ h0 hs hm, hrr] at hI
    have hfs : 0 < fs.length := by
     unfold U.more at hm
     simp only [Bool.and_eq_true, decide_eq_true_eq] at hm
     exact List.length_pos_iff.2 hm.2
    have hK : (IntKind.i64.wrap ((fs.length : Int).sub 1)).toNat = fs.length - 1 := by rw [jf (by omega) (by omega)]; omega
    have hK2 : IntKind.i64.wrap ((fs.length : Int).sub 1) = (fs.length : Int) - 1 := jf (by omega) (by omega)
    show (v.length.add (U.says l).length).mul 1 <= _ /\ _
    rw [List.length_set, set2 hK hfs, hK, hK2, P9]
    refine ⟨by simp only [dV, nU]; omega, by simp only [dV, maxLen_eq]; omega, by omega, by omega, by omega, by omega, by omega, by omega, ?_⟩
    exact ⟨(U.setLast fs (U.trimB (v ++ U.says l)) (en + l.length), v ++ U.says l, en + l.length), rfl, ⟨by show 0 <= en + (l.length : Int); omega, q2, hI, by show ((U.setLast _ _ _).length : Int) <= en + l.length; rw [qW]; omega, by show ((v ++ U.says l).length : Int) <= en + l.length; rw [List.length_append]; push_cast; omega⟩, by simp only [bW]; omega⟩
  | false =>
    cases hbg : U.begins (U.says l) with
    | true =>
      rw [Bh fs v en _ h0 hs hm hbg, hrr] at hI
      obtain ⟨c1, c2, c3, c4, c5⟩ := Mc hbg
      rw [c1, decide_eq_true (by omega : aH (U.says l) 58 > 0), dW (by omega) (by omega), kP, jy, <- c4, <- c5, P9 (U.bK (U.says l) 58)]
      have hcz := Qd (U.says l) 58
      have hlp := List.length_pos_iff.2 h0
      have hF : (fs.append ([(([], [], 0, 0) : Field)].set 0 (U.aC (U.says l) 58, [], en, 0))) = fs ++ [(U.aC (U.says l) 58, [], en, 0)] := rfl
      have hF1 : (fs ++ [((U.aC (U.says l) 58, [], en, 0) : Field)]).length = fs.length + 1 := by rw [List.length_append]; rfl
      show (0 : Int) <= 0 /\ _
      rw [hF]
      have hK : (IntKind.i64.wrap (((fs ++ [((U.aC (U.says l) 58, [], en, 0) : Field)]).length : Int).sub 1)).toNat = (fs ++ [((U.aC (U.says l) 58, [], en, 0) : Field)]).length - 1 := by rw [jf (by omega) (by omega)]; omega
      have hK2 : IntKind.i64.wrap (((fs ++ [((U.aC (U.says l) 58, [], en, 0) : Field)]).length : Int).sub 1) = (fs.length : Int) := by rw [jf (by omega) (by omega)]; omega
      rw [List.length_set, set2 hK (by omega), hK, hK2, hF1]
      refine ⟨by omega, by omega, by omega, by simp only [dV, nU]; omega, by simp only [dV, maxLen_eq]; omega, by omega, by omega, by omega, by simp only [dV, nU]; omega, by simp only [dV, maxLen_eq]; omega, by omega, by omega, by omega, by omega, by omega, by omega, ?_⟩
      exact ⟨(_, _, en + l.length), rfl, ⟨by show 0 <= en + (l.length : Int); omega, q2, hI, by show ((U.setLast _ _ _).length : Int) <= en + l.length; rw [qW, hF1]; push_cast; omega, by show ((U.bK _ _).length : Int) <= en + l.length; omega⟩, by simp only [bW]; omega⟩
    | false =>
      rw [Fh fs v en _ h0 hs hm hbg] at hI
      have hc0 : U.ay (U.says l) = 0 := by unfold U.ay; rw [hbg]; rfl
      rw [hc0, hI]; exact ⟨rfl, rfl, trivial⟩
 ·have hi : ¬ en < b.length := of_decide_eq_false hi
  rw [zN _ (by omega)] at hI
  rw [hI]; exact ⟨rfl, rfl, trivial⟩
theorem Qg (b : List Int) : ∀ (n : Nat) (s : U.HS), 0 <= s.2.2 -> s.2.2 <= b.length -> b.length - s.2.2.toNat <= n -> ∀ R, R = U.dw s (U.ah 10 (b.drop s.2.2.toNat)) ->
 0 <= R.1.2.2 /\ R.1.2.2 <= b.length /\ ((R.1.2.2 < b.length /\ U.says (List.take ((U.endOf b R.1.2.2).toNat.sub R.1.2.2.toNat) (List.drop R.1.2.2.toNat b)) = [] /\ R.1.2.2 + R.2 = U.endOf b R.1.2.2) ∨
  (R.2 = 0 /\ (R.1.2.2 < b.length -> ¬ U.says (List.take ((U.endOf b R.1.2.2).toNat.sub R.1.2.2.toNat) (List.drop R.1.2.2.toNat b)) = [])))
 | 0, s, h0, h1, hn, R, hR => by
   rw [zN s (by omega)] at hR
   subst hR
   exact ⟨h0, h1, .inr ⟨rfl, fun h => by dsimp only at h; omega⟩⟩
 | n + 1, (fs, v, en), h0, h1, hn, R, hR => by
   dsimp only at h0 h1 hn hR
   by_cases hi : en < b.length
   ·obtain ⟨q1, q2, r, hr, hrr⟩ := yC h0 hi
    have hll : (List.take ((U.endOf b en).toNat.sub en.toNat) (List.drop en.toNat b)).length = (U.endOf b en).toNat - en.toNat := by rw [List.length_take, List.length_drop, bW]; omega
    rw [hr] at hR
    obtain ⟨l, hl⟩ : ∃ l, l = List.take ((U.endOf b en).toNat.sub en.toNat) (List.drop en.toNat b) := ⟨_, rfl⟩
    rw [<- hl] at hR hll
    have hq : U.endOf b en = en + l.length := by omega
    have hne : ¬ l = [] := by intro h; rw [h] at hll; simp at hll; omega
    by_cases hs : U.says l = []
    ·rw [Fe _ _ hne hs] at hR
     subst hR
     exact ⟨h0, h1, .inl ⟨hi, by show U.says (List.take ((U.endOf b en).toNat.sub en.toNat) (List.drop en.toNat b)) = []; rw [<- hl]; exact hs, hq.symm⟩⟩
    ·cases hm : U.more (fs, v, en) l with
     | true =>
       rw [Fg fs v en _ hne hs hm, hrr, hq] at hR
       exact Qg b n (_, _, en + l.length) (by show 0 <= en + (l.length : Int); omega) (by show en + (l.length : Int) <= _; omega) (by show b.length - (en + (l.length : Int)).toNat <= n; omega) R hR
     | false =>
       cases hbg : U.begins (U.says l) with
       | true =>
         rw [Bh fs v en _ hne hs hm hbg, hrr, hq] at hR
         exact Qg b n (_, _, en + l.length) (by show 0 <= en + (l.length : Int); omega) (by show en + (l.length : Int) <= _; omega) (by show b.length - (en + (l.length : Int)).toNat <= n; omega) R hR
       | false =>
         rw [Fh fs v en _ hne hs hm hbg] at hR
         subst hR
         exact ⟨h0, h1, .inr ⟨rfl, fun _ => by show ¬ U.says (List.take ((U.endOf b en).toNat.sub en.toNat) (List.drop en.toNat b)) = []; rw [<- hl]; exact hs⟩⟩
   ·rw [zN _ (by omega)] at hR
    subst hR
    exact ⟨h0, h1, .inr ⟨rfl, fun h => absurd h hi⟩⟩
theorem Ep (b : List Int) : 0 <= (U.hread b).1.2.2 /\ (U.hread b).1.2.2 <= b.length /\ (((U.hread b).1.2.2 < b.length /\ U.says (List.take ((U.endOf b (U.hread b).1.2.2).toNat.sub (U.hread b).1.2.2.toNat) (List.drop (U.hread b).1.2.2.toNat b)) = [] /\ (U.hread b).1.2.2 + (U.hread b).2 = U.endOf b (U.hread b).1.2.2) ∨
 ((U.hread b).2 = 0 /\ ((U.hread b).1.2.2 < b.length -> ¬ U.says (List.take ((U.endOf b (U.hread b).1.2.2).toNat.sub (U.hread b).1.2.2.toNat) (List.drop (U.hread b).1.2.2.toNat b)) = []))) :=
 Qg b b.length ([], [], 0) (Int.le_refl 0) (by show (0 : Int) <= _; omega) (Nat.sub_le _ _) _ rfl
theorem Qh {b : List Int} {p : Int} (h0 : 0 <= p) (h1 : p <= b.length) : p <= U.endOf b p /\ U.endOf b p <= b.length := by
 by_cases h : p < b.length
 ·have := yC h0 h; omega
 ·rw [L9 (by omega)]; omega
theorem Ti (b : List Int) : (U.hread b).1.2.2 <= U.textOf b /\ U.textOf b <= b.length := by
 obtain ⟨h0, h1, h2⟩ := Ep b
 have := Qh h0 h1
 unfold U.textOf
 rcases h2 with ⟨_, _, h⟩ | ⟨h, _⟩ <;> omega
theorem Rx (b : List Int) (hb : ∀ x ∈ b, Valid (.int .u8) x) (h : b.length <= 1000000000) : y9 b := by
 unfold y9
 have h1 := Ep b
 have h2 := Ti b
 unfold U.textOf at *
 refine ⟨h, ?_, trivial⟩
 rw [dW (by omega) (by omega)]
theorem Qi (b : List Int) (hb : ∀ x ∈ b, Valid (.int .u8) x) (h : b.length <= 1000000000) : xI b := by
 unfold xI
 obtain ⟨h0, h1, h2⟩ := Ep b
 have he := Qh h0 h1
 unfold U.textOf
 refine ⟨h, fun _ => ⟨h0, h1⟩, fun _ => h0, fun _ => he.1, fun _ => he.2, ?_⟩
 rw [iC, cond_prop]
 refine ⟨fun hc => ?_, fun hc => ?_⟩
 ·simp only [Bool.and_eq_true, decide_eq_true_eq] at hc
  refine ⟨⟨h0, h1⟩, ?_, trivial⟩
  rcases h2 with ⟨_, _, h⟩ | ⟨_, h⟩
  ·exact h.symm
  ·exact absurd (len0.1 hc.2) (h hc.1)
 ·refine ⟨?_, trivial⟩
  rcases h2 with ⟨h3, h4, h⟩ | ⟨h, _⟩
  ·rw [decide_eq_true h3, h4] at hc; cases hc
  ·rw [h]; omega
end Go.Proofs.YtggccomebfpfpaaDoor
set_option linter.unusedSimpArgs false
set_option maxRecDepth 100000
set_option linter.unusedVariables false
namespace Go.Proofs.YtggccomebfpfpaaDoor
open Go.Vc
theorem UM (x : aJ [au]) : bY Tryd.prog (aZ je) (JK x) 43 (bQ [au] x) [] (Bd x) = y7 x := by kernel_rfl
theorem UN : Pok 43 [au] (fun x => Bd x) := by
 refine pk (L := fun x => JK x) (l := je) rP (fun _ => rfl) ?_
 intro x hv hp
 rw [UM]
 exact Ro x
theorem UO : bI Tryd.prog gl 43 JJ := UN
theorem GY : bf uJ := .cons UO rP
theorem Nk (x : aJ [.int .u8]) : bY Tryd.prog (aZ uJ) (BK x) 59 (bQ [.int .u8] x) [] (sQ x) = qw x := by kernel_rfl
theorem Nl : Pok 59 [.int .u8] (fun x => sQ x) := by
 refine pk (L := fun x => BK x) (l := uJ) GY (fun _ => rfl) ?_
 intro x hv hp
 rw [Nk]
 exact La x
theorem Np : bI Tryd.prog gl 59 BJ := Nl
theorem zO : bf mF := .cons Np GY
theorem Ry (x : aJ [au]) : bY Tryd.prog (aZ mF) (Gt x) 44 (bQ [au] x) [] (yT x) = xB x := by kernel_rfl
theorem Rz : Pok 44 [au] (fun x => yT x) := by
 refine pk (L := fun x => Gt x) (l := mF) zO (fun _ => rfl) ?_
 intro x hv hp
 rw [Ry]
 exact PW x hv.2
theorem RD : bI Tryd.prog gl 44 Gs := Rz
theorem Es : bf qK := .cons RD zO
theorem UQ (x : aJ [au]) : bY Tryd.prog (aZ qK) (JM x) 22 (bQ [au] x) [] (uK x) = y8 x := by kernel_rfl
theorem UR : Pok 22 [au] (fun x => uK x) := by
 refine pk (L := fun x => JM x) (l := qK) Es (fun _ => rfl) ?_
 intro x hv hp
 rw [UQ]
 exact Rw x hv.1 (hp (List.length x <= 1000000000) (by simp [uK]))
theorem UU : bI Tryd.prog gl 22 JL := UR
theorem GZ : bf uM := .cons UU Es
theorem Qj (x : aJ [au]) : bY Tryd.prog (aZ uM) (D6 x) 11 (bQ [au] x) [] (o7 x) = sU x := by kernel_rfl
theorem Qk : Pok 11 [au] (fun x => o7 x) := by
 refine pk (L := fun x => D6 x) (l := uM) GZ (fun _ => rfl) ?_
 intro x hv hp
 rw [Qj]
 exact MX x (hp (List.length x <= 1000000000) (by simp [o7]))
theorem Ql : bI Tryd.prog gl 11 D5 := Qk
theorem BO : bf o8 := .cons Ql GZ
theorem UW (x : aJ [au]) : bY Tryd.prog (aZ o8) (JQ x) 13 (bQ [au] x) [] (uN x) = y9 x := by kernel_rfl
theorem UY : Pok 13 [au] (fun x => uN x) := by
 refine pk (L := fun x => JQ x) (l := o8) BO (fun _ => rfl) ?_
 intro x hv hp
 rw [UW]
 exact Rx x hv.1 (hp (List.length x <= 1000000000) (by simp [uN]))
theorem UZ : bI Tryd.prog gl 13 JO := UY
theorem G5 : bf uO := .cons UZ BO
theorem RF (x : aJ [.int .u8]) : bY Tryd.prog (aZ uO) (Gv x) 29 (bQ [.int .u8] x) [] (yU x) = xC x := by kernel_rfl
theorem RG : Pok 29 [.int .u8] (fun x => yU x) := by
 refine pk (L := fun x => Gv x) (l := uO) G5 (fun _ => rfl) ?_
 intro x hv hp
 rw [RF]
 exact PX x (T.vU8 hv)
theorem RH : bI Tryd.prog gl 29 Gu := RG
theorem Et : bf qL := .cons RH G5
theorem Qm (x : aJ [.int .u8, .int .u8]) : bY Tryd.prog (aZ qL) (D8 x.1 x.2) 28 (bQ [.int .u8, .int .u8] x) [] (xk x.1 x.2) = BN x.1 x.2 := by kernel_rfl
theorem Qn : Pok 28 [.int .u8, .int .u8] (fun x => xk x.1 x.2) := by
 refine pk (L := fun x => D8 x.1 x.2) (l := qL) Et (fun _ => rfl) ?_
 intro x hv hp
 rw [Qm]
 exact Na x.1 x.2
theorem Qo : bI Tryd.prog gl 28 D7 := Qn
theorem BP : bf o9 := .cons Qo Et
theorem U0 (x : aJ [.str, .str]) : bY Tryd.prog (aZ o9) (JU x.1 x.2) 17 (bQ [.str, .str] x) [] (Bf x.1 x.2) = zf x.1 x.2 := by kernel_rfl
theorem U1 : Pok 17 [.str, .str] (fun x => Bf x.1 x.2) := by
 refine pk (L := fun x => JU x.1 x.2) (l := o9) BP (fun _ => rfl) ?_
 intro x hv hp
 rw [U0]
 exact Rq x.1 x.2 hv.1.2
theorem U2 : bI Tryd.prog gl 17 JR := U1
theorem G6 : bf uP := .cons U2 BP
theorem VQ (x : aJ [au, .str]) : bY Tryd.prog (aZ uP) (L6 x.1 x.2) 8 (bQ [au, .str] x) [] (yA x.1 x.2) = Bg x.1 x.2 := by kernel_rfl
theorem VR : Pok 8 [au, .str] (fun x => yA x.1 x.2) := by
 refine pk (L := fun x => L6 x.1 x.2) (l := uP) G6 (fun _ => rfl) ?_
 intro x hv hp
 rw [VQ]
 exact UJ x.1 x.2 (hp (List.length x.1 <= 1000000000) (by simp [yA]))
theorem VT : bI Tryd.prog gl 8 LZ := VR
theorem JZ : bf yB := .cons VT G6
theorem RI (x : aJ [au]) : bY Tryd.prog (aZ yB) (Gx x) 15 (bQ [au] x) [] (yV x) = Ei x := by kernel_rfl
theorem RN : Pok 15 [au] (fun x => yV x) := by
 refine pk (L := fun x => Gx x) (l := yB) JZ (fun _ => rfl) ?_
 intro x hv hp
 rw [RI]
 exact P6 x
theorem RP : bI Tryd.prog gl 15 Gw := RN
theorem Eu : bf qM := .cons RP JZ
theorem Qp (x : aJ [.int .u8]) : bY Tryd.prog (aZ qM) (Ea x) 36 (bQ [.int .u8] x) [] (xq x) = sV x := by kernel_rfl
theorem Qq : Pok 36 [.int .u8] (fun x => xq x) := by
 refine pk (L := fun x => Ea x) (l := qM) Eu (fun _ => rfl) ?_
 intro x hv hp
 rw [Qp]
 exact Nb x
theorem Qr : bI Tryd.prog gl 36 D9 := Qq
theorem BQ : bf pq := .cons Qr Eu
theorem U3 (x : aJ [au, .int .i64]) : bY Tryd.prog (aZ pq) (JW x.1 x.2) 25 (bQ [au, .int .i64] x) [] (uQ x.1 x.2) = zh x.1 x.2 := by kernel_rfl
theorem U4 : Pok 25 [au, .int .i64] (fun x => uQ x.1 x.2) := by
 refine pk (L := fun x => JW x.1 x.2) (l := pq) BQ (fun _ => rfl) ?_
 intro x hv hp
 rw [U3]
 exact Rt x.1 x.2 hv.1.2 (hp (0 <= x.2 /\ x.2 <= (List.length x.1 : Int)) (by simp [uQ]))
theorem U5 : bI Tryd.prog gl 25 JV := U4
theorem G7 : bf uS := .cons U5 BQ
theorem RQ (x : aJ [au]) : bY Tryd.prog (aZ uS) (Gz x) 24 (bQ [au] x) [] (yX x) = xE x := by kernel_rfl
theorem RS : Pok 24 [au] (fun x => yX x) := by
 refine pk (L := fun x => Gz x) (l := uS) G7 (fun _ => rfl) ?_
 intro x hv hp
 rw [RQ]
 exact P7 x hv.2
theorem RU : bI Tryd.prog gl 24 Gy := RS
theorem Ew : bf qN := .cons RU G7
theorem Qs (x : aJ [au]) : bY Tryd.prog (aZ qN) (Ec x) 35 (bQ [au] x) [] (xu x) = sW x := by kernel_rfl
theorem Qu : Pok 35 [au] (fun x => xu x) := by
 refine pk (L := fun x => Ec x) (l := qN) Ew (fun _ => rfl) ?_
 intro x hv hp
 rw [Qs]
 exact Nc x hv.2
theorem Qv : bI Tryd.prog gl 35 Eb := Qu
theorem BR : bf pz := .cons Qv Ew
theorem RV (x : aJ [au]) : bY Tryd.prog (aZ pz) (GI x) 37 (bQ [au] x) [] (yY x) = xG x := by kernel_rfl
theorem RX : Pok 37 [au] (fun x => yY x) := by
 refine pk (L := fun x => GI x) (l := pz) BR (fun _ => rfl) ?_
 intro x hv hp
 rw [RV]
 exact Qb x hv.2
theorem RY : bI Tryd.prog gl 37 GH := RX
theorem Ey : bf qO := .cons RY BR
theorem RZ (x : aJ [au]) : bY Tryd.prog (aZ qO) (GL x) 23 (bQ [au] x) [] (qP x) = xH x := by kernel_rfl
theorem Si : Pok 23 [au] (fun x => qP x) := by
 refine pk (L := fun x => GL x) (l := qO) Ey (fun _ => rfl) ?_
 intro x hv hp
 rw [RZ]
 exact Qe x hv.1 (hp (List.length x <= 1000000000) (by simp [qP]))
theorem Sj : bI Tryd.prog gl 23 GK := Si
theorem Ez : bf qQ := .cons Sj Ey
theorem Nq (x : aJ [au]) : bY Tryd.prog (aZ qQ) (BM x) 12 (bQ [au] x) [] (mG x) = qx x := by kernel_rfl
theorem Nr : Pok 12 [au] (fun x => mG x) := by
 refine pk (L := fun x => BM x) (l := qQ) Ez (fun _ => rfl) ?_
 intro x hv hp
 rw [Nq]
 exact Lc x (hp (List.length x <= 1000000000) (by simp [mG]))
theorem Ns : bI Tryd.prog gl 12 BL := Nr
theorem zQ : bf mJ := .cons Ns Ez
theorem Sl (x : aJ [au]) : bY Tryd.prog (aZ mJ) (GR x) 14 (bQ [au] x) [] (qR x) = xI x := by kernel_rfl
theorem Sm : Pok 14 [au] (fun x => qR x) := by
 refine pk (L := fun x => GR x) (l := mJ) zQ (fun _ => rfl) ?_
 intro x hv hp
 rw [Sl]
 exact Qi x hv.1 (hp (List.length x <= 1000000000) (by simp [qR]))
theorem Sr : bI Tryd.prog gl 14 GN := Sm
theorem EC : bf qU := .cons Sr zQ
theorem Qw (x : aJ [.int .u8]) : bY Tryd.prog (aZ qU) (Ee x) 30 (bQ [.int .u8] x) [] (xw x) = sZ x := by kernel_rfl
theorem Qx : Pok 30 [.int .u8] (fun x => xw x) := by
 refine pk (L := fun x => Ee x) (l := qU) EC (fun _ => rfl) ?_
 intro x hv hp
 rw [Qw]
 exact MZ x (T.vU8 hv)
theorem Qy : bI Tryd.prog gl 30 Ed := Qx
theorem BU : bf pF := .cons Qy EC
theorem Sv (x : aJ [.str, .str]) : bY Tryd.prog (aZ pF) (GV x.1 x.2) 18 (bQ [.str, .str] x) [] (yZ x.1 x.2) = xJ x.1 x.2 := by kernel_rfl
theorem Sz : Pok 18 [.str, .str] (fun x => yZ x.1 x.2) := by
 refine pk (L := fun x => GV x.1 x.2) (l := pF) BU (fun _ => rfl) ?_
 intro x hv hp
 rw [Sv]
 exact Qc x.1 x.2 hv.1.2
theorem SA : bI Tryd.prog gl 18 GU := Sz
theorem ED : bf qV := .cons SA BU
theorem U6 (x : aJ [au, .str]) : bY Tryd.prog (aZ qV) (JY x.1 x.2) 9 (bQ [au, .str] x) [] (uT x.1 x.2) = zi x.1 x.2 := by kernel_rfl
theorem U7 : Pok 9 [au, .str] (fun x => uT x.1 x.2) := by
 refine pk (L := fun x => JY x.1 x.2) (l := qV) ED (fun _ => rfl) ?_
 intro x hv hp
 rw [U6]
 exact Ru x.1 x.2 (hp (List.length x.1 <= 1000000000) (by simp [uT]))
theorem U8 : bI Tryd.prog gl 9 JX := U7
theorem G8 : bf uU := .cons U8 ED
theorem Qz (x : aJ [au]) : bY Tryd.prog (aZ uU) (Eh x) 16 (bQ [au] x) [] (xA x) = tq x := by kernel_rfl
theorem QA : Pok 16 [au] (fun x => xA x) := by
 refine pk (L := fun x => Eh x) (l := uU) G8 (fun _ => rfl) ?_
 intro x hv hp
 rw [Qz]
 exact Nh x hv.2
theorem QB : bI Tryd.prog gl 16 Ef := QA
theorem BX : bf pG := .cons QB G8
theorem FK (x : aJ [nV, nV]) : bY Tryd.prog (aZ pG) (tZ x.1 x.2) 10 (bQ [nV, nV] x) [] (lQ x.1 x.2) = kS x.1 x.2 := by kernel_rfl
theorem FM : Pok 10 [nV, nV] (fun x => lQ x.1 x.2) := by
 refine pk (L := fun x => tZ x.1 x.2) (l := pG) BX (fun _ => rfl) ?_
 intro x hv hp
 rw [FK]
 exact Eo x.1 x.2 hv.1.2
theorem FN : bI Tryd.prog gl 10 tY := FM
theorem rQ : bf jg := .cons FN BX
end Go.Proofs.YtggccomebfpfpaaDoor
