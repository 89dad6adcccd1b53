/- What is owed of the functions, proved in plain Lean. -/
import Derived.Test.YtkhdeldobekciaaGreatDoorRK
import Derived.Test.YtkhdeldobekciaaGreatDoorRI
set_option linter.unusedSimpArgs false
set_option linter.unusedVariables false
set_option maxRecDepth 100000
namespace Go.Proofs.YtkhdeldobekciaaGreatDoor
open Go.Vc
open Go.Vc.T
theorem U7 (x y : Int) (hx : Valid (.int .u64) x) (hy : Valid (.int .u64) y) : Gm x y :=
 ⟨by omega, by omega, by omega, by omega, by omega, rfl, rfl, trivial⟩
theorem akD {n d : Int} (h2 : 2 <= d) (h20 : d <= 20) (hd : d * d <= n) (hm : n % d = 0) : U.prime n = false := by
 unfold U.prime
 rw [Bool.and_eq_false_iff]; left
 rw [List.all_eq_false]
 refine ⟨d.toNat, List.mem_range.2 (by omega), ?_⟩
 have e : ((d.toNat : Nat) : Int) = d := by omega
 rw [decide_eq_true_eq, e]
 omega
theorem ajL {n d : Int} (h2 : 2 <= d) (hd : n < d * d) (h : ∀ e : Int, 2 <= e -> e < d -> n % e ≠ 0) : U.prime n = decide (n >= 2) := by
 unfold U.prime
 have : ((List.range 21).all fun d : Nat => decide (d < 2 ∨ n < (d : Int) * d ∨ n % d ≠ 0)) = true := by
  rw [List.all_eq_true]
  intro e _
  rw [decide_eq_true_eq]
  rcases Int.lt_or_le (e : Int) 2 with h3 | h3
  ·left; omega
  ·rcases Int.lt_or_le (e : Int) d with h4 | h4
   ·right; right; exact h e h3 h4
   ·right; left
    have : d * d <= (e : Int) * e := Int.mul_le_mul h4 h4 (by omega) (by omega)
    omega
 rw [this]; rfl
theorem ab4 (n : Int) (hn : 0 <= n /\ n <= 400) : FQ n := by
 unfold FQ
 simp only [cond_prop, eX, bf, dF, U.pz, decide_eq_true_eq, decide_eq_false_iff_not, wrap_u64]
 refine ⟨2, ⟨rfl, by omega, by omega, fun e h1 h2 => by omega⟩, ?_⟩
 rintro d ⟨h2, h21, hd⟩
 have hsq : d * d <= 21 * 21 := Int.mul_le_mul h21 h21 (by omega) (by omega)
 have amG : 0 <= d * d := Int.mul_nonneg (by omega) (by omega)
 rw [Int.emod_eq_of_lt amG (by omega), Int.tmod_eq_emod_of_nonneg hn.1]
 have hdd : (d + 1) % 18446744073709551616 = d + 1 := by omega
 rw [hdd]
 refine ⟨fun hle => ?_, fun hle => ⟨(ajL h2 (by omega) hd).symm, trivial⟩⟩
 have h20 : d <= 20 := by
  rcases Int.lt_or_le d 21 with h | h
  ·omega
  ·have : d = 21 := by omega
   subst this; omega
 refine ⟨by omega, fun hm => ⟨(akD h2 h20 hle hm).symm, trivial⟩, fun hm => ⟨d + 1, rfl, ⟨by omega, by omega, fun e h3 h4 => ?_⟩, by omega⟩⟩
 rcases Int.lt_or_le e d with h | h
 ·exact hd e h3 h
 ·have : e = d := by omega
  subst this; exact hm
theorem aiE : ∀ p : Fin 312, U.gu.filter (fun q => decide (q < ((p.val : Nat) : Int) + 1)) = U.gu.filter (fun q => decide (q < ((p.val : Nat) : Int))) ++ (bif U.prime ((p.val : Nat) : Int) then [((p.val : Nat) : Int)] else []) := by decide +kernel
theorem aiF : ∀ p : Fin 313, U.gu.filter (fun q => decide (q < ((p.val : Nat) : Int))) = U.gu.take (U.gu.filter (fun q => decide (q < ((p.val : Nat) : Int)))).length := by decide +kernel
theorem ajM : (U.gu.filter (fun q => decide (q < (312 : Int)))).length = 64 := by decide +kernel
theorem aai (n : Int) (hn : 0 <= n /\ n <= 64) : CX n := by
 unfold CX
 simp only [cond_prop, bf, dF, dX, gq, dJ, U.jS, decide_eq_true_eq, decide_eq_false_iff_not, wrap_u64, maxLen_eq]
 refine ⟨([], 2), ⟨rfl, by simp, by simp, by decide +kernel, by simp; omega⟩, ?_⟩
 rintro ⟨o, p⟩ ⟨h2, amM, ho, hlen⟩
 simp only [] at *
 refine ⟨fun hlt => ?_, fun hlt => ⟨?_, trivial⟩⟩
 ·have hp : p < 312 := by
   rcases Int.lt_or_le p 312 with h | h
   ·exact h
   ·have : p = 312 := by omega
    subst this; rw [ho, ajM] at hlt; omega
  have hs := aiE ⟨p.toNat, by omega⟩
  have e : ((((⟨p.toNat, by omega⟩ : Fin 312).val : Nat)) : Int) = p := by show ((p.toNat : Nat) : Int) = p; omega
  rw [e] at hs
  rw [show (p + 1) % 18446744073709551616 = p + 1 by omega]
  refine ⟨by omega, fun hpr => ⟨by omega, by omega, (_, p + 1), rfl, ⟨by show 2 <= p + 1; omega, by show p + 1 <= 312; omega, ?_, ?_⟩, by show (312 - (p + 1)).toNat < _; omega⟩, fun hpr => ⟨(o, p + 1), rfl, ⟨by show 2 <= p + 1; omega, by show p + 1 <= 312; omega, ?_, hlen⟩, by show (312 - (p + 1)).toNat < _; omega⟩⟩
  ·show o ++ [p] = _
   rw [hs, hpr, <- ho]; rfl
  ·show (((o ++ [p]).length : Nat) : Int) <= n
   rw [List.length_append]; show ((o.length + 1 : Nat) : Int) <= n; omega
  ·show o = _
   rw [hs, hpr, <- ho]; exact (List.append_nil o).symm
 ·have ht := aiF ⟨p.toNat, by omega⟩
  have e : ((((⟨p.toNat, by omega⟩ : Fin 313).val : Nat)) : Int) = p := by show ((p.toNat : Nat) : Int) = p; omega
  rw [e, <- ho] at ht
  rw [ht]; congr 1; omega
theorem ae1 (x bit : Int) : IntKind.u64.wrap (x.add (IntKind.u64.wrap (Int.mul 1 (Int.pow 2 (if (IntKind.u64.wrap bit).toNat <= IntKind.u64.bits then (IntKind.u64.wrap bit).toNat else IntKind.u64.bits))))) = U.wC x bit := rfl
theorem aaj (p : Int) : CY p := by
 unfold CY
 simp only [dZ, bY, ae1, cond_prop, dF, bf, wrap_i64, decide_eq_true_eq, decide_eq_false_iff_not, U.jT]
 refine ⟨(0, 36), ⟨rfl, by simp, by simp, rfl⟩, ?_⟩
 rintro ⟨x, bit⟩ ⟨h0, h1, hx⟩
 simp only [] at *
 refine ⟨fun hb => ?_, fun hb => ⟨?_, trivial⟩⟩
 ·have hw : (bit - 1 + 9223372036854775808) % 18446744073709551616 - 9223372036854775808 = bit - 1 := by omega
  have hs : U.sqN p (36 - (bit - 1)).toNat = cond (U.aiC p (U.wC x bit)) (U.wC x bit) x := by
   rw [show (36 - (bit - 1)).toNat = (36 - bit).toNat + 1 by omega, U.sqN, <- hx, show (36 : Int) - (((36 - bit).toNat : Nat) : Int) = bit by omega]
  rw [hw]
  refine ⟨by rw [wrap_u64]; omega, fun hc => ⟨(_, bit - 1), rfl, ⟨by show -1 <= bit - 1; omega, by show bit - 1 <= 36; omega, ?_⟩, by show (bit - 1 + 1).toNat < _; omega⟩, fun hc => ⟨(x, bit - 1), rfl, ⟨by show -1 <= bit - 1; omega, by show bit - 1 <= 36; omega, ?_⟩, by show (bit - 1 + 1).toNat < _; omega⟩⟩
  ·show U.wC x bit = _
   rw [hs, show U.aiC p (U.wC x bit) = true from hc]; rfl
  ·show x = _
   rw [hs, show U.aiC p (U.wC x bit) = false from hc]; rfl
 ·rw [hx, show (36 - bit).toNat = 37 by omega]; rfl
theorem ae2 (p : Int) : Jw p := by
 unfold Jw
 simp only [dZ, bY, ae1, cond_prop, dF, wrap_i64, decide_eq_true_eq, decide_eq_false_iff_not, U.lY]
 refine ⟨(0, 36), ⟨rfl, by simp, by simp, rfl⟩, ?_⟩
 rintro ⟨x, bit⟩ ⟨h0, h1, hx⟩
 simp only [] at *
 refine ⟨fun hb => ?_, fun hb => ⟨?_, trivial⟩⟩
 ·have hw : (bit - 1 + 9223372036854775808) % 18446744073709551616 - 9223372036854775808 = bit - 1 := by omega
  have hs : U.cbN p (36 - (bit - 1)).toNat = cond (U.aiD p (U.wC x bit)) (U.wC x bit) x := by
   rw [show (36 - (bit - 1)).toNat = (36 - bit).toNat + 1 by omega, U.cbN, <- hx, show (36 : Int) - (((36 - bit).toNat : Nat) : Int) = bit by omega]
  rw [hw]
  refine ⟨by rw [wrap_u64]; omega, by omega, by omega, fun hc => ⟨(_, bit - 1), rfl, ⟨by show -1 <= bit - 1; omega, by show bit - 1 <= 36; omega, ?_⟩, by show (bit - 1 + 1).toNat < (bit + 1).toNat; omega⟩, fun hc => ⟨(x, bit - 1), rfl, ⟨by show -1 <= bit - 1; omega, by show bit - 1 <= 36; omega, ?_⟩, by show (bit - 1 + 1).toNat < (bit + 1).toNat; omega⟩⟩
  ·show U.wC x bit = _
   rw [hs, show U.aiD p (U.wC x bit) = true from hc]; rfl
  ·show x = _
   rw [hs, show U.aiD p (U.wC x bit) = false from hc]; rfl
 ·rw [hx, show (36 - bit).toNat = 37 by omega]; rfl
theorem U8 : wU := by
 unfold wU
 have hpl : U.gu.length = 64 := rfl
 simp only [cond_prop, bf, bT, wrap_i64, decide_eq_true_eq, decide_eq_false_iff_not, U.jM]
 refine ⟨by omega, (_, 0), ⟨rfl, by simp, by simp, rfl⟩, ?_⟩
 rintro ⟨w, i⟩ ⟨h0, h1, hw⟩
 simp only [] at *
 refine ⟨fun hi => ?_, fun hi => ⟨?_, trivial⟩⟩
 ·have hi1 : (i + 1 + 9223372036854775808) % 18446744073709551616 - 9223372036854775808 = i + 1 := by omega
  rw [hi1]
  refine ⟨by omega, by omega, by omega, by omega, by omega, (_, i + 1), rfl, ⟨by show 0 <= i + 1; omega, by show i + 1 <= 64; omega, ?_⟩, by show 64 - (i + 1).toNat < _; omega⟩
  show w.set i.toNat (U.cube (U.gu.getD i.toNat 0)) = U.fK 64 ((U.gu.take (i + 1).toNat).map U.cube)
  have hl : ((U.gu.take i.toNat).map U.cube).length = i.toNat := by rw [List.length_map, List.length_take]; omega
  have := @ER 64 ((U.gu.take i.toNat).map U.cube) (U.cube (U.gu.getD i.toNat 0)) (by omega)
  rw [hl] at this
  rw [hw, this, take_at h0 (by omega), getD_at (by omega), List.map_append]; rfl
 ·rw [hw, List.take_of_length_le (by omega)]
  unfold U.fK U.consts
  rw [List.length_map, hpl]; simp
theorem ab5 : FT := by
 unfold FT
 have hpl : (U.gu.take 8).length = 8 := rfl
 simp only [cond_prop, bf, bT, wrap_i64, decide_eq_true_eq, decide_eq_false_iff_not, U.pF]
 refine ⟨by omega, (_, 0), ⟨rfl, by simp, by simp, rfl⟩, ?_⟩
 rintro ⟨w, i⟩ ⟨h0, h1, hw⟩
 simp only [] at *
 refine ⟨fun hi => ?_, fun hi => ⟨?_, trivial⟩⟩
 ·have hi1 : (i + 1 + 9223372036854775808) % 18446744073709551616 - 9223372036854775808 = i + 1 := by omega
  rw [hi1]
  refine ⟨by omega, by omega, by omega, by omega, by omega, (_, i + 1), rfl, ⟨by show 0 <= i + 1; omega, by show i + 1 <= 8; omega, ?_⟩, by show 8 - (i + 1).toNat < _; omega⟩
  show w.set i.toNat (U.square ((U.gu.take 8).getD i.toNat 0)) = U.fK 8 ((U.gu.take (i + 1).toNat).map U.square)
  have amN : U.gu.length = 64 := rfl
  have hl : ((U.gu.take i.toNat).map U.square).length = i.toNat := by rw [List.length_map, List.length_take]; omega
  have := @ER 8 ((U.gu.take i.toNat).map U.square) (U.square ((U.gu.take 8).getD i.toNat 0)) (by omega)
  rw [hl] at this
  rw [hw, this, take_at h0 (by omega), getD_at (by omega), List.getElem_take, List.map_append]; rfl
 ·rw [hw, show i.toNat = 8 by omega]
  unfold U.fK U.ET
  rw [List.length_map, hpl]; simp
theorem agx (x n : Int) (hn : Valid (.int .u64) n) : Wh x n := by
 refine ⟨(ake hn).1, ?_, rfl, trivial⟩
 rw [wrap_u64]; omega
theorem Xp (b : List Int) (t : Nat) : (U.wS b t).length = t := by simp [U.wS]
theorem Lj (b : List Int) : ∀ k, (U.jR b k).length = 16 + k
 | 0 => Xp b 16
 | k + 1 => by rw [U.jR, List.length_append, Lj b k]; rfl
theorem aak {n : Nat} {l : List Int} {x y : Int} (h : l.length < n) : (U.fK n (l ++ [x])).set l.length y = U.fK n (l ++ [y]) := by
 unfold U.fK
 rw [List.set_append, if_pos (by simp), List.set_append, if_neg (by omega), Nat.sub_self]; simp
theorem aiG {n : Nat} {l : List Int} (h : l.length < n) : U.fK n (l ++ [0]) = U.fK n l := by
 unfold U.fK
 rw [List.length_append, show n - l.length = (n - (l.length + 1)) + 1 by omega, List.replicate_succ]; simp
theorem ajN (k w h : List Int) (h8 : h.length = 8) : ∀ t, (U.wE k w t h).length = 8
 | 0 => h8
 | t + 1 => rfl
set_option maxHeartbeats 2000000 in
theorem ae3 (h b kk : List Int) (h8 : h.length = 8) (hbl : b.length <= maxLen) (hl : 64 <= b.length) : Jy h b kk := by
 rw [maxLen_eq] at hbl
 unfold Jy
 simp only [cond_prop, bf, dF, bT, eX, U.rF, U.rG, U.pJ, U.pK, U.pO, wrap_i64, decide_eq_true_eq, decide_eq_false_iff_not]
 refine ⟨(_, 0), ⟨rfl, by simp, by simp, rfl⟩, ?_⟩
 rintro ⟨w, t⟩ ⟨h0, h1, hw⟩
 simp only [] at *
 refine ⟨fun ht => ?_, fun ht => ?_⟩
 ·have hlen := Xp b t.toNat
  refine ⟨(w, t, 0), ⟨rfl, trivial, h0, ht, by simp, by simp, ?_⟩, ?_⟩
  ·show w = U.fK 64 (U.wS b t.toNat ++ [0])
   rw [aiG (by omega)]; exact hw
  rintro ⟨w, t', i⟩ ⟨htt, h2, h3, h4, h5, hw⟩
  simp only [] at *
  have hlen := Xp b t'.toNat
  refine ⟨fun hi => ?_, fun hi => ?_⟩
  ·rw [show (4 * t' + 9223372036854775808) % 18446744073709551616 - 9223372036854775808 = 4 * t' by omega, show (4 * t' + i + 9223372036854775808) % 18446744073709551616 - 9223372036854775808 = 4 * t' + i by omega, show (i + 1 + 9223372036854775808) % 18446744073709551616 - 9223372036854775808 = i + 1 by omega]
   refine ⟨by omega, by omega, by omega, by omega, by omega, by omega, by omega, by omega, (_, t', i + 1), rfl, ⟨htt, h2, h3, by show 0 <= i + 1; omega, by show i + 1 <= 4; omega, ?_⟩, by show 4 - (i + 1).toNat < 4 - i.toNat; omega⟩
   show w.set t'.toNat (U.add32 (IntKind.wrap .u32 (w.getD t'.toNat 0 * 256)) (IntKind.wrap .u32 (b.getD (4 * t' + i).toNat 0))) = U.fK 64 (U.wS b t'.toNat ++ [U.wp b t'.toNat (i + 1).toNat])
   have hg : w.getD t'.toNat 0 = U.wp b t'.toNat i.toNat := by
    rw [hw, qM (by rw [List.length_append]; show t'.toNat < (U.wS b t'.toNat).length + 1; omega), getD_at (by rw [List.length_append]; show t'.toNat < (U.wS b t'.toNat).length + 1; omega), List.getElem_append_right (by omega)]; simp [hlen]
   rw [hg, show (i + 1).toNat = i.toNat + 1 by omega, U.wp, show (4 * t' + i).toNat = 4 * t'.toNat + i.toNat by omega, hw]
   have := @aak 64 (U.wS b t'.toNat) (U.wp b t'.toNat i.toNat) (U.add32 (IntKind.wrap .u32 (U.wp b t'.toNat i.toNat * 256)) (IntKind.wrap .u32 (b.getD (4 * t'.toNat + i.toNat) 0))) (by omega)
   rw [hlen] at this; exact this
  ·rw [show (t' + 1 + 9223372036854775808) % 18446744073709551616 - 9223372036854775808 = t' + 1 by omega]
   refine ⟨(w, t' + 1), rfl, ⟨by show 0 <= t' + 1; omega, by show t' + 1 <= 16; omega, ?_⟩, ?_⟩
   ·show w = U.fK 64 (U.wS b (t' + 1).toNat)
    rw [hw, show (t' + 1).toNat = t'.toNat + 1 by omega, show i.toNat = 4 by omega]
    have : U.wS b (t'.toNat + 1) = U.wS b t'.toNat ++ [U.wp b t'.toNat 4] := by simp [U.wS, List.range_succ]
    rw [this]
   ·show 16 - (t' + 1).toNat < 16 - t.toNat
    omega
 ·have ht : t = 16 := by omega
  subst ht
  refine ⟨(_, 16), ⟨rfl, by simp, by simp, hw⟩, ?_⟩
  rintro ⟨w, t⟩ ⟨h0, h1, hw⟩
  simp only [] at *
  refine ⟨fun ht => ?_, fun ht => ?_⟩
  ·have s : ∀ c : Int, 0 <= c -> c <= 16 -> (t - c + 9223372036854775808) % 18446744073709551616 - 9223372036854775808 = t - c := fun c _ _ => by omega
   rw [s 15 (by omega) (by omega), s 2 (by omega) (by omega), s 16 (by omega) (by omega), s 7 (by omega) (by omega), show (t + 1 + 9223372036854775808) % 18446744073709551616 - 9223372036854775808 = t + 1 by omega]
   refine ⟨by omega, by omega, by omega, by omega, by omega, by omega, by omega, by omega, by omega, by omega, by omega, by omega, by omega, by omega, by omega, by omega, by omega, (_, t + 1), rfl, ⟨by show 16 <= t + 1; omega, by show t + 1 <= 64; omega, ?_⟩, by show 64 - (t + 1).toNat < 64 - t.toNat; omega⟩
   change w.set t.toNat (U.add32 (U.add32 (U.add32 (U.dM (U.dM (U.rot (w.getD (t - 2).toNat 0) 17) (U.rot (w.getD (t - 2).toNat 0) 19)) (U.shr .u32 (w.getD (t - 2).toNat 0) 10)) (w.getD (t - 7).toNat 0)) (U.dM (U.dM (U.rot (w.getD (t - 15).toNat 0) 7) (U.rot (w.getD (t - 15).toNat 0) 18)) (U.shr .u32 (w.getD (t - 15).toNat 0) 3))) (w.getD (t - 16).toNat 0)) = U.fK 64 (U.jR b ((t + 1).toNat - 16))
   have hn := Lj b (t - 16).toNat
   rw [show (t + 1).toNat - 16 = (t - 16).toNat + 1 by omega, U.jR, hw, show t.toNat - 16 = (t - 16).toNat by omega, qM (by omega), qM (by omega), qM (by omega), qM (by omega)]
   have := @ER 64 (U.jR b (t - 16).toNat) (U.UM (U.jR b (t - 16).toNat)) (by omega)
   rw [hn, show 16 + (t - 16).toNat = t.toNat by omega] at this
   rw [<- this]
   unfold U.UM
   rw [hn, show 16 + (t - 16).toNat - 16 = (t - 16).toNat by omega, show 16 + (t - 16).toNat - 15 = (t - 15).toNat by omega, show 16 + (t - 16).toNat - 7 = (t - 7).toNat by omega, show 16 + (t - 16).toNat - 2 = (t - 2).toNat by omega]
  ·have hw : w = U.nK b := by
    rw [hw, show t.toNat - 16 = 48 by omega]
    unfold U.fK U.nK
    rw [Lj]; simp
   refine ⟨(_, _, 0), ⟨rfl, hw, by simp, by simp, rfl⟩, ?_⟩
   rintro ⟨w, v, t⟩ ⟨hw, h0, h1, hv⟩
   simp only [] at *
   refine ⟨fun ht => ?_, fun ht => ?_⟩
   ·rw [show (t + 1 + 9223372036854775808) % 18446744073709551616 - 9223372036854775808 = t + 1 by omega]
    refine ⟨by omega, by omega, by decide, by omega, by omega, by decide, by omega, by omega, by decide, by omega, by omega, by decide, by omega, by omega, by decide, by omega, by omega, by decide, by omega, by omega, by decide, by omega, by omega, by omega, by omega, by omega, by omega, by omega, by omega, by decide, (_, _, t + 1), rfl, ⟨hw, by show 0 <= t + 1; omega, by show t + 1 <= 64; omega, ?_⟩, by show 64 - (t + 1).toNat < 64 - t.toNat; omega⟩
    show _ = U.wE kk (U.nK b) (t + 1).toNat h
    rw [show (t + 1).toNat = t.toNat + 1 by omega, U.wE, <- hv, hw]
    rfl
   ·have ht : t = 64 := by omega
    subst ht
    have hv8 := ajN kk (U.nK b) h h8 64
    have hv : v = U.wE kk (U.nK b) 64 h := hv
    rw [<- hv] at hv8
    subst hv
    refine ⟨(_, 0), ⟨rfl, by simp, by simp, rfl⟩, ?_⟩
    rintro ⟨v, k⟩ ⟨h0, h1, hv⟩
    simp only [] at *
    have hvl : v.length = 8 := by rw [hv, List.length_append, List.length_zipWith, List.length_take, List.length_drop]; omega
    refine ⟨fun ht => ?_, fun ht => ⟨?_, trivial⟩⟩
    ·rw [show (k + 1 + 9223372036854775808) % 18446744073709551616 - 9223372036854775808 = k + 1 by omega]
     refine ⟨by omega, by omega, by omega, by omega, by omega, by omega, by omega, by omega, by omega, (_, k + 1), rfl, ⟨by show 0 <= k + 1; omega, by show k + 1 <= 8; omega, ?_⟩, by show 8 - (k + 1).toNat < 8 - k.toNat; omega⟩
     show v.set k.toNat (U.add32 (v.getD k.toNat 0) (h.getD k.toNat 0)) = List.zipWith U.add32 ((U.wE kk (U.nK b) 64 h).take (k + 1).toNat) h ++ (U.wE kk (U.nK b) 64 h).drop (k + 1).toNat
     rw [show (k + 1).toNat = k.toNat + 1 by omega, hv, aeX U.add32 _ h k.toNat (by omega) (by omega)]
     exact Xm U.add32 _ h k.toNat (by omega) (by omega)
    ·rw [hv, List.take_of_length_le (by omega), List.drop_eq_nil_of_le (by omega)]; simp [U.DK]
theorem Xq (n m : Nat) (h : m <= U.zeros n) : (n + 1 + m) % 64 = 56 ↔ m = U.zeros n := by unfold U.zeros at *; omega
theorem agy (b : List Int) (hl : b.length <= 1000000000000) : Le b := by
 unfold Le
 have hz := OD b.length
 simp only [cond_prop, eX, dF, dX, gq, bT, dJ, maxLen_eq, wrap_i64, wrap_u64, wrap_u8, U.vk, U.vw, decide_eq_true_eq, decide_eq_false_iff_not, bne_iff_ne, bne_eq_false_iff_eq]
 refine ⟨by omega, by omega, by omega, by omega, _, ⟨rfl, 0, by omega, rfl⟩, ?_⟩
 rintro o ⟨m, hm, ho⟩
 have hol : o.length = b.length + 1 + m := by rw [ho]; simp; omega
 rw [Int.tmod_eq_emod_of_nonneg (by omega)]
 refine ⟨by omega, fun hne => ⟨by omega, by omega, _, rfl, ⟨m + 1, ?_, ?_⟩, ?_⟩, fun he => ?_⟩
 ·have := (Xq b.length m hm).2; omega
 ·show o ++ [0] = _
  rw [ho, List.replicate_succ']; simp
 ·show b.length + 1 + U.zeros b.length - (o ++ [0]).length < _
  have := (Xq b.length m hm).2
  rw [List.length_append]; show b.length + 1 + U.zeros b.length - (o.length + 1) < _; omega
 ·have hmz : m = U.zeros b.length := (Xq b.length m hm).1 (by omega)
  subst hmz
  refine ⟨(_, _, _), ⟨rfl, by simp only []; omega, by simp, by simp, by simpa using ho⟩, ?_⟩
  rintro ⟨o, n, i⟩ ⟨hn, h0, h1, ho⟩
  simp only [] at *
  have hol : o.length <= b.length + 73 := by
   rw [ho]; simp only [List.length_append, List.length_cons, List.length_replicate, List.length_take, aad]; omega
  refine ⟨fun hi => ?_, fun hi => ⟨?_, trivial⟩⟩
  ·rw [show (8 * i + 9223372036854775808) % 18446744073709551616 - 9223372036854775808 = 8 * i by omega, show (8 * i) % 18446744073709551616 = 8 * i by omega, show (i - 1 + 9223372036854775808) % 18446744073709551616 - 9223372036854775808 = i - 1 by omega]
   rw [if_pos (by show (8 * i).toNat <= 64; omega)]
   refine ⟨by omega, by omega, by omega, (_, n, i - 1), rfl, ⟨hn, by show -1 <= i - 1; omega, by show i - 1 <= 7; omega, ?_⟩, by show (i - 1 + 1).toNat < (i + 1).toNat; omega⟩
   show o ++ [n.fdiv (Int.pow 2 (8 * i).toNat) % 256] = _
   rw [ho, show (7 - (i - 1)).toNat = (7 - i).toNat + 1 by omega, List.take_succ_eq_append_getElem (by rw [aad]; omega)]
   have hg : ∀ (k N j : Nat) (hj : j < (U.be8 k N).length), (U.be8 k N)[j] = ((N / 256 ^ (k - 1 - j) % 256 : Nat) : Int) := by
    intro k
    induction k with
    | zero => intro N j hj; cases hj
    | succ k ih =>
      intro N j hj
      cases j with
      | zero => simp [U.be8]
      | succ j =>
        have hj' : j < (U.be8 k N).length := by simpa [U.be8] using hj
        have := ih N j hj'
        rw [show k + 1 - 1 - (j + 1) = k - 1 - j by omega, <- this]
        simp [U.be8]
   rw [hg, hn]
   have e : ((b.length : Int) * 8) = ((b.length * 8 : Nat) : Int) := by omega
   have e2 : Int.pow 2 (8 * i).toNat = ((256 ^ i.toNat : Nat) : Int) := by
    rw [show (8 * i).toNat = 8 * i.toNat by omega, show (256 : Nat) = 2 ^ 8 from rfl, <- Nat.pow_mul]
    show (2 : Int) ^ _ = _
    push_cast; rfl
   rw [e, e2, Int.fdiv_eq_ediv_of_nonneg _ (Int.natCast_nonneg _), show 8 - 1 - (7 - i).toNat = i.toNat by omega]
   simp only [List.append_assoc, List.cons_append]
   congr 4
  ·rw [ho, show (7 - i).toNat = 8 by omega, List.take_of_length_le (by rw [aad]; omega)]; rfl
theorem agz (b : List Int) (hl : b.length <= 1000000000000) : Lh b := by
 unfold Lh
 have hp := ag7 b
 have hz := OD b.length
 simp only [cond_prop, bf, bT, U.vC, U.vF, decide_eq_true_eq, decide_eq_false_iff_not]
 have hc : (U.chunks 64 (U.pad b)).length * 64 = (U.pad b).length := by rw [G7]; omega
 refine ⟨hl, (_, 0), ⟨rfl, by simp, by simp, 0, by simp, rfl⟩, ?_⟩
 rintro ⟨h, i⟩ ⟨h0, h1, k, hi, hh⟩
 simp only [] at *
 refine ⟨fun hlt => ?_, fun hge => ?_⟩
 ·have hk : k < (U.chunks 64 (U.pad b)).length := by omega
  have hw : IntKind.i64.wrap (i + 64) = i + 64 := by rw [wrap_i64]; omega
  have hch := Tt hk
  have hcl := ag8 hp.1 hk
  have hsl : List.take ((i + 64).toNat - i.toNat) (List.drop i.toNat (U.pad b)) = (U.chunks 64 (U.pad b)).getD k [] := by
   rw [hch, show (i + 64).toNat - i.toNat = 64 by omega, show i.toNat = k * 64 by omega]
  rw [hw, hsl, hcl]
  refine ⟨h0, by omega, by omega, by omega, (_, i + 64), rfl, ⟨by show 0 <= i + 64; omega, by show i + 64 <= _; omega, k + 1, by show i + 64 = _; push_cast; omega, ?_⟩, by show _ - (i + 64).toNat < _; omega⟩
  show U.DK h ((U.chunks 64 (U.pad b)).getD k []) U.consts = _
  rw [List.take_succ_eq_append_getElem hk, List.foldl_append, <- hh, getD_at hk]; rfl
 ·have hk : k = (U.chunks 64 (U.pad b)).length := by omega
  have hI : h = U.yt b := by rw [hh, hk, List.take_length]; unfold U.yt; rfl
  refine ⟨(_, _, _), ⟨rfl, hI, by simp, by simp, rfl⟩, ?_⟩
  rintro ⟨h, s, k⟩ ⟨hh, h0, h1, hs⟩
  simp only [] at *
  refine ⟨fun ht => ?_, fun ht => ⟨?_, trivial⟩⟩
  ·have hw : IntKind.i64.wrap (k + 1) = k + 1 := by rw [wrap_i64]; omega
   have h4 : IntKind.i64.wrap (Int.tdiv k 4) = k / 4 := by rw [Int.tdiv_eq_ediv_of_nonneg (by omega), wrap_i64]; omega
   have h5 : IntKind.u64.wrap (IntKind.i64.wrap (Int.sub 24 (IntKind.i64.wrap (Int.mul 8 (Int.tmod k 4))))) = 24 - 8 * (k % 4) := by
    rw [Int.tmod_eq_emod_of_nonneg (by omega)]; simp only [wrap_i64, wrap_u64, dF, eX]; omega
   have h6 : (if (24 - 8 * (k % 4)).toNat <= IntKind.u32.bits then (24 - 8 * (k % 4)).toNat else IntKind.u32.bits) = 24 - 8 * (k.toNat % 4) := by
    rw [if_pos (by show _ <= 32; omega)]; omega
   rw [hw, h4, h5, h6]
   refine ⟨by omega, by omega, by omega, by omega, by omega, by omega, by omega, by omega, by omega, (_, _, _), rfl, ⟨hh, by show 0 <= k + 1; omega, by show k + 1 <= 32; omega, ?_⟩, by show 32 - (k + 1).toNat < _; omega⟩
   show s.set k.toNat _ = (U.qL (U.yt b)).take (k + 1).toNat ++ List.replicate (32 - (k + 1).toNat) 0
   have := @aeZ (U.qL (U.yt b)) k.toNat 32 (ES _) (by omega)
   rw [show (k + 1).toNat = k.toNat + 1 by omega, <- this, hs, aeY _ (by omega), show (k / 4).toNat = k.toNat / 4 by omega, hh]
   unfold U.shr
   rw [show min (24 - 8 * (k.toNat % 4)) IntKind.u32.bits = 24 - 8 * (k.toNat % 4) by show min _ 32 = _; omega]
  ·rw [hs, List.take_of_length_le (by rw [ES]; omega), show 32 - k.toNat = 0 by omega, List.replicate_zero, List.append_nil]
end Go.Proofs.YtkhdeldobekciaaGreatDoor
set_option linter.unusedSimpArgs false
set_option maxRecDepth 100000
set_option linter.unusedVariables false
namespace Go.Proofs.YtkhdeldobekciaaGreatDoor
open Go.Vc
theorem Xr : aV Tryz.prog gl 91 Jq := ahU (fn := Tryz.f91) (by kernel_rfl) (by kernel_rfl) (by kernel_rfl) (by kernel_rfl) (by rfl)
theorem Gn : aQ qO := .cons Xr ajK
theorem Xt (x : aP [.int .u64, .int .u64]) : bg Tryz.prog (aT qO) (Js x.1 x.2) 90 (aZ [.int .u64, .int .u64] x) [] (yM x.1 x.2) = Gm x.1 x.2 := by kernel_rfl
theorem Xu : Pok 90 [.int .u64, .int .u64] (fun x => yM x.1 x.2) := by
 refine pk (L := fun x => Js x.1 x.2) (l := qO) Gn (fun _ => rfl) ?_
 intro x hv hp
 rw [Xt]
 exact U7 x.1 x.2 hv.1 hv.2
theorem Xv : aV Tryz.prog gl 90 Jr := Xu
theorem Gp : aQ qP := .cons Xv Gn
theorem ae4 (x : aP [.int .u64]) : bg Tryz.prog (aT qP) (Tz x) 89 (aZ [.int .u64] x) [] (AX x) = FQ x := by kernel_rfl
theorem ae5 : Pok 89 [.int .u64] (fun x => AX x) := by
 refine pk (L := fun x => Tz x) (l := qP) Gp (fun _ => rfl) ?_
 intro x hv hp
 rw [ae4]
 exact ab4 x (hp (0 <= x /\ x <= 400) (by simp [AX]))
theorem ae6 : aV Tryz.prog gl 89 Tv := ae5
theorem PL : aQ AY := .cons ae6 Gp
theorem ab6 (x : aP [.int .i64]) : bg Tryz.prog (aT AY) (PG x) 71 (aZ [.int .i64] x) [] (yu x) = CX x := by kernel_rfl
theorem ab7 : Pok 71 [.int .i64] (fun x => yu x) := by
 refine pk (L := fun x => PG x) (l := AY) PL (fun _ => rfl) ?_
 intro x hv hp
 rw [ab6]
 exact aai x (hp (0 <= x /\ x <= 64) (by simp [yu]))
theorem ab8 : aV Tryz.prog gl 71 PE := ab7
theorem ML : aQ yw := .cons ab8 PL
theorem ab9 (x : aP [.int .u64]) : bg Tryz.prog (aT yw) (PK x) 72 (aZ [.int .u64] x) [] (FP x) = CY x := by kernel_rfl
theorem acd : Pok 72 [.int .u64] (fun x => FP x) := by
 refine pk (L := fun x => PK x) (l := yw) ML (fun _ => rfl) ?_
 intro x hv hp
 rw [ab9]
 exact aaj x
theorem ace : aV Tryz.prog gl 72 PI := acd
theorem MN : aQ yx := .cons ace ML
theorem agA (x : aP [.int .u64]) : bg Tryz.prog (aT yx) (V7 x) 73 (aZ [.int .u64] x) [] (Ld x) = Jw x := by kernel_rfl
theorem agB : Pok 73 [.int .u64] (fun x => Ld x) := by
 refine pk (L := fun x => V7 x) (l := yx) MN (fun _ => rfl) ?_
 intro x hv hp
 rw [agA]
 exact ae2 x
theorem agC : aV Tryz.prog gl 73 V6 := agB
theorem TF : aQ DL := .cons agC MN
theorem Xw (x : aP []) : bg Tryz.prog (aT DL) (Ju ) 47 (aZ [] x) [] (yN ) = wU  := by kernel_rfl
theorem Xx : Pok 47 [] (fun x => yN ) := by
 refine pk (L := fun x => Ju ) (l := DL) TF (fun _ => rfl) ?_
 intro x hv hp
 rw [Xw]
 exact U8
theorem Xy : aV Tryz.prog gl 47 Jt := Xx
theorem Gq : aQ qQ := .cons Xy TF
theorem ae7 (x : aP []) : bg Tryz.prog (aT qQ) (TB ) 46 (aZ [] x) [] (Jv ) = FT  := by kernel_rfl
theorem ae8 : Pok 46 [] (fun x => Jv ) := by
 refine pk (L := fun x => TB ) (l := qQ) Gq (fun _ => rfl) ?_
 intro x hv hp
 rw [ae7]
 exact ab5
theorem ae9 : aV Tryz.prog gl 46 TA := ae8
theorem PN : aQ AZ := .cons ae9 Gq
theorem aiH (x : aP [.int .u32, .int .u64]) : bg Tryz.prog (aT AZ) (Y7 x.1 x.2) 74 (aZ [.int .u32, .int .u64] x) [] (OE x.1 x.2) = Wh x.1 x.2 := by kernel_rfl
theorem aiI : Pok 74 [.int .u32, .int .u64] (fun x => OE x.1 x.2) := by
 refine pk (L := fun x => Y7 x.1 x.2) (l := AZ) PN (fun _ => rfl) ?_
 intro x hv hp
 rw [aiH]
 exact agx x.1 x.2 hv.2
theorem aiJ : aV Tryz.prog gl 74 Y6 := aiI
theorem Wi : aQ Hf := .cons aiJ PN
theorem agD (x : aP [tW8, aI, aac]) : bg Tryz.prog (aT Hf) (V9 x.1 x.2.1 x.2.2) 49 (aZ [tW8, aI, aac] x) [] (DN x.1 x.2.1 x.2.2) = Jy x.1 x.2.1 x.2.2 := by kernel_rfl
theorem agE : Pok 49 [tW8, aI, aac] (fun x => DN x.1 x.2.1 x.2.2) := by
 refine pk (L := fun x => V9 x.1 x.2.1 x.2.2) (l := Hf) Wi (fun _ => rfl) ?_
 intro x hv hp
 rw [agD]
 exact ae3 x.1 x.2.1 x.2.2 hv.1.2 hv.2.1.2 (hp (64 <= List.length x.2.1) (by simp [DN]))
theorem agF : aV Tryz.prog gl 49 V8 := agE
theorem TG : aQ DR := .cons agF Wi
theorem aiK (x : aP [aI]) : bg Tryz.prog (aT DR) (Y9 x) 48 (aZ [aI] x) [] (Hg x) = Le x := by kernel_rfl
theorem aiL : Pok 48 [aI] (fun x => Hg x) := by
 refine pk (L := fun x => Y9 x) (l := DR) TG (fun _ => rfl) ?_
 intro x hv hp
 rw [aiK]
 exact agy x (hp (List.length x <= 1000000000000) (by simp [Hg]))
theorem aiM : aV Tryz.prog gl 48 Y8 := aiL
theorem Wj : aQ Hl := .cons aiM TG
theorem aiN (x : aP [aI]) : bg Tryz.prog (aT Hl) (Zb x) 23 (aZ [aI] x) [] (Ho x) = Lh x := by kernel_rfl
theorem aiO : Pok 23 [aI] (fun x => Ho x) := by
 refine pk (L := fun x => Zb x) (l := Hl) Wj (fun _ => rfl) ?_
 intro x hv hp
 rw [aiN]
 exact agz x (hp (List.length x <= 1000000000000) (by simp [Ho]))
theorem aiP : aV Tryz.prog gl 23 Za := aiO
theorem Wn : aQ Hq := .cons aiP Wj
end Go.Proofs.YtkhdeldobekciaaGreatDoor
