/- What is owed of the functions, proved in plain Lean. -/
import Derived.Test.YtkhdeldobekciaaGreatDoorMK
import Derived.Test.YtkhdeldobekciaaGreatDoorMI
set_option linter.unusedSimpArgs false
set_option linter.unusedVariables false
set_option maxRecDepth 100000
namespace Go.Proofs.YtkhdeldobekciaaGreatDoor
open Go.Vc
open Go.Vc.T
theorem SA (x y : Int) (hx : Valid (.int .u64) x) (hy : Valid (.int .u64) y) : Eu x y :=
 ⟨by omega, by omega, by omega, by omega, by omega, rfl, rfl, trivial⟩
theorem aiS {n d : Int} (h2 : 2 <= d) (h20 : d <= 20) (hd : d * d <= n) (hm : n % d = 0) : U.prime n = false := by
 unfold U.prime
 rw [Bool.and_eq_false_iff]; left
 rw [List.all_eq_false]
 refine ⟨d.toNat, List.mem_range.2 (by omega), ?_⟩
 have e : ((d.toNat : Nat) : Int) = d := by omega
 rw [decide_eq_true_eq, e]
 omega
theorem ah5 {n d : Int} (h2 : 2 <= d) (hd : n < d * d) (h : ∀ e : Int, 2 <= e -> e < d -> n % e ≠ 0) : U.prime n = decide (n >= 2) := by
 unfold U.prime
 have : ((List.range 21).all fun d : Nat => decide (d < 2 ∨ n < (d : Int) * d ∨ n % d ≠ 0)) = true := by
  rw [List.all_eq_true]
  intro e _
  rw [decide_eq_true_eq]
  rcases Int.lt_or_le (e : Int) 2 with h3 | h3
  ·left; omega
  ·rcases Int.lt_or_le (e : Int) d with h4 | h4
   ·right; right; exact h e h3 h4
   ·right; left
    have : d * d <= (e : Int) * e := Int.mul_le_mul h4 h4 (by omega) (by omega)
    omega
 rw [this]; rfl
theorem aaf (n : Int) (hn : 0 <= n /\ n <= 400) : D6 n := by
 unfold D6
 simp only [cond_prop, eF, aX, dK, U.oL, decide_eq_true_eq, decide_eq_false_iff_not, wrap_u64]
 refine ⟨2, ⟨rfl, by omega, by omega, fun e h1 h2 => by omega⟩, ?_⟩
 rintro d ⟨h2, h21, hd⟩
 have hsq : d * d <= 21 * 21 := Int.mul_le_mul h21 h21 (by omega) (by omega)
 have ak1 : 0 <= d * d := Int.mul_nonneg (by omega) (by omega)
 rw [Int.emod_eq_of_lt ak1 (by omega), Int.tmod_eq_emod_of_nonneg hn.1]
 have hdd : (d + 1) % 18446744073709551616 = d + 1 := by omega
 rw [hdd]
 refine ⟨fun hle => ?_, fun hle => ⟨(ah5 h2 (by omega) hd).symm, trivial⟩⟩
 have h20 : d <= 20 := by
  rcases Int.lt_or_le d 21 with h | h
  ·omega
  ·have : d = 21 := by omega
   subst this; omega
 refine ⟨by omega, fun hm => ⟨(aiS h2 h20 hle hm).symm, trivial⟩, fun hm => ⟨d + 1, rfl, ⟨by omega, by omega, fun e h3 h4 => ?_⟩, by omega⟩⟩
 rcases Int.lt_or_le e d with h | h
 ·exact hd e h3 h
 ·have : e = d := by omega
  subst this; exact hm
theorem agW : ∀ p : Fin 312, U.fG.filter (fun q => decide (q < ((p.val : Nat) : Int) + 1)) = U.fG.filter (fun q => decide (q < ((p.val : Nat) : Int))) ++ (bif U.prime ((p.val : Nat) : Int) then [((p.val : Nat) : Int)] else []) := by decide +kernel
theorem agX : ∀ p : Fin 313, U.fG.filter (fun q => decide (q < ((p.val : Nat) : Int))) = U.fG.take (U.fG.filter (fun q => decide (q < ((p.val : Nat) : Int)))).length := by decide +kernel
theorem ah6 : (U.fG.filter (fun q => decide (q < (312 : Int)))).length = 64 := by decide +kernel
theorem Yq (n : Int) (hn : 0 <= n /\ n <= 64) : AO n := by
 unfold AO
 simp only [cond_prop, aX, dK, dG, fB, bT, U.jL, decide_eq_true_eq, decide_eq_false_iff_not, wrap_u64, maxLen_eq]
 refine ⟨([], 2), ⟨rfl, by simp, by simp, by decide +kernel, by simp; omega⟩, ?_⟩
 rintro ⟨o, p⟩ ⟨h2, ak7, ho, hlen⟩
 simp only [] at *
 refine ⟨fun hlt => ?_, fun hlt => ⟨?_, trivial⟩⟩
 ·have hp : p < 312 := by
   rcases Int.lt_or_le p 312 with h | h
   ·exact h
   ·have : p = 312 := by omega
    subst this; rw [ho, ah6] at hlt; omega
  have hs := agW ⟨p.toNat, by omega⟩
  have e : ((((⟨p.toNat, by omega⟩ : Fin 312).val : Nat)) : Int) = p := by show ((p.toNat : Nat) : Int) = p; omega
  rw [e] at hs
  rw [show (p + 1) % 18446744073709551616 = p + 1 by omega]
  refine ⟨by omega, fun hpr => ⟨by omega, by omega, (_, p + 1), rfl, ⟨by show 2 <= p + 1; omega, by show p + 1 <= 312; omega, ?_, ?_⟩, by show (312 - (p + 1)).toNat < _; omega⟩, fun hpr => ⟨(o, p + 1), rfl, ⟨by show 2 <= p + 1; omega, by show p + 1 <= 312; omega, ?_, hlen⟩, by show (312 - (p + 1)).toNat < _; omega⟩⟩
  ·show o ++ [p] = _
   rw [hs, hpr, <- ho]; rfl
  ·show (((o ++ [p]).length : Nat) : Int) <= n
   rw [List.length_append]; show ((o.length + 1 : Nat) : Int) <= n; omega
  ·show o = _
   rw [hs, hpr, <- ho]; exact (List.append_nil o).symm
 ·have ht := agX ⟨p.toNat, by omega⟩
  have e : ((((⟨p.toNat, by omega⟩ : Fin 313).val : Nat)) : Int) = p := by show ((p.toNat : Nat) : Int) = p; omega
  rw [e, <- ho] at ht
  rw [ht]; congr 1; omega
theorem adq (x bit : Int) : IntKind.u64.wrap (x.add (IntKind.u64.wrap (Int.mul 1 (Int.pow 2 (if (IntKind.u64.wrap bit).toNat <= IntKind.u64.bits then (IntKind.u64.wrap bit).toNat else IntKind.u64.bits))))) = U.uV x bit := rfl
theorem Yr (p : Int) : AP p := by
 unfold AP
 simp only [dN, dh, adq, cond_prop, dK, aX, wrap_i64, decide_eq_true_eq, decide_eq_false_iff_not, U.jM]
 refine ⟨(0, 36), ⟨rfl, by simp, by simp, rfl⟩, ?_⟩
 rintro ⟨x, bit⟩ ⟨h0, h1, hx⟩
 simp only [] at *
 refine ⟨fun hb => ?_, fun hb => ⟨?_, trivial⟩⟩
 ·have hw : (bit - 1 + 9223372036854775808) % 18446744073709551616 - 9223372036854775808 = bit - 1 := by omega
  have hs : U.sqN p (36 - (bit - 1)).toNat = cond (U.agU p (U.uV x bit)) (U.uV x bit) x := by
   rw [show (36 - (bit - 1)).toNat = (36 - bit).toNat + 1 by omega, U.sqN, <- hx, show (36 : Int) - (((36 - bit).toNat : Nat) : Int) = bit by omega]
  rw [hw]
  refine ⟨by rw [wrap_u64]; omega, fun hc => ⟨(_, bit - 1), rfl, ⟨by show -1 <= bit - 1; omega, by show bit - 1 <= 36; omega, ?_⟩, by show (bit - 1 + 1).toNat < _; omega⟩, fun hc => ⟨(x, bit - 1), rfl, ⟨by show -1 <= bit - 1; omega, by show bit - 1 <= 36; omega, ?_⟩, by show (bit - 1 + 1).toNat < _; omega⟩⟩
  ·show U.uV x bit = _
   rw [hs, show U.agU p (U.uV x bit) = true from hc]; rfl
  ·show x = _
   rw [hs, show U.agU p (U.uV x bit) = false from hc]; rfl
 ·rw [hx, show (36 - bit).toNat = 37 by omega]; rfl
theorem adr (p : Int) : Hz p := by
 unfold Hz
 simp only [dN, dh, adq, cond_prop, dK, wrap_i64, decide_eq_true_eq, decide_eq_false_iff_not, U.lU]
 refine ⟨(0, 36), ⟨rfl, by simp, by simp, rfl⟩, ?_⟩
 rintro ⟨x, bit⟩ ⟨h0, h1, hx⟩
 simp only [] at *
 refine ⟨fun hb => ?_, fun hb => ⟨?_, trivial⟩⟩
 ·have hw : (bit - 1 + 9223372036854775808) % 18446744073709551616 - 9223372036854775808 = bit - 1 := by omega
  have hs : U.cbN p (36 - (bit - 1)).toNat = cond (U.agV p (U.uV x bit)) (U.uV x bit) x := by
   rw [show (36 - (bit - 1)).toNat = (36 - bit).toNat + 1 by omega, U.cbN, <- hx, show (36 : Int) - (((36 - bit).toNat : Nat) : Int) = bit by omega]
  rw [hw]
  refine ⟨by rw [wrap_u64]; omega, by omega, by omega, fun hc => ⟨(_, bit - 1), rfl, ⟨by show -1 <= bit - 1; omega, by show bit - 1 <= 36; omega, ?_⟩, by show (bit - 1 + 1).toNat < (bit + 1).toNat; omega⟩, fun hc => ⟨(x, bit - 1), rfl, ⟨by show -1 <= bit - 1; omega, by show bit - 1 <= 36; omega, ?_⟩, by show (bit - 1 + 1).toNat < (bit + 1).toNat; omega⟩⟩
  ·show U.uV x bit = _
   rw [hs, show U.agV p (U.uV x bit) = true from hc]; rfl
  ·show x = _
   rw [hs, show U.agV p (U.uV x bit) = false from hc]; rfl
 ·rw [hx, show (36 - bit).toNat = 37 by omega]; rfl
theorem SB : vH := by
 unfold vH
 have hpl : U.fG.length = 64 := rfl
 simp only [cond_prop, aX, bP, wrap_i64, decide_eq_true_eq, decide_eq_false_iff_not, U.jF]
 refine ⟨by omega, (_, 0), ⟨rfl, by simp, by simp, rfl⟩, ?_⟩
 rintro ⟨w, i⟩ ⟨h0, h1, hw⟩
 simp only [] at *
 refine ⟨fun hi => ?_, fun hi => ⟨?_, trivial⟩⟩
 ·have hi1 : (i + 1 + 9223372036854775808) % 18446744073709551616 - 9223372036854775808 = i + 1 := by omega
  rw [hi1]
  refine ⟨by omega, by omega, by omega, by omega, by omega, (_, i + 1), rfl, ⟨by show 0 <= i + 1; omega, by show i + 1 <= 64; omega, ?_⟩, by show 64 - (i + 1).toNat < _; omega⟩
  show w.set i.toNat (U.cube (U.fG.getD i.toNat 0)) = U.fA 64 ((U.fG.take (i + 1).toNat).map U.cube)
  have hl : ((U.fG.take i.toNat).map U.cube).length = i.toNat := by rw [List.length_map, List.length_take]; omega
  have := @Di 64 ((U.fG.take i.toNat).map U.cube) (U.cube (U.fG.getD i.toNat 0)) (by omega)
  rw [hl] at this
  rw [hw, this, take_at h0 (by omega), getD_at (by omega), List.map_append]; rfl
 ·rw [hw, List.take_of_length_le (by omega)]
  unfold U.fA U.consts
  rw [List.length_map, hpl]; simp
theorem aag : D7 := by
 unfold D7
 have hpl : (U.fG.take 8).length = 8 := rfl
 simp only [cond_prop, aX, bP, wrap_i64, decide_eq_true_eq, decide_eq_false_iff_not, U.oM]
 refine ⟨by omega, (_, 0), ⟨rfl, by simp, by simp, rfl⟩, ?_⟩
 rintro ⟨w, i⟩ ⟨h0, h1, hw⟩
 simp only [] at *
 refine ⟨fun hi => ?_, fun hi => ⟨?_, trivial⟩⟩
 ·have hi1 : (i + 1 + 9223372036854775808) % 18446744073709551616 - 9223372036854775808 = i + 1 := by omega
  rw [hi1]
  refine ⟨by omega, by omega, by omega, by omega, by omega, (_, i + 1), rfl, ⟨by show 0 <= i + 1; omega, by show i + 1 <= 8; omega, ?_⟩, by show 8 - (i + 1).toNat < _; omega⟩
  show w.set i.toNat (U.square ((U.fG.take 8).getD i.toNat 0)) = U.fA 8 ((U.fG.take (i + 1).toNat).map U.square)
  have ak8 : U.fG.length = 64 := rfl
  have hl : ((U.fG.take i.toNat).map U.square).length = i.toNat := by rw [List.length_map, List.length_take]; omega
  have := @Di 8 ((U.fG.take i.toNat).map U.square) (U.square ((U.fG.take 8).getD i.toNat 0)) (by omega)
  rw [hl] at this
  rw [hw, this, take_at h0 (by omega), getD_at (by omega), List.getElem_take, List.map_append]; rfl
 ·rw [hw, show i.toNat = 8 by omega]
  unfold U.fA U.Dk
  rw [List.length_map, hpl]; simp
theorem aeS (x n : Int) (hn : Valid (.int .u64) n) : Ug x n := by
 refine ⟨(aiD hn).1, ?_, rfl, trivial⟩
 rw [wrap_u64]; omega
theorem U1 (b : List Int) (t : Nat) : (U.vG b t).length = t := by simp [U.vG]
theorem JB (b : List Int) : ∀ k, (U.jK b k).length = 16 + k
 | 0 => U1 b 16
 | k + 1 => by rw [U.jK, List.length_append, JB b k]; rfl
theorem Yt {n : Nat} {l : List Int} {x y : Int} (h : l.length < n) : (U.fA n (l ++ [x])).set l.length y = U.fA n (l ++ [y]) := by
 unfold U.fA
 rw [List.set_append, if_pos (by simp), List.set_append, if_neg (by omega), Nat.sub_self]; simp
theorem agY {n : Nat} {l : List Int} (h : l.length < n) : U.fA n (l ++ [0]) = U.fA n l := by
 unfold U.fA
 rw [List.length_append, show n - l.length = (n - (l.length + 1)) + 1 by omega, List.replicate_succ]; simp
theorem ah7 (k w h : List Int) (h8 : h.length = 8) : ∀ t, (U.uX k w t h).length = 8
 | 0 => h8
 | t + 1 => rfl
set_option maxHeartbeats 2000000 in
theorem ads (h b kk : List Int) (h8 : h.length = 8) (hbl : b.length <= maxLen) (hl : 64 <= b.length) : HY h b kk := by
 rw [maxLen_eq] at hbl
 unfold HY
 simp only [cond_prop, aX, dK, bP, eF, U.qJ, U.qK, U.oP, U.oQ, U.oU, wrap_i64, decide_eq_true_eq, decide_eq_false_iff_not]
 refine ⟨(_, 0), ⟨rfl, by simp, by simp, rfl⟩, ?_⟩
 rintro ⟨w, t⟩ ⟨h0, h1, hw⟩
 simp only [] at *
 refine ⟨fun ht => ?_, fun ht => ?_⟩
 ·have hlen := U1 b t.toNat
  refine ⟨(w, t, 0), ⟨rfl, trivial, h0, ht, by simp, by simp, ?_⟩, ?_⟩
  ·show w = U.fA 64 (U.vG b t.toNat ++ [0])
   rw [agY (by omega)]; exact hw
  rintro ⟨w, t', i⟩ ⟨htt, h2, h3, h4, h5, hw⟩
  simp only [] at *
  have hlen := U1 b t'.toNat
  refine ⟨fun hi => ?_, fun hi => ?_⟩
  ·rw [show (4 * t' + 9223372036854775808) % 18446744073709551616 - 9223372036854775808 = 4 * t' by omega, show (4 * t' + i + 9223372036854775808) % 18446744073709551616 - 9223372036854775808 = 4 * t' + i by omega, show (i + 1 + 9223372036854775808) % 18446744073709551616 - 9223372036854775808 = i + 1 by omega]
   refine ⟨by omega, by omega, by omega, by omega, by omega, by omega, by omega, by omega, (_, t', i + 1), rfl, ⟨htt, h2, h3, by show 0 <= i + 1; omega, by show i + 1 <= 4; omega, ?_⟩, by show 4 - (i + 1).toNat < 4 - i.toNat; omega⟩
   show w.set t'.toNat (U.add32 (IntKind.wrap .u32 (w.getD t'.toNat 0 * 256)) (IntKind.wrap .u32 (b.getD (4 * t' + i).toNat 0))) = U.fA 64 (U.vG b t'.toNat ++ [U.wp b t'.toNat (i + 1).toNat])
   have hg : w.getD t'.toNat 0 = U.wp b t'.toNat i.toNat := by
    rw [hw, ql (by rw [List.length_append]; show t'.toNat < (U.vG b t'.toNat).length + 1; omega), getD_at (by rw [List.length_append]; show t'.toNat < (U.vG b t'.toNat).length + 1; omega), List.getElem_append_right (by omega)]; simp [hlen]
   rw [hg, show (i + 1).toNat = i.toNat + 1 by omega, U.wp, show (4 * t' + i).toNat = 4 * t'.toNat + i.toNat by omega, hw]
   have := @Yt 64 (U.vG b t'.toNat) (U.wp b t'.toNat i.toNat) (U.add32 (IntKind.wrap .u32 (U.wp b t'.toNat i.toNat * 256)) (IntKind.wrap .u32 (b.getD (4 * t'.toNat + i.toNat) 0))) (by omega)
   rw [hlen] at this; exact this
  ·rw [show (t' + 1 + 9223372036854775808) % 18446744073709551616 - 9223372036854775808 = t' + 1 by omega]
   refine ⟨(w, t' + 1), rfl, ⟨by show 0 <= t' + 1; omega, by show t' + 1 <= 16; omega, ?_⟩, ?_⟩
   ·show w = U.fA 64 (U.vG b (t' + 1).toNat)
    rw [hw, show (t' + 1).toNat = t'.toNat + 1 by omega, show i.toNat = 4 by omega]
    have : U.vG b (t'.toNat + 1) = U.vG b t'.toNat ++ [U.wp b t'.toNat 4] := by simp [U.vG, List.range_succ]
    rw [this]
   ·show 16 - (t' + 1).toNat < 16 - t.toNat
    omega
 ·have ht : t = 16 := by omega
  subst ht
  refine ⟨(_, 16), ⟨rfl, by simp, by simp, hw⟩, ?_⟩
  rintro ⟨w, t⟩ ⟨h0, h1, hw⟩
  simp only [] at *
  refine ⟨fun ht => ?_, fun ht => ?_⟩
  ·have s : ∀ c : Int, 0 <= c -> c <= 16 -> (t - c + 9223372036854775808) % 18446744073709551616 - 9223372036854775808 = t - c := fun c _ _ => by omega
   rw [s 15 (by omega) (by omega), s 2 (by omega) (by omega), s 16 (by omega) (by omega), s 7 (by omega) (by omega), show (t + 1 + 9223372036854775808) % 18446744073709551616 - 9223372036854775808 = t + 1 by omega]
   refine ⟨by omega, by omega, by omega, by omega, by omega, by omega, by omega, by omega, by omega, by omega, by omega, by omega, by omega, by omega, by omega, by omega, by omega, (_, t + 1), rfl, ⟨by show 16 <= t + 1; omega, by show t + 1 <= 64; omega, ?_⟩, by show 64 - (t + 1).toNat < 64 - t.toNat; omega⟩
   change w.set t.toNat (U.add32 (U.add32 (U.add32 (U.dB (U.dB (U.rot (w.getD (t - 2).toNat 0) 17) (U.rot (w.getD (t - 2).toNat 0) 19)) (U.shr .u32 (w.getD (t - 2).toNat 0) 10)) (w.getD (t - 7).toNat 0)) (U.dB (U.dB (U.rot (w.getD (t - 15).toNat 0) 7) (U.rot (w.getD (t - 15).toNat 0) 18)) (U.shr .u32 (w.getD (t - 15).toNat 0) 3))) (w.getD (t - 16).toNat 0)) = U.fA 64 (U.jK b ((t + 1).toNat - 16))
   have hn := JB b (t - 16).toNat
   rw [show (t + 1).toNat - 16 = (t - 16).toNat + 1 by omega, U.jK, hw, show t.toNat - 16 = (t - 16).toNat by omega, ql (by omega), ql (by omega), ql (by omega), ql (by omega)]
   have := @Di 64 (U.jK b (t - 16).toNat) (U.RH (U.jK b (t - 16).toNat)) (by omega)
   rw [hn, show 16 + (t - 16).toNat = t.toNat by omega] at this
   rw [<- this]
   unfold U.RH
   rw [hn, show 16 + (t - 16).toNat - 16 = (t - 16).toNat by omega, show 16 + (t - 16).toNat - 15 = (t - 15).toNat by omega, show 16 + (t - 16).toNat - 7 = (t - 7).toNat by omega, show 16 + (t - 16).toNat - 2 = (t - 2).toNat by omega]
  ·have hw : w = U.ni b := by
    rw [hw, show t.toNat - 16 = 48 by omega]
    unfold U.fA U.ni
    rw [JB]; simp
   refine ⟨(_, _, 0), ⟨rfl, hw, by simp, by simp, rfl⟩, ?_⟩
   rintro ⟨w, v, t⟩ ⟨hw, h0, h1, hv⟩
   simp only [] at *
   refine ⟨fun ht => ?_, fun ht => ?_⟩
   ·rw [show (t + 1 + 9223372036854775808) % 18446744073709551616 - 9223372036854775808 = t + 1 by omega]
    refine ⟨by omega, by omega, by decide, by omega, by omega, by decide, by omega, by omega, by decide, by omega, by omega, by decide, by omega, by omega, by decide, by omega, by omega, by decide, by omega, by omega, by decide, by omega, by omega, by omega, by omega, by omega, by omega, by omega, by omega, by decide, (_, _, t + 1), rfl, ⟨hw, by show 0 <= t + 1; omega, by show t + 1 <= 64; omega, ?_⟩, by show 64 - (t + 1).toNat < 64 - t.toNat; omega⟩
    show _ = U.uX kk (U.ni b) (t + 1).toNat h
    rw [show (t + 1).toNat = t.toNat + 1 by omega, U.uX, <- hv, hw]
    rfl
   ·have ht : t = 64 := by omega
    subst ht
    have hv8 := ah7 kk (U.ni b) h h8 64
    have hv : v = U.uX kk (U.ni b) 64 h := hv
    rw [<- hv] at hv8
    subst hv
    refine ⟨(_, 0), ⟨rfl, by simp, by simp, rfl⟩, ?_⟩
    rintro ⟨v, k⟩ ⟨h0, h1, hv⟩
    simp only [] at *
    have hvl : v.length = 8 := by rw [hv, List.length_append, List.length_zipWith, List.length_take, List.length_drop]; omega
    refine ⟨fun ht => ?_, fun ht => ⟨?_, trivial⟩⟩
    ·rw [show (k + 1 + 9223372036854775808) % 18446744073709551616 - 9223372036854775808 = k + 1 by omega]
     refine ⟨by omega, by omega, by omega, by omega, by omega, by omega, by omega, by omega, by omega, (_, k + 1), rfl, ⟨by show 0 <= k + 1; omega, by show k + 1 <= 8; omega, ?_⟩, by show 8 - (k + 1).toNat < 8 - k.toNat; omega⟩
     show v.set k.toNat (U.add32 (v.getD k.toNat 0) (h.getD k.toNat 0)) = List.zipWith U.add32 ((U.uX kk (U.ni b) 64 h).take (k + 1).toNat) h ++ (U.uX kk (U.ni b) 64 h).drop (k + 1).toNat
     rw [show (k + 1).toNat = k.toNat + 1 by omega, hv, adl U.add32 _ h k.toNat (by omega) (by omega)]
     exact UY U.add32 _ h k.toNat (by omega) (by omega)
    ·rw [hv, List.take_of_length_le (by omega), List.drop_eq_nil_of_le (by omega)]; simp [U.Bz]
theorem U2 (n m : Nat) (h : m <= U.zeros n) : (n + 1 + m) % 64 = 56 ↔ m = U.zeros n := by unfold U.zeros at *; omega
theorem aeT (b : List Int) (hl : b.length <= 1000000000000) : Jz b := by
 unfold Jz
 have hz := MF b.length
 simp only [cond_prop, eF, dK, dG, fB, bP, bT, maxLen_eq, wrap_i64, wrap_u64, wrap_u8, U.uf, U.ug, decide_eq_true_eq, decide_eq_false_iff_not, bne_iff_ne, bne_eq_false_iff_eq]
 refine ⟨by omega, by omega, by omega, by omega, _, ⟨rfl, 0, by omega, rfl⟩, ?_⟩
 rintro o ⟨m, hm, ho⟩
 have hol : o.length = b.length + 1 + m := by rw [ho]; simp; omega
 rw [Int.tmod_eq_emod_of_nonneg (by omega)]
 refine ⟨by omega, fun hne => ⟨by omega, by omega, _, rfl, ⟨m + 1, ?_, ?_⟩, ?_⟩, fun he => ?_⟩
 ·have := (U2 b.length m hm).2; omega
 ·show o ++ [0] = _
  rw [ho, List.replicate_succ']; simp
 ·show b.length + 1 + U.zeros b.length - (o ++ [0]).length < _
  have := (U2 b.length m hm).2
  rw [List.length_append]; show b.length + 1 + U.zeros b.length - (o.length + 1) < _; omega
 ·have hmz : m = U.zeros b.length := (U2 b.length m hm).1 (by omega)
  subst hmz
  refine ⟨(_, _, _), ⟨rfl, by simp only []; omega, by simp, by simp, by simpa using ho⟩, ?_⟩
  rintro ⟨o, n, i⟩ ⟨hn, h0, h1, ho⟩
  simp only [] at *
  have hol : o.length <= b.length + 73 := by
   rw [ho]; simp only [List.length_append, List.length_cons, List.length_replicate, List.length_take, Yl]; omega
  refine ⟨fun hi => ?_, fun hi => ⟨?_, trivial⟩⟩
  ·rw [show (8 * i + 9223372036854775808) % 18446744073709551616 - 9223372036854775808 = 8 * i by omega, show (8 * i) % 18446744073709551616 = 8 * i by omega, show (i - 1 + 9223372036854775808) % 18446744073709551616 - 9223372036854775808 = i - 1 by omega]
   rw [if_pos (by show (8 * i).toNat <= 64; omega)]
   refine ⟨by omega, by omega, by omega, (_, n, i - 1), rfl, ⟨hn, by show -1 <= i - 1; omega, by show i - 1 <= 7; omega, ?_⟩, by show (i - 1 + 1).toNat < (i + 1).toNat; omega⟩
   show o ++ [n.fdiv (Int.pow 2 (8 * i).toNat) % 256] = _
   rw [ho, show (7 - (i - 1)).toNat = (7 - i).toNat + 1 by omega, List.take_succ_eq_append_getElem (by rw [Yl]; omega)]
   have hg : ∀ (k N j : Nat) (hj : j < (U.be8 k N).length), (U.be8 k N)[j] = ((N / 256 ^ (k - 1 - j) % 256 : Nat) : Int) := by
    intro k
    induction k with
    | zero => intro N j hj; cases hj
    | succ k ih =>
      intro N j hj
      cases j with
      | zero => simp [U.be8]
      | succ j =>
        have hj' : j < (U.be8 k N).length := by simpa [U.be8] using hj
        have := ih N j hj'
        rw [show k + 1 - 1 - (j + 1) = k - 1 - j by omega, <- this]
        simp [U.be8]
   rw [hg, hn]
   have e : ((b.length : Int) * 8) = ((b.length * 8 : Nat) : Int) := by omega
   have e2 : Int.pow 2 (8 * i).toNat = ((256 ^ i.toNat : Nat) : Int) := by
    rw [show (8 * i).toNat = 8 * i.toNat by omega, show (256 : Nat) = 2 ^ 8 from rfl, <- Nat.pow_mul]
    show (2 : Int) ^ _ = _
    push_cast; rfl
   rw [e, e2, Int.fdiv_eq_ediv_of_nonneg _ (Int.natCast_nonneg _), show 8 - 1 - (7 - i).toNat = i.toNat by omega]
   simp only [List.append_assoc, List.cons_append]
   congr 4
  ·rw [ho, show (7 - i).toNat = 8 by omega, List.take_of_length_le (by rw [Yl]; omega)]; rfl
theorem aeU (b : List Int) (hl : b.length <= 1000000000000) : JA b := by
 unfold JA
 have hp := afo b
 have hz := MF b.length
 simp only [cond_prop, aX, bP, U.uh, U.um, decide_eq_true_eq, decide_eq_false_iff_not]
 have hc : (U.chunks 64 (U.pad b)).length * 64 = (U.pad b).length := by rw [Fa]; omega
 refine ⟨hl, (_, 0), ⟨rfl, by simp, by simp, 0, by simp, rfl⟩, ?_⟩
 rintro ⟨h, i⟩ ⟨h0, h1, k, hi, hh⟩
 simp only [] at *
 refine ⟨fun hlt => ?_, fun hge => ?_⟩
 ·have hk : k < (U.chunks 64 (U.pad b)).length := by omega
  have hw : IntKind.i64.wrap (i + 64) = i + 64 := by rw [wrap_i64]; omega
  have hch := QA hk
  have hcl := afp hp.1 hk
  have hsl : List.take ((i + 64).toNat - i.toNat) (List.drop i.toNat (U.pad b)) = (U.chunks 64 (U.pad b)).getD k [] := by
   rw [hch, show (i + 64).toNat - i.toNat = 64 by omega, show i.toNat = k * 64 by omega]
  rw [hw, hsl, hcl]
  refine ⟨h0, by omega, by omega, by omega, (_, i + 64), rfl, ⟨by show 0 <= i + 64; omega, by show i + 64 <= _; omega, k + 1, by show i + 64 = _; push_cast; omega, ?_⟩, by show _ - (i + 64).toNat < _; omega⟩
  show U.Bz h ((U.chunks 64 (U.pad b)).getD k []) U.consts = _
  rw [List.take_succ_eq_append_getElem hk, List.foldl_append, <- hh, getD_at hk]; rfl
 ·have hk : k = (U.chunks 64 (U.pad b)).length := by omega
  have hI : h = U.wQ b := by rw [hh, hk, List.take_length]; unfold U.wQ; rfl
  refine ⟨(_, _, _), ⟨rfl, hI, by simp, by simp, rfl⟩, ?_⟩
  rintro ⟨h, s, k⟩ ⟨hh, h0, h1, hs⟩
  simp only [] at *
  refine ⟨fun ht => ?_, fun ht => ⟨?_, trivial⟩⟩
  ·have hw : IntKind.i64.wrap (k + 1) = k + 1 := by rw [wrap_i64]; omega
   have h4 : IntKind.i64.wrap (Int.tdiv k 4) = k / 4 := by rw [Int.tdiv_eq_ediv_of_nonneg (by omega), wrap_i64]; omega
   have h5 : IntKind.u64.wrap (IntKind.i64.wrap (Int.sub 24 (IntKind.i64.wrap (Int.mul 8 (Int.tmod k 4))))) = 24 - 8 * (k % 4) := by
    rw [Int.tmod_eq_emod_of_nonneg (by omega)]; simp only [wrap_i64, wrap_u64, dK, eF]; omega
   have h6 : (if (24 - 8 * (k % 4)).toNat <= IntKind.u32.bits then (24 - 8 * (k % 4)).toNat else IntKind.u32.bits) = 24 - 8 * (k.toNat % 4) := by
    rw [if_pos (by show _ <= 32; omega)]; omega
   rw [hw, h4, h5, h6]
   refine ⟨by omega, by omega, by omega, by omega, by omega, by omega, by omega, by omega, by omega, (_, _, _), rfl, ⟨hh, by show 0 <= k + 1; omega, by show k + 1 <= 32; omega, ?_⟩, by show 32 - (k + 1).toNat < _; omega⟩
   show s.set k.toNat _ = (U.qj (U.wQ b)).take (k + 1).toNat ++ List.replicate (32 - (k + 1).toNat) 0
   have := @ado (U.qj (U.wQ b)) k.toNat 32 (Dj _) (by omega)
   rw [show (k + 1).toNat = k.toNat + 1 by omega, <- this, hs, adn _ (by omega), show (k / 4).toNat = k.toNat / 4 by omega, hh]
   unfold U.shr
   rw [show min (24 - 8 * (k.toNat % 4)) IntKind.u32.bits = 24 - 8 * (k.toNat % 4) by show min _ 32 = _; omega]
  ·rw [hs, List.take_of_length_le (by rw [Dj]; omega), show 32 - k.toNat = 0 by omega, List.replicate_zero, List.append_nil]
end Go.Proofs.YtkhdeldobekciaaGreatDoor
set_option linter.unusedSimpArgs false
set_option maxRecDepth 100000
set_option linter.unusedVariables false
namespace Go.Proofs.YtkhdeldobekciaaGreatDoor
open Go.Vc
theorem U3 : aP Tryz.prog gl 91 Hq := agd (fn := Tryz.f91) (by kernel_rfl) (by kernel_rfl) (by kernel_rfl) (by kernel_rfl) (by rfl)
theorem Ew : aI qo := .cons U3 ah4
theorem U4 (x : aG [.int .u64, .int .u64]) : bf Tryz.prog (aK qo) (Ht x.1 x.2) 90 (aY [.int .u64, .int .u64] x) [] (xC x.1 x.2) = Eu x.1 x.2 := by kernel_rfl
theorem U5 : Pok 90 [.int .u64, .int .u64] (fun x => xC x.1 x.2) := by
 refine pk (L := fun x => Ht x.1 x.2) (l := qo) Ew (fun _ => rfl) ?_
 intro x hv hp
 rw [U4]
 exact SA x.1 x.2 hv.1 hv.2
theorem U6 : aP Tryz.prog gl 90 Hr := U5
theorem Ey : aI qp := .cons U6 Ew
theorem adt (x : aG [.int .u64]) : bf Tryz.prog (aK qp) (QC x) 89 (aY [.int .u64] x) [] (zB x) = D6 x := by kernel_rfl
theorem adu : Pok 89 [.int .u64] (fun x => zB x) := by
 refine pk (L := fun x => QC x) (l := qp) Ey (fun _ => rfl) ?_
 intro x hv hp
 rw [adt]
 exact aaf x (hp (0 <= x /\ x <= 400) (by simp [zB]))
theorem adv : aP Tryz.prog gl 89 QB := adu
theorem NM : aI zC := .cons adv Ey
theorem aah (x : aG [.int .i64]) : bf Tryz.prog (aK zC) (NI x) 71 (aY [.int .i64] x) [] (wR x) = AO x := by kernel_rfl
theorem aai : Pok 71 [.int .i64] (fun x => wR x) := by
 refine pk (L := fun x => NI x) (l := zC) NM (fun _ => rfl) ?_
 intro x hv hp
 rw [aah]
 exact Yq x (hp (0 <= x /\ x <= 64) (by simp [wR]))
theorem aaj : aP Tryz.prog gl 71 NH := aai
theorem Kz : aI wS := .cons aaj NM
theorem aak (x : aG [.int .u64]) : bf Tryz.prog (aK wS) (NK x) 72 (aY [.int .u64] x) [] (D5 x) = AP x := by kernel_rfl
theorem aal : Pok 72 [.int .u64] (fun x => D5 x) := by
 refine pk (L := fun x => NK x) (l := wS) Kz (fun _ => rfl) ?_
 intro x hv hp
 rw [aak]
 exact Yr x
theorem aam : aP Tryz.prog gl 72 NJ := aal
theorem KA : aI wU := .cons aam Kz
theorem aeV (x : aG [.int .u64]) : bf Tryz.prog (aK wU) (Ud x) 73 (aY [.int .u64] x) [] (Jy x) = Hz x := by kernel_rfl
theorem aeW : Pok 73 [.int .u64] (fun x => Jy x) := by
 refine pk (L := fun x => Ud x) (l := wU) KA (fun _ => rfl) ?_
 intro x hv hp
 rw [aeV]
 exact adr x
theorem aeX : aP Tryz.prog gl 73 Uc := aeW
theorem QF : aI BA := .cons aeX KA
theorem U7 (x : aG []) : bf Tryz.prog (aK BA) (Hw ) 47 (aY [] x) [] (xE ) = vH  := by kernel_rfl
theorem U8 : Pok 47 [] (fun x => xE ) := by
 refine pk (L := fun x => Hw ) (l := BA) QF (fun _ => rfl) ?_
 intro x hv hp
 rw [U7]
 exact SB
theorem U9 : aP Tryz.prog gl 47 Hu := U8
theorem Ez : aI qw := .cons U9 QF
theorem adw (x : aG []) : bf Tryz.prog (aK qw) (QE ) 46 (aY [] x) [] (Hy ) = D7  := by kernel_rfl
theorem adx : Pok 46 [] (fun x => Hy ) := by
 refine pk (L := fun x => QE ) (l := qw) Ez (fun _ => rfl) ?_
 intro x hv hp
 rw [adw]
 exact aag
theorem ady : aP Tryz.prog gl 46 QD := adx
theorem NP : aI zD := .cons ady Ez
theorem agZ (x : aG [.int .u32, .int .u64]) : bf Tryz.prog (aK zD) (Xo x.1 x.2) 74 (aY [.int .u32, .int .u64] x) [] (MG x.1 x.2) = Ug x.1 x.2 := by kernel_rfl
theorem ag0 : Pok 74 [.int .u32, .int .u64] (fun x => MG x.1 x.2) := by
 refine pk (L := fun x => Xo x.1 x.2) (l := zD) NP (fun _ => rfl) ?_
 intro x hv hp
 rw [agZ]
 exact aeS x.1 x.2 hv.2
theorem ag1 : aP Tryz.prog gl 74 Xn := ag0
theorem Uh : aI Fh := .cons ag1 NP
theorem aeY (x : aG [tW8, aF, Yk]) : bf Tryz.prog (aK Fh) (Uf x.1 x.2.1 x.2.2) 49 (aY [tW8, aF, Yk] x) [] (BD x.1 x.2.1 x.2.2) = HY x.1 x.2.1 x.2.2 := by kernel_rfl
theorem aeZ : Pok 49 [tW8, aF, Yk] (fun x => BD x.1 x.2.1 x.2.2) := by
 refine pk (L := fun x => Uf x.1 x.2.1 x.2.2) (l := Fh) Uh (fun _ => rfl) ?_
 intro x hv hp
 rw [aeY]
 exact ads x.1 x.2.1 x.2.2 hv.1.2 hv.2.1.2 (hp (64 <= List.length x.2.1) (by simp [BD]))
theorem ae0 : aP Tryz.prog gl 49 Ue := aeZ
theorem QG : aI BF := .cons ae0 Uh
theorem ag2 (x : aG [aF]) : bf Tryz.prog (aK BF) (Xq x) 48 (aY [aF] x) [] (Fj x) = Jz x := by kernel_rfl
theorem ag3 : Pok 48 [aF] (fun x => Fj x) := by
 refine pk (L := fun x => Xq x) (l := BF) QG (fun _ => rfl) ?_
 intro x hv hp
 rw [ag2]
 exact aeT x (hp (List.length x <= 1000000000000) (by simp [Fj]))
theorem ag4 : aP Tryz.prog gl 48 Xp := ag3
theorem Ui : aI Fp := .cons ag4 QG
theorem ag5 (x : aG [aF]) : bf Tryz.prog (aK Fp) (Xt x) 23 (aY [aF] x) [] (Fq x) = JA x := by kernel_rfl
theorem ag6 : Pok 23 [aF] (fun x => Fq x) := by
 refine pk (L := fun x => Xt x) (l := Fp) Ui (fun _ => rfl) ?_
 intro x hv hp
 rw [ag5]
 exact aeU x (hp (List.length x <= 1000000000000) (by simp [Fq]))
theorem ag7 : aP Tryz.prog gl 23 Xr := ag6
theorem Uj : aI Fv := .cons ag7 Ui
end Go.Proofs.YtkhdeldobekciaaGreatDoor
