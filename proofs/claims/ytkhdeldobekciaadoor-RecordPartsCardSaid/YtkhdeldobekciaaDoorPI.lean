/- What is owed of the functions, proved in plain Lean. -/
import Derived.Test.YtkhdeldobekciaaDoorPH
import Derived.Test.YtkhdeldobekciaaDoorPG
set_option linter.unusedSimpArgs false
set_option linter.unusedVariables false
set_option maxRecDepth 100000
namespace Go.Proofs.YtkhdeldobekciaaDoor
open Go.Vc
open Go.Vc.T
theorem NZ {a b : Int} (k : Nat) (ha : 0 <= a) (hb : 0 <= b) (hbk : b < 2 ^ k) (h : 2 ^ k * a + b < 4294967296) : T.orK .u32 (2 ^ k * a) b = 2 ^ k * a + b := by
 obtain ⟨m, rfl⟩ := Int.eq_ofNat_of_zero_le ha
 obtain ⟨n, rfl⟩ := Int.eq_ofNat_of_zero_le hb
 have e : ((2 : Int) ^ k * (m : Int)) = ((2 ^ k * m : Nat) : Int) := by push_cast; rfl
 have e2 : ((2 : Int) ^ k) = ((2 ^ k : Nat) : Int) := by push_cast; rfl
 rw [e] at h ⊢
 rw [e2] at hbk
 have hbk : n < 2 ^ k := by omega
 have hor := Nat.two_pow_add_eq_or_of_lt hbk m
 generalize 2 ^ k * m = q at *
 unfold T.orK
 have b0 : (IntKind.u32).bits = 32 := rfl
 rw [b0, BitVec.ofInt_natCast, BitVec.ofInt_natCast, wrap_u32, BitVec.toNat_or, BitVec.toNat_ofNat, BitVec.toNat_ofNat, Nat.mod_eq_of_lt (by omega), Nat.mod_eq_of_lt (by omega), <- hor]
 omega
theorem XU {b : List Int} (hb : ∀ x ∈ b, Valid (.int .u8) x) (i : Nat) : 0 <= b.getD i 0 /\ b.getD i 0 <= 255 := by
 by_cases h : i < b.length
 ·rw [getD_at h]; exact vU8 (hb _ (List.getElem_mem h))
 ·rw [List.getD_eq_getElem?_getD, List.getElem?_eq_none (by omega)]; simp
theorem EK (x k : Int) : rC x k := by
 refine ⟨?_, ?_, rfl, trivial⟩ <;> (rw [wrap_u64]; omega)
theorem abA (x n : Int) : Qm x n := ⟨rfl, trivial⟩
theorem adq (b : List Int) (hb : ∀ x ∈ b, Valid (.int .u8) x) (hl : 4 <= b.length) : Ju b := by
 unfold Ju
 have h0 := XU hb 0
 have h1 := XU hb 1
 have h2 := XU hb 2
 have h3 := XU hb 3
 refine ⟨by omega, by omega, by omega, by omega, by omega, by omega, by omega, by omega, by omega, by omega, by omega, ?_, trivial⟩
 have p24 : Int.pow 2 (if Int.toNat 24 <= IntKind.u32.bits then Int.toNat 24 else IntKind.u32.bits) = 2 ^ 24 := by decide +kernel
 have p16 : Int.pow 2 (if Int.toNat 16 <= IntKind.u32.bits then Int.toNat 16 else IntKind.u32.bits) = 2 ^ 16 := by decide +kernel
 have p8 : Int.pow 2 (if Int.toNat 8 <= IntKind.u32.bits then Int.toNat 8 else IntKind.u32.bits) = 2 ^ 8 := by decide +kernel
 simp only [p24, p16, p8, ad2, gB, show Int.toNat 0 = 0 from rfl, show Int.toNat 1 = 1 from rfl, show Int.toNat 2 = 2 from rfl, show Int.toNat 3 = 3 from rfl]
 unfold U.word
 generalize b.getD 0 0 = w0 at *
 generalize b.getD 1 0 = w1 at *
 generalize b.getD 2 0 = w2 at *
 generalize b.getD 3 0 = w3 at *
 simp only [wrap_u32]
 rw [show w0 % 4294967296 * 2 ^ 24 % 4294967296 = 2 ^ 24 * w0 by omega, show w1 % 4294967296 * 2 ^ 16 % 4294967296 = 2 ^ 16 * w1 by omega, show w2 % 4294967296 * 2 ^ 8 % 4294967296 = 2 ^ 8 * w2 by omega, show w3 % 4294967296 = w3 by omega]
 rw [NZ 24 (by omega) (by omega) (by omega) (by omega), show (2 : Int) ^ 24 * w0 + 2 ^ 16 * w1 = 2 ^ 16 * (2 ^ 8 * w0 + w1) by omega, NZ 16 (by omega) (by omega) (by omega) (by omega),
  show (2 : Int) ^ 16 * (2 ^ 8 * w0 + w1) + 2 ^ 8 * w2 = 2 ^ 8 * (2 ^ 16 * w0 + 2 ^ 8 * w1 + w2) by omega, NZ 8 (by omega) (by omega) (by omega) (by omega)]
 omega
theorem VO {l : List (List Int)} {i : Int} (h0 : 0 <= i) (h : i < l.length) : (l.take (i + 1).toNat).flatten = (l.take i.toNat).flatten ++ l.getD i.toNat [] := by
 rw [take_at h0 h, getD_at (by omega), List.flatten_append]; simp only [List.flatten_cons, List.flatten_nil, List.append_nil]
theorem OQ (l : List (List Int)) (i : Nat) : (l.take i).flatten.length <= l.flatten.length := by
 conv => rhs; rw [<- List.take_append_drop i l]
 rw [List.flatten_append, List.length_append]; omega
theorem Df (l : List (List Int)) (hl : l.length <= maxLen) (hf : l.flatten.length <= 70000000000000) : jS l := by
 unfold jS
 rw [maxLen_eq] at hl
 simp only [cond_prop, bG, eF, bW, dR, iD, dn, gB, U.eY, U.bZ, U.at_, maxLen_eq, wrap_i64, decide_eq_true_eq, decide_eq_false_iff_not]
 have two : ∃ (x0 : List Int × Int), (U.aZ l [] 0 = U.aZ l x0.fst x0.snd /\ (0 <= x0.snd /\ x0.snd <= l.length) /\ x0.fst = (l.take x0.snd.toNat).flatten) := ⟨([], 0), rfl, by simp, by simp⟩
 refine ⟨(_, _), ⟨rfl, by simp⟩, fun ⟨n, i⟩ ⟨⟨h0, h1⟩, h2⟩ => ⟨fun hi => ?_, fun hi => ?_⟩⟩
 ·have hi : i < l.length := hi
  have ht := VO h0 hi
  have hle := OQ l (i + 1).toNat
  have hle := OQ l i.toNat
  have he := congrArg List.length ht
  rw [List.length_append] at he
  refine ⟨h0, hi, fun h => ?_, fun _ => ⟨(_, _), rfl, ⟨⟨?_, ?_⟩, ?_⟩, ?_⟩⟩ <;> simp only [] at * <;> first | omega | skip
  rw [show (i + 1 + 9223372036854775808) % 18446744073709551616 - 9223372036854775808 = i + 1 by omega]
  omega
 ·have hi : ¬ i < l.length := hi
  have hii : i = l.length := by simp only [] at *; omega
  have hle := OQ l i.toNat
  refine ⟨fun h => ?_, fun h => ⟨fun h7 => ⟨by omega, by omega, by omega, ?_, ?_, ?_, by omega, by omega, ?_, ([], 0), ⟨rfl, by simp⟩, ?_⟩, fun h7 => ⟨([], 0), ⟨rfl, by simp⟩, ?_⟩⟩⟩ <;> (try (simp only [] at *; omega))
  all_goals
   rintro ⟨o, j⟩ ⟨⟨h3, h4⟩, h5⟩
   refine ⟨fun hj => ?_, fun hj => ⟨?_, trivial⟩⟩
   ·have hj : j < l.length := hj
    have ht := VO h3 hj
    have hle := OQ l (j + 1).toNat
    have he := congrArg List.length ht
    rw [List.length_append] at he
    simp only [] at *
    subst h5
    refine ⟨h3, hj, by omega, by omega, (_, _), rfl, ⟨⟨?_, ?_⟩, ?_⟩, ?_⟩ <;> simp only [] <;> first | omega | skip
    rw [show (j + 1 + 9223372036854775808) % 18446744073709551616 - 9223372036854775808 = j + 1 by omega]
    exact ht.symm
   ·have h5 : o = _ := h5
    rw [h5]; simp only [] at *; rw [oG (by omega)]
theorem Jw (m : Nat) (l : List Int) : (U.chunks m l).length = (l.length + m - 1) / m := by simp [U.chunks]
theorem VP {m : Nat} {l : List Int} {k : Nat} (h : k < (U.chunks m l).length) : (U.chunks m l).getD k [] = (l.drop (k * m)).take m := by
 rw [getD_at h]; simp [U.chunks]
theorem BF (s : List Int) (n : Int) (h1 : 1 <= n) (h2 : n <= 4294967296) (h3 : s.length <= 4611686018427387904) : jH s n := by
 obtain ⟨m, rfl⟩ := Int.eq_ofNat_of_zero_le (show 0 <= n by omega)
 have hm : 0 < m := by omega
 unfold jH
 simp only [cond_prop, bG, eF, bW, dR, iD, abP, U.eu, wrap_i64, decide_eq_true_eq, decide_eq_false_iff_not, List.length_take, List.length_drop]
 refine ⟨(0, 0), ⟨rfl, ?_⟩, ?_⟩
 ·simp only []; omega
 ·rintro ⟨i, k⟩ ⟨e, hlt⟩
  simp only [] at *
  have e : i = ((k * m : Nat) : Int) := by rw [e]; push_cast; rfl
  have hr : ((m : Int)).toNat = m := by omega
  have hs : ((s.length : Int)).toNat = s.length := by omega
  have hk1 : ((k + 1 : Nat) : Int) * (m : Int) = ((k * m : Nat) : Int) + m := by push_cast; rw [Int.add_mul]; omega
  rw [hr, hs]
  refine ⟨fun hi => ?_, fun hi => ?_⟩
  ·have hkc : k < (U.chunks m s).length := by
    rw [Jw]
    have := (Nat.le_div_iff_mul_le hm (x := k + 1) (y := s.length + m - 1)).2 (by rw [Nat.succ_mul]; omega)
    omega
   have hit : i.toNat = k * m := by omega
   refine ⟨by omega, by omega, by omega, by omega, by omega, by omega, by omega, hkc, ?_, ⟨(i + m, k + 1), ?_, ⟨?_, ?_⟩, ?_⟩, trivial⟩
   ·rw [VP hkc, hit]
    have hd : (s.drop (k * m)).length = s.length - k * m := List.length_drop
    by_cases hb : m <= s.length - k * m
    ·congr 1; omega
    ·rw [List.take_of_length_le (i := m) (by omega), List.take_of_length_le (by omega)]
   ·rw [show (i + (m : Int) + 9223372036854775808) % 18446744073709551616 - 9223372036854775808 = i + m by omega]
   ·show i + (m : Int) = ((k + 1 : Nat) : Int) * m; omega
   ·show i + (m : Int) < _; omega
   ·show (s.length + (m : Int) - (i + m)).toNat < _; omega
  ·rw [Jw]
   refine (Nat.div_eq_of_lt_le ?_ ?_).symm
   ·show k * m <= _; omega
   ·rw [Nat.succ_mul]; omega
theorem aal (n : Nat) : U.zeros n < 64 := by unfold U.zeros; omega
theorem VQ (k N : Nat) (h : N < 256 ^ k) : ∀ j, U.be8 (k + j) N = List.replicate j 0 ++ U.be8 k N
 | 0 => rfl
 | j + 1 => by
   have h2 : N < 256 ^ (k + j) := Nat.lt_of_lt_of_le h (Nat.pow_le_pow_right (by omega) (by omega))
   rw [show k + (j + 1) = (k + j) + 1 from rfl, U.be8, VQ k N h j, Nat.div_eq_of_lt h2]; simp [List.replicate_succ]
theorem aej (b : List Int) (hl : b.length <= 1000000000000) : NW b := by
 unfold NW
 have hz := aal b.length
 have hw : IntKind.i64.wrap (((IntKind.i64.wrap (Int.sub 119 (Int.tmod (b.length : Int) 64))).tmod 64).add 8) = (U.zeros b.length : Int) + 8 := by
  simp only [bG, eF, wrap_i64]
  rw [Int.tmod_eq_emod_of_nonneg (show 0 <= (b.length : Int) by omega), Int.tmod_eq_emod_of_nonneg (by omega)]
  unfold U.zeros; omega
 rw [hw]
 have hn : ((U.zeros b.length : Int) + 8).toNat = U.zeros b.length + 8 := by omega
 rw [hn]
 have h8 : (if Int.toNat 8 <= IntKind.u64.bits then Int.toNat 8 else IntKind.u64.bits) = 8 := by decide
 generalize hN : b.length * 8 = N at *
 simp only [cond_prop, bG, eF, gB, dn, h8, List.append_nil, List.length_append, List.length_cons, List.length_replicate, decide_eq_true_eq, decide_eq_false_iff_not, U.xW, wrap_i64, wrap_u64, hN]
 refine ⟨by omega, by omega, by omega, by omega, by omega, by omega, by omega, (_, _, _), ⟨rfl, 0, by omega, ?_, ?_, ?_⟩, ?_⟩
 ·rw [show N / 256 ^ 0 = N by simp]; simp only []; omega
 ·simp only []; omega
 ·simp [U.be8]
 ·rintro ⟨o, n, i⟩ ⟨k, hk, hn, hi, ho⟩
  simp only [] at *
  have hol : o.length = b.length + (U.zeros b.length + 8 + 1) := by
   have : ∀ k, (U.be8 k N).length = k := fun k => by induction k with | zero => rfl | succ k ih => rw [U.be8, List.length_cons, ih]
   rw [ho]; simp only [List.length_append, List.length_cons, List.length_replicate, this]; omega
  refine ⟨fun hpos => ?_, fun hpos => ⟨?_, trivial⟩⟩
  ·have hge : 256 ^ k <= N := by
    rcases Nat.lt_or_ge N (256 ^ k) with h | h
    ·rw [Nat.div_eq_of_lt h] at hn; omega
    ·exact h
   have hk8 : k < 8 := by
    rcases Nat.lt_or_ge k 8 with h | h
    ·exact h
    ·have : 256 ^ 8 <= 256 ^ k := Nat.pow_le_pow_right (by omega) h
     omega
   have hdiv : N / 256 ^ (k + 1) = N / 256 ^ k / 256 := by rw [Nat.pow_succ, Nat.div_div_eq_div_mul]
   have hfd : n.fdiv (Int.pow 2 8) = ((N / 256 ^ (k + 1) : Nat) : Int) := by
    rw [show Int.pow 2 8 = 256 from by decide, Int.fdiv_eq_ediv_of_nonneg _ (by omega), hdiv]; omega
   refine ⟨by omega, by omega, by omega, by omega, (_, _, _), rfl, ⟨k + 1, by omega, hfd, ?_, ?_⟩, ?_⟩
   ·simp only []; omega
   ·simp only [wrap_u8]
    rw [ho, show i.toNat = b.length + (1 + (U.zeros b.length + (8 - (k + 1)))) by omega, List.set_append, if_neg (by omega), show U.zeros b.length + (8 - k) = (U.zeros b.length + (8 - (k + 1))) + 1 by omega, List.replicate_succ', show b.length + (1 + (U.zeros b.length + (8 - (k + 1)))) - b.length = (U.zeros b.length + (8 - (k + 1))) + 1 by omega, List.set_cons_succ, List.append_assoc, List.set_append, if_neg (by simp), List.length_replicate, Nat.sub_self, U.be8]
    simp only [List.cons_append, List.nil_append, List.set_cons_zero]
    rw [hn]; simp
   ·show (n.fdiv (Int.pow 2 8)).toNat < n.toNat
    rw [hfd, hdiv]; omega
  ·have h0 : N < 256 ^ k := by
    rcases Nat.lt_or_ge N (256 ^ k) with h | h
    ·exact h
    ·have := Nat.div_pos h (Nat.pow_pos (by omega : 0 < 256)); omega
   have hb := VQ k N h0 (8 - k)
   rw [show k + (8 - k) = 8 by omega] at hb
   unfold U.pad
   rw [hN, hb, ho, <- List.append_assoc (List.replicate (U.zeros b.length) 0), List.replicate_append_replicate]
theorem VR {n : Nat} {l : List Int} {x : Int} (h : l.length < n) : (U.zG n l).set l.length x = U.zG n (l ++ [x]) := by
 unfold U.zG
 rw [List.set_append, if_neg (by omega), Nat.sub_self, show n - l.length = (n - (l ++ [x]).length) + 1 by simp; omega, List.replicate_succ, List.set_cons_zero, List.append_assoc]; rfl
theorem Jy {n j : Nat} {l : List Int} (h : j < l.length) : (U.zG n l).getD j 0 = l.getD j 0 := by
 unfold U.zG; rw [getD_at h, getD_at (by rw [List.length_append]; omega), List.getElem_append_left h]
theorem Gz (b : List Int) (t : Nat) : (U.sH b t).length = t := by simp [U.sH]
theorem Dh (b : List Int) : ∀ k, (U.tZ b k).length = 16 + k
 | 0 => Gz b 16
 | k + 1 => by rw [U.tZ, List.length_append, Dh b k]; rfl
theorem U3 (b : List Int) (hv : b.length <= maxLen) (hl : 64 <= b.length) : y8 b := by
 unfold y8
 rw [maxLen_eq] at hv
 simp only [cond_prop, bG, eF, bW, gB, U.mG, U.mJ, wrap_i64, decide_eq_true_eq, decide_eq_false_iff_not]
 refine ⟨(_, _), ⟨rfl, by simp, by simp, ?_⟩, ?_⟩
 ·rfl
 rintro ⟨w, t⟩ ⟨h0, h1, hw⟩
 simp only [] at *
 refine ⟨fun ht => ?_, fun ht => ?_⟩
 ·rw [show (4 * t + 9223372036854775808) % 18446744073709551616 - 9223372036854775808 = 4 * t by omega, show (t + 1 + 9223372036854775808) % 18446744073709551616 - 9223372036854775808 = t + 1 by omega, show ((b.length : Int)).toNat = b.length by omega]
  have hd : (b.drop (4 * t).toNat).length = b.length - (4 * t).toNat := List.length_drop
  rw [List.take_of_length_le (by omega)]
  refine ⟨by omega, by omega, by omega, by omega, by omega, by omega, by omega, (_, _), rfl, ⟨by show 0 <= t + 1; omega, by show t + 1 <= 16; omega, ?_⟩, by show 16 - (t + 1).toNat < _; omega⟩
  show w.set t.toNat _ = U.zG 64 (U.sH b (t + 1).toNat)
  have hs : U.sH b (t + 1).toNat = U.sH b t.toNat ++ [U.word (b.drop (4 * t).toNat)] := by
   rw [show (t + 1).toNat = t.toNat + 1 by omega, show (4 * t).toNat = 4 * t.toNat by omega]
   simp [U.sH, List.range_succ]
  rw [hs, hw]
  have := @VR 64 (U.sH b t.toNat) (U.word (b.drop (4 * t).toNat)) (by rw [Gz]; omega)
  rw [Gz] at this; exact this
 ·have ht : t = 16 := by omega
  subst ht
  refine ⟨(_, _), ⟨rfl, by simp, by simp, hw⟩, ?_⟩
  rintro ⟨w, t⟩ ⟨h0, h1, hw⟩
  simp only [] at *
  refine ⟨fun ht => ?_, fun ht => ⟨?_, trivial⟩⟩
  ·have e : ∀ c : Int, -16 <= c -> c <= 16 -> (t + c + 9223372036854775808) % 18446744073709551616 - 9223372036854775808 = t + c := fun c _ _ => by omega
   have s : ∀ c : Int, 0 <= c -> c <= 16 -> (t - c + 9223372036854775808) % 18446744073709551616 - 9223372036854775808 = t - c := fun c _ _ => by omega
   rw [s 15 (by omega) (by omega), s 2 (by omega) (by omega), s 16 (by omega) (by omega), s 7 (by omega) (by omega), e 1 (by omega) (by omega)]
   refine ⟨by omega, by omega, by omega, by omega, by omega, by omega, by omega, by omega, by omega, by omega, by omega, by omega, by omega, by omega, by omega, by omega, by omega, (_, _), rfl, ⟨by show 16 <= t + 1; omega, by show t + 1 <= 64; omega, ?_⟩, by show 64 - (t + 1).toNat < _; omega⟩
   change w.set t.toNat (U.add32 (U.add32 (U.add32 (w.getD (t - 16).toNat 0) (U.s0 (w.getD (t - 15).toNat 0))) (w.getD (t - 7).toNat 0)) (U.s1 (w.getD (t - 2).toNat 0))) = U.zG 64 (U.tZ b ((t + 1).toNat - 16))
   have hn := Dh b (t - 16).toNat
   rw [show (t + 1).toNat - 16 = (t - 16).toNat + 1 by omega, U.tZ, hw, show t.toNat - 16 = (t - 16).toNat by omega, Jy (by omega), Jy (by omega), Jy (by omega), Jy (by omega)]
   have := @VR 64 (U.tZ b (t.toNat - 16)) (U.adp (U.tZ b (t.toNat - 16))) (by rw [Dh]; omega)
   rw [show t.toNat - 16 = (t - 16).toNat by omega, hn, show 16 + (t - 16).toNat = t.toNat by omega] at this
   rw [<- this]
   unfold U.adp
   rw [hn, show 16 + (t - 16).toNat - 16 = (t - 16).toNat by omega, show 16 + (t - 16).toNat - 15 = (t - 15).toNat by omega, show 16 + (t - 16).toNat - 7 = (t - 7).toNat by omega, show 16 + (t - 16).toNat - 2 = (t - 2).toNat by omega]
  ·rw [hw, show t.toNat - 16 = 48 by omega]
   unfold U.zG U.sched
   rw [Dh]; simp
theorem aam (f : Int -> Int -> Int) : ∀ (h v : List Int) (k : Nat), k < h.length -> k < v.length -> (List.zipWith f (h.take k) v ++ h.drop k).set k (f (h.getD k 0) (v.getD k 0)) = List.zipWith f (h.take (k + 1)) v ++ h.drop (k + 1)
 | a :: h, c :: v, 0, _, _ => by simp
 | a :: h, c :: v, k + 1, h1, h2 => by
   have := aam f h v k (by simpa using h1) (by simpa using h2)
   simpa using this
 | [], _, _, h1, _ => by simp at h1
 | _ :: _, [], _, _, h2 => by simp at h2
theorem aek (f : Int -> Int -> Int) : ∀ (h v : List Int) (k : Nat), k < h.length -> k < v.length -> (List.zipWith f (h.take k) v ++ h.drop k).getD k 0 = h.getD k 0
 | a :: h, c :: v, 0, _, _ => by simp
 | a :: h, c :: v, k + 1, h1, h2 => by
   have := aek f h v k (by simpa using h1) (by simpa using h2)
   simpa using this
 | [], _, _, h1, _ => by simp at h1
 | _ :: _, [], _, _, h2 => by simp at h2
set_option maxHeartbeats 1000000 in
theorem adr (h b : List Int) (h8 : h.length = 8) (hl : 64 <= b.length) : Jv h b := by
 unfold Jv
 simp only [cond_prop, bW, U.ug, U.qY, decide_eq_true_eq, decide_eq_false_iff_not]
 refine ⟨by omega, by omega, by decide, by omega, by omega, by decide, by omega, by omega, by decide, by omega, by omega, by decide, by omega, by omega, by decide, by omega, by omega, by decide, by omega, by omega, by decide, by omega, by omega, by decide, hl, (_, _, _, _, _, _, _, _, _), ⟨rfl, by simp, by simp, rfl⟩, ?_⟩
 rintro ⟨a, b', c, d, e, f, g, i, t⟩ ⟨h0, h1, hI⟩
 simp only [] at *
 refine ⟨fun ht => ?_, fun ht => ?_⟩
 ·have hw : IntKind.i64.wrap (Int.add t 1) = t + 1 := by rw [wrap_i64, bG]; omega
  rw [hw]
  refine ⟨by omega, by omega, by omega, by omega, (_, _, _, _, _, _, _, _, _), rfl, ⟨by show 0 <= t + 1; omega, by show t + 1 <= 64; omega, ?_⟩, by show 64 - (t + 1).toNat < _; omega⟩
  show _ = U.Gy (U.sched b) (t + 1).toNat (U.st8 h)
  rw [show (t + 1).toNat = t.toNat + 1 by omega, U.Gy, <- hI]
  rfl
 ·have ht : t = 64 := by omega
  subst ht
  have hI : (a, b', c, d, e, f, g, i) = U.Gy (U.sched b) 64 (U.st8 h) := hI
  generalize U.Gy (U.sched b) 64 (U.st8 h) = r at *
  subst hI
  refine ⟨(_, _, _), ⟨rfl, by simp, by simp, rfl, by simp⟩, ?_⟩
  rintro ⟨v, hh, k⟩ ⟨h0, h1, hv, hh'⟩
  simp only [] at *
  have hvl : v.length = 8 := by rw [hv]; rfl
  have hw : k < 8 -> IntKind.i64.wrap (Int.add k 1) = k + 1 := fun _ => by rw [wrap_i64, bG]; omega
  refine ⟨fun ht => ?_, fun ht => ⟨?_, trivial⟩⟩
  ·rw [hw ht]
   refine ⟨by omega, by omega, by omega, by omega, by omega, by omega, by omega, by omega, (_, _, _), rfl, ⟨by show 0 <= k + 1; omega, by show k + 1 <= 8; omega, hv, ?_⟩, by show 8 - (k + 1).toNat < _; omega⟩
   show hh.set k.toNat (U.add32 (hh.getD k.toNat 0) (v.getD k.toNat 0)) = List.zipWith U.add32 (h.take (k + 1).toNat) v ++ h.drop (k + 1).toNat
   rw [show (k + 1).toNat = k.toNat + 1 by omega, hh', aek U.add32 h v k.toNat (by omega) (by omega)]
   exact aam U.add32 h v k.toNat (by omega) (by omega)
  ·rw [hh', List.take_of_length_le (by omega), List.drop_eq_nil_of_le (by omega), hv]; simp
theorem afR (b : List Int) : (U.pad b).length % 64 = 0 /\ (U.pad b).length = b.length + U.zeros b.length + 9 := by
 have : ∀ k n, (U.be8 k n).length = k := fun k n => by induction k with | zero => rfl | succ k ih => rw [U.be8, List.length_cons, ih]
 have h : (U.pad b).length = b.length + U.zeros b.length + 9 := by
  unfold U.pad; simp only [List.length_append, List.length_cons, List.length_replicate, this]; omega
 refine ⟨?_, h⟩
 rw [h]; unfold U.zeros; omega
theorem afS {l : List Int} (h : l.length % 64 = 0) {k : Nat} (hk : k < (U.chunks 64 l).length) : ((U.chunks 64 l).getD k []).length = 64 := by
 rw [VP hk]
 rw [Jw] at hk
 rw [List.length_take, List.length_drop]; omega
theorem N7 (h : List Int) : (U.FM h).length = 32 := by simp [U.FM]
theorem ae1 (h : List Int) {k : Nat} (hk : k < 32) : (U.FM h).getD k 0 = IntKind.wrap .u8 (U.shr .u32 (h.getD (k / 4) 0) (24 - 8 * (k % 4))) := by
 rw [getD_at (by rw [N7]; exact hk)]; simp [U.FM]
theorem ae2 {l : List Int} {k n : Nat} (h : l.length = n) (hk : k < n) : (l.take k ++ List.replicate (n - k) 0).set k (l.getD k 0) = l.take (k + 1) ++ List.replicate (n - (k + 1)) 0 := by
 have hl : (l.take k).length = k := by rw [List.length_take]; omega
 rw [List.set_append, if_neg (by omega), hl, Nat.sub_self, show n - k = (n - (k + 1)) + 1 by omega, List.replicate_succ, List.set_cons_zero, List.take_succ_eq_append_getElem (by omega), getD_at (by omega), List.append_assoc]; rfl
theorem ael (b : List Int) (hl : b.length <= 1000000000000) : NY b := by
 unfold NY
 have hp := afR b
 have hz := aal b.length
 have e64 : Int.toNat 64 = 64 := rfl
 rw [e64]
 simp only [cond_prop, bW, dR, U.sJ, U.xX, decide_eq_true_eq, decide_eq_false_iff_not]
 refine ⟨hl, fun h => by omega, fun _ => ⟨by omega, by omega, by omega, (_, 0), ⟨rfl, by rfl, rfl⟩, ?_, ?_⟩⟩
 ·rintro ⟨h, k⟩ hI hk
  simp only [] at *
  refine ⟨by rw [afS hp.1 hk]; omega, (_, k + 1), rfl, ?_, rfl⟩
  show U.step h ((U.chunks 64 (U.pad b)).getD k []) = _
  rw [List.take_succ_eq_append_getElem hk, List.foldl_append, <- hI, getD_at hk]; rfl
 ·rintro ⟨h, k⟩ hI hk
  simp only [] at *
  have hI : h = U.sums b := by rw [hI, hk, List.take_length]; rfl
  refine ⟨(_, _, _), ⟨rfl, by simp, by simp, hI, rfl⟩, ?_⟩
  rintro ⟨s, h, k⟩ ⟨h0, h1, hh, hs⟩
  simp only [] at *
  refine ⟨fun ht => ?_, fun ht => ⟨?_, trivial⟩⟩
  ·have hw : IntKind.i64.wrap (Int.add k 1) = k + 1 := by rw [wrap_i64, bG]; omega
   have h4 : IntKind.i64.wrap (Int.tdiv k 4) = k / 4 := by rw [Int.tdiv_eq_ediv_of_nonneg (by omega), wrap_i64]; omega
   have h5 : IntKind.i64.wrap (Int.sub 24 (IntKind.i64.wrap (Int.mul 8 (Int.tmod k 4)))) = 24 - 8 * (k % 4) := by
    rw [Int.tmod_eq_emod_of_nonneg (by omega)]; simp only [wrap_i64, eF, gB]; omega
   have h6 : (if (24 - 8 * (k % 4)).toNat <= IntKind.u32.bits then (24 - 8 * (k % 4)).toNat else IntKind.u32.bits) = 24 - 8 * (k.toNat % 4) := by
    rw [if_pos (by show _ <= 32; omega)]; omega
   rw [hw, h4, h5, h6]
   refine ⟨by omega, by omega, by omega, by omega, by omega, by omega, by omega, by omega, by omega, (_, _, _), rfl, ⟨by show 0 <= k + 1; omega, by show k + 1 <= 32; omega, hh, ?_⟩, by show 32 - (k + 1).toNat < _; omega⟩
   show s.set k.toNat _ = (U.FM h).take (k + 1).toNat ++ List.replicate (32 - (k + 1).toNat) 0
   have := @ae2 (U.FM h) k.toNat 32 (N7 h) (by omega)
   rw [show (k + 1).toNat = k.toNat + 1 by omega, <- this, hs, ae1 h (by omega), show (k / 4).toNat = k.toNat / 4 by omega]
   unfold U.shr
   rw [show min (24 - 8 * (k.toNat % 4)) IntKind.u32.bits = 24 - 8 * (k.toNat % 4) by show min _ 32 = _; omega]
  ·rw [hs, List.take_of_length_le (by rw [N7]; omega), show 32 - k.toNat = 0 by omega, List.replicate_zero, List.append_nil, hh]; rfl
end Go.Proofs.YtkhdeldobekciaaDoor
set_option linter.unusedSimpArgs false
set_option maxRecDepth 100000
set_option linter.unusedVariables false
namespace Go.Proofs.YtkhdeldobekciaaDoor
open Go.Vc
theorem ES (x : aI [.int .u32, .int .i64]) : bM Tryd.prog (aU xU) (sQ x.1 x.2) 73 (bK [.int .u32, .int .i64] x) [] (lC x.1 x.2) = rC x.1 x.2 := by kernel_rfl
theorem ET : Pok 73 [.int .u32, .int .i64] (fun x => lC x.1 x.2) := by
 refine pk (L := fun x => sQ x.1 x.2) (l := xU) Kr (fun _ => rfl) ?_
 intro x hv hp
 rw [ES]
 exact EK x.1 x.2
theorem EU : aY Tryd.prog gl 73 sO := ET
theorem rD : aS iW := .cons EU Kr
theorem ads (x : aI [.int .u32, .int .i64]) : bM Tryd.prog (aU iW) (TV x.1 x.2) 64 (bK [.int .u32, .int .i64] x) [] (Jp x.1 x.2) = Qm x.1 x.2 := by kernel_rfl
theorem adt : Pok 64 [.int .u32, .int .i64] (fun x => Jp x.1 x.2) := by
 refine pk (L := fun x => TV x.1 x.2) (l := iW) rD (fun _ => rfl) ?_
 intro x hv hp
 rw [ads]
 exact abA x.1 x.2
theorem adu : aY Tryd.prog gl 64 TU := adt
theorem Qn : aS Dc := .cons adu rD
theorem aem (x : aI [aG]) : bM Tryd.prog (aU Dc) (VK x) 72 (bK [aG] x) [] (FN x) = Ju x := by kernel_rfl
theorem aen : Pok 72 [aG] (fun x => FN x) := by
 refine pk (L := fun x => VK x) (l := Dc) Qn (fun _ => rfl) ?_
 intro x hv hp
 rw [aem]
 exact adq x hv.1 (hp (4 <= List.length x) (by simp [FN]))
theorem aeo : aY Tryd.prog gl 72 VJ := aen
theorem TW : aS FP := .cons aeo Qn
theorem EL (x : aI [OO]) : bM Tryd.prog (aU FP) (ru x) 14 (bK [OO] x) [] (iP x) = jS x := by kernel_rfl
theorem EM : Pok 14 [OO] (fun x => iP x) := by
 refine pk (L := fun x => ru x) (l := FP) TW (fun _ => rfl) ?_
 intro x hv hp
 rw [EL]
 exact Df x hv.2 (hp (x.flatten.length <= 70000000000000) (by simp [iP]))
theorem EN : aY Tryd.prog gl 14 qZ := EM
theorem qm : aS iQ := .cons EN TW
theorem Di (x : aI [aG, .int .i64]) : Oy Tryd.prog (aU iQ) (ql x.1 x.2) 62 dS x = jH x.1 x.2 := by kernel_rfl
theorem Dj : Sm Tryd.prog gl 62 dS := by
 refine pkq (L := fun x => ql x.1 x.2) (l := iQ) qm (by kernel_rfl) ?_
 intro x hv hp
 exact Eq.mpr (Di x) (BF x.1 x.2 (hp (1 <= x.2) (by simp [dS, gX])) (hp (x.2 <= 4294967296) (by simp [dS, gX])) (hp (x.1.length <= 4611686018427387904) (by simp [dS, gX])))
theorem o9 : aS iF := .cons Dj qm
theorem ae3 (x : aI [aG]) : bM Tryd.prog (aU iF) (aai x) 48 (bK [aG] x) [] (Jq x) = NW x := by kernel_rfl
theorem ae4 : Pok 48 [aG] (fun x => Jq x) := by
 refine pk (L := fun x => aai x) (l := iF) o9 (fun _ => rfl) ?_
 intro x hv hp
 rw [ae3]
 exact aej x (hp (List.length x <= 1000000000000) (by simp [Jq]))
theorem ae5 : aY Tryd.prog gl 48 aah := ae4
theorem VT : aS Jr := .cons ae5 o9
theorem Xh (x : aI [aG]) : bM Tryd.prog (aU Jr) (Ku x) 63 (bK [aG] x) [] (uO x) = y8 x := by kernel_rfl
theorem Xi : Pok 63 [aG] (fun x => uO x) := by
 refine pk (L := fun x => Ku x) (l := Jr) VT (fun _ => rfl) ?_
 intro x hv hp
 rw [Xh]
 exact U3 x hv.2 (hp (64 <= List.length x) (by simp [uO]))
theorem Xj : aY Tryd.prog gl 63 Kt := Xi
theorem Ic : aS uP := .cons Xj VT
theorem aep (x : aI [tW8, aG]) : bM Tryd.prog (aU uP) (VN x.1 x.2) 49 (bK [tW8, aG] x) [] (FQ x.1 x.2) = Jv x.1 x.2 := by kernel_rfl
theorem aer : Pok 49 [tW8, aG] (fun x => FQ x.1 x.2) := by
 refine pk (L := fun x => VN x.1 x.2) (l := uP) Ic (fun _ => rfl) ?_
 intro x hv hp
 rw [aep]
 exact adr x.1 x.2 hv.1.2 (hp (64 <= List.length x.2) (by simp [FQ]))
theorem aes : aY Tryd.prog gl 49 VL := aer
theorem TY : aS FT := .cons aes Ic
theorem ae6 (x : aI [aG]) : bM Tryd.prog (aU FT) (aak x) 31 (bK [aG] x) [] (Js x) = NY x := by kernel_rfl
theorem ae7 : Pok 31 [aG] (fun x => Js x) := by
 refine pk (L := fun x => aak x) (l := FT) TY (fun _ => rfl) ?_
 intro x hv hp
 rw [ae6]
 exact ael x (hp (List.length x <= 1000000000000) (by simp [Js]))
theorem ae8 : aY Tryd.prog gl 31 aaj := ae7
theorem VU : aS Jt := .cons ae8 TY
end Go.Proofs.YtkhdeldobekciaaDoor
