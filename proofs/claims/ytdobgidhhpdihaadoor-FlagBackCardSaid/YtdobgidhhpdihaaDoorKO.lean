/- What functions of this seat compute, in plain Lean. -/
import Derived.Test.YtdobgidhhpdihaaDoorKB
set_option linter.unusedVariables false
set_option linter.unusedSimpArgs false
set_option maxRecDepth 100000
namespace Go.Proofs.YtdobgidhhpdihaaDoor
open Go.Vc
namespace U
def ny : List (List Int) -> List Int -> List Int -> List (List Int) × List Int
 | l, w, [] => (l, w)
 | l, w, c :: r => cond (decide (c = 32) || decide (c = 41)) (ny (cond (decide (w = [])) l (l ++ [w])) [] r) (ny l (w ++ [c]) r)
end U
namespace U
def bP (a b : Int) (l : List (List Int)) (w : List Int) (i : Int) : St2 := ⟨⟨U.n 5 ++ [sI a] ++ [sI b] ++ [sS (dW a)] ++ [own 0] ++ [sS w] ++ [sI i] ++ U.n 121, [], [(0, .row 9 .str true true l)]⟩, 1, []⟩
def dK (a b : Int)  (l : List (List Int)) (w : List Int) (i : Int) : Prop := 1 <= i /\ i <= (dW a).length /\ (l.length : Int) <= i /\ w.length <= i /\ ny l w ((dW a).drop i.toNat) = ny [] [] ((dW a).drop 1)
end U
def yQ (a b : Int) : Vc.Loop := ⟨{ keep := [5, 6, 7, 8, 9, 10], wake := [(8, 9)] }, List (List Int) × List Int × Int, fun x => U.bP a b x.1 x.2.1 x.2.2, fun x0 x => U.dK a b  x.1 x.2.1 x.2.2, fun x => (U.dW a).length - x.2.2.toNat, fun p => ∀ x, p x, fun _ h => h⟩
def rH  : Done := ⟨[], .one (.bool true), [], []⟩
def yR : Vc.Sum := .pure [] false fun _ => rH
def yS  : Nat -> List V -> Nat -> Option Vc.Loop := xu
def rJ : List (Nat × Ent) := (6, .sum yR) :: oG
def sH (q : Int) (m : Int) : Nat -> List V -> Nat -> Option Vc.Loop := fun f v k => cond (Nat.beq f 5 && Nat.beq k 8) (some (yQ (q.tmod 32) (m.tmod 32))) <| none
end Go.Proofs.YtdobgidhhpdihaaDoor
set_option maxRecDepth 100000
set_option linter.unusedVariables false
namespace Go.Proofs.YtdobgidhhpdihaaDoor
open Go.Vc
def pI : Prop := (bif bif (U.dW (9 : Int)).beq [(40 : Int), (92 : Int), (68 : Int), (101 : Int), (108 : Int), (101 : Int), (116 : Int), (101 : Int), (100 : Int), (32 : Int), (92 : Int), (83 : Int), (101 : Int), (101 : Int), (110 : Int), (41 : Int)] then decide ((U.jf [(92 : Int), (115 : Int), (101 : Int), (101 : Int), (110 : Int)]).1 = (1 : Int)) else false then decide ((U.jf
 [(92 : Int), (115 : Int), (101 : Int), (101 : Int), (110 : Int)]).2 = (0 : Int)) else false) = true /\ True
def lK (q : Int) (m : Int) : Prop := (32 : Int) ≠ (0 : Int) /\ (32 : Int) ≠ (0 : Int) /\ ∃ (x0 : List (List Int) × List Int × Int), ((⟨⟨U.n 5 ++ [U.sI ((IntKind.i64.wrap q).tmod (32 : Int))] ++ [U.sI ((IntKind.i64.wrap m).tmod (32 : Int))] ++ [U.sS (U.dW ((IntKind.i64.wrap q).tmod (32 : Int)))] ++ [U.own 0] ++ [U.sS []] ++ [U.sI (1 : Int)] ++ U.n 121, [], [((0 : Nat), .row (9 : Nat)
 Ty.str true true [])]⟩, (1 : Nat), []⟩ : St2) = U.bP (q.tmod (32 : Int)) (m.tmod (32 : Int)) x0.1 x0.2.1 x0.2.2 /\ U.dK (q.tmod (32 : Int)) (m.tmod (32 : Int)) x0.1 x0.2.1 x0.2.2) /\ ∀ (x : List (List Int) × List Int × Int), U.dK (q.tmod (32 : Int)) (m.tmod (32 : Int)) x.1 x.2.1 x.2.2 -> bif decide (x.2.2 < (↑(((joinL [(32 : Int)] (U.dn (q.tmod (32 :
 Int)) aA)).append [(41 : Int)]).length.add (1 : Nat)) : Int)) then (0 : Int) <= x.2.2 /\ x.2.2 < (↑(((joinL [(32 : Int)] (U.dn (q.tmod (32 : Int)) aA)).append [(41 : Int)]).length.add (1 : Nat)) : Int) /\ (decide ((U.dW (q.tmod (32 : Int))).getD x.2.2.toNat (0 : Int) = (32 : Int)) = false -> (0 : Int) <= x.2.2) /\ (decide ((U.dW (q.tmod (32 : Int))).getD x.2.2.toNat (0 : Int) =
 (32 : Int)) = false -> x.2.2 < (↑(((joinL [(32 : Int)] (U.dn (q.tmod (32 : Int)) aA)).append [(41 : Int)]).length.add (1 : Nat)) : Int)) /\ bif bif decide ((U.dW (q.tmod (32 : Int))).getD x.2.2.toNat (0 : Int) = (32 : Int)) then true else decide ((U.dW (q.tmod (32 : Int))).getD x.2.2.toNat (0 : Int) = (41 : Int)) then bif !x.2.1.beq [] then (x.1.length.add ((1 : Nat))).mul (16 :
 Nat) <= (140737488355328 : Nat) /\ x.1.length.add ((1 : Nat)) <= maxLen /\ ∃ (y : List (List Int) × List Int × Int), U.bP (q.tmod (32 : Int)) (m.tmod (32 : Int)) (x.1.append ([[]].set (0 : Nat) x.2.1)) [] (IntKind.i64.wrap (x.2.2.add (1 : Int))) = U.bP (q.tmod (32 : Int)) (m.tmod (32 : Int)) y.1 y.2.1 y.2.2 /\ U.dK (q.tmod (32 : Int)) (m.tmod (32 : Int))
 y.1 y.2.1 y.2.2 /\ (((joinL [(32 : Int)] (U.dn (q.tmod (32 : Int)) aA)).append [(41 : Int)]).length.add (1 : Nat)).sub y.2.2.toNat < (((joinL [(32 : Int)] (U.dn (q.tmod (32 : Int)) aA)).append [(41 : Int)]).length.add (1 : Nat)).sub x.2.2.toNat else ∃ (y : List (List Int) × List Int × Int), U.bP (q.tmod (32 : Int)) (m.tmod (32 : Int)) x.1 [] (IntKind.i64.wrap
 (x.2.2.add (1 : Int))) = U.bP (q.tmod (32 : Int)) (m.tmod (32 : Int)) y.1 y.2.1 y.2.2 /\ U.dK (q.tmod (32 : Int)) (m.tmod (32 : Int)) y.1 y.2.1 y.2.2 /\ (((joinL [(32 : Int)] (U.dn (q.tmod (32 : Int)) aA)).append [(41 : Int)]).length.add (1 : Nat)).sub y.2.2.toNat < (((joinL [(32 : Int)] (U.dn (q.tmod (32 : Int)) aA)).append [(41 :
 Int)]).length.add (1 : Nat)).sub x.2.2.toNat else (0 : Int) <= x.2.2 /\ x.2.2 <= IntKind.i64.wrap (x.2.2.add (1 : Int)) /\ IntKind.i64.wrap (x.2.2.add (1 : Int)) <= (↑(((joinL [(32 : Int)] (U.dn (q.tmod (32 : Int)) aA)).append [(41 : Int)]).length.add (1 : Nat)) : Int) /\ x.2.1.length.add (List.take ((IntKind.i64.wrap (x.2.2.add (1 : Int))).toNat.sub x.2.2.toNat) (List.drop x.2.2.toNat
 (U.dW (q.tmod (32 : Int))))).length <= (9223372036854775807 : Nat) /\ ∃ (y : List (List Int) × List Int × Int), U.bP (q.tmod (32 : Int)) (m.tmod (32 : Int)) x.1 (x.2.1.append (List.take ((IntKind.i64.wrap (x.2.2.add (1 : Int))).toNat.sub x.2.2.toNat) (List.drop x.2.2.toNat (U.dW (q.tmod (32 : Int)))))) (IntKind.i64.wrap (x.2.2.add (1 : Int))) = U.bP (q.tmod (32
 : Int)) (m.tmod (32 : Int)) y.1 y.2.1 y.2.2 /\ U.dK (q.tmod (32 : Int)) (m.tmod (32 : Int)) y.1 y.2.1 y.2.2 /\ (((joinL [(32 : Int)] (U.dn (q.tmod (32 : Int)) aA)).append [(41 : Int)]).length.add (1 : Nat)).sub y.2.2.toNat < (((joinL [(32 : Int)] (U.dn (q.tmod (32 : Int)) aA)).append [(41 : Int)]).length.add (1 : Nat)).sub x.2.2.toNat else (bif bif bif bif bif bif
 bif bif bif decide ((U.iP x.1 (0 : Int)).2 = (0 : Int)) then decide ((U.iP x.1 (0 : Int)).1 = q.tmod (32 : Int)) else false then decide ((U.bg (q.tmod (32 : Int)) (1 : Int) (m.tmod (32 : Int))).2 = (0 : Int)) else false then decide ((U.bg (U.bg (q.tmod (32 : Int)) (1 : Int) (m.tmod (32 : Int))).1 (2 : Int) (m.tmod (32 : Int))).2 = (0 : Int)) else false then decide ((U.bg
 (q.tmod (32 : Int)) (0 : Int) (m.tmod (32 : Int))).2 = (0 : Int)) else false then decide (IntKind.i64.wrap (↑((BitVec.ofInt IntKind.i64.bits (U.bg (q.tmod (32 : Int)) (1 : Int) (m.tmod (32 : Int))).1).and (BitVec.ofInt IntKind.i64.bits (m.tmod (32 : Int)))).toNat : Int) = m.tmod (32 : Int)) else false then decide (IntKind.i64.wrap (↑((BitVec.ofInt IntKind.i64.bits (U.bg (q.tmod (32 : Int))
 (1 : Int) (m.tmod (32 : Int))).1).and (BitVec.ofInt IntKind.i64.bits (q.tmod (32 : Int)))).toNat : Int) = q.tmod (32 : Int)) else false then decide (IntKind.i64.wrap (↑((BitVec.ofInt IntKind.i64.bits (U.bg (U.bg (q.tmod (32 : Int)) (1 : Int) (m.tmod (32 : Int))).1 (2 : Int) (m.tmod (32 : Int))).1).and (BitVec.ofInt IntKind.i64.bits (m.tmod (32 : Int)))).toNat : Int) = (0 : Int)) else false
 then decide ((U.bg (U.bg (q.tmod (32 : Int)) (1 : Int) (m.tmod (32 : Int))).1 (2 : Int) (m.tmod (32 : Int))).1 = IntKind.i64.wrap (↑((BitVec.ofInt IntKind.i64.bits (q.tmod (32 : Int))).and (BitVec.ofInt IntKind.i64.bits (m.tmod (32 : Int))).not).toNat : Int)) else false then decide ((U.bg (q.tmod (32 : Int)) (0 : Int) (m.tmod (32 : Int))).1 = m.tmod (32 : Int)) else false) = true /\ True
end Go.Proofs.YtdobgidhhpdihaaDoor
set_option linter.unusedSimpArgs false
set_option linter.unusedVariables false
set_option maxRecDepth 100000
namespace Go.Proofs.YtdobgidhhpdihaaDoor
open Go.Vc
open Go.Vc.T
theorem E8 : pI := by unfold pI; decide +kernel
theorem ML : ∀ a : Fin 32, U.iP (U.ny [] [] ((U.dW (a.val : Int)).drop 1)).1 0 = ((a.val : Int), 0) := by decide +kernel
theorem MN : ∀ a b : Fin 32, (U.bg (a.val : Int) 1 (b.val : Int)).2 = 0 /\ (U.bg (U.bg (a.val : Int) 1 (b.val : Int)).1 2 (b.val : Int)).2 = 0 /\ (U.bg (a.val : Int) 0 (b.val : Int)).2 = 0 /\
 iU .i64 (U.bg (a.val : Int) 1 (b.val : Int)).1 (b.val : Int) = b.val /\ iU .i64 (U.bg (a.val : Int) 1 (b.val : Int)).1 (a.val : Int) = a.val /\ iU .i64 (U.bg (U.bg (a.val : Int) 1 (b.val : Int)).1 2 (b.val : Int)).1 (b.val : Int) = 0 /\
 (U.bg (U.bg (a.val : Int) 1 (b.val : Int)).1 2 (b.val : Int)).1 = nV .i64 (a.val : Int) (b.val : Int) /\ (U.bg (a.val : Int) 0 (b.val : Int)).1 = b.val := by decide +kernel
theorem ND {s : List Int} {i : Int} (l : List (List Int)) (w : List Int) (i0 : 0 <= i) (hi : i < s.length) : U.ny l w (s.drop i.toNat) = cond (decide ((s[i.toNat]'(by omega)) = 32) || decide ((s[i.toNat]'(by omega)) = 41)) (U.ny (cond (decide (w = [])) l (l ++ [w])) [] (s.drop (i + 1).toNat)) (U.ny l (w ++ [s[i.toNat]'(by omega)]) (s.drop (i + 1).toNat)) := by
 rw [drop_at i0 hi]; rfl
theorem JI {x : Int} (h : 0 <= x) (k : Int) (hk : 0 < k) : 0 <= x.tmod k /\ x.tmod k < k := ⟨Int.tmod_nonneg k h, Int.tmod_lt_of_pos x hk⟩
theorem AY (q m : Int) (hv : oP [.int .u8, .int .u8] (q, m)) : lK q m := by
 have hq := T.vU8 hv.1
 have hm := T.vU8 hv.2
 dsimp only at hq hm
 unfold lK U.dK U.bP
 rw [rC (x := q) (by omega) (by omega), rC (x := m) (by omega) (by omega)]
 obtain ⟨a0, a1⟩ := JI hq.1 32 (by decide)
 obtain ⟨b0, b1⟩ := JI hm.1 32 (by decide)
 generalize q.tmod 32 = a at *
 generalize m.tmod 32 = b at *
 have hw := ML ⟨a.toNat, by omega⟩
 have hk := MN ⟨a.toNat, by omega⟩ ⟨b.toNat, by omega⟩
 have ea : ((a.toNat : Nat) : Int) = a := by omega
 have eb : ((b.toNat : Nat) : Int) = b := by omega
 simp only [ea, eb] at hw hk
 obtain ⟨k1, k2, k3, k4, k5, k6, k7, k8⟩ := hk
 simp only [uK, ru, DY, wC, Pv, JE, jG, JF, zV, maxLen_eq]
 have hlen : (joinL [32] (U.dn a aA) ++ [41]).length + 1 = (U.dW a).length := rfl
 have hb := (EJ (q := a) (l := aA) (fun _ h => h) (by rw [ku]; omega)).2
 have Qu : (U.dW a).length <= 60 /\ 1 <= (U.dW a).length := by
  rw [<- hlen, List.length_append]; simp only [List.length_cons, List.length_nil]; omega
 simp only [hlen]
 generalize U.dW a = s at *
 refine ⟨by decide, by decide, ([], [], 1), ⟨rfl, by dsimp only; omega, by dsimp only; omega, by dsimp only; show (0 : Int) <= 1; decide, by dsimp only; show (((([] : List Int).length) : Nat) : Int) <= 1; decide, rfl⟩, ?_⟩
 rintro ⟨l, w, i⟩ ⟨i0, i1, hl, hwl, hI⟩
 dsimp only at i0 i1 hl hwl hI ⊢
 rw [cond_prop]
 refine ⟨fun hi => ?_, fun hi => ?_⟩
 ·have hi : i < s.length := of_decide_eq_true hi
  have ht : List.take ((i + 1).toNat - i.toNat) (List.drop i.toNat s) = [s[i.toNat]'(by omega)] := by
   rw [drop_at (by omega) hi, show (i + 1).toNat - i.toNat = 1 by omega]; rfl
  rw [getD_at (by omega), uN (by omega) (by omega), ht]
  rw [ND l w (by omega) hi] at hI
  generalize s[i.toNat]'(by omega) = c at *
  refine ⟨by omega, hi, fun _ => by omega, fun _ => hi, ?_⟩
  cases hc : (decide (c = 32) || decide (c = 41)) with
  | true =>
    rw [hc, cond_true] at hI
    rw [cond_true]
    by_cases h0 : w = []
    ·rw [decide_eq_true h0] at hI ⊢
     exact ⟨(l, [], i + 1), rfl, ⟨by dsimp only; omega, by dsimp only; omega, by dsimp only; omega, by dsimp only; show ((0 : Nat) : Int) <= i + 1; omega, hI⟩, by dsimp only; omega⟩
    ·rw [decide_eq_false h0] at hI ⊢
     exact ⟨by omega, by omega, (l ++ [w], [], i + 1), rfl, ⟨by dsimp only; omega, by dsimp only; omega, by dsimp only; rw [List.length_append]; show (((l.length + 1) : Nat) : Int) <= i + 1; omega, by dsimp only; show ((0 : Nat) : Int) <= i + 1; omega, hI⟩, by dsimp only; omega⟩
  | false =>
    rw [hc, cond_false] at hI
    rw [cond_false]
    exact ⟨by omega, by omega, by omega, by simp only [List.length_cons, List.length_nil]; omega, (l, w ++ [c], i + 1), rfl, ⟨by dsimp only; omega, by dsimp only; omega, by dsimp only; omega, by dsimp only; rw [List.length_append]; show (((w.length + 1) : Nat) : Int) <= i + 1; omega, hI⟩, by dsimp only; omega⟩
 ·have hi : ¬ i < s.length := of_decide_eq_false hi
  rw [drop_end (by omega)] at hI
  have hI : (l, w) = U.ny [] [] (s.drop 1) := hI
  rw [<- hI] at hw
  dsimp only at hw
  rw [hw]
  rw [k7] at k6
  simp only [k1, k2, k3, k4, k5, k6, k7, k8, decide_true, Bool.and_self, and_true]
end Go.Proofs.YtdobgidhhpdihaaDoor
set_option linter.unusedSimpArgs false
set_option maxRecDepth 100000
set_option linter.unusedVariables false
namespace Go.Proofs.YtdobgidhhpdihaaDoor
open Go.Vc
theorem Ij (x : aW []) : lF Tryd.prog (iM oG) (yS ) 6 (jv [] x) [] (rH ) = pI  := by kernel_rfl
theorem Ik : Pok 6 [] (fun x => rH ) := by
 refine pk (L := fun x => yS ) (l := oG) yP (fun _ => rfl) ?_
 intro x hv hp
 rw [Ij]
 exact E8
theorem Il : kP Tryd.prog gl 6 yR := Ik
theorem Fa : gZ rJ := .cons Il yP
end Go.Proofs.YtdobgidhhpdihaaDoor
