/- What functions of this seat compute, in plain Lean. -/
import Derived.Test.YtdobgidhhpdihaaDoorKA
set_option linter.unusedVariables false
set_option linter.unusedSimpArgs false
set_option maxRecDepth 100000
namespace Go.Proofs.YtdobgidhhpdihaaDoor
open Go.Vc
abbrev FH : Ty := .slice .str
namespace U
def MF : List (List Int) := [[92, 65, 110, 115, 119, 101, 114, 101, 100], [92, 70, 108, 97, 103, 103, 101, 100], [92, 68, 101, 108, 101, 116, 101, 100], [92, 83, 101, 101, 110], [92, 68, 114, 97, 102, 116]]
def N7 : List Int := [2, 4, 8, 1, 16]
def kX (f : Int) : Bool := decide (0 <= f) && decide (f <= 31)
def wF (f b : Int) : Bool := !(decide (T.iU .i64 f b = 0))
def dn (f : Int) : List (List Int × Int) -> List (List Int)
 | [] => []
 | x :: r => cond (wF f x.2) (x.1 :: dn f r) (dn f r)
def dW (f : Int) : List Int := 40 :: (joinL [32] (dn f aA) ++ [41])
def FI (s : List Int) : List (List Int × Int) -> Int × Int
 | [] => (0, 3)
 | x :: r => cond (decide (x.1.map aP = s.map aP)) (x.2, 0) (FI s r)
def jf (s : List Int) : Int × Int := FI s aA
def iP : List (List Int) -> Int -> Int × Int
 | [], n => (n, 0)
 | x :: r, n => cond (decide ((jf x).2 = 0)) (iP r (T.orK .i64 n (jf x).1)) (0, (jf x).2)
def bg (f m x : Int) : Int × Int := cond (!(kX f) || !(kX x)) (0, 1) (cond (decide (m = 0)) (x, 0) (cond (decide (m = 1)) (T.orK .i64 f x, 0) (cond (decide (m = 2)) (T.nV .i64 f x, 0) (0, 1))))
end U
namespace U
def jZ (s : List Int) (i : Int) : St2 := ⟨⟨[sS s] ++ U.n 5 ++ [some (.v ⟨true, [.arr 5 true (.pair .str (.int .i64)) aA]⟩)] ++ [sI i] ++ U.n 17, [], []⟩, 0, []⟩
def kY (s : List Int)  (i : Int) : Prop := 0 <= i /\ i <= 5 /\ FI s (aA.drop i.toNat) = jf s
def jg (l : List (List Int)) (n : Int) (i : Int) : St2 := ⟨⟨U.n 4 ++ [sI n] ++ U.n 4 ++ [sL false .str l] ++ [sI l.length] ++ [sI i] ++ U.n 16, [], []⟩, 0, []⟩
def jA (l : List (List Int))  (n : Int) (i : Int) : Prop := at_ l i /\ iP (l.drop i.toNat) n = iP l 0
def eY (q : Int) (l : List (List Int)) (i : Int) : St2 := ⟨⟨[sI q] ++ U.n 2 ++ [own 0] ++ U.n 2 ++ [some (.v ⟨true, [.arr 5 true (.pair .str (.int .i64)) aA]⟩)] ++ [sI i] ++ U.n 17, [], [(0, .row 9 .str true true l)]⟩, 1, []⟩
def iF (q : Int)  (l : List (List Int)) (i : Int) : Prop := 0 <= i /\ i <= 5 /\ l ++ dn q (aA.drop i.toNat) = dn q aA
end U
def Ia (s : List Int) : Vc.Loop := ⟨{ keep := [0, 6, 7] }, Int, fun x => U.jZ s x, fun x0 x => U.kY s  x, fun x => 5 - x.toNat, fun p => ∀ x, p x, fun _ h => h⟩
def D6 (l : List (List Int)) : Vc.Loop := ⟨{ keep := [4, 9, 10, 11] }, Int × Int, fun x => U.jg l x.1 x.2, fun x0 x => U.jA l  x.1 x.2, fun x => l.length - x.2.toNat, fun p => ∀ x, p x, fun _ h => h⟩
def D7 (q : Int) : Vc.Loop := ⟨{ keep := [0, 3, 6, 7], wake := [(3, 9)] }, List (List Int) × Int, fun x => U.eY q x.1 x.2, fun x0 x => U.iF q  x.1 x.2, fun x => 5 - x.2.toNat, fun p => ∀ x, p x, fun _ h => h⟩
def tJ (f : Int) : Done := rB (U.kX f)
def zW : Vc.Sum := .pure [.int .i64] false fun x => tJ x
def zX (f : Int) : Nat -> List V -> Nat -> Option Vc.Loop := xu
def oz : List (Nat × Ent) := (15, .sum zW) :: lu
def tK (f : Int) (m : Int) (x : Int) : Done := ⟨[], .tup [one (.int .i64 (U.bg f m x).1), one (.int .i64 (U.bg f m x).2)], [], []⟩
def zY : Vc.Sum := .pure [.int .i64, .int .i64, .int .i64] false fun x => tK x.1 x.2.1 x.2.2
def zZ (f : Int) (m : Int) (x : Int) : Nat -> List V -> Nat -> Option Vc.Loop := xu
def oC : List (Nat × Ent) := (7, .sum zY) :: oz
def yL (s : List Int) : Done := ⟨[], .tup [one (.int .i64 (U.jf s).1), one (.int .i64 (U.jf s).2)], [], []⟩
def EF : Vc.Sum := .pure [.str] false fun x => yL x
def EG (s : List Int) : Nat -> List V -> Nat -> Option Vc.Loop := fun f v k => cond (Nat.beq f 8 && Nat.beq k 2) (some (Ia s)) <| none
def sG : List (Nat × Ent) := (8, .sum EF) :: oC
def tN (l : List (List Int)) : Done := ⟨[], .tup [one (.int .i64 (U.iP l 0).1), one (.int .i64 (U.iP l 0).2)], [], []⟩
def Aa : Vc.Sum := .pure [FH] false fun x => tN x
def Ac (l : List (List Int)) : Nat -> List V -> Nat -> Option Vc.Loop := fun f v k => cond (Nat.beq f 10 && Nat.beq k 3) (some (D6 l)) <| none
def oD : List (Nat × Ent) := (10, .sum Aa) :: sG
def tV (q : Int) : Done := ⟨[], .one (.str (U.dW q)), [], []⟩
def Ad : Vc.Sum := .pure [.int .i64] false fun x => tV x
def Ae (q : Int) : Nat -> List V -> Nat -> Option Vc.Loop := fun f v k => cond (Nat.beq f 13 && Nat.beq k 3) (some (D7 q)) <| none
def oG : List (Nat × Ent) := (13, .sum Ad) :: oD
end Go.Proofs.YtdobgidhhpdihaaDoor
set_option maxRecDepth 100000
set_option linter.unusedVariables false
namespace Go.Proofs.YtdobgidhhpdihaaDoor
open Go.Vc
def rD (f : Int) : Prop := decide (IntKind.i64.wrap (↑((BitVec.ofInt IntKind.i64.bits f).and (BitVec.ofInt IntKind.i64.bits (31 : Int)).not).toNat : Int) = (0 : Int)) = U.kX f /\ True
def rE (f : Int) (m : Int) (x : Int) : Prop := bif bif !U.kX f then true else !U.kX x then (0 : Int) = (U.bg f m x).1 /\ (1 : Int) = (U.bg f m x).2 /\ True else bif decide (m = (0 : Int)) then x = (U.bg f m x).1 /\ (0 : Int) = (U.bg f m x).2 /\ True else bif decide (m = (1 : Int)) then IntKind.i64.wrap (↑((BitVec.ofInt IntKind.i64.bits f).or (BitVec.ofInt
 IntKind.i64.bits x)).toNat : Int) = (U.bg f m x).1 /\ (0 : Int) = (U.bg f m x).2 /\ True else bif decide (m = (2 : Int)) then IntKind.i64.wrap (↑((BitVec.ofInt IntKind.i64.bits f).and (BitVec.ofInt IntKind.i64.bits x).not).toNat : Int) = (U.bg f m x).1 /\ (0 : Int) = (U.bg f m x).2 /\ True else (0 : Int) = (U.bg f m x).1 /\ (1 : Int) = (U.bg f m x).2 /\ True
def wG (s : List Int) : Prop := ∃ (x0 : Int), (U.jZ s (0 : Int) = U.jZ s x0 /\ U.kY s x0) /\ ∀ (x : Int), U.kY s x -> bif decide (x < (5 : Int)) then (0 : Int) <= x /\ x < (↑(5 : Nat) : Int) /\ (decide ((↑(aA.getD x.toNat ([], (0 : Int))).1.length : Int) = (↑s.length : Int)) = true -> (∀ (x_1 : Int), List.Mem x_1 (aA.getD x.toNat ([], (0 :
 Int))).1 -> x_1 < (128 : Int)) /\ (aA.getD x.toNat ([], (0 : Int))).1.length = s.length /\ (aA.getD x.toNat ([], (0 : Int))).1.length <= (1000 : Nat)) /\ bif bif decide ((↑(aA.getD x.toNat ([], (0 : Int))).1.length : Int) = (↑s.length : Int)) then decide (List.map aP (aA.getD x.toNat ([], (0 : Int))).1 = List.map aP s) else false then (aA.getD x.toNat ([], (0
 : Int))).2 = (U.jf s).1 /\ (0 : Int) = (U.jf s).2 /\ True else ∃ (y : Int), U.jZ s (IntKind.i64.wrap (x.add (1 : Int))) = U.jZ s y /\ U.kY s y /\ Nat.sub (5 : Nat) y.toNat < Nat.sub (5 : Nat) x.toNat else (0 : Int) = (U.jf s).1 /\ (3 : Int) = (U.jf s).2 /\ True
def rF (l : List (List Int)) : Prop := ∃ (x0 : Int × Int), (U.jg l (0 : Int) (0 : Int) = U.jg l x0.1 x0.2 /\ U.jA l x0.1 x0.2) /\ ∀ (x : Int × Int), U.jA l x.1 x.2 -> bif decide (x.2 < (↑l.length : Int)) then (0 : Int) <= x.2 /\ x.2 < (↑l.length : Int) /\ bif (U.jf (l.getD x.2.toNat [])).2 != (0 : Int) then (0 : Int) = (U.iP l (0 : Int)).1 /\
 (U.jf (l.getD x.2.toNat [])).2 = (U.iP l (0 : Int)).2 /\ True else ∃ (y : Int × Int), U.jg l (IntKind.i64.wrap (↑((BitVec.ofInt IntKind.i64.bits x.1).or (BitVec.ofInt IntKind.i64.bits (U.jf (l.getD x.2.toNat [])).1)).toNat : Int)) (IntKind.i64.wrap (x.2.add (1 : Int))) = U.jg l y.1 y.2 /\ U.jA l y.1 y.2 /\ l.length.sub y.2.toNat < l.length.sub x.2.toNat else
 x.1 = (U.iP l (0 : Int)).1 /\ (0 : Int) = (U.iP l (0 : Int)).2 /\ True
def rG (q : Int) : Prop := ∃ (x0 : List (List Int) × Int), (U.eY q [] (0 : Int) = U.eY q x0.1 x0.2 /\ U.iF q x0.1 x0.2) /\ ∀ (x : List (List Int) × Int), U.iF q x.1 x.2 -> bif decide (x.2 < (5 : Int)) then (0 : Int) <= x.2 /\ x.2 < (↑(5 : Nat) : Int) /\ bif IntKind.i64.wrap (↑((BitVec.ofInt IntKind.i64.bits q).and (BitVec.ofInt IntKind.i64.bits
 (aA.getD x.2.toNat ([], (0 : Int))).2)).toNat : Int) != (0 : Int) then (x.1.length.add ((1 : Nat))).mul (16 : Nat) <= (140737488355328 : Nat) /\ x.1.length.add ((1 : Nat)) <= maxLen /\ ∃ (y : List (List Int) × Int), U.eY q (x.1.append ([[]].set (0 : Nat) (aA.getD x.2.toNat ([], (0 : Int))).1)) (IntKind.i64.wrap (x.2.add (1 : Int))) = U.eY q y.1 y.2 /\
 U.iF q y.1 y.2 /\ Nat.sub (5 : Nat) y.2.toNat < Nat.sub (5 : Nat) x.2.toNat else ∃ (y : List (List Int) × Int), U.eY q x.1 (IntKind.i64.wrap (x.2.add (1 : Int))) = U.eY q y.1 y.2 /\ U.iF q y.1 y.2 /\ Nat.sub (5 : Nat) y.2.toNat < Nat.sub (5 : Nat) x.2.toNat else ((joinL [(32 : Int)] x.1).length <= (1000000 : Nat) /\ x.1.length <= (1000000 : Nat)) /\ Nat.add
 ((1 : Nat)) (joinL [(32 : Int)] x.1).length <= (9223372036854775807 : Nat) /\ ((joinL [(32 : Int)] x.1).length.add (1 : Nat)).add ((1 : Nat)) <= (9223372036854775807 : Nat) /\ (40 : Int) :: (joinL [(32 : Int)] x.1).append [(41 : Int)] = U.dW q /\ True
end Go.Proofs.YtdobgidhhpdihaaDoor
set_option linter.unusedSimpArgs false
set_option linter.unusedVariables false
set_option maxRecDepth 100000
namespace Go.Proofs.YtdobgidhhpdihaaDoor
open Go.Vc
open Go.Vc.T
theorem ku : aA.length = 5 := by decide +kernel
theorem EH : ∀ k : Fin 5, (aA.getD k.val ([], 0)) = (U.MF.getD k.val [], U.N7.getD k.val 0) /\ ((aA.getD k.val ([], 0)).1.length <= 9 /\ 1 <= (aA.getD k.val ([], 0)).1.length) /\ (∀ x ∈ (aA.getD k.val ([], 0)).1, 0 <= x /\ x < 128) := by decide +kernel
theorem Ib {i : Int} (i0 : 0 <= i) (hi : i < 5) : aA.drop i.toNat = aA.getD i.toNat ([], 0) :: aA.drop (i + 1).toNat := by
 rw [drop_at i0 (by rw [ku]; omega), getD_at (by rw [ku]; omega)]
theorem EI {i : Int} (hi : 5 <= i) : aA.drop i.toNat = [] := drop_end (by rw [ku]; omega)
theorem Lc {i : Int} (i0 : 0 <= i) (hi : i < 5) : (aA.getD i.toNat ([], 0)) = (U.MF.getD i.toNat [], U.N7.getD i.toNat 0) /\ ((aA.getD i.toNat ([], 0)).1.length <= 9 /\ 1 <= (aA.getD i.toNat ([], 0)).1.length) /\ (∀ x ∈ (aA.getD i.toNat ([], 0)).1, 0 <= x /\ x < 128) := EH ⟨i.toNat, by omega⟩
theorem Pv (a b : List Int) : a.beq b = decide (a = b) := by rw [Nv, Bool.eq_iff_iff]; simp
theorem OE (q b : Int) : (iU .i64 q b != 0) = U.wF q b := by
 unfold U.wF
 by_cases h : iU .i64 q b = 0
 ·rw [decide_eq_true h, h]; rfl
 ·rw [decide_eq_false h]; exact bne_iff_ne.2 h
theorem AX (q : Int) : ∀ (l : List (List Int × Int)) (x : List Int), x ∈ U.dn q l -> ∃ b, (x, b) ∈ l
 | y :: r, x, h => by
   have h : x ∈ cond (U.wF q y.2) (y.1 :: U.dn q r) (U.dn q r) := h
   cases hb : U.wF q y.2 with
   | true =>
     rw [hb] at h
     rcases List.mem_cons.1 h with rfl | h
     ·exact ⟨y.2, by simp⟩
     ·obtain ⟨b, h⟩ := AX q r x h; exact ⟨b, List.mem_cons_of_mem _ h⟩
   | false => rw [hb] at h; obtain ⟨b, h⟩ := AX q r x h; exact ⟨b, List.mem_cons_of_mem _ h⟩
theorem Ic (q : Int) : ∀ (l : List (List Int × Int)), (U.dn q l).length <= l.length
 | [] => Nat.le_refl _
 | y :: r => by
   show (cond (U.wF q y.2) (y.1 :: U.dn q r) (U.dn q r)).length <= _
   have := Ic q r
   cases U.wF q y.2 <;> simp <;> omega
theorem MG : ∀ (l : List (List Int)), (∀ x ∈ l, x.length <= 9) -> (joinL [32] l).length <= 10 * l.length
 | [], _ => Nat.zero_le _
 | x :: r, h => by
   have key : ∀ r : List (List Int), (∀ x ∈ r, x.length <= 9) -> ((r.map ([32] ++ ·)).flatten).length <= 10 * r.length := by
    intro r
    induction r with
    | nil => intro _; exact Nat.zero_le _
    | cons y r ih =>
      intro h
      have h1 := h y (by simp)
      have h2 := ih fun x hx => h x (List.mem_cons_of_mem _ hx)
      simp only [List.map_cons, List.flatten_cons, List.length_append, List.length_cons, List.length_nil] at h2 ⊢
      omega
   have h1 := h x (by simp)
   have h2 := key r fun x hx => h x (List.mem_cons_of_mem _ hx)
   simp only [joinL, List.length_append, List.length_cons] at h2 ⊢
   omega
theorem MH {x : List Int} {b : Int} (h : (x, b) ∈ aA) : x.length <= 9 /\ 1 <= x.length := by
 obtain ⟨i, hi, he⟩ := List.getElem_of_mem h
 rw [ku] at hi
 have := (EH ⟨i, hi⟩).2.1
 dsimp only at this
 rw [getD_at (by rw [ku]; exact hi), he] at this
 exact this
theorem EJ {q : Int} {l : List (List Int × Int)} (h : ∀ x ∈ l, x ∈ aA) (hl : l.length <= 5) : (U.dn q l).length <= 5 /\ (joinL [32] (U.dn q l)).length <= 50 := by
 have h1 := Ic q l
 have h2 := MG (U.dn q l) fun x hx => by
  obtain ⟨b, hb⟩ := AX q l x hx
  exact (MH (h _ hb)).1
 omega
theorem Px (x : BitVec 64) : (x &&& ~~~(BitVec.ofInt 64 31)) = 0#64 ↔ x.toNat < 32 := by
 have h31 : ∀ i < 64, (~~~(BitVec.ofInt 64 31)).getLsbD i = decide (5 <= i) := by decide
 constructor
 ·intro h
  refine Nat.lt_pow_two_of_testBit (n := 5) _ fun i hi => ?_
  by_cases h64 : i < 64
  ·have := congrArg (fun y : BitVec 64 => y.getLsbD i) h
   simp only [BitVec.getLsbD_and, h31 i h64, decide_eq_true hi, Bool.and_true, BitVec.getLsbD_zero] at this
   exact this
  ·exact BitVec.getLsbD_of_ge x i (by omega)
 ·intro h
  apply BitVec.eq_of_getLsbD_eq
  intro i hi
  rw [BitVec.getLsbD_and, h31 i hi, BitVec.getLsbD_zero]
  by_cases h5 : 5 <= i
  ·have : x.toNat.testBit i = false := Nat.testBit_lt_two_pow (Nat.lt_of_lt_of_le h (Nat.pow_le_pow_right (n := 2) (by decide) h5))
   rw [show x.getLsbD i = x.toNat.testBit i from rfl, this]; rfl
  ·rw [decide_eq_false h5, Bool.and_false]
theorem OG {f : Int} (h : -9223372036854775808 <= f /\ f <= 9223372036854775807) : decide (nV .i64 f 31 = 0) = U.kX f := by
 unfold U.kX nV
 rw [Bool.eq_iff_iff, decide_eq_true_eq, Bool.and_eq_true, decide_eq_true_eq, decide_eq_true_eq]
 have hb := Px (BitVec.ofInt 64 f)
 have hn : (BitVec.ofInt 64 f).toNat = (f % 18446744073709551616).toNat := by rw [BitVec.toNat_ofInt]; rfl
 have hz : IntKind.i64.wrap (((BitVec.ofInt 64 f) &&& ~~~(BitVec.ofInt 64 31)).toNat : Int) = 0 ↔ ((BitVec.ofInt 64 f) &&& ~~~(BitVec.ofInt 64 31)) = 0#64 := by
  have hlt := ((BitVec.ofInt 64 f) &&& ~~~(BitVec.ofInt 64 31)).isLt
  rw [wrap_i64, <- BitVec.toNat_inj, show (0#64).toNat = 0 from rfl]; omega
 show IntKind.i64.wrap (((BitVec.ofInt 64 f) &&& ~~~(BitVec.ofInt 64 31)).toNat : Int) = 0 ↔ _
 rw [hz, hb, hn]; omega
theorem Ie (f : Int) (h : -9223372036854775808 <= f /\ f <= 9223372036854775807) : rD f := by
 unfold rD
 exact ⟨OG h, trivial⟩
theorem Ig (f m x : Int) : rE f m x := by
 unfold rE
 simp only [uK, C9, wC]
 unfold U.bg
 cases (!U.kX f || !U.kX x) with
 | true => exact ⟨rfl, rfl, trivial⟩
 | false =>
   cases decide (m = 0) with
   | true => exact ⟨rfl, rfl, trivial⟩
   | false =>
     cases decide (m = 1) with
     | true => exact ⟨rfl, rfl, trivial⟩
     | false => cases decide (m = 2) <;> exact ⟨rfl, rfl, trivial⟩
theorem Py (a b : List Int) : (a.map aP = b.map aP) -> a.length = b.length := fun h => by have := congrArg List.length h; simpa using this
theorem Ld (s : List Int) (hv : Valid .str s) : wG s := by
 unfold wG U.kY
 simp only [ru]
 refine ⟨0, ⟨rfl, Int.le_refl 0, by omega, rfl⟩, ?_⟩
 rintro i ⟨i0, i1, hI⟩
 rw [cond_prop]
 refine ⟨fun hi => ?_, fun hi => ?_⟩
 ·have hi : i < 5 := of_decide_eq_true hi
  obtain ⟨_, k2, k3⟩ := Lc i0 hi
  rw [Ib i0 hi] at hI
  generalize aA.getD i.toNat ([], 0) = x at *
  rw [uN (by omega) (by omega)]
  have hI : cond (decide (x.1.map aP = s.map aP)) (x.2, 0) (U.FI s (aA.drop (i + 1).toNat)) = U.jf s := hI
  refine ⟨i0, hi, fun h => ⟨fun y hy => (k3 y hy).2, by have := of_decide_eq_true h; omega, by omega⟩, ?_⟩
  by_cases h : x.1.map aP = s.map aP
  ·rw [decide_eq_true h] at hI ⊢
   rw [decide_eq_true (by have := Py _ _ h; omega), <- hI]
   exact ⟨rfl, rfl, trivial⟩
  ·rw [decide_eq_false h] at hI ⊢
   rw [Bool.and_false]
   exact ⟨i + 1, rfl, ⟨by omega, by omega, hI⟩, by simp only [jG]; omega⟩
 ·have hi : ¬ i < 5 := of_decide_eq_false hi
  rw [EI (by omega)] at hI
  rw [<- hI]; exact ⟨rfl, rfl, trivial⟩
theorem NC {l : List (List Int)} {i : Int} (n : Int) (i0 : 0 <= i) (hi : i < l.length) : U.iP (l.drop i.toNat) n = cond (decide ((U.jf (l[i.toNat]'(by omega))).2 = 0)) (U.iP (l.drop (i + 1).toNat) (orK .i64 n (U.jf (l[i.toNat]'(by omega))).1)) (0, (U.jf (l[i.toNat]'(by omega))).2) := by
 rw [drop_at i0 hi]; rfl
theorem Ih (l : List (List Int)) (hl : l.length <= maxLen) : rF l := by
 rw [maxLen_eq] at hl
 unfold rF U.jA U.at_
 simp only [C9]
 refine ⟨(0, 0), ⟨rfl, ⟨Int.le_refl 0, by dsimp only; omega⟩, rfl⟩, ?_⟩
 rintro ⟨n, i⟩ ⟨⟨i0, i1⟩, hI⟩
 dsimp only at i0 i1 hI ⊢
 rw [cond_prop]
 refine ⟨fun hi => ?_, fun hi => ?_⟩
 ·have hi : i < l.length := of_decide_eq_true hi
  rw [getD_at (by omega), uN (by omega) (by omega)]
  rw [NC n i0 hi] at hI
  refine ⟨i0, hi, ?_⟩
  by_cases h : (U.jf (l[i.toNat]'(by omega))).2 = 0
  ·rw [decide_eq_true h] at hI
   rw [h, bne_self_eq_false, cond_false]
   exact ⟨(_, i + 1), rfl, ⟨⟨by dsimp only; omega, by dsimp only; omega⟩, hI⟩, by simp only [jG]; omega⟩
  ·rw [decide_eq_false h] at hI
   rw [bne_iff_ne.2 h, cond_true, <- hI]
   exact ⟨rfl, rfl, trivial⟩
 ·have hi : ¬ i < l.length := of_decide_eq_false hi
  rw [drop_end (by omega)] at hI
  rw [<- hI]; exact ⟨rfl, rfl, trivial⟩
theorem Ii (q : Int) : rG q := by
 unfold rG U.iF
 simp only [DY, OE, zV, JE, JF, maxLen_eq]
 have htot := EJ (q := q) (l := aA) (fun _ h => h) (by rw [ku]; omega)
 refine ⟨([], 0), ⟨rfl, Int.le_refl 0, by dsimp only; omega, rfl⟩, ?_⟩
 rintro ⟨l, i⟩ ⟨i0, i1, hI⟩
 dsimp only at i0 i1 hI ⊢
 have hll : l.length <= 5 := by
  have := congrArg List.length hI
  rw [List.length_append] at this; omega
 rw [cond_prop]
 refine ⟨fun hi => ?_, fun hi => ?_⟩
 ·have hi : i < 5 := of_decide_eq_true hi
  rw [Ib i0 hi] at hI
  generalize aA.getD i.toNat ([], 0) = x at *
  rw [uN (by omega) (by omega)]
  have hI : l ++ cond (U.wF q x.2) (x.1 :: U.dn q (aA.drop (i + 1).toNat)) (U.dn q (aA.drop (i + 1).toNat)) = U.dn q aA := hI
  refine ⟨i0, by show i < (5 : Int); omega, ?_⟩
  cases hb : U.wF q x.2 with
  | true =>
    rw [hb] at hI
    refine ⟨by omega, by omega, (l ++ [x.1], i + 1), rfl, ⟨by dsimp only; omega, by dsimp only; omega, ?_⟩, by simp only [jG]; omega⟩
    dsimp only
    rw [<- hI, List.append_assoc]; rfl
  | false =>
    rw [hb] at hI
    exact ⟨(l, i + 1), rfl, ⟨by dsimp only; omega, by dsimp only; omega, hI⟩, by simp only [jG]; omega⟩
 ·have hi : ¬ i < 5 := of_decide_eq_false hi
  rw [EI (by omega)] at hI
  have hI : l ++ [] = U.dn q aA := hI
  rw [List.append_nil] at hI
  rw [hI]
  exact ⟨⟨by omega, by omega⟩, by omega, by omega, rfl, trivial⟩
end Go.Proofs.YtdobgidhhpdihaaDoor
set_option linter.unusedSimpArgs false
set_option maxRecDepth 100000
set_option linter.unusedVariables false
namespace Go.Proofs.YtdobgidhhpdihaaDoor
open Go.Vc
theorem Jb (x : aW [.int .i64]) : lF Tryd.prog (iM lu) (zX x) 15 (jv [.int .i64] x) [] (tJ x) = rD x := by kernel_rfl
theorem Jc : Pok 15 [.int .i64] (fun x => tJ x) := by
 refine pk (L := fun x => zX x) (l := lu) uO (fun _ => rfl) ?_
 intro x hv hp
 rw [Jb]
 exact Ie x (T.Qk hv)
theorem Jd : kP Tryd.prog gl 15 zW := Jc
theorem yM : gZ oz := .cons Jd uO
theorem Je (x : aW [.int .i64, .int .i64, .int .i64]) : lF Tryd.prog (iM oz) (zZ x.1 x.2.1 x.2.2) 7 (jv [.int .i64, .int .i64, .int .i64] x) [] (tK x.1 x.2.1 x.2.2) = rE x.1 x.2.1 x.2.2 := by kernel_rfl
theorem Jf : Pok 7 [.int .i64, .int .i64, .int .i64] (fun x => tK x.1 x.2.1 x.2.2) := by
 refine pk (L := fun x => zZ x.1 x.2.1 x.2.2) (l := oz) yM (fun _ => rfl) ?_
 intro x hv hp
 rw [Je]
 exact Ig x.1 x.2.1 x.2.2
theorem Jg : kP Tryd.prog gl 7 zY := Jf
theorem yN : gZ oC := .cons Jg yM
theorem MI (x : aW [.str]) : lF Tryd.prog (iM oC) (EG x) 8 (jv [.str] x) [] (yL x) = wG x := by kernel_rfl
theorem MJ : Pok 8 [.str] (fun x => yL x) := by
 refine pk (L := fun x => EG x) (l := oC) yN (fun _ => rfl) ?_
 intro x hv hp
 rw [MI]
 exact Ld x hv
theorem MK : kP Tryd.prog gl 8 EF := MJ
theorem Df : gZ sG := .cons MK yN
theorem Jh (x : aW [FH]) : lF Tryd.prog (iM sG) (Ac x) 10 (jv [FH] x) [] (tN x) = rF x := by kernel_rfl
theorem Ji : Pok 10 [FH] (fun x => tN x) := by
 refine pk (L := fun x => Ac x) (l := sG) Df (fun _ => rfl) ?_
 intro x hv hp
 rw [Jh]
 exact Ih x hv.2
theorem Jj : kP Tryd.prog gl 10 Aa := Ji
theorem yO : gZ oD := .cons Jj Df
theorem Jk (x : aW [.int .i64]) : lF Tryd.prog (iM oD) (Ae x) 13 (jv [.int .i64] x) [] (tV x) = rG x := by kernel_rfl
theorem Jl : Pok 13 [.int .i64] (fun x => tV x) := by
 refine pk (L := fun x => Ae x) (l := oD) yO (fun _ => rfl) ?_
 intro x hv hp
 rw [Jk]
 exact Ii x
theorem Jm : kP Tryd.prog gl 13 Ad := Jl
theorem yP : gZ oG := .cons Jm yO
end Go.Proofs.YtdobgidhhpdihaaDoor
