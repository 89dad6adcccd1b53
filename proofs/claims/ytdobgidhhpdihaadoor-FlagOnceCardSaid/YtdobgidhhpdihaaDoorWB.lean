/- What functions of this seat compute, in plain Lean. -/
import Derived.Test.YtdobgidhhpdihaaDoorWA
set_option linter.unusedVariables false
set_option linter.unusedSimpArgs false
set_option maxRecDepth 100000
namespace Go.Proofs.YtdobgidhhpdihaaDoor
open Go.Vc
namespace U
def LJ : List (List Int) := [[92, 65, 110, 115, 119, 101, 114, 101, 100], [92, 70, 108, 97, 103, 103, 101, 100], [92, 68, 101, 108, 101, 116, 101, 100], [92, 83, 101, 101, 110], [92, 68, 114, 97, 102, 116]]
def Nv : List Int := [2, 4, 8, 1, 16]
def kR (f : Int) : Bool := decide (0 <= f) && decide (f <= 31)
def vX (f b : Int) : Bool := !(decide (T.jy .i64 f b = 0))
def gZ (f : Int) : List (List Int × Int) -> List (List Int)
 | [] => []
 | x :: r => cond (vX f x.2) (x.1 :: gZ f r) (gZ f r)
def Hl (f : Int) : List Int := 40 :: (joinL [32] (gZ f aB) ++ [41])
def rW (s : List Int) : List (List Int × Int) -> Int × Int
 | [] => (0, 3)
 | x :: r => cond (decide (x.1.map aO = s.map aO)) (x.2, 0) (rW s r)
def kK (s : List Int) : Int × Int := rW s aB
def aA (f m x : Int) : Int × Int := cond (!(kR f) || !(kR x)) (0, 1) (cond (decide (m = 0)) (x, 0) (cond (decide (m = 1)) (T.orK .i64 f x, 0) (cond (decide (m = 2)) (T.qg .i64 f x, 0) (0, 1))))
end U
namespace U
def jT (s : List Int) (i : Int) : St2 := ⟨⟨[sS s] ++ U.n 5 ++ [some (.v ⟨true, [.arr 5 true (.pair .str (.int .i64)) aB]⟩)] ++ [sI i] ++ U.n 17, [], []⟩, 0, []⟩
def kS (s : List Int)  (i : Int) : Prop := 0 <= i /\ i <= 5 /\ rW s (aB.drop i.toNat) = kK s
def eU (q : Int) (l : List (List Int)) (i : Int) : St2 := ⟨⟨[sI q] ++ U.n 2 ++ [own 0] ++ U.n 2 ++ [some (.v ⟨true, [.arr 5 true (.pair .str (.int .i64)) aB]⟩)] ++ [sI i] ++ U.n 17, [], [(0, .row 9 .str true true l)]⟩, 1, []⟩
def iD (q : Int)  (l : List (List Int)) (i : Int) : Prop := 0 <= i /\ i <= 5 /\ l ++ gZ q (aB.drop i.toNat) = gZ q aB
end U
def Ho (s : List Int) : Vc.Loop := ⟨{ keep := [0, 6, 7] }, Int, fun x => U.jT s x, fun x0 x => U.kS s  x, fun x => 5 - x.toNat, fun p => ∀ x, p x, fun _ h => h⟩
def DL (q : Int) : Vc.Loop := ⟨{ keep := [0, 3, 6, 7], wake := [(3, 9)] }, List (List Int) × Int, fun x => U.eU q x.1 x.2, fun x0 x => U.iD q  x.1 x.2, fun x => 5 - x.2.toNat, fun p => ∀ x, p x, fun _ h => h⟩
def sW (f : Int) : Done := rB (U.kR f)
def zK : Vc.Sum := .pure [.int .i64] false fun x => sW x
def zL (f : Int) : Nat -> List V -> Nat -> Option Vc.Loop := wU
def nX : List (Nat × Ent) := (15, .sum zK) :: kX
def sZ (f : Int) (m : Int) (x : Int) : Done := ⟨[], .tup [one (.int .i64 (U.aA f m x).1), one (.int .i64 (U.aA f m x).2)], [], []⟩
def zM : Vc.Sum := .pure [.int .i64, .int .i64, .int .i64] false fun x => sZ x.1 x.2.1 x.2.2
def zN (f : Int) (m : Int) (x : Int) : Nat -> List V -> Nat -> Option Vc.Loop := wU
def nY : List (Nat × Ent) := (7, .sum zM) :: nX
def yC (s : List Int) : Done := ⟨[], .tup [one (.int .i64 (U.kK s).1), one (.int .i64 (U.kK s).2)], [], []⟩
def En : Vc.Sum := .pure [.str] false fun x => yC x
def Eo (s : List Int) : Nat -> List V -> Nat -> Option Vc.Loop := fun f v k => cond (Nat.beq f 8 && Nat.beq k 2) (some (Ho s)) <| none
def rX : List (Nat × Ent) := (8, .sum En) :: nY
def tq (q : Int) : Done := ⟨[], .one (.str (U.Hl q)), [], []⟩
def zO : Vc.Sum := .pure [.int .i64] false fun x => tq x
def zQ (q : Int) : Nat -> List V -> Nat -> Option Vc.Loop := fun f v k => cond (Nat.beq f 13 && Nat.beq k 3) (some (DL q)) <| none
def nZ : List (Nat × Ent) := (13, .sum zO) :: rX
end Go.Proofs.YtdobgidhhpdihaaDoor
set_option maxRecDepth 100000
set_option linter.unusedVariables false
namespace Go.Proofs.YtdobgidhhpdihaaDoor
open Go.Vc
def qW (f : Int) : Prop := decide (IntKind.i64.wrap (↑((BitVec.ofInt IntKind.i64.bits f).and (BitVec.ofInt IntKind.i64.bits (31 : Int)).not).toNat : Int) = (0 : Int)) = U.kR f /\ True
def qX (f : Int) (m : Int) (x : Int) : Prop := bif bif !U.kR f then true else !U.kR x then (0 : Int) = (U.aA f m x).1 /\ (1 : Int) = (U.aA f m x).2 /\ True else bif decide (m = (0 : Int)) then x = (U.aA f m x).1 /\ (0 : Int) = (U.aA f m x).2 /\ True else bif decide (m = (1 : Int)) then IntKind.i64.wrap (↑((BitVec.ofInt IntKind.i64.bits f).or (BitVec.ofInt
 IntKind.i64.bits x)).toNat : Int) = (U.aA f m x).1 /\ (0 : Int) = (U.aA f m x).2 /\ True else bif decide (m = (2 : Int)) then IntKind.i64.wrap (↑((BitVec.ofInt IntKind.i64.bits f).and (BitVec.ofInt IntKind.i64.bits x).not).toNat : Int) = (U.aA f m x).1 /\ (0 : Int) = (U.aA f m x).2 /\ True else (0 : Int) = (U.aA f m x).1 /\ (1 : Int) = (U.aA f m x).2 /\ True
def vY (s : List Int) : Prop := ∃ (x0 : Int), (U.jT s (0 : Int) = U.jT s x0 /\ U.kS s x0) /\ ∀ (x : Int), U.kS s x -> bif decide (x < (5 : Int)) then (0 : Int) <= x /\ x < (↑(5 : Nat) : Int) /\ (decide ((↑(aB.getD x.toNat ([], (0 : Int))).1.length : Int) = (↑s.length : Int)) = true -> (∀ (x_1 : Int), List.Mem x_1 (aB.getD x.toNat ([], (0 :
 Int))).1 -> x_1 < (128 : Int)) /\ (aB.getD x.toNat ([], (0 : Int))).1.length = s.length /\ (aB.getD x.toNat ([], (0 : Int))).1.length <= (1000 : Nat)) /\ bif bif decide ((↑(aB.getD x.toNat ([], (0 : Int))).1.length : Int) = (↑s.length : Int)) then decide (List.map aO (aB.getD x.toNat ([], (0 : Int))).1 = List.map aO s) else false then (aB.getD x.toNat ([], (0
 : Int))).2 = (U.kK s).1 /\ (0 : Int) = (U.kK s).2 /\ True else ∃ (y : Int), U.jT s (IntKind.i64.wrap (x.add (1 : Int))) = U.jT s y /\ U.kS s y /\ Nat.sub (5 : Nat) y.toNat < Nat.sub (5 : Nat) x.toNat else (0 : Int) = (U.kK s).1 /\ (3 : Int) = (U.kK s).2 /\ True
def qY (q : Int) : Prop := ∃ (x0 : List (List Int) × Int), (U.eU q [] (0 : Int) = U.eU q x0.1 x0.2 /\ U.iD q x0.1 x0.2) /\ ∀ (x : List (List Int) × Int), U.iD q x.1 x.2 -> bif decide (x.2 < (5 : Int)) then (0 : Int) <= x.2 /\ x.2 < (↑(5 : Nat) : Int) /\ bif IntKind.i64.wrap (↑((BitVec.ofInt IntKind.i64.bits q).and (BitVec.ofInt IntKind.i64.bits
 (aB.getD x.2.toNat ([], (0 : Int))).2)).toNat : Int) != (0 : Int) then (x.1.length.add ((1 : Nat))).mul (16 : Nat) <= (140737488355328 : Nat) /\ x.1.length.add ((1 : Nat)) <= maxLen /\ ∃ (y : List (List Int) × Int), U.eU q (x.1.append ([[]].set (0 : Nat) (aB.getD x.2.toNat ([], (0 : Int))).1)) (IntKind.i64.wrap (x.2.add (1 : Int))) = U.eU q y.1 y.2 /\
 U.iD q y.1 y.2 /\ Nat.sub (5 : Nat) y.2.toNat < Nat.sub (5 : Nat) x.2.toNat else ∃ (y : List (List Int) × Int), U.eU q x.1 (IntKind.i64.wrap (x.2.add (1 : Int))) = U.eU q y.1 y.2 /\ U.iD q y.1 y.2 /\ Nat.sub (5 : Nat) y.2.toNat < Nat.sub (5 : Nat) x.2.toNat else ((joinL [(32 : Int)] x.1).length <= (1000000 : Nat) /\ x.1.length <= (1000000 : Nat)) /\ Nat.add
 ((1 : Nat)) (joinL [(32 : Int)] x.1).length <= (9223372036854775807 : Nat) /\ ((joinL [(32 : Int)] x.1).length.add (1 : Nat)).add ((1 : Nat)) <= (9223372036854775807 : Nat) /\ (40 : Int) :: (joinL [(32 : Int)] x.1).append [(41 : Int)] = U.Hl q /\ True
end Go.Proofs.YtdobgidhhpdihaaDoor
set_option linter.unusedSimpArgs false
set_option linter.unusedVariables false
set_option maxRecDepth 100000
namespace Go.Proofs.YtdobgidhhpdihaaDoor
open Go.Vc
open Go.Vc.T
theorem lZ : aB.length = 5 := by decide +kernel
theorem Ep : ∀ k : Fin 5, (aB.getD k.val ([], 0)) = (U.LJ.getD k.val [], U.Nv.getD k.val 0) /\ ((aB.getD k.val ([], 0)).1.length <= 9 /\ 1 <= (aB.getD k.val ([], 0)).1.length) /\ (∀ x ∈ (aB.getD k.val ([], 0)).1, 0 <= x /\ x < 128) := by decide +kernel
theorem Hq {i : Int} (i0 : 0 <= i) (hi : i < 5) : aB.drop i.toNat = aB.getD i.toNat ([], 0) :: aB.drop (i + 1).toNat := by
 rw [drop_at i0 (by rw [lZ]; omega), getD_at (by rw [lZ]; omega)]
theorem Es {i : Int} (hi : 5 <= i) : aB.drop i.toNat = [] := drop_end (by rw [lZ]; omega)
theorem KE {i : Int} (i0 : 0 <= i) (hi : i < 5) : (aB.getD i.toNat ([], 0)) = (U.LJ.getD i.toNat [], U.Nv.getD i.toNat 0) /\ ((aB.getD i.toNat ([], 0)).1.length <= 9 /\ 1 <= (aB.getD i.toNat ([], 0)).1.length) /\ (∀ x ∈ (aB.getD i.toNat ([], 0)).1, 0 <= x /\ x < 128) := Ep ⟨i.toNat, by omega⟩
theorem Oc (q b : Int) : (jy .i64 q b != 0) = U.vX q b := by
 unfold U.vX
 by_cases h : jy .i64 q b = 0
 ·rw [decide_eq_true h, h]; rfl
 ·rw [decide_eq_false h]; exact bne_iff_ne.2 h
theorem Au (q : Int) : ∀ (l : List (List Int × Int)) (x : List Int), x ∈ U.gZ q l -> ∃ b, (x, b) ∈ l
 | y :: r, x, h => by
   have h : x ∈ cond (U.vX q y.2) (y.1 :: U.gZ q r) (U.gZ q r) := h
   cases hb : U.vX q y.2 with
   | true =>
     rw [hb] at h
     rcases List.mem_cons.1 h with rfl | h
     ·exact ⟨y.2, by simp⟩
     ·obtain ⟨b, h⟩ := Au q r x h; exact ⟨b, List.mem_cons_of_mem _ h⟩
   | false => rw [hb] at h; obtain ⟨b, h⟩ := Au q r x h; exact ⟨b, List.mem_cons_of_mem _ h⟩
theorem Hr (q : Int) : ∀ (l : List (List Int × Int)), (U.gZ q l).length <= l.length
 | [] => Nat.le_refl _
 | y :: r => by
   show (cond (U.vX q y.2) (y.1 :: U.gZ q r) (U.gZ q r)).length <= _
   have := Hr q r
   cases U.vX q y.2 <;> simp <;> omega
theorem LK : ∀ (l : List (List Int)), (∀ x ∈ l, x.length <= 9) -> (joinL [32] l).length <= 10 * l.length
 | [], _ => Nat.zero_le _
 | x :: r, h => by
   have key : ∀ r : List (List Int), (∀ x ∈ r, x.length <= 9) -> ((r.map ([32] ++ ·)).flatten).length <= 10 * r.length := by
    intro r
    induction r with
    | nil => intro _; exact Nat.zero_le _
    | cons y r ih =>
      intro h
      have h1 := h y (by simp)
      have h2 := ih fun x hx => h x (List.mem_cons_of_mem _ hx)
      simp only [List.map_cons, List.flatten_cons, List.length_append, List.length_cons, List.length_nil] at h2 ⊢
      omega
   have h1 := h x (by simp)
   have h2 := key r fun x hx => h x (List.mem_cons_of_mem _ hx)
   simp only [joinL, List.length_append, List.length_cons] at h2 ⊢
   omega
theorem LM {x : List Int} {b : Int} (h : (x, b) ∈ aB) : x.length <= 9 /\ 1 <= x.length := by
 obtain ⟨i, hi, he⟩ := List.getElem_of_mem h
 rw [lZ] at hi
 have := (Ep ⟨i, hi⟩).2.1
 dsimp only at this
 rw [getD_at (by rw [lZ]; exact hi), he] at this
 exact this
theorem LP {q : Int} {l : List (List Int × Int)} (h : ∀ x ∈ l, x ∈ aB) (hl : l.length <= 5) : (U.gZ q l).length <= 5 /\ (joinL [32] (U.gZ q l)).length <= 50 := by
 have h1 := Hr q l
 have h2 := LK (U.gZ q l) fun x hx => by
  obtain ⟨b, hb⟩ := Au q l x hx
  exact (LM (h _ hb)).1
 omega
theorem OV (x : BitVec 64) : (x &&& ~~~(BitVec.ofInt 64 31)) = 0#64 ↔ x.toNat < 32 := by
 have h31 : ∀ i < 64, (~~~(BitVec.ofInt 64 31)).getLsbD i = decide (5 <= i) := by decide
 constructor
 ·intro h
  refine Nat.lt_pow_two_of_testBit (n := 5) _ fun i hi => ?_
  by_cases h64 : i < 64
  ·have := congrArg (fun y : BitVec 64 => y.getLsbD i) h
   simp only [BitVec.getLsbD_and, h31 i h64, decide_eq_true hi, Bool.and_true, BitVec.getLsbD_zero] at this
   exact this
  ·exact BitVec.getLsbD_of_ge x i (by omega)
 ·intro h
  apply BitVec.eq_of_getLsbD_eq
  intro i hi
  rw [BitVec.getLsbD_and, h31 i hi, BitVec.getLsbD_zero]
  by_cases h5 : 5 <= i
  ·have : x.toNat.testBit i = false := Nat.testBit_lt_two_pow (Nat.lt_of_lt_of_le h (Nat.pow_le_pow_right (n := 2) (by decide) h5))
   rw [show x.getLsbD i = x.toNat.testBit i from rfl, this]; rfl
  ·rw [decide_eq_false h5, Bool.and_false]
theorem Oe {f : Int} (h : -9223372036854775808 <= f /\ f <= 9223372036854775807) : decide (qg .i64 f 31 = 0) = U.kR f := by
 unfold U.kR qg
 rw [Bool.eq_iff_iff, decide_eq_true_eq, Bool.and_eq_true, decide_eq_true_eq, decide_eq_true_eq]
 have hb := OV (BitVec.ofInt 64 f)
 have hn : (BitVec.ofInt 64 f).toNat = (f % 18446744073709551616).toNat := by rw [BitVec.toNat_ofInt]; rfl
 have hz : IntKind.i64.wrap (((BitVec.ofInt 64 f) &&& ~~~(BitVec.ofInt 64 31)).toNat : Int) = 0 ↔ ((BitVec.ofInt 64 f) &&& ~~~(BitVec.ofInt 64 31)) = 0#64 := by
  have hlt := ((BitVec.ofInt 64 f) &&& ~~~(BitVec.ofInt 64 31)).isLt
  rw [wrap_i64, <- BitVec.toNat_inj, show (0#64).toNat = 0 from rfl]; omega
 show IntKind.i64.wrap (((BitVec.ofInt 64 f) &&& ~~~(BitVec.ofInt 64 31)).toNat : Int) = 0 ↔ _
 rw [hz, hb, hn]; omega
theorem Ht (f : Int) (h : -9223372036854775808 <= f /\ f <= 9223372036854775807) : qW f := by
 unfold qW
 exact ⟨Oe h, trivial⟩
theorem Hu (f m x : Int) : qX f m x := by
 unfold qX
 simp only [uz, G9, CJ]
 unfold U.aA
 cases (!U.kR f || !U.kR x) with
 | true => exact ⟨rfl, rfl, trivial⟩
 | false =>
   cases decide (m = 0) with
   | true => exact ⟨rfl, rfl, trivial⟩
   | false =>
     cases decide (m = 1) with
     | true => exact ⟨rfl, rfl, trivial⟩
     | false => cases decide (m = 2) <;> exact ⟨rfl, rfl, trivial⟩
theorem OW (a b : List Int) : (a.map aO = b.map aO) -> a.length = b.length := fun h => by have := congrArg List.length h; simpa using this
theorem KF (s : List Int) (hv : Valid .str s) : vY s := by
 unfold vY U.kS
 simp only [qV]
 refine ⟨0, ⟨rfl, Int.le_refl 0, by omega, rfl⟩, ?_⟩
 rintro i ⟨i0, i1, hI⟩
 rw [cond_prop]
 refine ⟨fun hi => ?_, fun hi => ?_⟩
 ·have hi : i < 5 := of_decide_eq_true hi
  obtain ⟨_, k2, k3⟩ := KE i0 hi
  rw [Hq i0 hi] at hI
  generalize aB.getD i.toNat ([], 0) = x at *
  rw [zf (by omega) (by omega)]
  have hI : cond (decide (x.1.map aO = s.map aO)) (x.2, 0) (U.rW s (aB.drop (i + 1).toNat)) = U.kK s := hI
  refine ⟨i0, hi, fun h => ⟨fun y hy => (k3 y hy).2, by have := of_decide_eq_true h; omega, by omega⟩, ?_⟩
  by_cases h : x.1.map aO = s.map aO
  ·rw [decide_eq_true h] at hI ⊢
   rw [decide_eq_true (by have := OW _ _ h; omega), <- hI]
   exact ⟨rfl, rfl, trivial⟩
  ·rw [decide_eq_false h] at hI ⊢
   rw [Bool.and_false]
   exact ⟨i + 1, rfl, ⟨by omega, by omega, hI⟩, by simp only [kH]; omega⟩
 ·have hi : ¬ i < 5 := of_decide_eq_false hi
  rw [Es (by omega)] at hI
  rw [<- hI]; exact ⟨rfl, rfl, trivial⟩
theorem Hw (q : Int) : qY q := by
 unfold qY U.iD
 simp only [Jl, Oc, IK, NV, NW, maxLen_eq]
 have htot := LP (q := q) (l := aB) (fun _ h => h) (by rw [lZ]; omega)
 refine ⟨([], 0), ⟨rfl, Int.le_refl 0, by dsimp only; omega, rfl⟩, ?_⟩
 rintro ⟨l, i⟩ ⟨i0, i1, hI⟩
 dsimp only at i0 i1 hI ⊢
 have hll : l.length <= 5 := by
  have := congrArg List.length hI
  rw [List.length_append] at this; omega
 rw [cond_prop]
 refine ⟨fun hi => ?_, fun hi => ?_⟩
 ·have hi : i < 5 := of_decide_eq_true hi
  rw [Hq i0 hi] at hI
  generalize aB.getD i.toNat ([], 0) = x at *
  rw [zf (by omega) (by omega)]
  have hI : l ++ cond (U.vX q x.2) (x.1 :: U.gZ q (aB.drop (i + 1).toNat)) (U.gZ q (aB.drop (i + 1).toNat)) = U.gZ q aB := hI
  refine ⟨i0, by show i < (5 : Int); omega, ?_⟩
  cases hb : U.vX q x.2 with
  | true =>
    rw [hb] at hI
    refine ⟨by omega, by omega, (l ++ [x.1], i + 1), rfl, ⟨by dsimp only; omega, by dsimp only; omega, ?_⟩, by simp only [kH]; omega⟩
    dsimp only
    rw [<- hI, List.append_assoc]; rfl
  | false =>
    rw [hb] at hI
    exact ⟨(l, i + 1), rfl, ⟨by dsimp only; omega, by dsimp only; omega, hI⟩, by simp only [kH]; omega⟩
 ·have hi : ¬ i < 5 := of_decide_eq_false hi
  rw [Es (by omega)] at hI
  have hI : l ++ [] = U.gZ q aB := hI
  rw [List.append_nil] at hI
  rw [hI]
  exact ⟨⟨by omega, by omega⟩, by omega, by omega, rfl, trivial⟩
end Go.Proofs.YtdobgidhhpdihaaDoor
set_option linter.unusedSimpArgs false
set_option maxRecDepth 100000
set_option linter.unusedVariables false
namespace Go.Proofs.YtdobgidhhpdihaaDoor
open Go.Vc
theorem IL (x : aX [.int .i64]) : mJ Tryd.prog (iT kX) (zL x) 15 (jF [.int .i64] x) [] (sW x) = qW x := by kernel_rfl
theorem IQ : Pok 15 [.int .i64] (fun x => sW x) := by
 refine pk (L := fun x => zL x) (l := kX) uF (fun _ => rfl) ?_
 intro x hv hp
 rw [IL]
 exact Ht x (T.PU hv)
theorem IU : kU Tryd.prog gl 15 zK := IQ
theorem yD : iK nX := .cons IU uF
theorem IV (x : aX [.int .i64, .int .i64, .int .i64]) : mJ Tryd.prog (iT nX) (zN x.1 x.2.1 x.2.2) 7 (jF [.int .i64, .int .i64, .int .i64] x) [] (sZ x.1 x.2.1 x.2.2) = qX x.1 x.2.1 x.2.2 := by kernel_rfl
theorem IW : Pok 7 [.int .i64, .int .i64, .int .i64] (fun x => sZ x.1 x.2.1 x.2.2) := by
 refine pk (L := fun x => zN x.1 x.2.1 x.2.2) (l := nX) yD (fun _ => rfl) ?_
 intro x hv hp
 rw [IV]
 exact Hu x.1 x.2.1 x.2.2
theorem IX : kU Tryd.prog gl 7 zM := IW
theorem yE : iK nY := .cons IX yD
theorem LQ (x : aX [.str]) : mJ Tryd.prog (iT nY) (Eo x) 8 (jF [.str] x) [] (yC x) = vY x := by kernel_rfl
theorem LU : Pok 8 [.str] (fun x => yC x) := by
 refine pk (L := fun x => Eo x) (l := nY) yE (fun _ => rfl) ?_
 intro x hv hp
 rw [LQ]
 exact KF x hv
theorem LV : kU Tryd.prog gl 8 En := LU
theorem CP : iK rX := .cons LV yE
theorem IY (x : aX [.int .i64]) : mJ Tryd.prog (iT rX) (zQ x) 13 (jF [.int .i64] x) [] (tq x) = qY x := by kernel_rfl
theorem IZ : Pok 13 [.int .i64] (fun x => tq x) := by
 refine pk (L := fun x => zQ x) (l := rX) CP (fun _ => rfl) ?_
 intro x hv hp
 rw [IY]
 exact Hw x
theorem I5 : kU Tryd.prog gl 13 zO := IZ
theorem yF : iK nZ := .cons I5 CP
end Go.Proofs.YtdobgidhhpdihaaDoor
