/- What functions of this seat compute, in plain Lean. -/
import Derived.Test.YtoecpaccpcnkcaaDoorA
set_option linter.unusedVariables false
set_option linter.unusedSimpArgs false
set_option maxRecDepth 100000
namespace Go.Proofs.YtoecpaccpcnkcaaDoor
open Go.Vc
namespace U
def val (l : List Int) : Int := l.foldl (fun a x => a * 256 + x) 0
end U
namespace U
def stlaw04_ShaPads_11 (b : List Int) (v : Int) (i : Int) : St2 := ⟨⟨[sL false (.int .u8) b] ++ U.n 2 ++ [sL true (.int .u8) (pad b)] ++ [sI (pad b).length] ++ [sI v] ++ [sI i] ++ U.n 69, [], []⟩, 0, []⟩
def Ilaw04_ShaPads_11 (b : List Int)  (v : Int) (i : Int) : Prop := ((pad b).length : Int) - 8 ≤ i ∧ i ≤ (pad b).length ∧ v = val (((pad b).drop ((pad b).length - 8)).take (i.toNat - ((pad b).length - 8)))
def stlaw04_ShaPads_15 (b : List Int) (v : Int) (i : Int) : St2 := ⟨⟨[sL false (.int .u8) b] ++ U.n 2 ++ [sL true (.int .u8) (pad b)] ++ [sI (pad b).length] ++ [sI v] ++ U.n 1 ++ [sI i] ++ U.n 68, [], []⟩, 0, []⟩
def Ilaw04_ShaPads_15 (b : List Int)  (v : Int) (i : Int) : Prop := (b.length : Int) + 1 ≤ i ∧ i + 8 ≤ (pad b).length ∧ v = val ((pad b).drop ((pad b).length - 8))
def stlaw04_ShaPieces_5 (l : List (List Int)) (o : List Int) (i : Int) : St2 := ⟨⟨[sL false tBytes l] ++ U.n 2 ++ [own 0] ++ [sI i] ++ U.n 28, [], [(0, .row 5 (.int .u8) true true o)]⟩, 1, []⟩
def Ilaw04_ShaPieces_5 (l : List (List Int))  (o : List Int) (i : Int) : Prop := at_ l i ∧ o = (l.take i.toNat).flatten ∧ o.length ≤ 2000
end U
def lplaw04_ShaPads_11 (b : List Int) : Vc.Loop := ⟨{ keep := [0, 3, 4, 5, 6] }, Int × Int, fun x => U.stlaw04_ShaPads_11 b x.1 x.2, fun x0 x => U.Ilaw04_ShaPads_11 b  x.1 x.2, fun x => (U.pad b).length - x.2.toNat⟩
def lplaw04_ShaPads_15 (b : List Int) : Vc.Loop := ⟨{ keep := [0, 3, 4, 5, 7] }, Int × Int, fun x => U.stlaw04_ShaPads_15 b x.1 x.2, fun x0 x => U.Ilaw04_ShaPads_15 b  x.1 x.2, fun x => (U.pad b).length - x.2.toNat⟩
def lplaw04_ShaPieces_5 (l : List (List Int)) : Vc.Loop := ⟨{ keep := [0, 3, 4], wake := [(3, 5)] }, List Int × Int, fun x => U.stlaw04_ShaPieces_5 l x.1 x.2, fun x0 x => U.Ilaw04_ShaPieces_5 l  x.1 x.2, fun x => l.length - x.2.toNat⟩
def dlaw04_alive  : Done := ⟨[], .one (.bool true), [], []⟩
def slaw04_alive : Vc.Sum := .pure [] false fun _ => dlaw04_alive 
def Llaw04_alive  : Nat → List V → Nat → Option Vc.Loop := noKeep
def Qlaw04_alive : List (Nat × Ent) := (8, .sum slaw04_alive) :: Qsha_Text
def dlaw04_ShaPads (b : List Int) : Done := sayTrue [tBytes] b
def slaw04_ShaPads : Vc.Sum := .pure [tBytes] false fun x => dlaw04_ShaPads x
def Llaw04_ShaPads (b : List Int) : Nat → List V → Nat → Option Vc.Loop := fun f v k => cond (Nat.beq f 3 && Nat.beq k 11) (some (lplaw04_ShaPads_11 b)) <| cond (Nat.beq f 3 && Nat.beq k 15) (some (lplaw04_ShaPads_15 b)) <| none
def dlaw04_ShaPieces (l : List (List Int)) : Done := sayTrue [tPieces] l
def slaw04_ShaPieces : Vc.Sum := .pure [tPieces] false fun x => dlaw04_ShaPieces x
def Llaw04_ShaPieces (l : List (List Int)) : Nat → List V → Nat → Option Vc.Loop := fun f v k => cond (Nat.beq f 4 && Nat.beq k 5) (some (lplaw04_ShaPieces_5 l)) <| none
end Go.Proofs.YtoecpaccpcnkcaaDoor
/- What is owed of the functions, in plain Lean (printed by a program of this project). -/
set_option maxRecDepth 100000
set_option linter.unusedVariables false
namespace Go.Proofs.YtoecpaccpcnkcaaDoor
open Go.Vc
def vclaw04_alive  : Prop :=
  (0 : Nat) < (3 : Nat) ∧
    (3 : Nat) ≤ (1000000000000 : Nat) ∧
      ((U.text
                  (U.sum
                    ((([(0 : Int), (0 : Int), (0 : Int)].set (0 : Nat) (97 : Int)).set (1 : Nat) (98 : Int)).set
                      (2 : Nat) (99 : Int)))).beq
              [(↑(UInt8.toNat (98 : UInt8)) : Int), (↑(UInt8.toNat (97 : UInt8)) : Int),
                (↑(UInt8.toNat (55 : UInt8)) : Int), (↑(UInt8.toNat (56 : UInt8)) : Int),
                (↑(UInt8.toNat (49 : UInt8)) : Int), (↑(UInt8.toNat (54 : UInt8)) : Int),
                (↑(UInt8.toNat (98 : UInt8)) : Int), (↑(UInt8.toNat (102 : UInt8)) : Int),
                (↑(UInt8.toNat (56 : UInt8)) : Int), (↑(UInt8.toNat (102 : UInt8)) : Int),
                (↑(UInt8.toNat (48 : UInt8)) : Int), (↑(UInt8.toNat (49 : UInt8)) : Int),
                (↑(UInt8.toNat (99 : UInt8)) : Int), (↑(UInt8.toNat (102 : UInt8)) : Int),
                (↑(UInt8.toNat (101 : UInt8)) : Int), (↑(UInt8.toNat (97 : UInt8)) : Int),
                (↑(UInt8.toNat (52 : UInt8)) : Int), (↑(UInt8.toNat (49 : UInt8)) : Int),
                (↑(UInt8.toNat (52 : UInt8)) : Int), (↑(UInt8.toNat (49 : UInt8)) : Int),
                (↑(UInt8.toNat (52 : UInt8)) : Int), (↑(UInt8.toNat (48 : UInt8)) : Int),
                (↑(UInt8.toNat (100 : UInt8)) : Int), (↑(UInt8.toNat (101 : UInt8)) : Int),
                (↑(UInt8.toNat (53 : UInt8)) : Int), (↑(UInt8.toNat (100 : UInt8)) : Int),
                (↑(UInt8.toNat (97 : UInt8)) : Int), (↑(UInt8.toNat (101 : UInt8)) : Int),
                (↑(UInt8.toNat (50 : UInt8)) : Int), (↑(UInt8.toNat (50 : UInt8)) : Int),
                (↑(UInt8.toNat (50 : UInt8)) : Int), (↑(UInt8.toNat (51 : UInt8)) : Int),
                (↑(UInt8.toNat (98 : UInt8)) : Int), (↑(UInt8.toNat (48 : UInt8)) : Int),
                (↑(UInt8.toNat (48 : UInt8)) : Int), (↑(UInt8.toNat (51 : UInt8)) : Int),
                (↑(UInt8.toNat (54 : UInt8)) : Int), (↑(UInt8.toNat (49 : UInt8)) : Int),
                (↑(UInt8.toNat (97 : UInt8)) : Int), (↑(UInt8.toNat (51 : UInt8)) : Int),
                (↑(UInt8.toNat (57 : UInt8)) : Int), (↑(UInt8.toNat (54 : UInt8)) : Int),
                (↑(UInt8.toNat (49 : UInt8)) : Int), (↑(UInt8.toNat (55 : UInt8)) : Int),
                (↑(UInt8.toNat (55 : UInt8)) : Int), (↑(UInt8.toNat (97 : UInt8)) : Int),
                (↑(UInt8.toNat (57 : UInt8)) : Int), (↑(UInt8.toNat (99 : UInt8)) : Int),
                (↑(UInt8.toNat (98 : UInt8)) : Int), (↑(UInt8.toNat (52 : UInt8)) : Int),
                (↑(UInt8.toNat (49 : UInt8)) : Int), (↑(UInt8.toNat (48 : UInt8)) : Int),
                (↑(UInt8.toNat (102 : UInt8)) : Int), (↑(UInt8.toNat (102 : UInt8)) : Int),
                (↑(UInt8.toNat (54 : UInt8)) : Int), (↑(UInt8.toNat (49 : UInt8)) : Int),
                (↑(UInt8.toNat (102 : UInt8)) : Int), (↑(UInt8.toNat (50 : UInt8)) : Int),
                (↑(UInt8.toNat (48 : UInt8)) : Int), (↑(UInt8.toNat (48 : UInt8)) : Int),
                (↑(UInt8.toNat (49 : UInt8)) : Int), (↑(UInt8.toNat (53 : UInt8)) : Int),
                (↑(UInt8.toNat (97 : UInt8)) : Int), (↑(UInt8.toNat (100 : UInt8)) : Int)] =
            true →
          (0 : Nat) ≤ (1000000000000 : Nat)) ∧
        (bif
                (U.text
                      (U.sum
                        ((([(0 : Int), (0 : Int), (0 : Int)].set (0 : Nat) (97 : Int)).set (1 : Nat) (98 : Int)).set
                          (2 : Nat) (99 : Int)))).beq
                  [(↑(UInt8.toNat (98 : UInt8)) : Int), (↑(UInt8.toNat (97 : UInt8)) : Int),
                    (↑(UInt8.toNat (55 : UInt8)) : Int), (↑(UInt8.toNat (56 : UInt8)) : Int),
                    (↑(UInt8.toNat (49 : UInt8)) : Int), (↑(UInt8.toNat (54 : UInt8)) : Int),
                    (↑(UInt8.toNat (98 : UInt8)) : Int), (↑(UInt8.toNat (102 : UInt8)) : Int),
                    (↑(UInt8.toNat (56 : UInt8)) : Int), (↑(UInt8.toNat (102 : UInt8)) : Int),
                    (↑(UInt8.toNat (48 : UInt8)) : Int), (↑(UInt8.toNat (49 : UInt8)) : Int),
                    (↑(UInt8.toNat (99 : UInt8)) : Int), (↑(UInt8.toNat (102 : UInt8)) : Int),
                    (↑(UInt8.toNat (101 : UInt8)) : Int), (↑(UInt8.toNat (97 : UInt8)) : Int),
                    (↑(UInt8.toNat (52 : UInt8)) : Int), (↑(UInt8.toNat (49 : UInt8)) : Int),
                    (↑(UInt8.toNat (52 : UInt8)) : Int), (↑(UInt8.toNat (49 : UInt8)) : Int),
                    (↑(UInt8.toNat (52 : UInt8)) : Int), (↑(UInt8.toNat (48 : UInt8)) : Int),
                    (↑(UInt8.toNat (100 : UInt8)) : Int), (↑(UInt8.toNat (101 : UInt8)) : Int),
                    (↑(UInt8.toNat (53 : UInt8)) : Int), (↑(UInt8.toNat (100 : UInt8)) : Int),
                    (↑(UInt8.toNat (97 : UInt8)) : Int), (↑(UInt8.toNat (101 : UInt8)) : Int),
                    (↑(UInt8.toNat (50 : UInt8)) : Int), (↑(UInt8.toNat (50 : UInt8)) : Int),
                    (↑(UInt8.toNat (50 : UInt8)) : Int), (↑(UInt8.toNat (51 : UInt8)) : Int),
                    (↑(UInt8.toNat (98 : UInt8)) : Int), (↑(UInt8.toNat (48 : UInt8)) : Int),
                    (↑(UInt8.toNat (48 : UInt8)) : Int), (↑(UInt8.toNat (51 : UInt8)) : Int),
                    (↑(UInt8.toNat (54 : UInt8)) : Int), (↑(UInt8.toNat (49 : UInt8)) : Int),
                    (↑(UInt8.toNat (97 : UInt8)) : Int), (↑(UInt8.toNat (51 : UInt8)) : Int),
                    (↑(UInt8.toNat (57 : UInt8)) : Int), (↑(UInt8.toNat (54 : UInt8)) : Int),
                    (↑(UInt8.toNat (49 : UInt8)) : Int), (↑(UInt8.toNat (55 : UInt8)) : Int),
                    (↑(UInt8.toNat (55 : UInt8)) : Int), (↑(UInt8.toNat (97 : UInt8)) : Int),
                    (↑(UInt8.toNat (57 : UInt8)) : Int), (↑(UInt8.toNat (99 : UInt8)) : Int),
                    (↑(UInt8.toNat (98 : UInt8)) : Int), (↑(UInt8.toNat (52 : UInt8)) : Int),
                    (↑(UInt8.toNat (49 : UInt8)) : Int), (↑(UInt8.toNat (48 : UInt8)) : Int),
                    (↑(UInt8.toNat (102 : UInt8)) : Int), (↑(UInt8.toNat (102 : UInt8)) : Int),
                    (↑(UInt8.toNat (54 : UInt8)) : Int), (↑(UInt8.toNat (49 : UInt8)) : Int),
                    (↑(UInt8.toNat (102 : UInt8)) : Int), (↑(UInt8.toNat (50 : UInt8)) : Int),
                    (↑(UInt8.toNat (48 : UInt8)) : Int), (↑(UInt8.toNat (48 : UInt8)) : Int),
                    (↑(UInt8.toNat (49 : UInt8)) : Int), (↑(UInt8.toNat (53 : UInt8)) : Int),
                    (↑(UInt8.toNat (97 : UInt8)) : Int), (↑(UInt8.toNat (100 : UInt8)) : Int)] then
              decide ((↑((64 : Nat)) : Int) = (64 : Int))
            else false) =
            true ∧
          True
def vclaw04_ShaPads (b : List Int) : Prop :=
  bif decide ((↑b.length : Int) > (2000 : Int)) then true = true ∧ True
  else
    b.length ≤ (1000000000000 : Nat) ∧
      (64 : Int) ≠ (0 : Int) ∧
        ((bif
                  bif (↑(U.pad b).length : Int).tmod (64 : Int) != (0 : Int) then true
                  else decide ((↑(U.pad b).length : Int) < IntKind.i64.wrap ((↑b.length : Int).add (9 : Int))) then
                true
              else decide ((↑(U.pad b).length : Int) > IntKind.i64.wrap ((↑b.length : Int).add (72 : Int)))) =
              false →
            (0 : Int) ≤ (↑b.length : Int)) ∧
          ((bif
                    bif (↑(U.pad b).length : Int).tmod (64 : Int) != (0 : Int) then true
                    else decide ((↑(U.pad b).length : Int) < IntKind.i64.wrap ((↑b.length : Int).add (9 : Int))) then
                  true
                else decide ((↑(U.pad b).length : Int) > IntKind.i64.wrap ((↑b.length : Int).add (72 : Int)))) =
                false →
              (↑b.length : Int) < (↑(U.pad b).length : Int)) ∧
            bif
                bif
                    bif
                        bif (↑(U.pad b).length : Int).tmod (64 : Int) != (0 : Int) then true
                        else
                          decide ((↑(U.pad b).length : Int) < IntKind.i64.wrap ((↑b.length : Int).add (9 : Int))) then
                      true
                    else decide ((↑(U.pad b).length : Int) > IntKind.i64.wrap ((↑b.length : Int).add (72 : Int))) then
                  true
                else (U.pad b).getD (↑b.length : Int).toNat (0 : Int) != (128 : Int) then
              false = true ∧ True
            else
              ∃ (x0 : Int × Int),
                (U.stlaw04_ShaPads_11 b (0 : Int) (IntKind.i64.wrap ((↑(U.pad b).length : Int).sub (8 : Int))) =
                      U.stlaw04_ShaPads_11 b x0.fst x0.snd ∧
                    U.Ilaw04_ShaPads_11 b x0.fst x0.snd) ∧
                  ∀ (x : Int × Int),
                    U.Ilaw04_ShaPads_11 b x.fst x.snd →
                      bif decide (x.snd < (↑(U.pad b).length : Int)) then
                        (0 : Int) ≤ x.snd ∧
                          x.snd < (↑(U.pad b).length : Int) ∧
                            ∃ (y : Int × Int),
                              U.stlaw04_ShaPads_11 b
                                    (IntKind.i64.wrap
                                      ((IntKind.i64.wrap (x.fst.mul (256 : Int))).add
                                        (IntKind.i64.wrap ((U.pad b).getD x.snd.toNat (0 : Int)))))
                                    (IntKind.i64.wrap (x.snd.add (1 : Int))) =
                                  U.stlaw04_ShaPads_11 b y.fst y.snd ∧
                                U.Ilaw04_ShaPads_11 b y.fst y.snd ∧
                                  (U.pad b).length.sub y.snd.toNat < (U.pad b).length.sub x.snd.toNat
                      else
                        ∃ (x0 : Int × Int),
                          (U.stlaw04_ShaPads_15 b x.fst (IntKind.i64.wrap ((↑b.length : Int).add (1 : Int))) =
                                U.stlaw04_ShaPads_15 b x0.fst x0.snd ∧
                              U.Ilaw04_ShaPads_15 b x0.fst x0.snd) ∧
                            ∀ (x : Int × Int),
                              U.Ilaw04_ShaPads_15 b x.fst x.snd →
                                bif decide (x.snd < IntKind.i64.wrap ((↑(U.pad b).length : Int).sub (8 : Int))) then
                                  (0 : Int) ≤ x.snd ∧
                                    x.snd < (↑(U.pad b).length : Int) ∧
                                      bif (U.pad b).getD x.snd.toNat (0 : Int) != (0 : Int) then false = true ∧ True
                                      else
                                        ∃ (y : Int × Int),
                                          U.stlaw04_ShaPads_15 b x.fst (IntKind.i64.wrap (x.snd.add (1 : Int))) =
                                              U.stlaw04_ShaPads_15 b y.fst y.snd ∧
                                            U.Ilaw04_ShaPads_15 b y.fst y.snd ∧
                                              (U.pad b).length.sub y.snd.toNat < (U.pad b).length.sub x.snd.toNat
                                else
                                  decide (x.fst = IntKind.i64.wrap (Int.mul (8 : Int) (↑b.length : Int))) = true ∧ True
def vclaw04_ShaPieces (l : List (List Int)) : Prop :=
  ∃ (x0 : List Int × Int),
    (U.stlaw04_ShaPieces_5 l [] (0 : Int) = U.stlaw04_ShaPieces_5 l x0.fst x0.snd ∧
        U.Ilaw04_ShaPieces_5 l x0.fst x0.snd) ∧
      ∀ (x : List Int × Int),
        U.Ilaw04_ShaPieces_5 l x.fst x.snd →
          bif decide (x.snd < (↑l.length : Int)) then
            (0 : Int) ≤ x.snd ∧
              x.snd < (↑l.length : Int) ∧
                bif
                    decide
                      (IntKind.i64.wrap ((↑x.fst.length : Int).add (↑(l.getD x.snd.toNat []).length : Int)) >
                        (2000 : Int)) then
                  true = true ∧ True
                else
                  (0 : Int) ≤ x.snd ∧
                    x.snd < (↑l.length : Int) ∧
                      (x.fst.length.add (l.getD x.snd.toNat []).length).mul (1 : Nat) ≤ (140737488355328 : Nat) ∧
                        x.fst.length.add (l.getD x.snd.toNat []).length ≤ maxLen ∧
                          ∃ (y : List Int × Int),
                            U.stlaw04_ShaPieces_5 l (x.fst.append (l.getD x.snd.toNat []))
                                  (IntKind.i64.wrap (x.snd.add (1 : Int))) =
                                U.stlaw04_ShaPieces_5 l y.fst y.snd ∧
                              U.Ilaw04_ShaPieces_5 l y.fst y.snd ∧ l.length.sub y.snd.toNat < l.length.sub x.snd.toNat
          else
            l.flatten.length ≤ (1000000000000 : Nat) ∧
              x.fst.length ≤ (1000000000000 : Nat) ∧ (U.sum l.flatten).beq (U.sum x.fst) = true ∧ True
end Go.Proofs.YtoecpaccpcnkcaaDoor
/- What is owed of the functions, proved in plain Lean. -/
set_option linter.unusedSimpArgs false
set_option linter.unusedVariables false
set_option maxRecDepth 100000
namespace Go.Proofs.YtoecpaccpcnkcaaDoor
open Go.Vc
open Go.Vc.T
theorem oklaw04_alive : vclaw04_alive := by unfold vclaw04_alive; decide +kernel
theorem val_app (a : List Int) (x : Int) : U.val (a ++ [x]) = U.val a * 256 + x := by simp [U.val, List.foldl_append]
theorem be8_len : ∀ k n, (U.be8 k n).length = k := fun k n => by induction k with | zero => rfl | succ k ih => rw [U.be8, List.length_cons, ih]
theorem be8_take : ∀ (k j n : Nat), (U.be8 (k + j) n).take k = U.be8 k (n / 256 ^ j)
  | 0, j, n => by simp [U.be8]
  | k + 1, j, n => by
    rw [show k + 1 + j = (k + j) + 1 by omega, U.be8, U.be8, List.take_succ_cons, be8_take k j n, Nat.div_div_eq_div_mul, ← Nat.pow_add, Nat.add_comm j k]
theorem be8_snoc (k n : Nat) : U.be8 (k + 1) n = U.be8 k (n / 256) ++ [((n % 256 : Nat) : Int)] := by
  have h1 := be8_take k 1 n
  rw [Nat.pow_one] at h1
  rw [← h1]
  have hl := be8_len (k + 1) n
  have : ∀ k, (U.be8 (k + 1) n)[k]? = some ((n % 256 : Nat) : Int) := by
    intro k
    induction k with
    | zero => simp [U.be8]
    | succ k ih => rw [U.be8, List.getElem?_cons_succ]; exact ih
  have h2 := this k
  obtain ⟨hk, h2⟩ := List.getElem?_eq_some_iff.1 h2
  conv => lhs; rw [← List.take_length (l := U.be8 (k + 1) n), hl, List.take_succ_eq_append_getElem (by omega), h2]
theorem val_be8 : ∀ (k n : Nat), U.val (U.be8 k n) = ((n % 256 ^ k : Nat) : Int)
  | 0, n => by simp [U.be8, U.val, Nat.mod_one]
  | k + 1, n => by
    rw [be8_snoc, val_app, val_be8 k (n / 256)]
    have h : n % 256 ^ (k + 1) = n / 256 % 256 ^ k * 256 + n % 256 := by
      rw [Nat.pow_succ, Nat.mul_comm (256 ^ k), Nat.mod_mul]; omega
    rw [h]; push_cast; rfl
theorem pad_tail (b : List Int) : (U.pad b).drop ((U.pad b).length - 8) = U.be8 8 (b.length * 8) := by
  rw [(pad_len b).2]; unfold U.pad
  rw [show b ++ (128 :: (List.replicate (U.zeros b.length) 0 ++ U.be8 8 (b.length * 8))) = (b ++ (128 :: List.replicate (U.zeros b.length) 0)) ++ U.be8 8 (b.length * 8) by simp]
  rw [List.drop_append_of_le_length (by simp; omega), List.drop_eq_nil_of_le (by simp; omega)]; rfl
theorem pad_mid (b : List Int) (k : Nat) (h1 : b.length < k) (h2 : k < b.length + 1 + U.zeros b.length) : (U.pad b).getD k 0 = 0 := by
  rw [getD_at (by rw [(pad_len b).2]; omega)]
  unfold U.pad
  rw [List.getElem_append_right (by omega), List.getElem_cons, dif_neg (by omega), List.getElem_append_left (by simp; omega)]
  simp
theorem pad_at (b : List Int) : (U.pad b).getD b.length 0 = 128 := by
  rw [getD_at (by rw [(pad_len b).2]; omega)]
  unfold U.pad
  rw [List.getElem_append_right (by omega)]; simp
theorem oklaw04_ShaPads (b : List Int) : vclaw04_ShaPads b := by
  unfold vclaw04_ShaPads
  have hp := pad_len b
  have hz := zeros_lt b.length
  simp only [cond_prop, int_add, int_sub, int_mul, nat_sub, U.Ilaw04_ShaPads_11, U.Ilaw04_ShaPads_15, wrap_i64, decide_eq_true_eq, decide_eq_false_iff_not]
  refine ⟨fun _ => ⟨trivial, trivial⟩, fun hb => ?_⟩
  rw [Int.tmod_eq_emod_of_nonneg (show 0 ≤ ((U.pad b).length : Int) by omega), show ((b.length : Int)).toNat = b.length by omega, pad_at]
  have c : (bif bif ((((U.pad b).length : Nat) : Int) % 64 != 0) then true else decide ((((U.pad b).length : Nat) : Int) < ((b.length : Int) + 9 + 9223372036854775808) % 18446744073709551616 - 9223372036854775808) then true else decide ((((U.pad b).length : Nat) : Int) > ((b.length : Int) + 72 + 9223372036854775808) % 18446744073709551616 - 9223372036854775808)) = false := by
    rw [show (((((U.pad b).length : Nat) : Int) % 64 != 0)) = false by rw [bne_eq_false_iff_eq]; omega]
    rw [cond_false, show decide ((((U.pad b).length : Nat) : Int) < ((b.length : Int) + 9 + 9223372036854775808) % 18446744073709551616 - 9223372036854775808) = false by rw [decide_eq_false_iff_not]; omega, cond_false, decide_eq_false_iff_not]
    omega
  rw [c]
  refine ⟨by omega, by omega, fun _ => by omega, fun _ => by omega, fun h => ?_, fun _ => ⟨(_, _), ⟨rfl, ?_, ?_, ?_⟩, ?_⟩⟩
  · exact absurd h (by decide)
  · simp only []; omega
  · simp only []; omega
  · simp only []
    rw [show ((((U.pad b).length : Int) - 8 + 9223372036854775808) % 18446744073709551616 - 9223372036854775808).toNat - ((U.pad b).length - 8) = 0 by omega]; rfl
  rintro ⟨v, i⟩ ⟨h0, h1, hv⟩
  simp only [] at *
  rw [pad_tail] at hv
  refine ⟨fun hi => ?_, fun hi => ?_⟩
  · obtain ⟨j, hj⟩ : ∃ j : Nat, i = ((U.pad b).length - 8 : Nat) + (j : Int) := ⟨i.toNat - ((U.pad b).length - 8), by omega⟩
    have hj8 : j < 8 := by omega
    have hget : (U.pad b).getD i.toNat 0 = (U.be8 8 (b.length * 8)).getD j 0 := by
      rw [← pad_tail, show i.toNat = ((U.pad b).length - 8) + j by omega]
      rw [getD_at (by omega), getD_at (by rw [List.length_drop]; omega)]; simp
    have ev : v = U.val ((U.be8 8 (b.length * 8)).take j) := by rw [hv]; congr 2; omega
    have hvb : U.val ((U.be8 8 (b.length * 8)).take (j + 1)) = v * 256 + (U.pad b).getD i.toNat 0 := by
      rw [List.take_succ_eq_append_getElem (by rw [be8_len]; omega), val_app, ← ev, hget, getD_at (by rw [be8_len]; omega)]
    have hsm : ∀ m, m ≤ 8 → 0 ≤ U.val ((U.be8 8 (b.length * 8)).take m) ∧ U.val ((U.be8 8 (b.length * 8)).take m) ≤ 16000 := by
      intro m hm
      have := be8_take m (8 - m) (b.length * 8)
      rw [show m + (8 - m) = 8 by omega] at this
      rw [this, val_be8]
      have h1 : b.length * 8 / 256 ^ (8 - m) % 256 ^ m ≤ b.length * 8 / 256 ^ (8 - m) := Nat.mod_le _ _
      have h2 : b.length * 8 / 256 ^ (8 - m) ≤ b.length * 8 := Nat.div_le_self _ _
      omega
    have s1 := hsm j (by omega)
    have s2 := hsm (j + 1) (by omega)
    rw [← ev] at s1
    rw [hvb] at s2
    have hgb : 0 ≤ (U.pad b).getD i.toNat 0 ∧ (U.pad b).getD i.toNat 0 ≤ 255 := by
      rw [hget, getD_at (by rw [be8_len]; omega)]
      have : ∀ k n, ∀ x ∈ U.be8 k n, 0 ≤ x ∧ x ≤ 255 := by
        intro k n; induction k with
        | zero => intro x hx; cases hx
        | succ k ih => intro x hx; rw [U.be8, List.mem_cons] at hx; rcases hx with rfl | hx; · omega
                       · exact ih x hx
      exact this 8 _ _ (List.getElem_mem _)
    refine ⟨by omega, by omega, (_, _), rfl, ⟨?_, ?_, ?_⟩, ?_⟩ <;> simp only []
    · omega
    · omega
    · rw [pad_tail, show ((i + 1 + 9223372036854775808) % 18446744073709551616 - 9223372036854775808).toNat - ((U.pad b).length - 8) = j + 1 by omega, hvb]
      omega
    · omega
  · have ev : v = U.val (U.be8 8 (b.length * 8)) := by rw [hv, List.take_of_length_le (by rw [be8_len]; omega)]
    refine ⟨(_, _), ⟨rfl, ?_, ?_, ?_⟩, ?_⟩
    · simp only []; omega
    · simp only []; omega
    · simp only []; rw [pad_tail]; exact ev
    rintro ⟨v, i⟩ ⟨h0, h1, hv⟩
    simp only [] at *
    refine ⟨fun hi => ⟨by omega, by omega, fun h => ?_, fun _ => ⟨(_, _), rfl, ⟨?_, ?_, hv⟩, ?_⟩⟩, fun hi => ⟨?_, trivial⟩⟩
    · rw [pad_mid b i.toNat (by omega) (by omega)] at h; exact absurd h (by decide)
    · simp only []; omega
    · simp only []; omega
    · simp only []; omega
    · rw [hv, pad_tail, val_be8]; omega
theorem oklaw04_ShaPieces (l : List (List Int)) (h : l.length ≤ maxLen) (hs : ∀ x ∈ l, x.length ≤ reachBytes) : vclaw04_ShaPieces l := by
  unfold vclaw04_ShaPieces
  rw [maxLen_eq] at h
  have hr : reachBytes ≤ 9000000000000000000 := by decide
  simp only [cond_prop, int_add, nat_sub, nat_add, nat_mul, list_append, U.Ilaw04_ShaPieces_5, U.at_, maxLen_eq, wrap_i64, decide_eq_true_eq, decide_eq_false_iff_not]
  refine ⟨(_, _), ⟨rfl, by simp, by simp⟩, ?_⟩
  rintro ⟨o, i⟩ ⟨⟨h0, h1⟩, ho, h2⟩
  simp only [] at *
  refine ⟨fun hi => ⟨h0, hi, fun _ => ⟨trivial, trivial⟩, fun hlt => ?_⟩, fun hi => ?_⟩
  · have hx : (l.getD i.toNat []).length ≤ reachBytes := by rw [getD_at (by omega)]; exact hs _ (List.getElem_mem _)
    have ht := flat_take h0 hi
    refine ⟨h0, hi, by omega, by omega, (_, _), rfl, ⟨⟨?_, ?_⟩, ?_, ?_⟩, ?_⟩ <;> simp only []
    · omega
    · omega
    · rw [show ((i + 1 + 9223372036854775808) % 18446744073709551616 - 9223372036854775808) = i + 1 by omega, ht, ho]
    · rw [List.length_append]; omega
    · omega
  · have : o = l.flatten := by rw [ho, take_end (by omega)]
    subst this
    refine ⟨by omega, by omega, ?_, trivial⟩
    rw [list_beq, beq_iff_eq]
end Go.Proofs.YtoecpaccpcnkcaaDoor
/- The functions' summaries hold of the program. -/
set_option linter.unusedSimpArgs false
set_option maxRecDepth 100000
set_option linter.unusedVariables false
namespace Go.Proofs.YtoecpaccpcnkcaaDoor
open Go.Vc
theorem wlaw04_alive (x : DenL []) : Owes Tryd.prog (cfgOf Qsha_Text) (Llaw04_alive ) 8 (argVs [] x) [] (dlaw04_alive ) = vclaw04_alive  := by kernel_rfl
theorem qlaw04_alive : Pok 8 [] (fun x => dlaw04_alive ) := by
  refine pk (L := fun x => Llaw04_alive ) (l := Qsha_Text) aQsha_Text (fun _ => rfl) ?_
  intro x hv hp
  rw [wlaw04_alive]
  exact oklaw04_alive  
theorem plaw04_alive : SumOk Tryd.prog gl 8 slaw04_alive := qlaw04_alive
theorem aQlaw04_alive : AllOk Qlaw04_alive := .cons plaw04_alive aQsha_Text
end Go.Proofs.YtoecpaccpcnkcaaDoor
