import Derived.Test.YtddakledpipanaaU3
import Derived.KernelRfl
set_option maxRecDepth 100000
set_option linter.unusedVariables false
namespace Go.Proofs.Ytddakledpipanaa
open Go.Vc
def vc3 (b : Box) (m : Msg) : Prop :=
  bif bif U.great b then true else decide ((↑m.snd.snd.snd.length : Int) > (5000 : Int)) then true = true ∧ True
  else
    U.small b.snd.snd.snd ∧
      (bif
              bif
                  bif
                      bif U.eqBox (U.add b m).fst (U.add b m).fst then
                        decide ((U.add b m).snd.fst = (U.add b m).snd.fst)
                      else false then
                    decide ((U.add b m).snd.snd = (U.add b m).snd.snd)
                  else false then
                decide (U.right b = U.right b)
              else false then
            U.eqBox b b
          else false) =
          true ∧
        True
theorem owes_3 (b : Box) (m : Msg) : Owes Try.prog (cfgOf QE) noKeep 3 [.of false tBox b, .of false tMsg m] [] (rB true) = vc3 b m := by kernel_rfl
def vc6 (b : Box) (l : List Int) (w : List Int) : Prop :=
  bif bif U.great b then true else decide ((↑l.length : Int) > (100 : Int)) then true = true ∧ True
  else
    U.small b.snd.snd.snd ∧
      (0 : Int) ≤ (0 : Int) ∧
        (0 : Int) < (↑(2 : Nat) : Int) ∧
          Int.toNat (0 : Int) < (2 : Nat) ∧
            (0 : Int) ≤ (1 : Int) ∧
              (1 : Int) < (↑(2 : Nat) : Int) ∧
                Int.toNat (1 : Int) < (2 : Nat) ∧
                  (0 : Int) ≤ (0 : Int) ∧
                    (0 : Int) < (↑(2 : Nat) : Int) ∧
                      Int.toNat (0 : Int) < (2 : Nat) ∧
                        (0 : Int) ≤ (1 : Int) ∧
                          (1 : Int) < (↑(2 : Nat) : Int) ∧
                            Int.toNat (1 : Int) < (2 : Nat) ∧
                              (bif
                                      bif
                                          bif
                                              bif
                                                  bif
                                                      U.eqBox
                                                        (U.store b l (w.getD (Int.toNat (0 : Int)) (0 : Int))
                                                            (w.getD (Int.toNat (1 : Int)) (0 : Int))).fst
                                                        (U.store b l (w.getD (Int.toNat (0 : Int)) (0 : Int))
                                                            (w.getD (Int.toNat (1 : Int)) (0 : Int))).fst then
                                                    decide
                                                      ((U.store b l (w.getD (Int.toNat (0 : Int)) (0 : Int))
                                                            (w.getD (Int.toNat (1 : Int)) (0 : Int))).snd =
                                                        (U.store b l (w.getD (Int.toNat (0 : Int)) (0 : Int))
                                                            (w.getD (Int.toNat (1 : Int)) (0 : Int))).snd)
                                                  else false then
                                                U.eqBox (U.take b l).fst (U.take b l).fst
                                              else false then
                                            U.eqMs (U.take b l).snd.fst (U.take b l).snd.fst
                                          else false then
                                        decide ((U.take b l).snd.snd = (U.take b l).snd.snd)
                                      else false then
                                    U.eqBox b b
                                  else false) =
                                  true ∧
                                True
theorem owes_6 (b : Box) (l : List Int) (w : List Int) : Owes Try.prog (cfgOf QE) noKeep 6 [.of false tBox b, .of false tInts l, .of false tTwo w] [] (rB true) = vc6 b l w := by kernel_rfl
def vc8 (a b : Box) (w : List Int) : Prop :=
  bif bif U.great a then true else U.great b then true = true ∧ True
  else
    (0 : Int) ≤ (0 : Int) ∧
      (0 : Int) < (↑(2 : Nat) : Int) ∧
        Int.toNat (0 : Int) < (2 : Nat) ∧
          U.small a.snd.snd.snd ∧
            (0 : Int) ≤ (0 : Int) ∧
              (0 : Int) < (↑(2 : Nat) : Int) ∧
                Int.toNat (0 : Int) < (2 : Nat) ∧
                  U.small a.snd.snd.snd ∧
                    U.small a.snd.snd.snd ∧
                      ((bif
                                U.eqM (U.find a (w.getD (Int.toNat (0 : Int)) (0 : Int))).fst
                                  (U.find a (w.getD (Int.toNat (0 : Int)) (0 : Int))).fst then
                              decide
                                ((U.find a (w.getD (Int.toNat (0 : Int)) (0 : Int))).snd =
                                  (U.find a (w.getD (Int.toNat (0 : Int)) (0 : Int))).snd)
                            else false) =
                            true →
                          (0 : Int) ≤ (0 : Int)) ∧
                        ((bif
                                  U.eqM (U.find a (w.getD (Int.toNat (0 : Int)) (0 : Int))).fst
                                    (U.find a (w.getD (Int.toNat (0 : Int)) (0 : Int))).fst then
                                decide
                                  ((U.find a (w.getD (Int.toNat (0 : Int)) (0 : Int))).snd =
                                    (U.find a (w.getD (Int.toNat (0 : Int)) (0 : Int))).snd)
                              else false) =
                              true →
                            (0 : Int) < (↑(2 : Nat) : Int)) ∧
                          ((bif
                                    U.eqM (U.find a (w.getD (Int.toNat (0 : Int)) (0 : Int))).fst
                                      (U.find a (w.getD (Int.toNat (0 : Int)) (0 : Int))).fst then
                                  decide
                                    ((U.find a (w.getD (Int.toNat (0 : Int)) (0 : Int))).snd =
                                      (U.find a (w.getD (Int.toNat (0 : Int)) (0 : Int))).snd)
                                else false) =
                                true →
                              Int.toNat (0 : Int) < (2 : Nat)) ∧
                            ((bif
                                      U.eqM (U.find a (w.getD (Int.toNat (0 : Int)) (0 : Int))).fst
                                        (U.find a (w.getD (Int.toNat (0 : Int)) (0 : Int))).fst then
                                    decide
                                      ((U.find a (w.getD (Int.toNat (0 : Int)) (0 : Int))).snd =
                                        (U.find a (w.getD (Int.toNat (0 : Int)) (0 : Int))).snd)
                                  else false) =
                                  true →
                                (0 : Int) ≤ (0 : Int)) ∧
                              ((bif
                                        U.eqM (U.find a (w.getD (Int.toNat (0 : Int)) (0 : Int))).fst
                                          (U.find a (w.getD (Int.toNat (0 : Int)) (0 : Int))).fst then
                                      decide
                                        ((U.find a (w.getD (Int.toNat (0 : Int)) (0 : Int))).snd =
                                          (U.find a (w.getD (Int.toNat (0 : Int)) (0 : Int))).snd)
                                    else false) =
                                    true →
                                  (0 : Int) < (↑(2 : Nat) : Int)) ∧
                                ((bif
                                          U.eqM (U.find a (w.getD (Int.toNat (0 : Int)) (0 : Int))).fst
                                            (U.find a (w.getD (Int.toNat (0 : Int)) (0 : Int))).fst then
                                        decide
                                          ((U.find a (w.getD (Int.toNat (0 : Int)) (0 : Int))).snd =
                                            (U.find a (w.getD (Int.toNat (0 : Int)) (0 : Int))).snd)
                                      else false) =
                                      true →
                                    Int.toNat (0 : Int) < (2 : Nat)) ∧
                                  ((bif
                                            bif
                                                U.eqM (U.find a (w.getD (Int.toNat (0 : Int)) (0 : Int))).fst
                                                  (U.find a (w.getD (Int.toNat (0 : Int)) (0 : Int))).fst then
                                              decide
                                                ((U.find a (w.getD (Int.toNat (0 : Int)) (0 : Int))).snd =
                                                  (U.find a (w.getD (Int.toNat (0 : Int)) (0 : Int))).snd)
                                            else false then
                                          decide
                                            (U.place a.snd.snd.snd (w.getD (Int.toNat (0 : Int)) (0 : Int)) =
                                              U.place a.snd.snd.snd (w.getD (Int.toNat (0 : Int)) (0 : Int)))
                                        else false) =
                                        true →
                                      (0 : Int) ≤ (1 : Int)) ∧
                                    ((bif
                                              bif
                                                  U.eqM (U.find a (w.getD (Int.toNat (0 : Int)) (0 : Int))).fst
                                                    (U.find a (w.getD (Int.toNat (0 : Int)) (0 : Int))).fst then
                                                decide
                                                  ((U.find a (w.getD (Int.toNat (0 : Int)) (0 : Int))).snd =
                                                    (U.find a (w.getD (Int.toNat (0 : Int)) (0 : Int))).snd)
                                              else false then
                                            decide
                                              (U.place a.snd.snd.snd (w.getD (Int.toNat (0 : Int)) (0 : Int)) =
                                                U.place a.snd.snd.snd (w.getD (Int.toNat (0 : Int)) (0 : Int)))
                                          else false) =
                                          true →
                                        (1 : Int) < (↑(2 : Nat) : Int)) ∧
                                      ((bif
                                                bif
                                                    U.eqM (U.find a (w.getD (Int.toNat (0 : Int)) (0 : Int))).fst
                                                      (U.find a (w.getD (Int.toNat (0 : Int)) (0 : Int))).fst then
                                                  decide
                                                    ((U.find a (w.getD (Int.toNat (0 : Int)) (0 : Int))).snd =
                                                      (U.find a (w.getD (Int.toNat (0 : Int)) (0 : Int))).snd)
                                                else false then
                                              decide
                                                (U.place a.snd.snd.snd (w.getD (Int.toNat (0 : Int)) (0 : Int)) =
                                                  U.place a.snd.snd.snd (w.getD (Int.toNat (0 : Int)) (0 : Int)))
                                            else false) =
                                            true →
                                          Int.toNat (1 : Int) < (2 : Nat)) ∧
                                        ((bif
                                                  bif
                                                      U.eqM (U.find a (w.getD (Int.toNat (0 : Int)) (0 : Int))).fst
                                                        (U.find a (w.getD (Int.toNat (0 : Int)) (0 : Int))).fst then
                                                    decide
                                                      ((U.find a (w.getD (Int.toNat (0 : Int)) (0 : Int))).snd =
                                                        (U.find a (w.getD (Int.toNat (0 : Int)) (0 : Int))).snd)
                                                  else false then
                                                decide
                                                  (U.place a.snd.snd.snd (w.getD (Int.toNat (0 : Int)) (0 : Int)) =
                                                    U.place a.snd.snd.snd (w.getD (Int.toNat (0 : Int)) (0 : Int)))
                                              else false) =
                                              true →
                                            (0 : Int) ≤ (1 : Int)) ∧
                                          ((bif
                                                    bif
                                                        U.eqM (U.find a (w.getD (Int.toNat (0 : Int)) (0 : Int))).fst
                                                          (U.find a (w.getD (Int.toNat (0 : Int)) (0 : Int))).fst then
                                                      decide
                                                        ((U.find a (w.getD (Int.toNat (0 : Int)) (0 : Int))).snd =
                                                          (U.find a (w.getD (Int.toNat (0 : Int)) (0 : Int))).snd)
                                                    else false then
                                                  decide
                                                    (U.place a.snd.snd.snd (w.getD (Int.toNat (0 : Int)) (0 : Int)) =
                                                      U.place a.snd.snd.snd (w.getD (Int.toNat (0 : Int)) (0 : Int)))
                                                else false) =
                                                true →
                                              (1 : Int) < (↑(2 : Nat) : Int)) ∧
                                            ((bif
                                                      bif
                                                          U.eqM (U.find a (w.getD (Int.toNat (0 : Int)) (0 : Int))).fst
                                                            (U.find a (w.getD (Int.toNat (0 : Int)) (0 : Int))).fst then
                                                        decide
                                                          ((U.find a (w.getD (Int.toNat (0 : Int)) (0 : Int))).snd =
                                                            (U.find a (w.getD (Int.toNat (0 : Int)) (0 : Int))).snd)
                                                      else false then
                                                    decide
                                                      (U.place a.snd.snd.snd (w.getD (Int.toNat (0 : Int)) (0 : Int)) =
                                                        U.place a.snd.snd.snd (w.getD (Int.toNat (0 : Int)) (0 : Int)))
                                                  else false) =
                                                  true →
                                                Int.toNat (1 : Int) < (2 : Nat)) ∧
                                              ((bif
                                                        bif
                                                            bif
                                                                U.eqM
                                                                  (U.find a
                                                                      (w.getD (Int.toNat (0 : Int)) (0 : Int))).fst
                                                                  (U.find a
                                                                      (w.getD (Int.toNat (0 : Int)) (0 : Int))).fst then
                                                              decide
                                                                ((U.find a
                                                                      (w.getD (Int.toNat (0 : Int)) (0 : Int))).snd =
                                                                  (U.find a
                                                                      (w.getD (Int.toNat (0 : Int)) (0 : Int))).snd)
                                                            else false then
                                                          decide
                                                            (U.place a.snd.snd.snd
                                                                (w.getD (Int.toNat (0 : Int)) (0 : Int)) =
                                                              U.place a.snd.snd.snd
                                                                (w.getD (Int.toNat (0 : Int)) (0 : Int)))
                                                        else false then
                                                      decide
                                                        (U.countGo (w.getD (Int.toNat (1 : Int)) (0 : Int))
                                                            a.snd.snd.snd (0 : Int) =
                                                          U.countGo (w.getD (Int.toNat (1 : Int)) (0 : Int))
                                                            a.snd.snd.snd (0 : Int))
                                                    else false) =
                                                    true →
                                                  a.snd.snd.snd.length ≤ (5000 : Nat)) ∧
                                                ((bif
                                                          bif
                                                              bif
                                                                  U.eqM
                                                                    (U.find a
                                                                        (w.getD (Int.toNat (0 : Int)) (0 : Int))).fst
                                                                    (U.find a
                                                                        (w.getD (Int.toNat (0 : Int))
                                                                          (0 : Int))).fst then
                                                                decide
                                                                  ((U.find a
                                                                        (w.getD (Int.toNat (0 : Int)) (0 : Int))).snd =
                                                                    (U.find a
                                                                        (w.getD (Int.toNat (0 : Int)) (0 : Int))).snd)
                                                              else false then
                                                            decide
                                                              (U.place a.snd.snd.snd
                                                                  (w.getD (Int.toNat (0 : Int)) (0 : Int)) =
                                                                U.place a.snd.snd.snd
                                                                  (w.getD (Int.toNat (0 : Int)) (0 : Int)))
                                                          else false then
                                                        decide
                                                          (U.countGo (w.getD (Int.toNat (1 : Int)) (0 : Int))
                                                              a.snd.snd.snd (0 : Int) =
                                                            U.countGo (w.getD (Int.toNat (1 : Int)) (0 : Int))
                                                              a.snd.snd.snd (0 : Int))
                                                      else false) =
                                                      true →
                                                    a.snd.snd.snd.length ≤ (5000 : Nat)) ∧
                                                  (bif
                                                          bif
                                                              bif
                                                                  bif
                                                                      bif
                                                                          bif
                                                                              bif
                                                                                  U.eqM
                                                                                    (U.find a
                                                                                        (w.getD (Int.toNat (0 : Int))
                                                                                          (0 : Int))).fst
                                                                                    (U.find a
                                                                                        (w.getD (Int.toNat (0 : Int))
                                                                                          (0 : Int))).fst then
                                                                                decide
                                                                                  ((U.find a
                                                                                        (w.getD (Int.toNat (0 : Int))
                                                                                          (0 : Int))).snd =
                                                                                    (U.find a
                                                                                        (w.getD (Int.toNat (0 : Int))
                                                                                          (0 : Int))).snd)
                                                                              else false then
                                                                            decide
                                                                              (U.place a.snd.snd.snd
                                                                                  (w.getD (Int.toNat (0 : Int))
                                                                                    (0 : Int)) =
                                                                                U.place a.snd.snd.snd
                                                                                  (w.getD (Int.toNat (0 : Int))
                                                                                    (0 : Int)))
                                                                          else false then
                                                                        decide
                                                                          (U.countGo
                                                                              (w.getD (Int.toNat (1 : Int)) (0 : Int))
                                                                              a.snd.snd.snd (0 : Int) =
                                                                            U.countGo
                                                                              (w.getD (Int.toNat (1 : Int)) (0 : Int))
                                                                              a.snd.snd.snd (0 : Int))
                                                                      else false then
                                                                    U.eqI (U.uids a.snd.snd.snd) (U.uids a.snd.snd.snd)
                                                                  else false then
                                                                decide (U.eqBox a b = U.eqBox a b)
                                                              else false then
                                                            U.eqBox a a
                                                          else false then
                                                        U.eqBox a a
                                                      else false) =
                                                      true ∧
                                                    True
theorem owes_8 (a b : Box) (w : List Int) : Owes Try.prog (cfgOf QE) noKeep 8 [.of false tBox a, .of false tBox b, .of false tTwo w] [] (rB true) = vc8 a b w := by kernel_rfl
def vc5 (l : List Turn) (k : Int) : Prop :=
  bif decide ((↑l.length : Int) > (80 : Int)) then true = true ∧ True
  else
    ∃ (x0 : (List Int × Int × Int × List (Int × Int × Int × List Int)) × Int × Int),
      (U.st5 l [(↑(UInt8.toNat (97 : UInt8)) : Int)] (7 : Int)
              (IntKind.i64.wrap (Int.add (1 : Int) (IntKind.i64.wrap k))) [] (IntKind.i64.wrap k) (0 : Int) =
            U.st5 l x0.fst.fst x0.fst.snd.fst x0.fst.snd.snd.fst x0.fst.snd.snd.snd x0.snd.fst x0.snd.snd ∧
          U.inv5 l x0.fst x0.snd.fst x0.snd.snd) ∧
        ∀ (x : (List Int × Int × Int × List (Int × Int × Int × List Int)) × Int × Int),
          U.inv5 l x.fst x.snd.fst x.snd.snd →
            bif decide (x.snd.snd < (↑l.length : Int)) then
              x.fst.snd.snd.snd.length ≤ (5000 : Nat) ∧
                (0 : Int) ≤ x.snd.snd ∧
                  x.snd.snd < (↑l.length : Int) ∧
                    bif (l.getD x.snd.snd.toNat (((0 : Int), (0 : Int), (0 : Int), []), false, (0 : Int))).snd.fst then
                      bif decide ((↑(U.uids x.fst.snd.snd.snd).length : Int) = (0 : Int)) then
                        ∃ (y : (List Int × Int × Int × List (Int × Int × Int × List Int)) × Int × Int),
                          U.st5 l x.fst.fst x.fst.snd.fst x.fst.snd.snd.fst x.fst.snd.snd.snd x.snd.fst
                                (IntKind.i64.wrap (x.snd.snd.add (1 : Int))) =
                              U.st5 l y.fst.fst y.fst.snd.fst y.fst.snd.snd.fst y.fst.snd.snd.snd y.snd.fst y.snd.snd ∧
                            U.inv5 l y.fst y.snd.fst y.snd.snd ∧
                              l.length.sub y.snd.snd.toNat < l.length.sub x.snd.snd.toNat
                      else
                        (0 : Int) ≤ x.snd.snd ∧
                          x.snd.snd < (↑l.length : Int) ∧
                            (↑(U.uids x.fst.snd.snd.snd).length : Int) ≠ (0 : Int) ∧
                              (0 : Int) ≤
                                  (IntKind.i64.wrap
                                        (l.getD x.snd.snd.toNat
                                              (((0 : Int), (0 : Int), (0 : Int), []), false, (0 : Int))).snd.snd).tmod
                                    (↑(U.uids x.fst.snd.snd.snd).length : Int) ∧
                                (IntKind.i64.wrap
                                          (l.getD x.snd.snd.toNat
                                                (((0 : Int), (0 : Int), (0 : Int), []), false, (0 : Int))).snd.snd).tmod
                                      (↑(U.uids x.fst.snd.snd.snd).length : Int) ≤
                                    (↑(U.uids x.fst.snd.snd.snd).length : Int) ∧
                                  (↑(U.uids x.fst.snd.snd.snd).length : Int) ≤
                                      (↑(U.uids x.fst.snd.snd.snd).length : Int) ∧
                                    bif
                                        bif
                                            bif
                                                bif
                                                    (U.take x.fst
                                                            (List.take
                                                              ((↑(U.uids x.fst.snd.snd.snd).length : Int).toNat.sub
                                                                ((IntKind.i64.wrap
                                                                        (l.getD x.snd.snd.toNat
                                                                              (((0 : Int), (0 : Int), (0 : Int), []),
                                                                                false, (0 : Int))).snd.snd).tmod
                                                                    (↑(U.uids x.fst.snd.snd.snd).length : Int)).toNat)
                                                              (List.drop
                                                                ((IntKind.i64.wrap
                                                                        (l.getD x.snd.snd.toNat
                                                                              (((0 : Int), (0 : Int), (0 : Int), []),
                                                                                false, (0 : Int))).snd.snd).tmod
                                                                    (↑(U.uids x.fst.snd.snd.snd).length : Int)).toNat
                                                                (U.uids x.fst.snd.snd.snd)))).snd.snd !=
                                                      (0 : Int) then
                                                  true
                                                else
                                                  (↑(U.take x.fst
                                                                (List.take
                                                                  ((↑(U.uids x.fst.snd.snd.snd).length : Int).toNat.sub
                                                                    ((IntKind.i64.wrap
                                                                            (l.getD x.snd.snd.toNat
                                                                                  (((0 : Int), (0 : Int), (0 : Int),
                                                                                      []),
                                                                                    false, (0 : Int))).snd.snd).tmod
                                                                        (↑(U.uids x.fst.snd.snd.snd).length :
                                                                          Int)).toNat)
                                                                  (List.drop
                                                                    ((IntKind.i64.wrap
                                                                            (l.getD x.snd.snd.toNat
                                                                                  (((0 : Int), (0 : Int), (0 : Int),
                                                                                      []),
                                                                                    false, (0 : Int))).snd.snd).tmod
                                                                        (↑(U.uids x.fst.snd.snd.snd).length :
                                                                          Int)).toNat
                                                                    (U.uids x.fst.snd.snd.snd)))).snd.fst.length :
                                                      Int) !=
                                                    IntKind.i64.wrap
                                                      ((↑(U.uids x.fst.snd.snd.snd).length : Int).sub
                                                        ((IntKind.i64.wrap
                                                              (l.getD x.snd.snd.toNat
                                                                    (((0 : Int), (0 : Int), (0 : Int), []), false,
                                                                      (0 : Int))).snd.snd).tmod
                                                          (↑(U.uids x.fst.snd.snd.snd).length : Int))) then
                                              true
                                            else
                                              (↑(U.take x.fst
                                                                (List.take
                                                                  ((↑(U.uids x.fst.snd.snd.snd).length : Int).toNat.sub
                                                                    ((IntKind.i64.wrap
                                                                            (l.getD x.snd.snd.toNat
                                                                                  (((0 : Int), (0 : Int), (0 : Int),
                                                                                      []),
                                                                                    false, (0 : Int))).snd.snd).tmod
                                                                        (↑(U.uids x.fst.snd.snd.snd).length :
                                                                          Int)).toNat)
                                                                  (List.drop
                                                                    ((IntKind.i64.wrap
                                                                            (l.getD x.snd.snd.toNat
                                                                                  (((0 : Int), (0 : Int), (0 : Int),
                                                                                      []),
                                                                                    false, (0 : Int))).snd.snd).tmod
                                                                        (↑(U.uids x.fst.snd.snd.snd).length :
                                                                          Int)).toNat
                                                                    (U.uids
                                                                      x.fst.snd.snd.snd)))).fst.snd.snd.snd.length :
                                                  Int) !=
                                                (IntKind.i64.wrap
                                                      (l.getD x.snd.snd.toNat
                                                            (((0 : Int), (0 : Int), (0 : Int), []), false,
                                                              (0 : Int))).snd.snd).tmod
                                                  (↑(U.uids x.fst.snd.snd.snd).length : Int) then
                                          true
                                        else
                                          (U.take x.fst
                                                      (List.take
                                                        ((↑(U.uids x.fst.snd.snd.snd).length : Int).toNat.sub
                                                          ((IntKind.i64.wrap
                                                                  (l.getD x.snd.snd.toNat
                                                                        (((0 : Int), (0 : Int), (0 : Int), []), false,
                                                                          (0 : Int))).snd.snd).tmod
                                                              (↑(U.uids x.fst.snd.snd.snd).length : Int)).toNat)
                                                        (List.drop
                                                          ((IntKind.i64.wrap
                                                                  (l.getD x.snd.snd.toNat
                                                                        (((0 : Int), (0 : Int), (0 : Int), []), false,
                                                                          (0 : Int))).snd.snd).tmod
                                                              (↑(U.uids x.fst.snd.snd.snd).length : Int)).toNat
                                                          (U.uids x.fst.snd.snd.snd)))).fst.snd.snd.fst !=
                                            x.fst.snd.snd.fst then
                                      false = true ∧ True
                                    else
                                      ∃ (y : (List Int × Int × Int × List (Int × Int × Int × List Int)) × Int × Int),
                                        U.st5 l
                                              (U.take x.fst
                                                    (List.take
                                                      ((↑(U.uids x.fst.snd.snd.snd).length : Int).toNat.sub
                                                        ((IntKind.i64.wrap
                                                                (l.getD x.snd.snd.toNat
                                                                      (((0 : Int), (0 : Int), (0 : Int), []), false,
                                                                        (0 : Int))).snd.snd).tmod
                                                            (↑(U.uids x.fst.snd.snd.snd).length : Int)).toNat)
                                                      (List.drop
                                                        ((IntKind.i64.wrap
                                                                (l.getD x.snd.snd.toNat
                                                                      (((0 : Int), (0 : Int), (0 : Int), []), false,
                                                                        (0 : Int))).snd.snd).tmod
                                                            (↑(U.uids x.fst.snd.snd.snd).length : Int)).toNat
                                                        (U.uids x.fst.snd.snd.snd)))).fst.fst
                                              (U.take x.fst
                                                      (List.take
                                                        ((↑(U.uids x.fst.snd.snd.snd).length : Int).toNat.sub
                                                          ((IntKind.i64.wrap
                                                                  (l.getD x.snd.snd.toNat
                                                                        (((0 : Int), (0 : Int), (0 : Int), []), false,
                                                                          (0 : Int))).snd.snd).tmod
                                                              (↑(U.uids x.fst.snd.snd.snd).length : Int)).toNat)
                                                        (List.drop
                                                          ((IntKind.i64.wrap
                                                                  (l.getD x.snd.snd.toNat
                                                                        (((0 : Int), (0 : Int), (0 : Int), []), false,
                                                                          (0 : Int))).snd.snd).tmod
                                                              (↑(U.uids x.fst.snd.snd.snd).length : Int)).toNat
                                                          (U.uids x.fst.snd.snd.snd)))).fst.snd.fst
                                              (U.take x.fst
                                                        (List.take
                                                          ((↑(U.uids x.fst.snd.snd.snd).length : Int).toNat.sub
                                                            ((IntKind.i64.wrap
                                                                    (l.getD x.snd.snd.toNat
                                                                          (((0 : Int), (0 : Int), (0 : Int), []), false,
                                                                            (0 : Int))).snd.snd).tmod
                                                                (↑(U.uids x.fst.snd.snd.snd).length : Int)).toNat)
                                                          (List.drop
                                                            ((IntKind.i64.wrap
                                                                    (l.getD x.snd.snd.toNat
                                                                          (((0 : Int), (0 : Int), (0 : Int), []), false,
                                                                            (0 : Int))).snd.snd).tmod
                                                                (↑(U.uids x.fst.snd.snd.snd).length : Int)).toNat
                                                            (U.uids x.fst.snd.snd.snd)))).fst.snd.snd.fst
                                              (U.take x.fst
                                                        (List.take
                                                          ((↑(U.uids x.fst.snd.snd.snd).length : Int).toNat.sub
                                                            ((IntKind.i64.wrap
                                                                    (l.getD x.snd.snd.toNat
                                                                          (((0 : Int), (0 : Int), (0 : Int), []), false,
                                                                            (0 : Int))).snd.snd).tmod
                                                                (↑(U.uids x.fst.snd.snd.snd).length : Int)).toNat)
                                                          (List.drop
                                                            ((IntKind.i64.wrap
                                                                    (l.getD x.snd.snd.toNat
                                                                          (((0 : Int), (0 : Int), (0 : Int), []), false,
                                                                            (0 : Int))).snd.snd).tmod
                                                                (↑(U.uids x.fst.snd.snd.snd).length : Int)).toNat
                                                            (U.uids x.fst.snd.snd.snd)))).fst.snd.snd.snd
                                              x.snd.fst (IntKind.i64.wrap (x.snd.snd.add (1 : Int))) =
                                            U.st5 l y.fst.fst y.fst.snd.fst y.fst.snd.snd.fst y.fst.snd.snd.snd
                                              y.snd.fst y.snd.snd ∧
                                          U.inv5 l y.fst y.snd.fst y.snd.snd ∧
                                            l.length.sub y.snd.snd.toNat < l.length.sub x.snd.snd.toNat
                    else
                      (0 : Int) ≤ x.snd.snd ∧
                        x.snd.snd < (↑l.length : Int) ∧
                          bif
                              (U.add x.fst
                                      (l.getD x.snd.snd.toNat
                                          (((0 : Int), (0 : Int), (0 : Int), []), false, (0 : Int))).fst).snd.snd !=
                                (0 : Int) then
                            bif
                                !U.eqBox
                                    (U.add x.fst
                                        (l.getD x.snd.snd.toNat
                                            (((0 : Int), (0 : Int), (0 : Int), []), false, (0 : Int))).fst).fst
                                    x.fst then
                              false = true ∧ True
                            else
                              ∃ (y : (List Int × Int × Int × List (Int × Int × Int × List Int)) × Int × Int),
                                U.st5 l x.fst.fst x.fst.snd.fst x.fst.snd.snd.fst x.fst.snd.snd.snd x.snd.fst
                                      (IntKind.i64.wrap (x.snd.snd.add (1 : Int))) =
                                    U.st5 l y.fst.fst y.fst.snd.fst y.fst.snd.snd.fst y.fst.snd.snd.snd y.snd.fst
                                      y.snd.snd ∧
                                  U.inv5 l y.fst y.snd.fst y.snd.snd ∧
                                    l.length.sub y.snd.snd.toNat < l.length.sub x.snd.snd.toNat
                          else
                            bif
                                bif
                                    bif
                                        bif
                                            (U.add x.fst
                                                    (l.getD x.snd.snd.toNat
                                                        (((0 : Int), (0 : Int), (0 : Int), []), false,
                                                          (0 : Int))).fst).snd.fst !=
                                              IntKind.i64.wrap (x.snd.fst.add (1 : Int)) then
                                          true
                                        else
                                          (U.add x.fst
                                                  (l.getD x.snd.snd.toNat
                                                      (((0 : Int), (0 : Int), (0 : Int), []), false,
                                                        (0 : Int))).fst).snd.fst !=
                                            x.fst.snd.snd.fst then
                                      true
                                    else
                                      (U.add x.fst
                                                  (l.getD x.snd.snd.toNat
                                                      (((0 : Int), (0 : Int), (0 : Int), []), false,
                                                        (0 : Int))).fst).fst.snd.snd.fst !=
                                        IntKind.i64.wrap
                                          ((U.add x.fst
                                                    (l.getD x.snd.snd.toNat
                                                        (((0 : Int), (0 : Int), (0 : Int), []), false,
                                                          (0 : Int))).fst).snd.fst.add
                                            (1 : Int)) then
                                  true
                                else
                                  !U.right
                                      (U.add x.fst
                                          (l.getD x.snd.snd.toNat
                                              (((0 : Int), (0 : Int), (0 : Int), []), false, (0 : Int))).fst).fst then
                              false = true ∧ True
                            else
                              ∃ (y : (List Int × Int × Int × List (Int × Int × Int × List Int)) × Int × Int),
                                U.st5 l
                                      (U.add x.fst
                                            (l.getD x.snd.snd.toNat
                                                (((0 : Int), (0 : Int), (0 : Int), []), false, (0 : Int))).fst).fst.fst
                                      (U.add x.fst
                                              (l.getD x.snd.snd.toNat
                                                  (((0 : Int), (0 : Int), (0 : Int), []), false,
                                                    (0 : Int))).fst).fst.snd.fst
                                      (U.add x.fst
                                                (l.getD x.snd.snd.toNat
                                                    (((0 : Int), (0 : Int), (0 : Int), []), false,
                                                      (0 : Int))).fst).fst.snd.snd.fst
                                      (U.add x.fst
                                                (l.getD x.snd.snd.toNat
                                                    (((0 : Int), (0 : Int), (0 : Int), []), false,
                                                      (0 : Int))).fst).fst.snd.snd.snd
                                      (U.add x.fst
                                            (l.getD x.snd.snd.toNat
                                                (((0 : Int), (0 : Int), (0 : Int), []), false, (0 : Int))).fst).snd.fst
                                      (IntKind.i64.wrap (x.snd.snd.add (1 : Int))) =
                                    U.st5 l y.fst.fst y.fst.snd.fst y.fst.snd.snd.fst y.fst.snd.snd.snd y.snd.fst
                                      y.snd.snd ∧
                                  U.inv5 l y.fst y.snd.fst y.snd.snd ∧
                                    l.length.sub y.snd.snd.toNat < l.length.sub x.snd.snd.toNat
            else
              (bif decide (x.fst.snd.fst = (7 : Int)) then x.fst.fst.beq [(↑(UInt8.toNat (97 : UInt8)) : Int)]
                  else false) =
                  true ∧
                True
theorem owes_5 (l : List Turn) (k : Int) : Owes Try.prog (cfgOf QE) (lp5 l) 5 [.of false tTurns l, .of false (.int .u32) k] [] (rB true) = vc5 l k := by kernel_rfl
def vc7 (b : Box) (l : List Int) (k : Int) : Prop :=
  bif bif U.great b then true else decide ((↑l.length : Int) > (100 : Int)) then true = true ∧ True
  else
    (32 : Int) ≠ (0 : Int) ∧
      bif (U.store b l (1 : Int) ((IntKind.i64.wrap k).tmod (32 : Int))).snd != (0 : Int) then
        U.eqBox (U.store b l (1 : Int) ((IntKind.i64.wrap k).tmod (32 : Int))).fst b = true ∧ True
      else
        bif
            (↑(U.store b l (1 : Int) ((IntKind.i64.wrap k).tmod (32 : Int))).fst.snd.snd.snd.length : Int) !=
              (↑b.snd.snd.snd.length : Int) then
          false = true ∧ True
        else
          ∃ (x0 : Int),
            (U.st7a b (U.store b l (1 : Int) ((IntKind.i64.wrap k).tmod (32 : Int))).fst l
                    ((IntKind.i64.wrap k).tmod (32 : Int)) (0 : Int) =
                  U.st7a b (U.store b l (1 : Int) ((IntKind.i64.wrap k).tmod (32 : Int))).fst l
                    ((IntKind.i64.wrap k).tmod (32 : Int)) x0 ∧
                U.at_ b.snd.snd.snd x0 ∧
                  (U.store b l (1 : Int) ((IntKind.i64.wrap k).tmod (32 : Int))).fst.snd.snd.snd.length =
                    b.snd.snd.snd.length) ∧
              ∀ (x : Int),
                U.at_ b.snd.snd.snd x ∧
                    (U.store b l (1 : Int) ((IntKind.i64.wrap k).tmod (32 : Int))).fst.snd.snd.snd.length =
                      b.snd.snd.snd.length →
                  bif decide (x < (↑b.snd.snd.snd.length : Int)) then
                    (0 : Int) ≤ x ∧
                      x < (↑b.snd.snd.snd.length : Int) ∧
                        (0 : Int) ≤ x ∧
                          x <
                              (↑(U.store b l (1 : Int) ((IntKind.i64.wrap k).tmod (32 : Int))).fst.snd.snd.snd.length :
                                Int) ∧
                            ∃ (x0 : Int × Bool × Int),
                              (U.st7b b (U.store b l (1 : Int) ((IntKind.i64.wrap k).tmod (32 : Int))).fst l
                                      ((IntKind.i64.wrap k).tmod (32 : Int)) x
                                      (b.snd.snd.snd.getD x.toNat ((0 : Int), (0 : Int), (0 : Int), []))
                                      ((U.store b l (1 : Int)
                                                    ((IntKind.i64.wrap k).tmod (32 : Int))).fst.snd.snd.snd.getD
                                        x.toNat ((0 : Int), (0 : Int), (0 : Int), []))
                                      false (0 : Int) =
                                    U.st7b b (U.store b l (1 : Int) ((IntKind.i64.wrap k).tmod (32 : Int))).fst l
                                      ((IntKind.i64.wrap k).tmod (32 : Int)) x0.fst
                                      (b.snd.snd.snd.getD x0.fst.toNat ((0 : Int), (0 : Int), (0 : Int), []))
                                      ((U.store b l (1 : Int)
                                                    ((IntKind.i64.wrap k).tmod (32 : Int))).fst.snd.snd.snd.getD
                                        x0.fst.toNat ((0 : Int), (0 : Int), (0 : Int), []))
                                      x0.snd.fst x0.snd.snd ∧
                                  x0.fst = x0.fst ∧
                                    U.inv7 b (U.store b l (1 : Int) ((IntKind.i64.wrap k).tmod (32 : Int))).fst l x0.fst
                                      x0.snd.fst x0.snd.snd) ∧
                                ∀ (x_1 : Int × Bool × Int),
                                  x_1.fst = x0.fst ∧
                                      U.inv7 b (U.store b l (1 : Int) ((IntKind.i64.wrap k).tmod (32 : Int))).fst l
                                        x_1.fst x_1.snd.fst x_1.snd.snd →
                                    bif decide (x_1.snd.snd < (↑l.length : Int)) then
                                      (x_1.snd.fst = false → (0 : Int) ≤ x_1.snd.snd) ∧
                                        (x_1.snd.fst = false → x_1.snd.snd < (↑l.length : Int)) ∧
                                          ∃ (y : Int × Bool × Int),
                                            U.st7b b (U.store b l (1 : Int) ((IntKind.i64.wrap k).tmod (32 : Int))).fst
                                                  l ((IntKind.i64.wrap k).tmod (32 : Int)) x_1.fst
                                                  (b.snd.snd.snd.getD x_1.fst.toNat
                                                    ((0 : Int), (0 : Int), (0 : Int), []))
                                                  ((U.store b l (1 : Int)
                                                                ((IntKind.i64.wrap k).tmod
                                                                  (32 : Int))).fst.snd.snd.snd.getD
                                                    x_1.fst.toNat ((0 : Int), (0 : Int), (0 : Int), []))
                                                  (bif x_1.snd.fst then true
                                                  else
                                                    decide
                                                      (l.getD x_1.snd.snd.toNat (0 : Int) =
                                                        (b.snd.snd.snd.getD x_1.fst.toNat
                                                            ((0 : Int), (0 : Int), (0 : Int), [])).fst))
                                                  (IntKind.i64.wrap (x_1.snd.snd.add (1 : Int))) =
                                                U.st7b b
                                                  (U.store b l (1 : Int) ((IntKind.i64.wrap k).tmod (32 : Int))).fst l
                                                  ((IntKind.i64.wrap k).tmod (32 : Int)) y.fst
                                                  (b.snd.snd.snd.getD y.fst.toNat ((0 : Int), (0 : Int), (0 : Int), []))
                                                  ((U.store b l (1 : Int)
                                                                ((IntKind.i64.wrap k).tmod
                                                                  (32 : Int))).fst.snd.snd.snd.getD
                                                    y.fst.toNat ((0 : Int), (0 : Int), (0 : Int), []))
                                                  y.snd.fst y.snd.snd ∧
                                              (y.fst = x0.fst ∧
                                                  U.inv7 b
                                                    (U.store b l (1 : Int) ((IntKind.i64.wrap k).tmod (32 : Int))).fst l
                                                    y.fst y.snd.fst y.snd.snd) ∧
                                                l.length.sub y.snd.snd.toNat < l.length.sub x_1.snd.snd.toNat
                                    else
                                      bif
                                          bif
                                              bif
                                                  bif
                                                      bif x_1.snd.fst then
                                                        ((U.store b l (1 : Int)
                                                                            ((IntKind.i64.wrap k).tmod
                                                                              (32 : Int))).fst.snd.snd.snd.getD
                                                                x_1.fst.toNat
                                                                ((0 : Int), (0 : Int), (0 : Int), [])).snd.fst !=
                                                          IntKind.i64.wrap
                                                            (↑((BitVec.ofInt IntKind.i64.bits
                                                                        (b.snd.snd.snd.getD x_1.fst.toNat
                                                                              ((0 : Int), (0 : Int), (0 : Int),
                                                                                [])).snd.fst).or
                                                                    (BitVec.ofInt IntKind.i64.bits
                                                                      ((IntKind.i64.wrap k).tmod (32 : Int)))).toNat :
                                                              Int)
                                                      else false then
                                                    true
                                                  else
                                                    bif !x_1.snd.fst then
                                                      ((U.store b l (1 : Int)
                                                                          ((IntKind.i64.wrap k).tmod
                                                                            (32 : Int))).fst.snd.snd.snd.getD
                                                              x_1.fst.toNat
                                                              ((0 : Int), (0 : Int), (0 : Int), [])).snd.fst !=
                                                        (b.snd.snd.snd.getD x_1.fst.toNat
                                                              ((0 : Int), (0 : Int), (0 : Int), [])).snd.fst
                                                    else false then
                                                true
                                              else
                                                ((U.store b l (1 : Int)
                                                                  ((IntKind.i64.wrap k).tmod
                                                                    (32 : Int))).fst.snd.snd.snd.getD
                                                      x_1.fst.toNat ((0 : Int), (0 : Int), (0 : Int), [])).fst !=
                                                  (b.snd.snd.snd.getD x_1.fst.toNat
                                                      ((0 : Int), (0 : Int), (0 : Int), [])).fst then
                                            true
                                          else
                                            ((U.store b l (1 : Int)
                                                                  ((IntKind.i64.wrap k).tmod
                                                                    (32 : Int))).fst.snd.snd.snd.getD
                                                      x_1.fst.toNat
                                                      ((0 : Int), (0 : Int), (0 : Int), [])).snd.snd.fst !=
                                              (b.snd.snd.snd.getD x_1.fst.toNat
                                                      ((0 : Int), (0 : Int), (0 : Int), [])).snd.snd.fst then
                                        false = true ∧ True
                                      else
                                        ∃ (y : Int),
                                          U.st7a b (U.store b l (1 : Int) ((IntKind.i64.wrap k).tmod (32 : Int))).fst l
                                                ((IntKind.i64.wrap k).tmod (32 : Int))
                                                (IntKind.i64.wrap (x_1.fst.add (1 : Int))) =
                                              U.st7a b
                                                (U.store b l (1 : Int) ((IntKind.i64.wrap k).tmod (32 : Int))).fst l
                                                ((IntKind.i64.wrap k).tmod (32 : Int)) y ∧
                                            (U.at_ b.snd.snd.snd y ∧
                                                (U.store b l (1 : Int)
                                                              ((IntKind.i64.wrap k).tmod
                                                                (32 : Int))).fst.snd.snd.snd.length =
                                                  b.snd.snd.snd.length) ∧
                                              b.snd.snd.snd.length.sub y.toNat < b.snd.snd.snd.length.sub x.toNat
                  else
                    (bif
                            decide
                              (U.countGo ((IntKind.i64.wrap k).tmod (32 : Int))
                                  (U.store b l (1 : Int) ((IntKind.i64.wrap k).tmod (32 : Int))).fst.snd.snd.snd
                                  (0 : Int) ≥
                                U.countGo ((IntKind.i64.wrap k).tmod (32 : Int)) b.snd.snd.snd (0 : Int)) then
                          decide
                            (U.countGo (0 : Int)
                                (U.store b l (1 : Int) ((IntKind.i64.wrap k).tmod (32 : Int))).fst.snd.snd.snd
                                (0 : Int) =
                              (↑(U.store b l (1 : Int) ((IntKind.i64.wrap k).tmod (32 : Int))).fst.snd.snd.snd.length :
                                Int))
                        else false) =
                        true ∧
                      True
theorem owes_7 (b : Box) (l : List Int) (k : Int) : Owes Try.prog (cfgOf QE) (lp7 b (U.store b l 1 (Int.tmod (IntKind.wrap .i64 k) 32)).1 l (Int.tmod (IntKind.wrap .i64 k) 32)) 7 [.of false tBox b, .of false tInts l, .of false (.int .u8) k] [] (rB true) = vc7 b l k := by kernel_rfl
end Go.Proofs.Ytddakledpipanaa
