import Derived.Test.YtddakledpipanaaU2
import Derived.KernelRfl
set_option maxRecDepth 100000
set_option linter.unusedVariables false
namespace Go.Proofs.Ytddakledpipanaa
open Go.Vc
def vc51 (x : Int) : Prop := (bif decide (x ≥ (0 : Int)) then decide (x ≤ (31 : Int)) else false) = U.five x ∧ True
theorem owes_51 (x : Int) : Owes Try.prog (cfgOf Q4) noKeep 51 [.of false (.int .i64) x] [] (rB (U.five x)) = vc51 x := by kernel_rfl
def vc42 (x m y : Int) : Prop :=
  bif bif !U.flagRight x then true else !U.flagRight y then
    (0 : Int) = (U.apply x m y).fst ∧ (1 : Int) = (U.apply x m y).snd ∧ True
  else
    bif decide (m = (0 : Int)) then y = (U.apply x m y).fst ∧ (0 : Int) = (U.apply x m y).snd ∧ True
    else
      bif decide (m = (1 : Int)) then
        IntKind.i64.wrap (↑((BitVec.ofInt IntKind.i64.bits x).or (BitVec.ofInt IntKind.i64.bits y)).toNat : Int) =
            (U.apply x m y).fst ∧
          (0 : Int) = (U.apply x m y).snd ∧ True
      else
        bif decide (m = (2 : Int)) then
          IntKind.i64.wrap
                (↑((BitVec.ofInt IntKind.i64.bits x).and (BitVec.ofInt IntKind.i64.bits y).not).toNat : Int) =
              (U.apply x m y).fst ∧
            (0 : Int) = (U.apply x m y).snd ∧ True
        else (0 : Int) = (U.apply x m y).fst ∧ (1 : Int) = (U.apply x m y).snd ∧ True
theorem owes_42 (x m y : Int) : Owes Try.prog (cfgOf Q4) noKeep 42 [.of false (.int .i64) x, .of false (.int .i64) m, .of false (.int .i64) y] [] (d42 x m y) = vc42 x m y := by kernel_rfl
def vc55 (a b : List Int) : Prop := a.beq b = U.eqB a b ∧ True
theorem owes_55 (a b : List Int) : Owes Try.prog (cfgOf Q4) noKeep 55 [.of false tBytes a, .of false tBytes b] [] (rB (U.eqB a b)) = vc55 a b := by kernel_rfl
def vc31 (a b : List Int) : Prop :=
  bif (↑a.length : Int) != (↑b.length : Int) then false = U.eqI a b ∧ True
  else
    ∃ (x0 : Int),
      (U.st31 a b (0 : Int) = U.st31 a b x0 ∧
          U.at_ a x0 ∧ a.length = b.length ∧ List.take x0.toNat a = List.take x0.toNat b) ∧
        ∀ (x : Int),
          U.at_ a x ∧ a.length = b.length ∧ List.take x.toNat a = List.take x.toNat b →
            bif decide (x < (↑a.length : Int)) then
              (0 : Int) ≤ x ∧
                x < (↑a.length : Int) ∧
                  (0 : Int) ≤ x ∧
                    x < (↑b.length : Int) ∧
                      bif a.getD x.toNat (0 : Int) != b.getD x.toNat (0 : Int) then false = U.eqI a b ∧ True
                      else
                        ∃ (y : Int),
                          U.st31 a b (IntKind.i64.wrap (x.add (1 : Int))) = U.st31 a b y ∧
                            (U.at_ a y ∧ a.length = b.length ∧ List.take y.toNat a = List.take y.toNat b) ∧
                              a.length.sub y.toNat < a.length.sub x.toNat
            else true = U.eqI a b ∧ True
theorem owes_31 (a b : List Int) : Owes Try.prog (cfgOf Q4) (lp31 a b) 31 [.of false tInts a, .of false tInts b] [] (rB (U.eqI a b)) = vc31 a b := by kernel_rfl
def vc34 (m : Msg) : Prop :=
  (Nat.add (0 : Nat) m.snd.snd.snd.length).mul (1 : Nat) ≤ (140737488355328 : Nat) ∧
    Nat.add (0 : Nat) m.snd.snd.snd.length ≤ maxLen ∧
      m.fst = m.fst ∧ m.snd.fst = m.snd.fst ∧ m.snd.snd.fst = m.snd.snd.fst ∧ m.snd.snd.snd = m.snd.snd.snd ∧ True
theorem owes_34 (m : Msg) : Owes Try.prog (cfgOf Q4) noKeep 34 [.of false tMsg m] [] ⟨[m.2.2.2.length ≤ 5000], .v (.of true tMsg m), [], []⟩ = vc34 m := by kernel_rfl
def vc25 (b : Box) (u : Int) : Prop :=
  bif decide (U.place b.snd.snd.snd u = (0 : Int)) then
    (0 : Int) = (U.find b u).fst.fst ∧
      (0 : Int) = (U.find b u).fst.snd.fst ∧
        (0 : Int) = (U.find b u).fst.snd.snd.fst ∧ [] = (U.find b u).fst.snd.snd.snd ∧ false = (U.find b u).snd ∧ True
  else
    (0 : Int) ≤ IntKind.i64.wrap ((U.place b.snd.snd.snd u).sub (1 : Int)) ∧
      IntKind.i64.wrap ((U.place b.snd.snd.snd u).sub (1 : Int)) < (↑b.snd.snd.snd.length : Int) ∧
        (b.snd.snd.snd.getD (IntKind.i64.wrap ((U.place b.snd.snd.snd u).sub (1 : Int))).toNat
                      ((0 : Int), (0 : Int), (0 : Int), [])).snd.snd.snd.length ≤
            (5000 : Nat) ∧
          (b.snd.snd.snd.getD (IntKind.i64.wrap ((U.place b.snd.snd.snd u).sub (1 : Int))).toNat
                  ((0 : Int), (0 : Int), (0 : Int), [])).fst =
              (U.find b u).fst.fst ∧
            (b.snd.snd.snd.getD (IntKind.i64.wrap ((U.place b.snd.snd.snd u).sub (1 : Int))).toNat
                      ((0 : Int), (0 : Int), (0 : Int), [])).snd.fst =
                (U.find b u).fst.snd.fst ∧
              (b.snd.snd.snd.getD (IntKind.i64.wrap ((U.place b.snd.snd.snd u).sub (1 : Int))).toNat
                          ((0 : Int), (0 : Int), (0 : Int), [])).snd.snd.fst =
                  (U.find b u).fst.snd.snd.fst ∧
                (b.snd.snd.snd.getD (IntKind.i64.wrap ((U.place b.snd.snd.snd u).sub (1 : Int))).toNat
                            ((0 : Int), (0 : Int), (0 : Int), [])).snd.snd.snd =
                    (U.find b u).fst.snd.snd.snd ∧
                  true = (U.find b u).snd ∧ True
theorem owes_25 (b : Box) (u : Int) : Owes Try.prog (cfgOf Q4) noKeep 25 [.of false tBox b, .of false (.int .i64) u] [] (d25 b u) = vc25 b u := by kernel_rfl
def vc19 (b : Box) : Prop :=
  ∃ (x0 : List Int × Int),
    (U.st19 b [] (0 : Int) = U.st19 b x0.fst x0.snd ∧
        U.at_ b.snd.snd.snd x0.snd ∧ x0.fst = U.uids (List.take x0.snd.toNat b.snd.snd.snd)) ∧
      ∀ (x : List Int × Int),
        U.at_ b.snd.snd.snd x.snd ∧ x.fst = U.uids (List.take x.snd.toNat b.snd.snd.snd) →
          bif decide (x.snd < (↑b.snd.snd.snd.length : Int)) then
            (0 : Int) ≤ x.snd ∧
              x.snd < (↑b.snd.snd.snd.length : Int) ∧
                (x.fst.length.add ((1 : Nat))).mul (8 : Nat) ≤ (140737488355328 : Nat) ∧
                  x.fst.length.add ((1 : Nat)) ≤ maxLen ∧
                    ∃ (y : List Int × Int),
                      U.st19 b
                            (x.fst.append
                              ([(0 : Int)].set (0 : Nat)
                                (b.snd.snd.snd.getD x.snd.toNat ((0 : Int), (0 : Int), (0 : Int), [])).fst))
                            (IntKind.i64.wrap (x.snd.add (1 : Int))) =
                          U.st19 b y.fst y.snd ∧
                        (U.at_ b.snd.snd.snd y.snd ∧ y.fst = U.uids (List.take y.snd.toNat b.snd.snd.snd)) ∧
                          b.snd.snd.snd.length.sub y.snd.toNat < b.snd.snd.snd.length.sub x.snd.toNat
          else x.fst = U.uids b.snd.snd.snd ∧ True
theorem owes_19 (b : Box) : Owes Try.prog (cfgOf Q4) (lp19 b) 19 [.of false tBox b] [] (d19 b) = vc19 b := by kernel_rfl
def vc29 (b : Box) (u : Int) : Prop :=
  ∃ (x0 : Int),
    (U.st29 b u (0 : Int) = U.st29 b u x0 ∧
        U.at_ b.snd.snd.snd x0 ∧
          U.idx1 (fun (m : Int × Int × Int × List Int) => decide (m.fst = u)) (List.drop x0.toNat b.snd.snd.snd) x0 =
            U.idx1 (fun (m : Int × Int × Int × List Int) => decide (m.fst = u)) b.snd.snd.snd (0 : Int)) ∧
      ∀ (x : Int),
        U.at_ b.snd.snd.snd x ∧
            U.idx1 (fun (m : Int × Int × Int × List Int) => decide (m.fst = u)) (List.drop x.toNat b.snd.snd.snd) x =
              U.idx1 (fun (m : Int × Int × Int × List Int) => decide (m.fst = u)) b.snd.snd.snd (0 : Int) →
          bif decide (x < (↑b.snd.snd.snd.length : Int)) then
            (0 : Int) ≤ x ∧
              x < (↑b.snd.snd.snd.length : Int) ∧
                bif decide ((b.snd.snd.snd.getD x.toNat ((0 : Int), (0 : Int), (0 : Int), [])).fst = u) then
                  IntKind.i64.wrap (x.add (1 : Int)) = U.place b.snd.snd.snd u ∧ True
                else
                  ∃ (y : Int),
                    U.st29 b u (IntKind.i64.wrap (x.add (1 : Int))) = U.st29 b u y ∧
                      (U.at_ b.snd.snd.snd y ∧
                          U.idx1 (fun (m : Int × Int × Int × List Int) => decide (m.fst = u))
                              (List.drop y.toNat b.snd.snd.snd) y =
                            U.idx1 (fun (m : Int × Int × Int × List Int) => decide (m.fst = u)) b.snd.snd.snd
                              (0 : Int)) ∧
                        b.snd.snd.snd.length.sub y.toNat < b.snd.snd.snd.length.sub x.toNat
          else (0 : Int) = U.place b.snd.snd.snd u ∧ True
theorem owes_29 (b : Box) (u : Int) : Owes Try.prog (cfgOf Q4) (lp29 b u) 29 [.of false tBox b, .of false (.int .i64) u] [] (rI (U.place b.2.2.2 u)) = vc29 b u := by kernel_rfl
def vc30 (b : Box) (f : Int) : Prop :=
  ∃ (x0 : Int × Int),
    (U.st30 b f (0 : Int) (0 : Int) = U.st30 b f x0.fst x0.snd ∧
        U.at_ b.snd.snd.snd x0.snd ∧
          ((0 : Int) ≤ x0.fst ∧ x0.fst ≤ x0.snd) ∧
            U.countGo f (List.drop x0.snd.toNat b.snd.snd.snd) x0.fst = U.countGo f b.snd.snd.snd (0 : Int)) ∧
      ∀ (x : Int × Int),
        U.at_ b.snd.snd.snd x.snd ∧
            ((0 : Int) ≤ x.fst ∧ x.fst ≤ x.snd) ∧
              U.countGo f (List.drop x.snd.toNat b.snd.snd.snd) x.fst = U.countGo f b.snd.snd.snd (0 : Int) →
          bif decide (x.snd < (↑b.snd.snd.snd.length : Int)) then
            (0 : Int) ≤ x.snd ∧
              x.snd < (↑b.snd.snd.snd.length : Int) ∧
                bif
                    decide
                      (IntKind.i64.wrap
                          (↑((BitVec.ofInt IntKind.i64.bits
                                      (b.snd.snd.snd.getD x.snd.toNat
                                            ((0 : Int), (0 : Int), (0 : Int), [])).snd.fst).and
                                  (BitVec.ofInt IntKind.i64.bits f)).toNat :
                            Int) =
                        f) then
                  ∃ (y : Int × Int),
                    U.st30 b f (IntKind.i64.wrap (x.fst.add (1 : Int))) (IntKind.i64.wrap (x.snd.add (1 : Int))) =
                        U.st30 b f y.fst y.snd ∧
                      (U.at_ b.snd.snd.snd y.snd ∧
                          ((0 : Int) ≤ y.fst ∧ y.fst ≤ y.snd) ∧
                            U.countGo f (List.drop y.snd.toNat b.snd.snd.snd) y.fst =
                              U.countGo f b.snd.snd.snd (0 : Int)) ∧
                        b.snd.snd.snd.length.sub y.snd.toNat < b.snd.snd.snd.length.sub x.snd.toNat
                else
                  ∃ (y : Int × Int),
                    U.st30 b f x.fst (IntKind.i64.wrap (x.snd.add (1 : Int))) = U.st30 b f y.fst y.snd ∧
                      (U.at_ b.snd.snd.snd y.snd ∧
                          ((0 : Int) ≤ y.fst ∧ y.fst ≤ y.snd) ∧
                            U.countGo f (List.drop y.snd.toNat b.snd.snd.snd) y.fst =
                              U.countGo f b.snd.snd.snd (0 : Int)) ∧
                        b.snd.snd.snd.length.sub y.snd.toNat < b.snd.snd.snd.length.sub x.snd.toNat
          else x.fst = U.countGo f b.snd.snd.snd (0 : Int) ∧ True
theorem owes_30 (b : Box) (f : Int) : Owes Try.prog (cfgOf Q4) (lp30 b f) 30 [.of false tBox b, .of false (.int .i64) f] [] (rI (U.countGo f b.2.2.2 0)) = vc30 b f := by kernel_rfl
def vc32 (b : Box) : Prop :=
  ∃ (x0 : List Int × Int),
    (U.st32 b [] (0 : Int) = U.st32 b x0.fst x0.snd ∧
        U.at_ b.snd.snd.snd x0.snd ∧ x0.fst = U.uids (List.take x0.snd.toNat b.snd.snd.snd)) ∧
      ∀ (x : List Int × Int),
        U.at_ b.snd.snd.snd x.snd ∧ x.fst = U.uids (List.take x.snd.toNat b.snd.snd.snd) →
          bif decide (x.snd < (↑b.snd.snd.snd.length : Int)) then
            (0 : Int) ≤ x.snd ∧
              x.snd < (↑b.snd.snd.snd.length : Int) ∧
                (x.fst.length.add ((1 : Nat))).mul (8 : Nat) ≤ (140737488355328 : Nat) ∧
                  x.fst.length.add ((1 : Nat)) ≤ maxLen ∧
                    ∃ (y : List Int × Int),
                      U.st32 b
                            (x.fst.append
                              ([(0 : Int)].set (0 : Nat)
                                (b.snd.snd.snd.getD x.snd.toNat ((0 : Int), (0 : Int), (0 : Int), [])).fst))
                            (IntKind.i64.wrap (x.snd.add (1 : Int))) =
                          U.st32 b y.fst y.snd ∧
                        (U.at_ b.snd.snd.snd y.snd ∧ y.fst = U.uids (List.take y.snd.toNat b.snd.snd.snd)) ∧
                          b.snd.snd.snd.length.sub y.snd.toNat < b.snd.snd.snd.length.sub x.snd.toNat
          else x.fst = U.uids b.snd.snd.snd ∧ True
theorem owes_32 (b : Box) : Owes Try.prog (cfgOf Q4) (lp32 b) 32 [.of false tBox b] [] (d19 b) = vc32 b := by kernel_rfl
def vc43 (x m y : Int) : Prop :=
  bif
      bif bif bif !U.five x then true else !U.five y then true else decide (m < (0 : Int)) then true
      else decide (m > (2 : Int)) then
    (0 : Int) = (U.apply x m y).fst ∧ (1 : Int) = (U.apply x m y).snd ∧ True
  else
    bif decide (m = (0 : Int)) then y = (U.apply x m y).fst ∧ (0 : Int) = (U.apply x m y).snd ∧ True
    else
      bif decide (m = (1 : Int)) then
        IntKind.i64.wrap (↑((BitVec.ofInt IntKind.i64.bits x).or (BitVec.ofInt IntKind.i64.bits y)).toNat : Int) =
            (U.apply x m y).fst ∧
          (0 : Int) = (U.apply x m y).snd ∧ True
      else
        IntKind.i64.wrap (↑((BitVec.ofInt IntKind.i64.bits x).and (BitVec.ofInt IntKind.i64.bits y).not).toNat : Int) =
            (U.apply x m y).fst ∧
          (0 : Int) = (U.apply x m y).snd ∧ True
theorem owes_43 (x m y : Int) : Owes Try.prog (cfgOf QA) noKeep 43 [.of false (.int .i64) x, .of false (.int .i64) m, .of false (.int .i64) y] [] (d42 x m y) = vc43 x m y := by kernel_rfl
def vc38 (m : Msg) : Prop :=
  (bif
          bif
              bif
                  bif bif decide (m.fst ≥ (1 : Int)) then decide (m.fst ≤ (4294967295 : Int)) else false then
                    U.five m.snd.fst
                  else false then
                decide (m.snd.snd.fst ≥ (0 : Int))
              else false then
            decide (m.snd.snd.fst ≤ (1099511627776 : Int))
          else false then
        decide ((↑m.snd.snd.snd.length : Int) ≤ (2000 : Int))
      else false) =
      U.mayN m ∧
    True
theorem owes_38 (m : Msg) : Owes Try.prog (cfgOf QA) noKeep 38 [.of false tMsg m] [] (rB (U.mayN m)) = vc38 m := by kernel_rfl
def vc48 (a b : Msg) : Prop :=
  (bif
          bif bif decide (a.fst = b.fst) then decide (a.snd.fst = b.snd.fst) else false then
            decide (a.snd.snd.fst = b.snd.snd.fst)
          else false then
        U.eqB a.snd.snd.snd b.snd.snd.snd
      else false) =
      U.eqM a b ∧
    True
theorem owes_48 (a b : Msg) : Owes Try.prog (cfgOf QA) noKeep 48 [.of false tMsg a, .of false tMsg b] [] (rB (U.eqM a b)) = vc48 a b := by kernel_rfl
def vc11 (b : Box) : Prop :=
  ∃ (x0 : List (Int × Int × Int × List Int) × Int),
    (U.st11 b [] (0 : Int) = U.st11 b x0.fst x0.snd ∧
        U.at_ b.snd.snd.snd x0.snd ∧ x0.fst = List.take x0.snd.toNat b.snd.snd.snd) ∧
      ∀ (x : List (Int × Int × Int × List Int) × Int),
        U.at_ b.snd.snd.snd x.snd ∧ x.fst = List.take x.snd.toNat b.snd.snd.snd →
          bif decide (x.snd < (↑b.snd.snd.snd.length : Int)) then
            (0 : Int) ≤ x.snd ∧
              x.snd < (↑b.snd.snd.snd.length : Int) ∧
                (b.snd.snd.snd.getD x.snd.toNat ((0 : Int), (0 : Int), (0 : Int), [])).snd.snd.snd.length ≤
                    (5000 : Nat) ∧
                  (x.fst.length.add ((1 : Nat))).mul (48 : Nat) ≤ (140737488355328 : Nat) ∧
                    x.fst.length.add ((1 : Nat)) ≤ maxLen ∧
                      ∃ (y : List (Int × Int × Int × List Int) × Int),
                        U.st11 b
                              (x.fst.append
                                ([((0 : Int), (0 : Int), (0 : Int), [])].set (0 : Nat)
                                  (b.snd.snd.snd.getD x.snd.toNat ((0 : Int), (0 : Int), (0 : Int), []))))
                              (IntKind.i64.wrap (x.snd.add (1 : Int))) =
                            U.st11 b y.fst y.snd ∧
                          (U.at_ b.snd.snd.snd y.snd ∧ y.fst = List.take y.snd.toNat b.snd.snd.snd) ∧
                            b.snd.snd.snd.length.sub y.snd.toNat < b.snd.snd.snd.length.sub x.snd.toNat
          else b.fst = b.fst ∧ b.snd.fst = b.snd.fst ∧ b.snd.snd.fst = b.snd.snd.fst ∧ x.fst = b.snd.snd.snd ∧ True
theorem owes_11 (b : Box) : Owes Try.prog (cfgOf QA) (lp11 b) 11 [.of false tBox b] [] (d27 b) = vc11 b := by kernel_rfl
def vc44 (b : Box) (l : List Int) : Prop :=
  ∃ (x0 : Int),
    (U.st44 b l (0 : Int) = U.st44 b l x0 ∧
        U.at_ l x0 ∧ U.missing b.snd.snd.snd (List.drop x0.toNat l) = U.missing b.snd.snd.snd l) ∧
      ∀ (x : Int),
        U.at_ l x ∧ U.missing b.snd.snd.snd (List.drop x.toNat l) = U.missing b.snd.snd.snd l →
          bif decide (x < (↑l.length : Int)) then
            (0 : Int) ≤ x ∧
              x < (↑l.length : Int) ∧
                bif decide (U.place b.snd.snd.snd (l.getD x.toNat (0 : Int)) = (0 : Int)) then
                  false = !U.missing b.snd.snd.snd l ∧ True
                else
                  ∃ (y : Int),
                    U.st44 b l (IntKind.i64.wrap (x.add (1 : Int))) = U.st44 b l y ∧
                      (U.at_ l y ∧ U.missing b.snd.snd.snd (List.drop y.toNat l) = U.missing b.snd.snd.snd l) ∧
                        l.length.sub y.toNat < l.length.sub x.toNat
          else true = !U.missing b.snd.snd.snd l ∧ True
theorem owes_44 (b : Box) (l : List Int) : Owes Try.prog (cfgOf QA) (lp44 b l) 44 [.of false tBox b, .of false tInts l] [] (rB (!U.missing b.2.2.2 l)) = vc44 b l := by kernel_rfl
def vc26 (b : Box) (u : Int) : Prop :=
  bif decide (U.place b.snd.snd.snd u = (0 : Int)) then
    (0 : Int) = (U.find b u).fst.fst ∧
      (0 : Int) = (U.find b u).fst.snd.fst ∧
        (0 : Int) = (U.find b u).fst.snd.snd.fst ∧ [] = (U.find b u).fst.snd.snd.snd ∧ false = (U.find b u).snd ∧ True
  else
    (0 : Int) ≤ IntKind.i64.wrap ((U.place b.snd.snd.snd u).sub (1 : Int)) ∧
      IntKind.i64.wrap ((U.place b.snd.snd.snd u).sub (1 : Int)) < (↑b.snd.snd.snd.length : Int) ∧
        (b.snd.snd.snd.getD (IntKind.i64.wrap ((U.place b.snd.snd.snd u).sub (1 : Int))).toNat
                      ((0 : Int), (0 : Int), (0 : Int), [])).snd.snd.snd.length ≤
            (5000 : Nat) ∧
          (b.snd.snd.snd.getD (IntKind.i64.wrap ((U.place b.snd.snd.snd u).sub (1 : Int))).toNat
                  ((0 : Int), (0 : Int), (0 : Int), [])).fst =
              (U.find b u).fst.fst ∧
            (b.snd.snd.snd.getD (IntKind.i64.wrap ((U.place b.snd.snd.snd u).sub (1 : Int))).toNat
                      ((0 : Int), (0 : Int), (0 : Int), [])).snd.fst =
                (U.find b u).fst.snd.fst ∧
              (b.snd.snd.snd.getD (IntKind.i64.wrap ((U.place b.snd.snd.snd u).sub (1 : Int))).toNat
                          ((0 : Int), (0 : Int), (0 : Int), [])).snd.snd.fst =
                  (U.find b u).fst.snd.snd.fst ∧
                (b.snd.snd.snd.getD (IntKind.i64.wrap ((U.place b.snd.snd.snd u).sub (1 : Int))).toNat
                            ((0 : Int), (0 : Int), (0 : Int), [])).snd.snd.snd =
                    (U.find b u).fst.snd.snd.snd ∧
                  true = (U.find b u).snd ∧ True
theorem owes_26 (b : Box) (u : Int) : Owes Try.prog (cfgOf QA) noKeep 26 [.of false tBox b, .of false (.int .i64) u] [] (d25 b u) = vc26 b u := by kernel_rfl
def vc16 (b : Box) : Prop :=
  bif
      bif
          bif
              bif bif decide (b.snd.fst < (1 : Int)) then true else decide (b.snd.fst > (4294967295 : Int)) then true
              else decide (b.snd.snd.fst < (1 : Int)) then
            true
          else decide (b.snd.snd.fst > (4294967296 : Int)) then
        true
      else decide ((↑b.snd.snd.snd.length : Int) > (40 : Int)) then
    false = U.right b ∧ True
  else
    ∃ (x0 : Int),
      (U.st16 b (0 : Int) = U.st16 b x0 ∧
          U.at_ b.snd.snd.snd x0 ∧
            (0 : Int) ≤ U.lastU b.snd.snd.snd x0.toNat ∧
              U.rightGo b.snd.snd.fst (List.drop x0.toNat b.snd.snd.snd) (U.lastU b.snd.snd.snd x0.toNat) =
                U.rightGo b.snd.snd.fst b.snd.snd.snd (0 : Int)) ∧
        ∀ (x : Int),
          U.at_ b.snd.snd.snd x ∧
              (0 : Int) ≤ U.lastU b.snd.snd.snd x.toNat ∧
                U.rightGo b.snd.snd.fst (List.drop x.toNat b.snd.snd.snd) (U.lastU b.snd.snd.snd x.toNat) =
                  U.rightGo b.snd.snd.fst b.snd.snd.snd (0 : Int) →
            bif decide (x < (↑b.snd.snd.snd.length : Int)) then
              (0 : Int) ≤ x ∧
                x < (↑b.snd.snd.snd.length : Int) ∧
                  ((!U.mayN (b.snd.snd.snd.getD x.toNat ((0 : Int), (0 : Int), (0 : Int), []))) = false →
                      (0 : Int) ≤ x) ∧
                    ((!U.mayN (b.snd.snd.snd.getD x.toNat ((0 : Int), (0 : Int), (0 : Int), []))) = false →
                        x < (↑b.snd.snd.snd.length : Int)) ∧
                      ((bif !U.mayN (b.snd.snd.snd.getD x.toNat ((0 : Int), (0 : Int), (0 : Int), [])) then true
                            else
                              decide
                                ((b.snd.snd.snd.getD x.toNat ((0 : Int), (0 : Int), (0 : Int), [])).fst ≥
                                  b.snd.snd.fst)) =
                            false →
                          decide (x > (0 : Int)) = true → (0 : Int) ≤ IntKind.i64.wrap (x.sub (1 : Int))) ∧
                        ((bif !U.mayN (b.snd.snd.snd.getD x.toNat ((0 : Int), (0 : Int), (0 : Int), [])) then true
                              else
                                decide
                                  ((b.snd.snd.snd.getD x.toNat ((0 : Int), (0 : Int), (0 : Int), [])).fst ≥
                                    b.snd.snd.fst)) =
                              false →
                            decide (x > (0 : Int)) = true →
                              IntKind.i64.wrap (x.sub (1 : Int)) < (↑b.snd.snd.snd.length : Int)) ∧
                          ((bif !U.mayN (b.snd.snd.snd.getD x.toNat ((0 : Int), (0 : Int), (0 : Int), [])) then true
                                else
                                  decide
                                    ((b.snd.snd.snd.getD x.toNat ((0 : Int), (0 : Int), (0 : Int), [])).fst ≥
                                      b.snd.snd.fst)) =
                                false →
                              decide (x > (0 : Int)) = true → (0 : Int) ≤ x) ∧
                            ((bif !U.mayN (b.snd.snd.snd.getD x.toNat ((0 : Int), (0 : Int), (0 : Int), [])) then true
                                  else
                                    decide
                                      ((b.snd.snd.snd.getD x.toNat ((0 : Int), (0 : Int), (0 : Int), [])).fst ≥
                                        b.snd.snd.fst)) =
                                  false →
                                decide (x > (0 : Int)) = true → x < (↑b.snd.snd.snd.length : Int)) ∧
                              bif
                                  bif
                                      bif
                                          !U.mayN
                                              (b.snd.snd.snd.getD x.toNat ((0 : Int), (0 : Int), (0 : Int), [])) then
                                        true
                                      else
                                        decide
                                          ((b.snd.snd.snd.getD x.toNat ((0 : Int), (0 : Int), (0 : Int), [])).fst ≥
                                            b.snd.snd.fst) then
                                    true
                                  else
                                    bif decide (x > (0 : Int)) then
                                      decide
                                        ((b.snd.snd.snd.getD (IntKind.i64.wrap (x.sub (1 : Int))).toNat
                                              ((0 : Int), (0 : Int), (0 : Int), [])).fst ≥
                                          (b.snd.snd.snd.getD x.toNat ((0 : Int), (0 : Int), (0 : Int), [])).fst)
                                    else false then
                                false = U.right b ∧ True
                              else
                                ∃ (y : Int),
                                  U.st16 b (IntKind.i64.wrap (x.add (1 : Int))) = U.st16 b y ∧
                                    (U.at_ b.snd.snd.snd y ∧
                                        (0 : Int) ≤ U.lastU b.snd.snd.snd y.toNat ∧
                                          U.rightGo b.snd.snd.fst (List.drop y.toNat b.snd.snd.snd)
                                              (U.lastU b.snd.snd.snd y.toNat) =
                                            U.rightGo b.snd.snd.fst b.snd.snd.snd (0 : Int)) ∧
                                      b.snd.snd.snd.length.sub y.toNat < b.snd.snd.snd.length.sub x.toNat
            else true = U.right b ∧ True
theorem owes_16 (b : Box) : Owes Try.prog (cfgOf QB) (lp16 b) 16 [.of false tBox b] [] (rB (U.right b)) = vc16 b := by kernel_rfl
def vc33 (a b : Box) : Prop :=
  bif
      bif bif a.fst.beq b.fst then decide (a.snd.fst = b.snd.fst) else false then decide (a.snd.snd.fst = b.snd.snd.fst)
      else false then
    bif (↑a.snd.snd.snd.length : Int) != (↑b.snd.snd.snd.length : Int) then false = U.eqBox a b ∧ True
    else
      ∃ (x0 : Int),
        (U.st47 a b (0 : Int) = U.st47 a b x0 ∧
            U.at_ a.snd.snd.snd x0 ∧
              a.snd.snd.snd.length = b.snd.snd.snd.length ∧
                List.take x0.toNat a.snd.snd.snd = List.take x0.toNat b.snd.snd.snd) ∧
          ∀ (x : Int),
            U.at_ a.snd.snd.snd x ∧
                a.snd.snd.snd.length = b.snd.snd.snd.length ∧
                  List.take x.toNat a.snd.snd.snd = List.take x.toNat b.snd.snd.snd →
              bif decide (x < (↑a.snd.snd.snd.length : Int)) then
                (0 : Int) ≤ x ∧
                  x < (↑a.snd.snd.snd.length : Int) ∧
                    (0 : Int) ≤ x ∧
                      x < (↑b.snd.snd.snd.length : Int) ∧
                        bif
                            !U.eqM (a.snd.snd.snd.getD x.toNat ((0 : Int), (0 : Int), (0 : Int), []))
                                (b.snd.snd.snd.getD x.toNat ((0 : Int), (0 : Int), (0 : Int), [])) then
                          false = U.eqBox a b ∧ True
                        else
                          ∃ (y : Int),
                            U.st47 a b (IntKind.i64.wrap (x.add (1 : Int))) = U.st47 a b y ∧
                              (U.at_ a.snd.snd.snd y ∧
                                  a.snd.snd.snd.length = b.snd.snd.snd.length ∧
                                    List.take y.toNat a.snd.snd.snd = List.take y.toNat b.snd.snd.snd) ∧
                                a.snd.snd.snd.length.sub y.toNat < a.snd.snd.snd.length.sub x.toNat
              else true = U.eqBox a b ∧ True
  else false = U.eqBox a b ∧ True
theorem owes_33 (a b : Box) : Owes Try.prog (cfgOf QB) (lp33 a b) 33 [.of false tBox a, .of false tBox b] [] (rB (U.eqBox a b)) = vc33 a b := by kernel_rfl
def vc13 (b : Box) (m : Msg) : Prop :=
  bif bif !U.right b then true else !U.mayN ((1 : Int), m.snd) then
    b.fst = (U.add b m).fst.fst ∧
      b.snd.fst = (U.add b m).fst.snd.fst ∧
        b.snd.snd.fst = (U.add b m).fst.snd.snd.fst ∧
          b.snd.snd.snd = (U.add b m).fst.snd.snd.snd ∧
            (0 : Int) = (U.add b m).snd.fst ∧ (1 : Int) = (U.add b m).snd.snd ∧ True
  else
    bif decide (b.snd.snd.fst > (4294967295 : Int)) then
      b.fst = (U.add b m).fst.fst ∧
        b.snd.fst = (U.add b m).fst.snd.fst ∧
          b.snd.snd.fst = (U.add b m).fst.snd.snd.fst ∧
            b.snd.snd.snd = (U.add b m).fst.snd.snd.snd ∧
              (0 : Int) = (U.add b m).snd.fst ∧ (13 : Int) = (U.add b m).snd.snd ∧ True
    else
      bif decide ((↑b.snd.snd.snd.length : Int) = (40 : Int)) then
        b.fst = (U.add b m).fst.fst ∧
          b.snd.fst = (U.add b m).fst.snd.fst ∧
            b.snd.snd.fst = (U.add b m).fst.snd.snd.fst ∧
              b.snd.snd.snd = (U.add b m).fst.snd.snd.snd ∧
                (0 : Int) = (U.add b m).snd.fst ∧ (8 : Int) = (U.add b m).snd.snd ∧ True
      else
        U.small b.snd.snd.snd ∧
          m.snd.snd.snd.length ≤ (5000 : Nat) ∧
            (b.snd.snd.snd.length.add ((1 : Nat))).mul (48 : Nat) ≤ (140737488355328 : Nat) ∧
              b.snd.snd.snd.length.add ((1 : Nat)) ≤ maxLen ∧
                b.fst = (U.add b m).fst.fst ∧
                  b.snd.fst = (U.add b m).fst.snd.fst ∧
                    IntKind.i64.wrap (b.snd.snd.fst.add (1 : Int)) = (U.add b m).fst.snd.snd.fst ∧
                      b.snd.snd.snd.append
                            ([((0 : Int), (0 : Int), (0 : Int), [])].set (0 : Nat) (b.snd.snd.fst, m.snd)) =
                          (U.add b m).fst.snd.snd.snd ∧
                        b.snd.snd.fst = (U.add b m).snd.fst ∧ (0 : Int) = (U.add b m).snd.snd ∧ True
theorem owes_13 (b : Box) (m : Msg) : Owes Try.prog (cfgOf QC) noKeep 13 [.of false tBox b, .of false tMsg m] [] (d12 b m) = vc13 b m := by kernel_rfl
def vc20 (b : Box) (l : List Int) (m f : Int) : Prop :=
  bif bif (U.apply (0 : Int) m f).snd != (0 : Int) then true else !U.right b then
    b.fst = (U.store b l m f).fst.fst ∧
      b.snd.fst = (U.store b l m f).fst.snd.fst ∧
        b.snd.snd.fst = (U.store b l m f).fst.snd.snd.fst ∧
          b.snd.snd.snd = (U.store b l m f).fst.snd.snd.snd ∧ (1 : Int) = (U.store b l m f).snd ∧ True
  else
    bif U.missing b.snd.snd.snd l then
      b.fst = (U.store b l m f).fst.fst ∧
        b.snd.fst = (U.store b l m f).fst.snd.fst ∧
          b.snd.snd.fst = (U.store b l m f).fst.snd.snd.fst ∧
            b.snd.snd.snd = (U.store b l m f).fst.snd.snd.snd ∧ (6 : Int) = (U.store b l m f).snd ∧ True
    else
      U.small b.snd.snd.snd ∧
        ∃ (x0 : List (Int × Int × Int × List Int) × Int),
          (U.st20 b l m f b.snd.snd.snd (0 : Int) = U.st20 b l m f x0.fst x0.snd ∧
              U.at_ l x0.snd ∧
                x0.fst.length = b.snd.snd.snd.length ∧
                  U.uids x0.fst = U.uids b.snd.snd.snd ∧
                    U.stepAll m f (List.drop x0.snd.toNat l) x0.fst = U.stepAll m f l b.snd.snd.snd) ∧
            ∀ (x : List (Int × Int × Int × List Int) × Int),
              U.at_ l x.snd ∧
                  x.fst.length = b.snd.snd.snd.length ∧
                    U.uids x.fst = U.uids b.snd.snd.snd ∧
                      U.stepAll m f (List.drop x.snd.toNat l) x.fst = U.stepAll m f l b.snd.snd.snd →
                bif decide (x.snd < (↑l.length : Int)) then
                  (0 : Int) ≤ x.snd ∧
                    x.snd < (↑l.length : Int) ∧
                      (0 : Int) ≤ IntKind.i64.wrap ((U.place x.fst (l.getD x.snd.toNat (0 : Int))).sub (1 : Int)) ∧
                        IntKind.i64.wrap ((U.place x.fst (l.getD x.snd.toNat (0 : Int))).sub (1 : Int)) <
                            (↑x.fst.length : Int) ∧
                          (IntKind.i64.wrap ((U.place x.fst (l.getD x.snd.toNat (0 : Int))).sub (1 : Int))).toNat <
                              x.fst.length ∧
                            (IntKind.i64.wrap ((U.place x.fst (l.getD x.snd.toNat (0 : Int))).sub (1 : Int))).toNat <
                                x.fst.length ∧
                              ∃ (y : List (Int × Int × Int × List Int) × Int),
                                U.st20 b l m f
                                      (x.fst.set
                                        (IntKind.i64.wrap
                                            ((U.place x.fst (l.getD x.snd.toNat (0 : Int))).sub (1 : Int))).toNat
                                        ((x.fst.getD
                                              (IntKind.i64.wrap
                                                  ((U.place x.fst (l.getD x.snd.toNat (0 : Int))).sub (1 : Int))).toNat
                                              ((0 : Int), (0 : Int), (0 : Int), [])).fst,
                                          (U.apply
                                              (x.fst.getD
                                                    (IntKind.i64.wrap
                                                        ((U.place x.fst (l.getD x.snd.toNat (0 : Int))).sub
                                                          (1 : Int))).toNat
                                                    ((0 : Int), (0 : Int), (0 : Int), [])).snd.fst
                                              m f).fst,
                                          (x.fst.getD
                                                (IntKind.i64.wrap
                                                    ((U.place x.fst (l.getD x.snd.toNat (0 : Int))).sub
                                                      (1 : Int))).toNat
                                                ((0 : Int), (0 : Int), (0 : Int), [])).snd.snd))
                                      (IntKind.i64.wrap (x.snd.add (1 : Int))) =
                                    U.st20 b l m f y.fst y.snd ∧
                                  (U.at_ l y.snd ∧
                                      y.fst.length = b.snd.snd.snd.length ∧
                                        U.uids y.fst = U.uids b.snd.snd.snd ∧
                                          U.stepAll m f (List.drop y.snd.toNat l) y.fst =
                                            U.stepAll m f l b.snd.snd.snd) ∧
                                    l.length.sub y.snd.toNat < l.length.sub x.snd.toNat
                else
                  b.fst = (U.store b l m f).fst.fst ∧
                    b.snd.fst = (U.store b l m f).fst.snd.fst ∧
                      b.snd.snd.fst = (U.store b l m f).fst.snd.snd.fst ∧
                        x.fst = (U.store b l m f).fst.snd.snd.snd ∧ (0 : Int) = (U.store b l m f).snd ∧ True
theorem owes_20 (b : Box) (l : List Int) (m f : Int) : Owes Try.prog (cfgOf QC) (lp20 b l m f) 20 [.of false tBox b, .of false tInts l, .of false (.int .i64) m, .of false (.int .i64) f] [] (d20 b l m f) = vc20 b l m f := by kernel_rfl
def vc21 (b : Box) (l : List Int) (m f : Int) : Prop :=
  bif bif !U.right b then true else (U.apply (0 : Int) m f).snd != (0 : Int) then
    b.fst = (U.store b l m f).fst.fst ∧
      b.snd.fst = (U.store b l m f).fst.snd.fst ∧
        b.snd.snd.fst = (U.store b l m f).fst.snd.snd.fst ∧
          b.snd.snd.snd = (U.store b l m f).fst.snd.snd.snd ∧ (1 : Int) = (U.store b l m f).snd ∧ True
  else
    bif !!U.missing b.snd.snd.snd l then
      b.fst = (U.store b l m f).fst.fst ∧
        b.snd.fst = (U.store b l m f).fst.snd.fst ∧
          b.snd.snd.fst = (U.store b l m f).fst.snd.snd.fst ∧
            b.snd.snd.snd = (U.store b l m f).fst.snd.snd.snd ∧ (6 : Int) = (U.store b l m f).snd ∧ True
    else
      U.small b.snd.snd.snd ∧
        ∃ (x0 : List (Int × Int × Int × List Int) × Int),
          (U.st21 b l m f b.snd.snd.snd (0 : Int) = U.st21 b l m f x0.fst x0.snd ∧
              U.at_ l x0.snd ∧
                x0.fst.length = b.snd.snd.snd.length ∧
                  U.uids x0.fst = U.uids b.snd.snd.snd ∧
                    U.stepAll m f (List.drop x0.snd.toNat l) x0.fst = U.stepAll m f l b.snd.snd.snd) ∧
            ∀ (x : List (Int × Int × Int × List Int) × Int),
              U.at_ l x.snd ∧
                  x.fst.length = b.snd.snd.snd.length ∧
                    U.uids x.fst = U.uids b.snd.snd.snd ∧
                      U.stepAll m f (List.drop x.snd.toNat l) x.fst = U.stepAll m f l b.snd.snd.snd →
                bif decide (x.snd < (↑l.length : Int)) then
                  (0 : Int) ≤ x.snd ∧
                    x.snd < (↑l.length : Int) ∧
                      (0 : Int) ≤ IntKind.i64.wrap ((U.place x.fst (l.getD x.snd.toNat (0 : Int))).sub (1 : Int)) ∧
                        IntKind.i64.wrap ((U.place x.fst (l.getD x.snd.toNat (0 : Int))).sub (1 : Int)) <
                            (↑x.fst.length : Int) ∧
                          (IntKind.i64.wrap ((U.place x.fst (l.getD x.snd.toNat (0 : Int))).sub (1 : Int))).toNat <
                              x.fst.length ∧
                            (0 : Int) ≤
                                IntKind.i64.wrap ((U.place x.fst (l.getD x.snd.toNat (0 : Int))).sub (1 : Int)) ∧
                              IntKind.i64.wrap ((U.place x.fst (l.getD x.snd.toNat (0 : Int))).sub (1 : Int)) <
                                  (↑x.fst.length : Int) ∧
                                (IntKind.i64.wrap
                                        ((U.place x.fst (l.getD x.snd.toNat (0 : Int))).sub (1 : Int))).toNat <
                                    x.fst.length ∧
                                  ∃ (y : List (Int × Int × Int × List Int) × Int),
                                    U.st21 b l m f
                                          (x.fst.set
                                            (IntKind.i64.wrap
                                                ((U.place x.fst (l.getD x.snd.toNat (0 : Int))).sub (1 : Int))).toNat
                                            ((x.fst.getD
                                                  (IntKind.i64.wrap
                                                      ((U.place x.fst (l.getD x.snd.toNat (0 : Int))).sub
                                                        (1 : Int))).toNat
                                                  ((0 : Int), (0 : Int), (0 : Int), [])).fst,
                                              (U.apply
                                                  (x.fst.getD
                                                        (IntKind.i64.wrap
                                                            ((U.place x.fst (l.getD x.snd.toNat (0 : Int))).sub
                                                              (1 : Int))).toNat
                                                        ((0 : Int), (0 : Int), (0 : Int), [])).snd.fst
                                                  m f).fst,
                                              (x.fst.getD
                                                    (IntKind.i64.wrap
                                                        ((U.place x.fst (l.getD x.snd.toNat (0 : Int))).sub
                                                          (1 : Int))).toNat
                                                    ((0 : Int), (0 : Int), (0 : Int), [])).snd.snd))
                                          (IntKind.i64.wrap (x.snd.add (1 : Int))) =
                                        U.st21 b l m f y.fst y.snd ∧
                                      (U.at_ l y.snd ∧
                                          y.fst.length = b.snd.snd.snd.length ∧
                                            U.uids y.fst = U.uids b.snd.snd.snd ∧
                                              U.stepAll m f (List.drop y.snd.toNat l) y.fst =
                                                U.stepAll m f l b.snd.snd.snd) ∧
                                        l.length.sub y.snd.toNat < l.length.sub x.snd.toNat
                else
                  b.fst = (U.store b l m f).fst.fst ∧
                    b.snd.fst = (U.store b l m f).fst.snd.fst ∧
                      b.snd.snd.fst = (U.store b l m f).fst.snd.snd.fst ∧
                        x.fst = (U.store b l m f).fst.snd.snd.snd ∧ (0 : Int) = (U.store b l m f).snd ∧ True
theorem owes_21 (b : Box) (l : List Int) (m f : Int) : Owes Try.prog (cfgOf QC) (lp21 b l m f) 21 [.of false tBox b, .of false tInts l, .of false (.int .i64) m, .of false (.int .i64) f] [] (d20 b l m f) = vc21 b l m f := by kernel_rfl
def vc22 (b : Box) (l : List Int) : Prop :=
  bif !U.right b then
    b.fst = (U.take b l).fst.fst ∧
      b.snd.fst = (U.take b l).fst.snd.fst ∧
        b.snd.snd.fst = (U.take b l).fst.snd.snd.fst ∧
          b.snd.snd.snd = (U.take b l).fst.snd.snd.snd ∧
            [] = (U.take b l).snd.fst ∧ (1 : Int) = (U.take b l).snd.snd ∧ True
  else
    bif !!U.missing b.snd.snd.snd l then
      b.fst = (U.take b l).fst.fst ∧
        b.snd.fst = (U.take b l).fst.snd.fst ∧
          b.snd.snd.fst = (U.take b l).fst.snd.snd.fst ∧
            b.snd.snd.snd = (U.take b l).fst.snd.snd.snd ∧
              [] = (U.take b l).snd.fst ∧ (6 : Int) = (U.take b l).snd.snd ∧ True
    else
      U.small b.snd.snd.snd ∧
        ∃ (x0 : List (Int × Int × Int × List Int) × List (Int × Int × Int × List Int) × Int),
          (U.st22a b l [] [] (0 : Int) = U.st22a b l x0.fst x0.snd.fst x0.snd.snd ∧
              U.at_ b.snd.snd.snd x0.snd.snd ∧
                x0.snd.fst =
                    List.filter (fun (m : Int × Int × Int × List Int) => U.contains l m.fst)
                      (List.take x0.snd.snd.toNat b.snd.snd.snd) ∧
                  x0.fst =
                    List.filter (fun (m : Int × Int × Int × List Int) => !U.contains l m.fst)
                      (List.take x0.snd.snd.toNat b.snd.snd.snd)) ∧
            ∀ (x : List (Int × Int × Int × List Int) × List (Int × Int × Int × List Int) × Int),
              U.at_ b.snd.snd.snd x.snd.snd ∧
                  x.snd.fst =
                      List.filter (fun (m : Int × Int × Int × List Int) => U.contains l m.fst)
                        (List.take x.snd.snd.toNat b.snd.snd.snd) ∧
                    x.fst =
                      List.filter (fun (m : Int × Int × Int × List Int) => !U.contains l m.fst)
                        (List.take x.snd.snd.toNat b.snd.snd.snd) →
                bif decide (x.snd.snd < (↑b.snd.snd.snd.length : Int)) then
                  ∃ (x0 : List (Int × Int × Int × List Int) × List (Int × Int × Int × List Int) × Int × Bool × Int),
                    (U.st22b b l x.fst x.snd.fst x.snd.snd false (0 : Int) =
                          U.st22b b l x0.fst x0.snd.fst x0.snd.snd.fst x0.snd.snd.snd.fst x0.snd.snd.snd.snd ∧
                        (U.at_ b.snd.snd.snd x0.snd.snd.fst ∧
                            x0.snd.fst =
                                List.filter (fun (m : Int × Int × Int × List Int) => U.contains l m.fst)
                                  (List.take x0.snd.snd.fst.toNat b.snd.snd.snd) ∧
                              x0.fst =
                                List.filter (fun (m : Int × Int × Int × List Int) => !U.contains l m.fst)
                                  (List.take x0.snd.snd.fst.toNat b.snd.snd.snd)) ∧
                          x0.snd.snd.fst = x0.snd.snd.fst ∧
                            x0.snd.snd.fst < (↑b.snd.snd.snd.length : Int) ∧
                              U.at_ l x0.snd.snd.snd.snd ∧
                                x0.snd.snd.snd.fst =
                                  U.contains (List.take x0.snd.snd.snd.snd.toNat l)
                                    (b.snd.snd.snd.getD x0.snd.snd.fst.toNat
                                        ((0 : Int), (0 : Int), (0 : Int), [])).fst) ∧
                      ∀
                        (x_1 :
                          List (Int × Int × Int × List Int) × List (Int × Int × Int × List Int) × Int × Bool × Int),
                        (U.at_ b.snd.snd.snd x_1.snd.snd.fst ∧
                              x_1.snd.fst =
                                  List.filter (fun (m : Int × Int × Int × List Int) => U.contains l m.fst)
                                    (List.take x_1.snd.snd.fst.toNat b.snd.snd.snd) ∧
                                x_1.fst =
                                  List.filter (fun (m : Int × Int × Int × List Int) => !U.contains l m.fst)
                                    (List.take x_1.snd.snd.fst.toNat b.snd.snd.snd)) ∧
                            x_1.snd.snd.fst = x0.snd.snd.fst ∧
                              x_1.snd.snd.fst < (↑b.snd.snd.snd.length : Int) ∧
                                U.at_ l x_1.snd.snd.snd.snd ∧
                                  x_1.snd.snd.snd.fst =
                                    U.contains (List.take x_1.snd.snd.snd.snd.toNat l)
                                      (b.snd.snd.snd.getD x_1.snd.snd.fst.toNat
                                          ((0 : Int), (0 : Int), (0 : Int), [])).fst →
                          bif decide (x_1.snd.snd.snd.snd < (↑l.length : Int)) then
                            (x_1.snd.snd.snd.fst = false → (0 : Int) ≤ x_1.snd.snd.snd.snd) ∧
                              (x_1.snd.snd.snd.fst = false → x_1.snd.snd.snd.snd < (↑l.length : Int)) ∧
                                (x_1.snd.snd.snd.fst = false → (0 : Int) ≤ x_1.snd.snd.fst) ∧
                                  (x_1.snd.snd.snd.fst = false → x_1.snd.snd.fst < (↑b.snd.snd.snd.length : Int)) ∧
                                    (x_1.snd.snd.snd.fst = false → x_1.snd.snd.fst.toNat < b.snd.snd.snd.length) ∧
                                      ∃ (y :
                                        List (Int × Int × Int × List Int) ×
                                          List (Int × Int × Int × List Int) × Int × Bool × Int),
                                        U.st22b b l x_1.fst x_1.snd.fst x_1.snd.snd.fst
                                              (bif x_1.snd.snd.snd.fst then true
                                              else
                                                decide
                                                  (l.getD x_1.snd.snd.snd.snd.toNat (0 : Int) =
                                                    (b.snd.snd.snd.getD x_1.snd.snd.fst.toNat
                                                        ((0 : Int), (0 : Int), (0 : Int), [])).fst))
                                              (IntKind.i64.wrap (x_1.snd.snd.snd.snd.add (1 : Int))) =
                                            U.st22b b l y.fst y.snd.fst y.snd.snd.fst y.snd.snd.snd.fst
                                              y.snd.snd.snd.snd ∧
                                          ((U.at_ b.snd.snd.snd y.snd.snd.fst ∧
                                                y.snd.fst =
                                                    List.filter
                                                      (fun (m : Int × Int × Int × List Int) => U.contains l m.fst)
                                                      (List.take y.snd.snd.fst.toNat b.snd.snd.snd) ∧
                                                  y.fst =
                                                    List.filter
                                                      (fun (m : Int × Int × Int × List Int) => !U.contains l m.fst)
                                                      (List.take y.snd.snd.fst.toNat b.snd.snd.snd)) ∧
                                              y.snd.snd.fst = x0.snd.snd.fst ∧
                                                y.snd.snd.fst < (↑b.snd.snd.snd.length : Int) ∧
                                                  U.at_ l y.snd.snd.snd.snd ∧
                                                    y.snd.snd.snd.fst =
                                                      U.contains (List.take y.snd.snd.snd.snd.toNat l)
                                                        (b.snd.snd.snd.getD y.snd.snd.fst.toNat
                                                            ((0 : Int), (0 : Int), (0 : Int), [])).fst) ∧
                                            l.length.sub y.snd.snd.snd.snd.toNat <
                                              l.length.sub x_1.snd.snd.snd.snd.toNat
                          else
                            bif x_1.snd.snd.snd.fst then
                              (0 : Int) ≤ x_1.snd.snd.fst ∧
                                x_1.snd.snd.fst < (↑b.snd.snd.snd.length : Int) ∧
                                  x_1.snd.snd.fst.toNat < b.snd.snd.snd.length ∧
                                    (x_1.snd.fst.length.add ((1 : Nat))).mul (48 : Nat) ≤ (140737488355328 : Nat) ∧
                                      x_1.snd.fst.length.add ((1 : Nat)) ≤ maxLen ∧
                                        ∃ (y :
                                          List (Int × Int × Int × List Int) × List (Int × Int × Int × List Int) × Int),
                                          U.st22a b l x_1.fst
                                                (x_1.snd.fst.append
                                                  ([((0 : Int), (0 : Int), (0 : Int), [])].set (0 : Nat)
                                                    (b.snd.snd.snd.getD x_1.snd.snd.fst.toNat
                                                      ((0 : Int), (0 : Int), (0 : Int), []))))
                                                (IntKind.i64.wrap (x_1.snd.snd.fst.add (1 : Int))) =
                                              U.st22a b l y.fst y.snd.fst y.snd.snd ∧
                                            (U.at_ b.snd.snd.snd y.snd.snd ∧
                                                y.snd.fst =
                                                    List.filter
                                                      (fun (m : Int × Int × Int × List Int) => U.contains l m.fst)
                                                      (List.take y.snd.snd.toNat b.snd.snd.snd) ∧
                                                  y.fst =
                                                    List.filter
                                                      (fun (m : Int × Int × Int × List Int) => !U.contains l m.fst)
                                                      (List.take y.snd.snd.toNat b.snd.snd.snd)) ∧
                                              b.snd.snd.snd.length.sub y.snd.snd.toNat <
                                                b.snd.snd.snd.length.sub x.snd.snd.toNat
                            else
                              (0 : Int) ≤ x_1.snd.snd.fst ∧
                                x_1.snd.snd.fst < (↑b.snd.snd.snd.length : Int) ∧
                                  x_1.snd.snd.fst.toNat < b.snd.snd.snd.length ∧
                                    (x_1.fst.length.add ((1 : Nat))).mul (48 : Nat) ≤ (140737488355328 : Nat) ∧
                                      x_1.fst.length.add ((1 : Nat)) ≤ maxLen ∧
                                        ∃ (y :
                                          List (Int × Int × Int × List Int) × List (Int × Int × Int × List Int) × Int),
                                          U.st22a b l
                                                (x_1.fst.append
                                                  ([((0 : Int), (0 : Int), (0 : Int), [])].set (0 : Nat)
                                                    (b.snd.snd.snd.getD x_1.snd.snd.fst.toNat
                                                      ((0 : Int), (0 : Int), (0 : Int), []))))
                                                x_1.snd.fst (IntKind.i64.wrap (x_1.snd.snd.fst.add (1 : Int))) =
                                              U.st22a b l y.fst y.snd.fst y.snd.snd ∧
                                            (U.at_ b.snd.snd.snd y.snd.snd ∧
                                                y.snd.fst =
                                                    List.filter
                                                      (fun (m : Int × Int × Int × List Int) => U.contains l m.fst)
                                                      (List.take y.snd.snd.toNat b.snd.snd.snd) ∧
                                                  y.fst =
                                                    List.filter
                                                      (fun (m : Int × Int × Int × List Int) => !U.contains l m.fst)
                                                      (List.take y.snd.snd.toNat b.snd.snd.snd)) ∧
                                              b.snd.snd.snd.length.sub y.snd.snd.toNat <
                                                b.snd.snd.snd.length.sub x.snd.snd.toNat
                else
                  b.fst = (U.take b l).fst.fst ∧
                    b.snd.fst = (U.take b l).fst.snd.fst ∧
                      b.snd.snd.fst = (U.take b l).fst.snd.snd.fst ∧
                        x.fst = (U.take b l).fst.snd.snd.snd ∧
                          x.snd.fst = (U.take b l).snd.fst ∧ (0 : Int) = (U.take b l).snd.snd ∧ True
theorem owes_22 (b : Box) (l : List Int) : Owes Try.prog (cfgOf QC) (lp22 b l) 22 [.of false tBox b, .of false tInts l] [] (d17 b l) = vc22 b l := by kernel_rfl
end Go.Proofs.Ytddakledpipanaa
