import Derived.Test.YtddakledpipanaaU
import Derived.KernelRfl
set_option maxRecDepth 100000
set_option linter.unusedVariables false
namespace Go.Proofs.Ytddakledpipanaa
open Go.Vc
def vc36 (x : Int) : Prop := (bif decide (x ≥ (1 : Int)) then decide (x ≤ (4294967295 : Int)) else false) = U.numbered x ∧ True
theorem owes_36 (x : Int) : Owes Try.prog (cfgOf []) noKeep 36 [.of false (.int .i64) x] [] (rB (U.numbered x)) = vc36 x := by kernel_rfl
def vc49 (x : Int) : Prop :=
  decide
        (IntKind.i64.wrap
            (↑((BitVec.ofInt IntKind.i64.bits x).and (BitVec.ofInt IntKind.i64.bits (31 : Int)).not).toNat : Int) =
          (0 : Int)) =
      U.flagRight x ∧
    True
theorem owes_49 (x : Int) : Owes Try.prog (cfgOf []) noKeep 49 [.of false (.int .i64) x] [] (rB (U.flagRight x)) = vc49 x := by kernel_rfl
def vc50 (l : List Int) : Prop :=
  ∀ (nb : Bool),
    (nb = true → l.length = (0 : Nat)) →
      (false = true → nb = true) →
        bif nb then [] = l ∧ True
        else
          (Nat.add (0 : Nat) l.length).mul (1 : Nat) ≤ (140737488355328 : Nat) ∧
            Nat.add (0 : Nat) l.length ≤ maxLen ∧ l = l ∧ True
theorem owes_50 (l : List Int) : Owes Try.prog (cfgOf []) noKeep 50 [.of false tBytes l] [] ⟨[l.length ≤ 5000], .one (.psl true (.int .u8) l), [], []⟩ = vc50 l := by kernel_rfl
def vc41 (a b : List Int) : Prop := a.beq b = U.eqB a b ∧ True
theorem owes_41 (a b : List Int) : Owes Try.prog (cfgOf []) noKeep 41 [.of false tBytes a, .of false tBytes b] [] (rB (U.eqB a b)) = vc41 a b := by kernel_rfl
def vc54 (l : List Int) (v : Int) : Prop :=
  ∃ (x0 : Int),
    (U.st54 l v (0 : Int) = U.st54 l v x0 ∧
        U.at_ l x0 ∧
          U.idx1 (fun (u : Int) => decide (v = u)) (List.drop x0.toNat l) x0 =
            U.idx1 (fun (u : Int) => decide (v = u)) l (0 : Int)) ∧
      ∀ (x : Int),
        U.at_ l x ∧
            U.idx1 (fun (u : Int) => decide (v = u)) (List.drop x.toNat l) x =
              U.idx1 (fun (u : Int) => decide (v = u)) l (0 : Int) →
          bif decide (x < (↑l.length : Int)) then
            (0 : Int) ≤ x ∧
              x < (↑l.length : Int) ∧
                bif decide (v = l.getD x.toNat (0 : Int)) then
                  x = U.idx1 (fun (u : Int) => decide (v = u)) l (0 : Int) ∧ True
                else
                  ∃ (y : Int),
                    U.st54 l v (IntKind.i64.wrap (x.add (1 : Int))) = U.st54 l v y ∧
                      (U.at_ l y ∧
                          U.idx1 (fun (u : Int) => decide (v = u)) (List.drop y.toNat l) y =
                            U.idx1 (fun (u : Int) => decide (v = u)) l (0 : Int)) ∧
                        l.length.sub y.toNat < l.length.sub x.toNat
          else Int.neg (1 : Int) = U.idx1 (fun (u : Int) => decide (v = u)) l (0 : Int) ∧ True
theorem owes_54 (l : List Int) (v : Int) : Owes Try.prog (cfgOf []) (lp54 l v) 54 [.of false tInts l, .of false (.int .i64) v] [] (rI (U.idx1 (fun u => decide (v = u)) l 0)) = vc54 l v := by kernel_rfl
def vc35 (m : Msg) : Prop :=
  (bif
          bif bif U.flagRight m.snd.fst then decide (m.snd.snd.fst ≥ (0 : Int)) else false then
            decide (m.snd.snd.fst ≤ (1099511627776 : Int))
          else false then
        decide ((↑m.snd.snd.snd.length : Int) ≤ (2000 : Int))
      else false) =
      U.may m ∧
    True
theorem owes_35 (m : Msg) : Owes Try.prog (cfgOf Q1) noKeep 35 [.of false tMsg m] [] (rB (U.may m)) = vc35 m := by kernel_rfl
def vc37 (m : Msg) : Prop :=
  m.snd.snd.snd.length ≤ (5000 : Nat) ∧
    m.fst = m.fst ∧ m.snd.fst = m.snd.fst ∧ m.snd.snd.fst = m.snd.snd.fst ∧ m.snd.snd.snd = m.snd.snd.snd ∧ True
theorem owes_37 (m : Msg) : Owes Try.prog (cfgOf Q1) noKeep 37 [.of false tMsg m] [] ⟨[m.2.2.2.length ≤ 5000], .v (.of true tMsg m), [], []⟩ = vc37 m := by kernel_rfl
def vc18 (a b : Msg) : Prop :=
  (bif
          bif bif decide (a.fst = b.fst) then decide (a.snd.fst = b.snd.fst) else false then
            decide (a.snd.snd.fst = b.snd.snd.fst)
          else false then
        U.eqB a.snd.snd.snd b.snd.snd.snd
      else false) =
      U.eqM a b ∧
    True
theorem owes_18 (a b : Msg) : Owes Try.prog (cfgOf Q1) noKeep 18 [.of false tMsg a, .of false tMsg b] [] (rB (U.eqM a b)) = vc18 a b := by kernel_rfl
def vc28 (b : Box) (u : Int) : Prop :=
  ∃ (x0 : Int),
    (U.st45 b u (0 : Int) = U.st45 b u x0 ∧
        U.at_ b.snd.snd.snd x0 ∧
          U.idx1 (fun (m : Int × Int × Int × List Int) => decide (m.fst = u)) (List.drop x0.toNat b.snd.snd.snd) x0 =
            U.idx1 (fun (m : Int × Int × Int × List Int) => decide (m.fst = u)) b.snd.snd.snd (0 : Int)) ∧
      ∀ (x : Int),
        U.at_ b.snd.snd.snd x ∧
            U.idx1 (fun (m : Int × Int × Int × List Int) => decide (m.fst = u)) (List.drop x.toNat b.snd.snd.snd) x =
              U.idx1 (fun (m : Int × Int × Int × List Int) => decide (m.fst = u)) b.snd.snd.snd (0 : Int) →
          bif decide (x < (↑b.snd.snd.snd.length : Int)) then
            (0 : Int) ≤ x ∧
              x < (↑b.snd.snd.snd.length : Int) ∧
                bif decide ((b.snd.snd.snd.getD x.toNat ((0 : Int), (0 : Int), (0 : Int), [])).fst = u) then
                  IntKind.i64.wrap (Int.add (1 : Int) x) = U.place b.snd.snd.snd u ∧ True
                else
                  ∃ (y : Int),
                    U.st45 b u (IntKind.i64.wrap (x.add (1 : Int))) = U.st45 b u y ∧
                      (U.at_ b.snd.snd.snd y ∧
                          U.idx1 (fun (m : Int × Int × Int × List Int) => decide (m.fst = u))
                              (List.drop y.toNat b.snd.snd.snd) y =
                            U.idx1 (fun (m : Int × Int × Int × List Int) => decide (m.fst = u)) b.snd.snd.snd
                              (0 : Int)) ∧
                        b.snd.snd.snd.length.sub y.toNat < b.snd.snd.snd.length.sub x.toNat
          else IntKind.i64.wrap (Int.add (1 : Int) (Int.neg (1 : Int))) = U.place b.snd.snd.snd u ∧ True
theorem owes_28 (b : Box) (u : Int) : Owes Try.prog (cfgOf Q1) (lp45 b u) 28 [.of false tBox b, .of false (.int .i64) u] [] (rI (U.place b.2.2.2 u)) = vc28 b u := by kernel_rfl
def vc40 (l : List Int) (v : Int) : Prop :=
  decide (U.idx1 (fun (u : Int) => decide (v = u)) l (0 : Int) ≥ (0 : Int)) = U.contains l v ∧ True
theorem owes_40 (l : List Int) (v : Int) : Owes Try.prog (cfgOf Q1) noKeep 40 [.of false tInts l, .of false (.int .i64) v] [] (rB (U.contains l v)) = vc40 l v := by kernel_rfl
def vc15 (b : Box) : Prop :=
  bif
      bif
          bif !U.numbered b.snd.fst then true
          else bif !U.numbered b.snd.snd.fst then b.snd.snd.fst != (4294967296 : Int) else false then
        true
      else decide ((↑b.snd.snd.snd.length : Int) > (40 : Int)) then
    false = U.right b ∧ True
  else
    ∃ (x0 : Int × Int),
      (U.st15 b (0 : Int) (0 : Int) = U.st15 b x0.fst x0.snd ∧
          U.at_ b.snd.snd.snd x0.snd ∧
            U.rightGo b.snd.snd.fst (List.drop x0.snd.toNat b.snd.snd.snd) x0.fst =
              U.rightGo b.snd.snd.fst b.snd.snd.snd (0 : Int)) ∧
        ∀ (x : Int × Int),
          U.at_ b.snd.snd.snd x.snd ∧
              U.rightGo b.snd.snd.fst (List.drop x.snd.toNat b.snd.snd.snd) x.fst =
                U.rightGo b.snd.snd.fst b.snd.snd.snd (0 : Int) →
            bif decide (x.snd < (↑b.snd.snd.snd.length : Int)) then
              (0 : Int) ≤ x.snd ∧
                x.snd < (↑b.snd.snd.snd.length : Int) ∧
                  bif
                      bif
                          bif
                              decide
                                ((b.snd.snd.snd.getD x.snd.toNat ((0 : Int), (0 : Int), (0 : Int), [])).fst ≤
                                  x.fst) then
                            true
                          else
                            decide
                              ((b.snd.snd.snd.getD x.snd.toNat ((0 : Int), (0 : Int), (0 : Int), [])).fst ≥
                                b.snd.snd.fst) then
                        true
                      else
                        !U.may
                            ((b.snd.snd.snd.getD x.snd.toNat ((0 : Int), (0 : Int), (0 : Int), [])).fst,
                              (b.snd.snd.snd.getD x.snd.toNat ((0 : Int), (0 : Int), (0 : Int), [])).snd.fst,
                              (b.snd.snd.snd.getD x.snd.toNat ((0 : Int), (0 : Int), (0 : Int), [])).snd.snd.fst,
                              (b.snd.snd.snd.getD x.snd.toNat ((0 : Int), (0 : Int), (0 : Int), [])).snd.snd.snd) then
                    false = U.right b ∧ True
                  else
                    ∃ (y : Int × Int),
                      U.st15 b (b.snd.snd.snd.getD x.snd.toNat ((0 : Int), (0 : Int), (0 : Int), [])).fst
                            (IntKind.i64.wrap (x.snd.add (1 : Int))) =
                          U.st15 b y.fst y.snd ∧
                        (U.at_ b.snd.snd.snd y.snd ∧
                            U.rightGo b.snd.snd.fst (List.drop y.snd.toNat b.snd.snd.snd) y.fst =
                              U.rightGo b.snd.snd.fst b.snd.snd.snd (0 : Int)) ∧
                          b.snd.snd.snd.length.sub y.snd.toNat < b.snd.snd.snd.length.sub x.snd.toNat
            else true = U.right b ∧ True
theorem owes_15 (b : Box) : Owes Try.prog (cfgOf Q2) (lp15 b) 15 [.of false tBox b] [] (rB (U.right b)) = vc15 b := by kernel_rfl
def vc27 (b : Box) : Prop :=
  (0 : Int) ≤ (↑b.snd.snd.snd.length : Int) ∧
    (↑b.snd.snd.snd.length : Int) ≤ (↑b.snd.snd.snd.length : Int) ∧
      (↑b.snd.snd.snd.length : Int).mul (↑(48 : Nat) : Int) ≤ (140737488355328 : Int) ∧
        (↑b.snd.snd.snd.length : Int) ≤ (9223372036854775807 : Int) ∧
          ∃ (x0 : List (Int × Int × Int × List Int) × Int),
            (U.st27 b (List.replicate (↑b.snd.snd.snd.length : Int).toNat ((0 : Int), (0 : Int), (0 : Int), []))
                    (0 : Int) =
                  U.st27 b x0.fst x0.snd ∧
                U.at_ b.snd.snd.snd x0.snd ∧
                  x0.fst.length = b.snd.snd.snd.length ∧
                    List.take x0.snd.toNat x0.fst = List.take x0.snd.toNat b.snd.snd.snd) ∧
              ∀ (x : List (Int × Int × Int × List Int) × Int),
                U.at_ b.snd.snd.snd x.snd ∧
                    x.fst.length = b.snd.snd.snd.length ∧
                      List.take x.snd.toNat x.fst = List.take x.snd.toNat b.snd.snd.snd →
                  bif decide (x.snd < (↑b.snd.snd.snd.length : Int)) then
                    (0 : Int) ≤ x.snd ∧
                      x.snd < (↑b.snd.snd.snd.length : Int) ∧
                        (b.snd.snd.snd.getD x.snd.toNat ((0 : Int), (0 : Int), (0 : Int), [])).snd.snd.snd.length ≤
                            (5000 : Nat) ∧
                          (0 : Int) ≤ x.snd ∧
                            x.snd < (↑x.fst.length : Int) ∧
                              x.snd.toNat < x.fst.length ∧
                                ∃ (y : List (Int × Int × Int × List Int) × Int),
                                  U.st27 b
                                        (x.fst.set x.snd.toNat
                                          ((b.snd.snd.snd.getD x.snd.toNat ((0 : Int), (0 : Int), (0 : Int), [])).fst,
                                            (b.snd.snd.snd.getD x.snd.toNat
                                                  ((0 : Int), (0 : Int), (0 : Int), [])).snd.fst,
                                            (b.snd.snd.snd.getD x.snd.toNat
                                                    ((0 : Int), (0 : Int), (0 : Int), [])).snd.snd.fst,
                                            (b.snd.snd.snd.getD x.snd.toNat
                                                    ((0 : Int), (0 : Int), (0 : Int), [])).snd.snd.snd))
                                        (IntKind.i64.wrap (x.snd.add (1 : Int))) =
                                      U.st27 b y.fst y.snd ∧
                                    (U.at_ b.snd.snd.snd y.snd ∧
                                        y.fst.length = b.snd.snd.snd.length ∧
                                          List.take y.snd.toNat y.fst = List.take y.snd.toNat b.snd.snd.snd) ∧
                                      b.snd.snd.snd.length.sub y.snd.toNat < b.snd.snd.snd.length.sub x.snd.toNat
                  else
                    b.fst = b.fst ∧ b.snd.fst = b.snd.fst ∧ b.snd.snd.fst = b.snd.snd.fst ∧ x.fst = b.snd.snd.snd ∧ True
theorem owes_27 (b : Box) : Owes Try.prog (cfgOf Q2) (lp27 b) 27 [.of false tBox b] [] (d27 b) = vc27 b := by kernel_rfl
def vc23 (a b : List Msg) : Prop :=
  bif (↑a.length : Int) != (↑b.length : Int) then false = U.eqMs a b ∧ True
  else
    ∃ (x0 : Int),
      (U.st23 a b (0 : Int) = U.st23 a b x0 ∧
          U.at_ a x0 ∧ a.length = b.length ∧ List.take x0.toNat a = List.take x0.toNat b) ∧
        ∀ (x : Int),
          U.at_ a x ∧ a.length = b.length ∧ List.take x.toNat a = List.take x.toNat b →
            bif decide (x < (↑a.length : Int)) then
              (0 : Int) ≤ x ∧
                x < (↑a.length : Int) ∧
                  (0 : Int) ≤ x ∧
                    x < (↑b.length : Int) ∧
                      bif
                          !U.eqM
                              ((a.getD x.toNat ((0 : Int), (0 : Int), (0 : Int), [])).fst,
                                (a.getD x.toNat ((0 : Int), (0 : Int), (0 : Int), [])).snd.fst,
                                (a.getD x.toNat ((0 : Int), (0 : Int), (0 : Int), [])).snd.snd.fst,
                                (a.getD x.toNat ((0 : Int), (0 : Int), (0 : Int), [])).snd.snd.snd)
                              ((b.getD x.toNat ((0 : Int), (0 : Int), (0 : Int), [])).fst,
                                (b.getD x.toNat ((0 : Int), (0 : Int), (0 : Int), [])).snd.fst,
                                (b.getD x.toNat ((0 : Int), (0 : Int), (0 : Int), [])).snd.snd.fst,
                                (b.getD x.toNat ((0 : Int), (0 : Int), (0 : Int), [])).snd.snd.snd) then
                        false = U.eqMs a b ∧ True
                      else
                        ∃ (y : Int),
                          U.st23 a b (IntKind.i64.wrap (x.add (1 : Int))) = U.st23 a b y ∧
                            (U.at_ a y ∧ a.length = b.length ∧ List.take y.toNat a = List.take y.toNat b) ∧
                              a.length.sub y.toNat < a.length.sub x.toNat
            else true = U.eqMs a b ∧ True
theorem owes_23 (a b : List Msg) : Owes Try.prog (cfgOf Q2) (lp23 a b) 23 [.of false tMsgs a, .of false tMsgs b] [] (rB (U.eqMs a b)) = vc23 a b := by kernel_rfl
def vc39 (b : Box) (l : List Int) : Prop :=
  ∃ (x0 : Int),
    (U.st56 b l (0 : Int) = U.st56 b l x0 ∧
        U.at_ l x0 ∧
          U.idx1 (fun (u : Int) => decide (U.place b.snd.snd.snd u = (0 : Int))) (List.drop x0.toNat l) x0 =
            U.idx1 (fun (u : Int) => decide (U.place b.snd.snd.snd u = (0 : Int))) l (0 : Int)) ∧
      ∀ (x : Int),
        U.at_ l x ∧
            U.idx1 (fun (u : Int) => decide (U.place b.snd.snd.snd u = (0 : Int))) (List.drop x.toNat l) x =
              U.idx1 (fun (u : Int) => decide (U.place b.snd.snd.snd u = (0 : Int))) l (0 : Int) →
          bif decide (x < (↑l.length : Int)) then
            (0 : Int) ≤ x ∧
              x < (↑l.length : Int) ∧
                bif decide (U.place b.snd.snd.snd (l.getD x.toNat (0 : Int)) = (0 : Int)) then
                  decide (x ≥ (0 : Int)) = U.missing b.snd.snd.snd l ∧ True
                else
                  ∃ (y : Int),
                    U.st56 b l (IntKind.i64.wrap (x.add (1 : Int))) = U.st56 b l y ∧
                      (U.at_ l y ∧
                          U.idx1 (fun (u : Int) => decide (U.place b.snd.snd.snd u = (0 : Int))) (List.drop y.toNat l)
                              y =
                            U.idx1 (fun (u : Int) => decide (U.place b.snd.snd.snd u = (0 : Int))) l (0 : Int)) ∧
                        l.length.sub y.toNat < l.length.sub x.toNat
          else decide (Int.neg (1 : Int) ≥ (0 : Int)) = U.missing b.snd.snd.snd l ∧ True
theorem owes_39 (b : Box) (l : List Int) : Owes Try.prog (cfgOf Q2) (lp56 b l) 39 [.of false tBox b, .of false tInts l] [] (rB (U.missing b.2.2.2 l)) = vc39 b l := by kernel_rfl
def vc24 (b : Box) (f : Int) : Prop :=
  ∃ (x0 : Int × Int),
    (U.st24 b f (0 : Int) (0 : Int) = U.st24 b f x0.fst x0.snd ∧
        U.at_ b.snd.snd.snd x0.snd ∧
          ((0 : Int) ≤ x0.fst ∧ x0.fst ≤ x0.snd) ∧
            U.countGo f (List.drop x0.snd.toNat b.snd.snd.snd) x0.fst = U.countGo f b.snd.snd.snd (0 : Int)) ∧
      ∀ (x : Int × Int),
        U.at_ b.snd.snd.snd x.snd ∧
            ((0 : Int) ≤ x.fst ∧ x.fst ≤ x.snd) ∧
              U.countGo f (List.drop x.snd.toNat b.snd.snd.snd) x.fst = U.countGo f b.snd.snd.snd (0 : Int) →
          bif decide (x.snd < (↑b.snd.snd.snd.length : Int)) then
            (0 : Int) ≤ x.snd ∧
              x.snd < (↑b.snd.snd.snd.length : Int) ∧
                bif
                    decide
                      (IntKind.i64.wrap
                          (↑((BitVec.ofInt IntKind.i64.bits
                                      (b.snd.snd.snd.getD x.snd.toNat
                                            ((0 : Int), (0 : Int), (0 : Int), [])).snd.fst).and
                                  (BitVec.ofInt IntKind.i64.bits f)).toNat :
                            Int) =
                        f) then
                  ∃ (y : Int × Int),
                    U.st24 b f (IntKind.i64.wrap (x.fst.add (1 : Int))) (IntKind.i64.wrap (x.snd.add (1 : Int))) =
                        U.st24 b f y.fst y.snd ∧
                      (U.at_ b.snd.snd.snd y.snd ∧
                          ((0 : Int) ≤ y.fst ∧ y.fst ≤ y.snd) ∧
                            U.countGo f (List.drop y.snd.toNat b.snd.snd.snd) y.fst =
                              U.countGo f b.snd.snd.snd (0 : Int)) ∧
                        b.snd.snd.snd.length.sub y.snd.toNat < b.snd.snd.snd.length.sub x.snd.toNat
                else
                  ∃ (y : Int × Int),
                    U.st24 b f x.fst (IntKind.i64.wrap (x.snd.add (1 : Int))) = U.st24 b f y.fst y.snd ∧
                      (U.at_ b.snd.snd.snd y.snd ∧
                          ((0 : Int) ≤ y.fst ∧ y.fst ≤ y.snd) ∧
                            U.countGo f (List.drop y.snd.toNat b.snd.snd.snd) y.fst =
                              U.countGo f b.snd.snd.snd (0 : Int)) ∧
                        b.snd.snd.snd.length.sub y.snd.toNat < b.snd.snd.snd.length.sub x.snd.toNat
          else x.fst = U.countGo f b.snd.snd.snd (0 : Int) ∧ True
theorem owes_24 (b : Box) (f : Int) : Owes Try.prog (cfgOf Q2) (lp24 b f) 24 [.of false tBox b, .of false (.int .i64) f] [] (rI (U.countGo f b.2.2.2 0)) = vc24 b f := by kernel_rfl
def vc10 (b : Box) : Prop :=
  ∃ (x0 : Int × Int),
    (U.st10 b (↑b.snd.snd.snd.length : Int) (0 : Int) = U.st10 b x0.fst x0.snd ∧
        U.at_ b.snd.snd.snd x0.snd ∧
          U.greatGo (List.drop x0.snd.toNat b.snd.snd.snd) x0.fst =
            U.greatGo b.snd.snd.snd (↑b.snd.snd.snd.length : Int)) ∧
      ∀ (x : Int × Int),
        U.at_ b.snd.snd.snd x.snd ∧
            U.greatGo (List.drop x.snd.toNat b.snd.snd.snd) x.fst =
              U.greatGo b.snd.snd.snd (↑b.snd.snd.snd.length : Int) →
          bif bif decide (x.snd < (↑b.snd.snd.snd.length : Int)) then decide (x.fst ≤ (5000 : Int)) else false then
            (0 : Int) ≤ x.snd ∧
              x.snd < (↑b.snd.snd.snd.length : Int) ∧
                ∃ (y : Int × Int),
                  U.st10 b
                        (IntKind.i64.wrap
                          (x.fst.add
                            (↑(b.snd.snd.snd.getD x.snd.toNat
                                          ((0 : Int), (0 : Int), (0 : Int), [])).snd.snd.snd.length :
                              Int)))
                        (IntKind.i64.wrap (x.snd.add (1 : Int))) =
                      U.st10 b y.fst y.snd ∧
                    (U.at_ b.snd.snd.snd y.snd ∧
                        U.greatGo (List.drop y.snd.toNat b.snd.snd.snd) y.fst =
                          U.greatGo b.snd.snd.snd (↑b.snd.snd.snd.length : Int)) ∧
                      b.snd.snd.snd.length.sub y.snd.toNat < b.snd.snd.snd.length.sub x.snd.toNat
          else decide (x.fst > (5000 : Int)) = U.great b ∧ True
theorem owes_10 (b : Box) : Owes Try.prog (cfgOf Q2) (lp10 b) 10 [.of false tBox b] [] (rB (U.great b)) = vc10 b := by kernel_rfl
def vc14 (a b : Box) : Prop :=
  (bif
          bif bif a.fst.beq b.fst then decide (a.snd.fst = b.snd.fst) else false then
            decide (a.snd.snd.fst = b.snd.snd.fst)
          else false then
        U.eqMs a.snd.snd.snd b.snd.snd.snd
      else false) =
      U.eqBox a b ∧
    True
theorem owes_14 (a b : Box) : Owes Try.prog (cfgOf Q3) noKeep 14 [.of false tBox a, .of false tBox b] [] (rB (U.eqBox a b)) = vc14 a b := by kernel_rfl
def vc12 (b : Box) (m : Msg) : Prop :=
  bif
      bif !U.right (b.fst, b.snd.fst, b.snd.snd.fst, b.snd.snd.snd) then true
      else !U.may (m.fst, m.snd.fst, m.snd.snd.fst, m.snd.snd.snd) then
    b.fst = (U.add b m).fst.fst ∧
      b.snd.fst = (U.add b m).fst.snd.fst ∧
        b.snd.snd.fst = (U.add b m).fst.snd.snd.fst ∧
          b.snd.snd.snd = (U.add b m).fst.snd.snd.snd ∧
            (0 : Int) = (U.add b m).snd.fst ∧ (1 : Int) = (U.add b m).snd.snd ∧ True
  else
    bif !U.numbered b.snd.snd.fst then
      b.fst = (U.add b m).fst.fst ∧
        b.snd.fst = (U.add b m).fst.snd.fst ∧
          b.snd.snd.fst = (U.add b m).fst.snd.snd.fst ∧
            b.snd.snd.snd = (U.add b m).fst.snd.snd.snd ∧
              (0 : Int) = (U.add b m).snd.fst ∧ (13 : Int) = (U.add b m).snd.snd ∧ True
    else
      bif decide ((↑b.snd.snd.snd.length : Int) = (40 : Int)) then
        b.fst = (U.add b m).fst.fst ∧
          b.snd.fst = (U.add b m).fst.snd.fst ∧
            b.snd.snd.fst = (U.add b m).fst.snd.snd.fst ∧
              b.snd.snd.snd = (U.add b m).fst.snd.snd.snd ∧
                (0 : Int) = (U.add b m).snd.fst ∧ (8 : Int) = (U.add b m).snd.snd ∧ True
      else
        U.small b.snd.snd.snd ∧
          m.snd.snd.snd.length ≤ (5000 : Nat) ∧
            (b.snd.snd.snd.length.add ((1 : Nat))).mul (48 : Nat) ≤ (140737488355328 : Nat) ∧
              b.snd.snd.snd.length.add ((1 : Nat)) ≤ maxLen ∧
                b.fst = (U.add b m).fst.fst ∧
                  b.snd.fst = (U.add b m).fst.snd.fst ∧
                    IntKind.i64.wrap (b.snd.snd.fst.add (1 : Int)) = (U.add b m).fst.snd.snd.fst ∧
                      b.snd.snd.snd.append
                            ([((0 : Int), (0 : Int), (0 : Int), [])].set (0 : Nat)
                              (b.snd.snd.fst, m.snd.fst, m.snd.snd.fst, m.snd.snd.snd)) =
                          (U.add b m).fst.snd.snd.snd ∧
                        b.snd.snd.fst = (U.add b m).snd.fst ∧ (0 : Int) = (U.add b m).snd.snd ∧ True
theorem owes_12 (b : Box) (m : Msg) : Owes Try.prog (cfgOf Q3) noKeep 12 [.of false tBox b, .of false tMsg m] [] (d12 b m) = vc12 b m := by kernel_rfl
def vc17 (b : Box) (ids : List Int) : Prop :=
  bif !U.right (b.fst, b.snd.fst, b.snd.snd.fst, b.snd.snd.snd) then
    b.fst = (U.take b ids).fst.fst ∧
      b.snd.fst = (U.take b ids).fst.snd.fst ∧
        b.snd.snd.fst = (U.take b ids).fst.snd.snd.fst ∧
          b.snd.snd.snd = (U.take b ids).fst.snd.snd.snd ∧
            [] = (U.take b ids).snd.fst ∧ (1 : Int) = (U.take b ids).snd.snd ∧ True
  else
    bif U.missing b.snd.snd.snd ids then
      b.fst = (U.take b ids).fst.fst ∧
        b.snd.fst = (U.take b ids).fst.snd.fst ∧
          b.snd.snd.fst = (U.take b ids).fst.snd.snd.fst ∧
            b.snd.snd.snd = (U.take b ids).fst.snd.snd.snd ∧
              [] = (U.take b ids).snd.fst ∧ (6 : Int) = (U.take b ids).snd.snd ∧ True
    else
      U.small b.snd.snd.snd ∧
        ∃ (x0 : List (Int × Int × Int × List Int) × List (Int × Int × Int × List Int) × Int),
          (U.st17 b ids [] [] (0 : Int) = U.st17 b ids x0.fst x0.snd.fst x0.snd.snd ∧
              U.at_ b.snd.snd.snd x0.snd.snd ∧
                x0.fst =
                    List.filter (fun (m : Int × Int × Int × List Int) => U.contains ids m.fst)
                      (List.take x0.snd.snd.toNat b.snd.snd.snd) ∧
                  x0.snd.fst =
                    List.filter (fun (m : Int × Int × Int × List Int) => !U.contains ids m.fst)
                      (List.take x0.snd.snd.toNat b.snd.snd.snd)) ∧
            ∀ (x : List (Int × Int × Int × List Int) × List (Int × Int × Int × List Int) × Int),
              U.at_ b.snd.snd.snd x.snd.snd ∧
                  x.fst =
                      List.filter (fun (m : Int × Int × Int × List Int) => U.contains ids m.fst)
                        (List.take x.snd.snd.toNat b.snd.snd.snd) ∧
                    x.snd.fst =
                      List.filter (fun (m : Int × Int × Int × List Int) => !U.contains ids m.fst)
                        (List.take x.snd.snd.toNat b.snd.snd.snd) →
                bif decide (x.snd.snd < (↑b.snd.snd.snd.length : Int)) then
                  (0 : Int) ≤ x.snd.snd ∧
                    x.snd.snd < (↑b.snd.snd.snd.length : Int) ∧
                      x.snd.snd.toNat < b.snd.snd.snd.length ∧
                        bif
                            U.contains ids
                              (b.snd.snd.snd.getD x.snd.snd.toNat ((0 : Int), (0 : Int), (0 : Int), [])).fst then
                          (x.fst.length.add ((1 : Nat))).mul (48 : Nat) ≤ (140737488355328 : Nat) ∧
                            x.fst.length.add ((1 : Nat)) ≤ maxLen ∧
                              ∃ (y : List (Int × Int × Int × List Int) × List (Int × Int × Int × List Int) × Int),
                                U.st17 b ids
                                      (x.fst.append
                                        ([((0 : Int), (0 : Int), (0 : Int), [])].set (0 : Nat)
                                          ((b.snd.snd.snd.getD x.snd.snd.toNat
                                                ((0 : Int), (0 : Int), (0 : Int), [])).fst,
                                            (b.snd.snd.snd.getD x.snd.snd.toNat
                                                  ((0 : Int), (0 : Int), (0 : Int), [])).snd.fst,
                                            (b.snd.snd.snd.getD x.snd.snd.toNat
                                                    ((0 : Int), (0 : Int), (0 : Int), [])).snd.snd.fst,
                                            (b.snd.snd.snd.getD x.snd.snd.toNat
                                                    ((0 : Int), (0 : Int), (0 : Int), [])).snd.snd.snd)))
                                      x.snd.fst (IntKind.i64.wrap (x.snd.snd.add (1 : Int))) =
                                    U.st17 b ids y.fst y.snd.fst y.snd.snd ∧
                                  (U.at_ b.snd.snd.snd y.snd.snd ∧
                                      y.fst =
                                          List.filter (fun (m : Int × Int × Int × List Int) => U.contains ids m.fst)
                                            (List.take y.snd.snd.toNat b.snd.snd.snd) ∧
                                        y.snd.fst =
                                          List.filter (fun (m : Int × Int × Int × List Int) => !U.contains ids m.fst)
                                            (List.take y.snd.snd.toNat b.snd.snd.snd)) ∧
                                    b.snd.snd.snd.length.sub y.snd.snd.toNat < b.snd.snd.snd.length.sub x.snd.snd.toNat
                        else
                          (x.snd.fst.length.add ((1 : Nat))).mul (48 : Nat) ≤ (140737488355328 : Nat) ∧
                            x.snd.fst.length.add ((1 : Nat)) ≤ maxLen ∧
                              ∃ (y : List (Int × Int × Int × List Int) × List (Int × Int × Int × List Int) × Int),
                                U.st17 b ids x.fst
                                      (x.snd.fst.append
                                        ([((0 : Int), (0 : Int), (0 : Int), [])].set (0 : Nat)
                                          ((b.snd.snd.snd.getD x.snd.snd.toNat
                                                ((0 : Int), (0 : Int), (0 : Int), [])).fst,
                                            (b.snd.snd.snd.getD x.snd.snd.toNat
                                                  ((0 : Int), (0 : Int), (0 : Int), [])).snd.fst,
                                            (b.snd.snd.snd.getD x.snd.snd.toNat
                                                    ((0 : Int), (0 : Int), (0 : Int), [])).snd.snd.fst,
                                            (b.snd.snd.snd.getD x.snd.snd.toNat
                                                    ((0 : Int), (0 : Int), (0 : Int), [])).snd.snd.snd)))
                                      (IntKind.i64.wrap (x.snd.snd.add (1 : Int))) =
                                    U.st17 b ids y.fst y.snd.fst y.snd.snd ∧
                                  (U.at_ b.snd.snd.snd y.snd.snd ∧
                                      y.fst =
                                          List.filter (fun (m : Int × Int × Int × List Int) => U.contains ids m.fst)
                                            (List.take y.snd.snd.toNat b.snd.snd.snd) ∧
                                        y.snd.fst =
                                          List.filter (fun (m : Int × Int × Int × List Int) => !U.contains ids m.fst)
                                            (List.take y.snd.snd.toNat b.snd.snd.snd)) ∧
                                    b.snd.snd.snd.length.sub y.snd.snd.toNat < b.snd.snd.snd.length.sub x.snd.snd.toNat
                else
                  b.fst = (U.take b ids).fst.fst ∧
                    b.snd.fst = (U.take b ids).fst.snd.fst ∧
                      b.snd.snd.fst = (U.take b ids).fst.snd.snd.fst ∧
                        x.snd.fst = (U.take b ids).fst.snd.snd.snd ∧
                          x.fst = (U.take b ids).snd.fst ∧ (0 : Int) = (U.take b ids).snd.snd ∧ True
theorem owes_17 (b : Box) (ids : List Int) : Owes Try.prog (cfgOf Q3) (lp17 b ids) 17 [.of false tBox b, .of false tInts ids] [] (d17 b ids) = vc17 b ids := by kernel_rfl
def vc4 (b : Box) (ids : List Int) : Prop :=
  bif
      bif U.great (b.fst, b.snd.fst, b.snd.snd.fst, b.snd.snd.snd) then true
      else decide ((↑ids.length : Int) > (100 : Int)) then
    true = true ∧ True
  else
    bif (U.take (b.fst, b.snd.fst, b.snd.snd.fst, b.snd.snd.snd) ids).snd.snd != (0 : Int) then
      (bif
              U.eqBox
                ((U.take (b.fst, b.snd.fst, b.snd.snd.fst, b.snd.snd.snd) ids).fst.fst,
                  (U.take (b.fst, b.snd.fst, b.snd.snd.fst, b.snd.snd.snd) ids).fst.snd.fst,
                  (U.take (b.fst, b.snd.fst, b.snd.snd.fst, b.snd.snd.snd) ids).fst.snd.snd.fst,
                  (U.take (b.fst, b.snd.fst, b.snd.snd.fst, b.snd.snd.snd) ids).fst.snd.snd.snd)
                (b.fst, b.snd.fst, b.snd.snd.fst, b.snd.snd.snd) then
            decide ((↑(U.take (b.fst, b.snd.fst, b.snd.snd.fst, b.snd.snd.snd) ids).snd.fst.length : Int) = (0 : Int))
          else false) =
          true ∧
        True
    else
      ∃ (x0 : Int × Int × Int),
        (U.st4 b (U.take b ids).fst (U.take b ids).snd.fst (0 : Int) (0 : Int) (0 : Int) =
              U.st4 b (U.take b ids).fst (U.take b ids).snd.fst x0.fst x0.snd.fst x0.snd.snd ∧
            U.at_ b.snd.snd.snd x0.snd.snd ∧
              x0.fst =
                  (↑(List.filter (fun (m : Int × Int × Int × List Int) => U.contains ids m.fst)
                          (List.take x0.snd.snd.toNat b.snd.snd.snd)).length :
                    Int) ∧
                x0.snd.fst =
                  (↑(List.filter (fun (m : Int × Int × Int × List Int) => !U.contains ids m.fst)
                          (List.take x0.snd.snd.toNat b.snd.snd.snd)).length :
                    Int)) ∧
          ∀ (x : Int × Int × Int),
            U.at_ b.snd.snd.snd x.snd.snd ∧
                x.fst =
                    (↑(List.filter (fun (m : Int × Int × Int × List Int) => U.contains ids m.fst)
                            (List.take x.snd.snd.toNat b.snd.snd.snd)).length :
                      Int) ∧
                  x.snd.fst =
                    (↑(List.filter (fun (m : Int × Int × Int × List Int) => !U.contains ids m.fst)
                            (List.take x.snd.snd.toNat b.snd.snd.snd)).length :
                      Int) →
              bif decide (x.snd.snd < (↑b.snd.snd.snd.length : Int)) then
                (0 : Int) ≤ x.snd.snd ∧
                  x.snd.snd < (↑b.snd.snd.snd.length : Int) ∧
                    (decide (x.fst < (↑(U.take b ids).snd.fst.length : Int)) = true → (0 : Int) ≤ x.fst) ∧
                      (decide (x.fst < (↑(U.take b ids).snd.fst.length : Int)) = true →
                          x.fst < (↑(U.take b ids).snd.fst.length : Int)) ∧
                        bif
                            bif decide (x.fst < (↑(U.take b ids).snd.fst.length : Int)) then
                              U.eqM
                                (((U.take b ids).snd.fst.getD x.fst.toNat ((0 : Int), (0 : Int), (0 : Int), [])).fst,
                                  ((U.take b ids).snd.fst.getD x.fst.toNat
                                        ((0 : Int), (0 : Int), (0 : Int), [])).snd.fst,
                                  ((U.take b ids).snd.fst.getD x.fst.toNat
                                          ((0 : Int), (0 : Int), (0 : Int), [])).snd.snd.fst,
                                  ((U.take b ids).snd.fst.getD x.fst.toNat
                                          ((0 : Int), (0 : Int), (0 : Int), [])).snd.snd.snd)
                                ((b.snd.snd.snd.getD x.snd.snd.toNat ((0 : Int), (0 : Int), (0 : Int), [])).fst,
                                  (b.snd.snd.snd.getD x.snd.snd.toNat ((0 : Int), (0 : Int), (0 : Int), [])).snd.fst,
                                  (b.snd.snd.snd.getD x.snd.snd.toNat
                                          ((0 : Int), (0 : Int), (0 : Int), [])).snd.snd.fst,
                                  (b.snd.snd.snd.getD x.snd.snd.toNat
                                          ((0 : Int), (0 : Int), (0 : Int), [])).snd.snd.snd)
                            else false then
                          ∃ (y : Int × Int × Int),
                            U.st4 b (U.take b ids).fst (U.take b ids).snd.fst (IntKind.i64.wrap (x.fst.add (1 : Int)))
                                  x.snd.fst (IntKind.i64.wrap (x.snd.snd.add (1 : Int))) =
                                U.st4 b (U.take b ids).fst (U.take b ids).snd.fst y.fst y.snd.fst y.snd.snd ∧
                              (U.at_ b.snd.snd.snd y.snd.snd ∧
                                  y.fst =
                                      (↑(List.filter (fun (m : Int × Int × Int × List Int) => U.contains ids m.fst)
                                              (List.take y.snd.snd.toNat b.snd.snd.snd)).length :
                                        Int) ∧
                                    y.snd.fst =
                                      (↑(List.filter (fun (m : Int × Int × Int × List Int) => !U.contains ids m.fst)
                                              (List.take y.snd.snd.toNat b.snd.snd.snd)).length :
                                        Int)) ∧
                                b.snd.snd.snd.length.sub y.snd.snd.toNat < b.snd.snd.snd.length.sub x.snd.snd.toNat
                        else
                          (decide (x.snd.fst < (↑(U.take b ids).fst.snd.snd.snd.length : Int)) = true →
                              (0 : Int) ≤ x.snd.fst) ∧
                            (decide (x.snd.fst < (↑(U.take b ids).fst.snd.snd.snd.length : Int)) = true →
                                x.snd.fst < (↑(U.take b ids).fst.snd.snd.snd.length : Int)) ∧
                              bif
                                  bif decide (x.snd.fst < (↑(U.take b ids).fst.snd.snd.snd.length : Int)) then
                                    U.eqM
                                      (((U.take b ids).fst.snd.snd.snd.getD x.snd.fst.toNat
                                            ((0 : Int), (0 : Int), (0 : Int), [])).fst,
                                        ((U.take b ids).fst.snd.snd.snd.getD x.snd.fst.toNat
                                              ((0 : Int), (0 : Int), (0 : Int), [])).snd.fst,
                                        ((U.take b ids).fst.snd.snd.snd.getD x.snd.fst.toNat
                                                ((0 : Int), (0 : Int), (0 : Int), [])).snd.snd.fst,
                                        ((U.take b ids).fst.snd.snd.snd.getD x.snd.fst.toNat
                                                ((0 : Int), (0 : Int), (0 : Int), [])).snd.snd.snd)
                                      ((b.snd.snd.snd.getD x.snd.snd.toNat ((0 : Int), (0 : Int), (0 : Int), [])).fst,
                                        (b.snd.snd.snd.getD x.snd.snd.toNat
                                              ((0 : Int), (0 : Int), (0 : Int), [])).snd.fst,
                                        (b.snd.snd.snd.getD x.snd.snd.toNat
                                                ((0 : Int), (0 : Int), (0 : Int), [])).snd.snd.fst,
                                        (b.snd.snd.snd.getD x.snd.snd.toNat
                                                ((0 : Int), (0 : Int), (0 : Int), [])).snd.snd.snd)
                                  else false then
                                ∃ (y : Int × Int × Int),
                                  U.st4 b (U.take b ids).fst (U.take b ids).snd.fst x.fst
                                        (IntKind.i64.wrap (x.snd.fst.add (1 : Int)))
                                        (IntKind.i64.wrap (x.snd.snd.add (1 : Int))) =
                                      U.st4 b (U.take b ids).fst (U.take b ids).snd.fst y.fst y.snd.fst y.snd.snd ∧
                                    (U.at_ b.snd.snd.snd y.snd.snd ∧
                                        y.fst =
                                            (↑(List.filter
                                                    (fun (m : Int × Int × Int × List Int) => U.contains ids m.fst)
                                                    (List.take y.snd.snd.toNat b.snd.snd.snd)).length :
                                              Int) ∧
                                          y.snd.fst =
                                            (↑(List.filter
                                                    (fun (m : Int × Int × Int × List Int) => !U.contains ids m.fst)
                                                    (List.take y.snd.snd.toNat b.snd.snd.snd)).length :
                                              Int)) ∧
                                      b.snd.snd.snd.length.sub y.snd.snd.toNat <
                                        b.snd.snd.snd.length.sub x.snd.snd.toNat
                              else false = true ∧ True
              else
                (bif
                        bif
                            bif
                                bif decide (x.fst = (↑(U.take b ids).snd.fst.length : Int)) then
                                  decide (x.snd.fst = (↑(U.take b ids).fst.snd.snd.snd.length : Int))
                                else false then
                              decide ((U.take b ids).fst.snd.snd.fst = b.snd.snd.fst)
                            else false then
                          decide ((U.take b ids).fst.snd.fst = b.snd.fst)
                        else false then
                      (U.take b ids).fst.fst.beq b.fst
                    else false) =
                    true ∧
                  True
theorem owes_4 (b : Box) (ids : List Int) : Owes Try.prog (cfgOf Q5) (lp4 b ids) 4 [.of false tBox b, .of false tInts ids] [] (rB true) = vc4 b ids := by kernel_rfl
def vc9  : Prop := 0 < 1 ∧ true = true ∧ True
theorem owes_9  : Owes Try.prog (cfgOf Q4) noKeep 9 [] [] (rB true) = vc9  := by kernel_rfl
end Go.Proofs.Ytddakledpipanaa
