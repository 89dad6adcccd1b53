/- What functions of this seat compute, in plain Lean. -/
import Derived.Test.YtekapagdkclokaaD
set_option linter.unusedVariables false
set_option linter.unusedSimpArgs false
set_option maxRecDepth 100000
namespace Go.Proofs.Ytekapagdkclokaa
open Go.Vc
def d7  : Done := rB true
def s7 : Vc.Sum := .pure [] false fun _ => d7 
def L7  : Nat → List V → Nat → Option Vc.Loop := noKeep
end Go.Proofs.Ytekapagdkclokaa
/- What functions of this seat compute, in plain Lean. -/
set_option linter.unusedVariables false
set_option linter.unusedSimpArgs false
set_option maxRecDepth 100000
namespace Go.Proofs.Ytekapagdkclokaa
open Go.Vc
namespace U
def st3_6 (y : Law) (l : List Tomb) (now : Int) (i : Int) : St2 := ⟨⟨U.n 1 ++ [sL false tTomb l] ++ [sI now] ++ [sP 0 0] ++ U.n 3 ++ [sI i] ++ U.n 104, [], [(0, .obj [.psl false tRule y.1, .psl false tHold y.2])]⟩, 1, []⟩
def I3_6 (y : Law) (l : List Tomb) (now : Int)  (i : Int) : Prop := at_ l i
end U
def lp3_6 (y : Law) (l : List Tomb) (now : Int) : Vc.Loop := ⟨{ keep := [1, 2, 3, 7] }, Int, fun x => U.st3_6 y l now x, fun x0 x => U.I3_6 y l now  x, fun x => l.length - x.toNat⟩
def d3 (y : Law) (l : List Tomb) (now : Int) : Done := sayTrue [tLaw, tTombs, .int .i64] (y, l, now)
def s3 : Vc.Sum := .pure [tLaw, tTombs, .int .i64] false fun x => d3 x.1 x.2.1 x.2.2
def L3 (y : Law) (l : List Tomb) (now : Int) : Nat → List V → Nat → Option Vc.Loop := fun f v k => cond (Nat.beq f 3 && Nat.beq k 6) (some (lp3_6 y l now)) <| none
def d4 (l : List Rule) (box : List Int) (keep : Int) : Done := sayTrue [tRules, .str, .int .i64] (l, box, keep)
def s4 : Vc.Sum := .pure [tRules, .str, .int .i64] false fun x => d4 x.1 x.2.1 x.2.2
def L4 (l : List Rule) (box : List Int) (keep : Int) : Nat → List V → Nat → Option Vc.Loop := noKeep
def d5 (y : Law) (t : Tomb) (three : List Int) : Done := sayTrue [tLaw, tTomb, tThree] (y, t, three)
def s5 : Vc.Sum := .pure [tLaw, tTomb, tThree] false fun x => d5 x.1 x.2.1 x.2.2
def L5 (y : Law) (t : Tomb) (three : List Int) : Nat → List V → Nat → Option Vc.Loop := noKeep
def d6 (l : List Rule) (p : Rule) (q : Rule) : Done := sayTrue [tRules, tRule, tRule] (l, p, q)
def s6 : Vc.Sum := .pure [tRules, tRule, tRule] false fun x => d6 x.1 x.2.1 x.2.2
def L6 (l : List Rule) (p : Rule) (q : Rule) : Nat → List V → Nat → Option Vc.Loop := noKeep
def QH : List (Nat × Vc.Sum) := (7, s7) :: QG
end Go.Proofs.Ytekapagdkclokaa
/- What is owed of the functions, in plain Lean (printed by a program of this project). -/
set_option maxRecDepth 100000
set_option linter.unusedVariables false
namespace Go.Proofs.Ytekapagdkclokaa
open Go.Vc
def vc7  : Prop :=
  (0 : Nat) ≤ (100000 : Nat) ∧
    bif
        bif
            bif
                bif
                    bif
                        decide
                          (U.keep [(↑(UInt8.toNat (97 : UInt8)) : Int)]
                              (U.setR [] [(↑(UInt8.toNat (97 : UInt8)) : Int)] (60 : Int)) =
                            (60 : Int)) then
                      U.goes (U.setR [] [(↑(UInt8.toNat (97 : UInt8)) : Int)] (60 : Int)) [] (65 : Int)
                        ((3 : Int), [(↑(UInt8.toNat (97 : UInt8)) : Int)], (5 : Int), (7 : Int), (0 : Int), (0 : Int),
                          [])
                    else false then
                  !U.goes (U.setR [] [(↑(UInt8.toNat (97 : UInt8)) : Int)] (60 : Int)) [] (64 : Int)
                      ((3 : Int), [(↑(UInt8.toNat (97 : UInt8)) : Int)], (5 : Int), (7 : Int), (0 : Int), (0 : Int), [])
                else false then
              U.held
                ([((0 : Int), [], [])].set (0 : Nat)
                  ((0 : Int), [(↑(UInt8.toNat (97 : UInt8)) : Int)],
                    [((0 : Int), (0 : Int))].set (0 : Nat) ((7 : Int), (9 : Int))))
                [(↑(UInt8.toNat (97 : UInt8)) : Int)] (8 : Int)
            else false then
          !U.goes (U.setR [] [(↑(UInt8.toNat (97 : UInt8)) : Int)] (60 : Int))
              ([((0 : Int), [], [])].set (0 : Nat)
                ((0 : Int), [(↑(UInt8.toNat (97 : UInt8)) : Int)],
                  [((0 : Int), (0 : Int))].set (0 : Nat) ((7 : Int), (9 : Int))))
              (65 : Int)
              ((3 : Int), [(↑(UInt8.toNat (97 : UInt8)) : Int)], (5 : Int), (7 : Int), (0 : Int), (0 : Int), [])
        else false then
      (1 : Nat) ≤ (1000 : Nat) ∧
        U.eqI
              (U.due
                ([((0 : Int), [], (0 : Int), (0 : Int), (0 : Int), (0 : Int), [])].set (0 : Nat)
                  ((3 : Int), [(↑(UInt8.toNat (97 : UInt8)) : Int)], (5 : Int), (7 : Int), (0 : Int), (0 : Int), []))
                (U.setR [] [(↑(UInt8.toNat (97 : UInt8)) : Int)] (60 : Int)) [] (99 : Int))
              ([(0 : Int)].set (0 : Nat) (3 : Int)) =
            true ∧
          True
    else false = true ∧ True
end Go.Proofs.Ytekapagdkclokaa
/- What is owed of the functions, in plain Lean (printed by a program of this project). -/
set_option maxRecDepth 100000
set_option linter.unusedVariables false
namespace Go.Proofs.Ytekapagdkclokaa
open Go.Vc
def vc3 (y : Law) (l : List Tomb) (now : Int) : Prop :=
  ((((∀ (x : List Int × Int), List.Mem x y.fst → x.fst.length ≤ reachBytes ∧ True) ∧ y.fst.length ≤ reachBytes) ∧
        (∀ (x : Int × List Int × List (Int × Int)),
            List.Mem x y.snd →
              True ∧
                x.snd.fst.length ≤ reachBytes ∧
                  (∀ (x_1 : Int × Int), List.Mem x_1 x.snd.snd → True ∧ True) ∧ x.snd.snd.length ≤ reachBytes) ∧
          y.snd.length ≤ reachBytes) ∧
      (∀ (x : Int × List Int × Int × Int × Int × Int × List Int),
          List.Mem x l →
            True ∧
              x.snd.fst.length ≤ reachBytes ∧
                True ∧
                  True ∧
                    True ∧
                      True ∧
                        (∀ (x_1 : Int), List.Mem x_1 x.snd.snd.snd.snd.snd.snd → True) ∧
                          x.snd.snd.snd.snd.snd.snd.length ≤ reachBytes) ∧
        l.length ≤ reachBytes) ∧
    bif U.great y l then true = true ∧ True
    else
      ∃ (x0 : Int),
        (U.st3_6 y l now (0 : Int) = U.st3_6 y l now x0 ∧ U.I3_6 y l now x0) ∧
          ∀ (x : Int),
            U.I3_6 y l now x →
              bif decide (x < (↑l.length : Int)) then
                (0 : Int) ≤ x ∧
                  x < (↑l.length : Int) ∧
                    bif
                        bif
                            bif
                                bif
                                    bif
                                        U.keep
                                            (l.getD x.toNat
                                                  ((0 : Int), [], (0 : Int), (0 : Int), (0 : Int), (0 : Int),
                                                    [])).snd.fst
                                            y.fst !=
                                          U.keep
                                            (l.getD x.toNat
                                                  ((0 : Int), [], (0 : Int), (0 : Int), (0 : Int), (0 : Int),
                                                    [])).snd.fst
                                            y.fst then
                                      true
                                    else
                                      !decide
                                          (U.held y.snd
                                              (l.getD x.toNat
                                                    ((0 : Int), [], (0 : Int), (0 : Int), (0 : Int), (0 : Int),
                                                      [])).snd.fst
                                              (l.getD x.toNat
                                                        ((0 : Int), [], (0 : Int), (0 : Int), (0 : Int), (0 : Int),
                                                          [])).snd.snd.snd.fst =
                                            U.held y.snd
                                              (l.getD x.toNat
                                                    ((0 : Int), [], (0 : Int), (0 : Int), (0 : Int), (0 : Int),
                                                      [])).snd.fst
                                              (l.getD x.toNat
                                                        ((0 : Int), [], (0 : Int), (0 : Int), (0 : Int), (0 : Int),
                                                          [])).snd.snd.snd.fst) then
                                  true
                                else
                                  !decide
                                      (U.ripe
                                          (l.getD x.toNat
                                            ((0 : Int), [], (0 : Int), (0 : Int), (0 : Int), (0 : Int), []))
                                          (U.keep
                                            (l.getD x.toNat
                                                  ((0 : Int), [], (0 : Int), (0 : Int), (0 : Int), (0 : Int),
                                                    [])).snd.fst
                                            y.fst)
                                          now =
                                        U.ripe
                                          (l.getD x.toNat
                                            ((0 : Int), [], (0 : Int), (0 : Int), (0 : Int), (0 : Int), []))
                                          (U.keep
                                            (l.getD x.toNat
                                                  ((0 : Int), [], (0 : Int), (0 : Int), (0 : Int), (0 : Int),
                                                    [])).snd.fst
                                            y.fst)
                                          now) then
                              true
                            else
                              !decide
                                  (U.ripe
                                      (l.getD x.toNat ((0 : Int), [], (0 : Int), (0 : Int), (0 : Int), (0 : Int), []))
                                      now
                                      (l.getD x.toNat
                                              ((0 : Int), [], (0 : Int), (0 : Int), (0 : Int), (0 : Int),
                                                [])).snd.snd.fst =
                                    U.ripe
                                      (l.getD x.toNat ((0 : Int), [], (0 : Int), (0 : Int), (0 : Int), (0 : Int), []))
                                      now
                                      (l.getD x.toNat
                                              ((0 : Int), [], (0 : Int), (0 : Int), (0 : Int), (0 : Int),
                                                [])).snd.snd.fst) then
                          true
                        else
                          !decide
                              (U.goes y.fst y.snd now
                                  (l.getD x.toNat ((0 : Int), [], (0 : Int), (0 : Int), (0 : Int), (0 : Int), [])) =
                                U.goes y.fst y.snd now
                                  (l.getD x.toNat ((0 : Int), [], (0 : Int), (0 : Int), (0 : Int), (0 : Int), []))) then
                      false = true ∧ True
                    else
                      ∃ (y_1 : Int),
                        U.st3_6 y l now (IntKind.i64.wrap (x.add (1 : Int))) = U.st3_6 y l now y_1 ∧
                          U.I3_6 y l now y_1 ∧ l.length.sub y_1.toNat < l.length.sub x.toNat
              else
                l.length ≤ (1000 : Nat) ∧
                  l.length ≤ (1000 : Nat) ∧ U.eqI (U.due l y.fst y.snd now) (U.due l y.fst y.snd now) = true ∧ True
def vc4 (l : List Rule) (box : List Int) (keep : Int) : Prop :=
  bif bif decide ((↑l.length : Int) > (200 : Int)) then true else !U.risingGo l then true = true ∧ True
  else
    (Nat.add (0 : Nat) l.length).mul (24 : Nat) ≤ (140737488355328 : Nat) ∧
      Nat.add (0 : Nat) l.length ≤ maxLen ∧
        l.length ≤ (100000 : Nat) ∧
          l.length ≤ (100000 : Nat) ∧
            (bif
                    bif
                        bif U.eqR (U.setR l box keep) (U.setGo box keep l (decide (keep ≤ (0 : Int)))) then U.eqR l l
                        else false then
                      U.risingGo (U.setR l box keep)
                    else false then
                  decide (U.keep box (U.setR l box keep) = maxI keep (0 : Int))
                else false) =
                true ∧
              True
def vc5 (y : Law) (t : Tomb) (three : List Int) : Prop :=
  ((((∀ (x : List Int × Int), List.Mem x y.fst → x.fst.length ≤ reachBytes ∧ True) ∧ y.fst.length ≤ reachBytes) ∧
        (∀ (x : Int × List Int × List (Int × Int)),
            List.Mem x y.snd →
              True ∧
                x.snd.fst.length ≤ reachBytes ∧
                  (∀ (x_1 : Int × Int), List.Mem x_1 x.snd.snd → True ∧ True) ∧ x.snd.snd.length ≤ reachBytes) ∧
          y.snd.length ≤ reachBytes) ∧
      (∀ (x : Int × List Int × Int × Int × Int × Int × List Int),
          List.Mem x [] →
            True ∧
              x.snd.fst.length ≤ reachBytes ∧
                True ∧
                  True ∧
                    True ∧
                      True ∧
                        (∀ (x_1 : Int), List.Mem x_1 x.snd.snd.snd.snd.snd.snd → True) ∧
                          x.snd.snd.snd.snd.snd.snd.length ≤ reachBytes) ∧
        (0 : Nat) ≤ reachBytes) ∧
    bif U.great y [] then true = true ∧ True
    else
      (0 : Int) ≤ (0 : Int) ∧
        (0 : Int) < (↑(3 : Nat) : Int) ∧
          Int.toNat (0 : Int) < (3 : Nat) ∧
            (0 : Int) ≤ (1 : Int) ∧
              (1 : Int) < (↑(3 : Nat) : Int) ∧
                Int.toNat (1 : Int) < (3 : Nat) ∧
                  (0 : Int) ≤ (0 : Int) ∧
                    (0 : Int) < (↑(3 : Nat) : Int) ∧
                      Int.toNat (0 : Int) < (3 : Nat) ∧
                        (0 : Int) ≤ (1 : Int) ∧
                          (1 : Int) < (↑(3 : Nat) : Int) ∧
                            Int.toNat (1 : Int) < (3 : Nat) ∧
                              (Nat.add (0 : Nat) y.snd.length).mul (48 : Nat) ≤ (140737488355328 : Nat) ∧
                                Nat.add (0 : Nat) y.snd.length ≤ maxLen ∧
                                  (0 : Int) ≤ (2 : Int) ∧
                                    (2 : Int) < (↑(3 : Nat) : Int) ∧
                                      Int.toNat (2 : Int) < (3 : Nat) ∧
                                        (y.snd.length.add ((1 : Nat))).mul (48 : Nat) ≤ (140737488355328 : Nat) ∧
                                          y.snd.length.add ((1 : Nat)) ≤ maxLen ∧
                                            (Nat.add (0 : Nat) y.snd.length).mul (48 : Nat) ≤ (140737488355328 : Nat) ∧
                                              Nat.add (0 : Nat) y.snd.length ≤ maxLen ∧
                                                (y.snd.length.add ((1 : Nat))).mul (48 : Nat) ≤
                                                    (140737488355328 : Nat) ∧
                                                  y.snd.length.add ((1 : Nat)) ≤ maxLen ∧
                                                    (bif
                                                            bif
                                                                bif
                                                                    !bif
                                                                          U.goes y.fst y.snd
                                                                            (minI
                                                                              (three.getD (Int.toNat (0 : Int))
                                                                                (0 : Int))
                                                                              (three.getD (Int.toNat (1 : Int))
                                                                                (0 : Int)))
                                                                            t then
                                                                        !U.goes y.fst y.snd
                                                                            (maxI
                                                                              (three.getD (Int.toNat (0 : Int))
                                                                                (0 : Int))
                                                                              (three.getD (Int.toNat (1 : Int))
                                                                                (0 : Int)))
                                                                            t
                                                                      else false then
                                                                  !bif
                                                                        U.goes y.fst
                                                                          (y.snd.append
                                                                            ([((0 : Int), [], [])].set (0 : Nat)
                                                                              ((0 : Int), t.snd.fst,
                                                                                [((0 : Int), (0 : Int))].set (0 : Nat)
                                                                                  (t.snd.snd.snd.fst,
                                                                                    maxI
                                                                                      (three.getD (Int.toNat (2 : Int))
                                                                                        (0 : Int))
                                                                                      (1 : Int)))))
                                                                          (minI
                                                                            (three.getD (Int.toNat (0 : Int)) (0 : Int))
                                                                            (three.getD (Int.toNat (1 : Int))
                                                                              (0 : Int)))
                                                                          t then
                                                                      !U.goes y.fst y.snd
                                                                          (minI
                                                                            (three.getD (Int.toNat (0 : Int)) (0 : Int))
                                                                            (three.getD (Int.toNat (1 : Int))
                                                                              (0 : Int)))
                                                                          t
                                                                    else false
                                                                else false then
                                                              !bif
                                                                    U.goes y.fst y.snd
                                                                      (minI (three.getD (Int.toNat (0 : Int)) (0 : Int))
                                                                        (three.getD (Int.toNat (1 : Int)) (0 : Int)))
                                                                      t then
                                                                  U.held y.snd t.snd.fst t.snd.snd.snd.fst
                                                                else false
                                                            else false then
                                                          !U.goes y.fst
                                                              (y.snd.append
                                                                ([((0 : Int), [], [])].set (0 : Nat)
                                                                  ((0 : Int), t.snd.fst, [])))
                                                              (maxI (three.getD (Int.toNat (0 : Int)) (0 : Int))
                                                                (three.getD (Int.toNat (1 : Int)) (0 : Int)))
                                                              t
                                                        else false) =
                                                        true ∧
                                                      True
def vc6 (l : List Rule) (p : Rule) (q : Rule) : Prop :=
  bif bif decide ((↑l.length : Int) > (200 : Int)) then true else !U.risingGo l then true = true ∧ True
  else
    l.length ≤ (100000 : Nat) ∧
      (U.setR l p.fst p.snd).length ≤ (100000 : Nat) ∧
        l.length ≤ (100000 : Nat) ∧
          (U.setR l q.fst q.snd).length ≤ (100000 : Nat) ∧
            bif !p.fst.beq q.fst then
              U.eqR (U.setR (U.setR l p.fst p.snd) q.fst q.snd) (U.setR (U.setR l q.fst q.snd) p.fst p.snd) = true ∧
                True
            else
              (bif decide (U.keep p.fst (U.setR (U.setR l p.fst p.snd) q.fst q.snd) = maxI q.snd (0 : Int)) then
                    decide (U.keep p.fst (U.setR (U.setR l q.fst q.snd) p.fst p.snd) = maxI p.snd (0 : Int))
                  else false) =
                  true ∧
                True
end Go.Proofs.Ytekapagdkclokaa
/- What is owed of alive and of the laws, proved in plain Lean. -/
set_option linter.unusedSimpArgs false
set_option linter.unusedVariables false
set_option maxRecDepth 100000
namespace Go.Proofs.Ytekapagdkclokaa
open Go.Vc
open Go.Vc.T
theorem ok7 : vc7 := by
  unfold vc7
  simp only [cond_prop]
  refine ⟨by decide, fun _ => ⟨by decide, by decide +kernel, trivial⟩, fun h => ?_⟩
  revert h
  decide +kernel
end Go.Proofs.Ytekapagdkclokaa
/- What is owed of the laws about rules, proved in plain Lean. -/
set_option linter.unusedSimpArgs false
set_option linter.unusedVariables false
set_option maxRecDepth 100000
namespace Go.Proofs.Ytekapagdkclokaa
open Go.Vc
open Go.Vc.T
/-! ### rules in rising order of their names -/
theorem lt_irrefl : ∀ a : List Int, bytesLt a a = false
  | [] => rfl
  | a :: x => by simp [bytesLt, lt_irrefl x]
theorem lt_trans : ∀ {a b c : List Int}, bytesLt a b = true → bytesLt b c = true → bytesLt a c = true
  | _, [], _, h, _ => by simp [bytesLt] at h
  | _, _ :: _, [], _, h => by simp [bytesLt] at h
  | [], _ :: _, _ :: _, _, _ => by simp [bytesLt]
  | a :: x, b :: y, c :: z, h1, h2 => by
    have ih := @lt_trans x y z
    simp only [bytesLt, Bool.or_eq_true, Bool.and_eq_true, decide_eq_true_eq, beq_iff_eq] at h1 h2 ⊢
    rcases h1 with h1 | ⟨rfl, h1⟩
    · rcases h2 with h2 | ⟨rfl, h2⟩
      · exact .inl (by omega)
      · exact .inl h1
    · rcases h2 with h2 | ⟨rfl, h2⟩
      · exact .inl h2
      · exact .inr ⟨rfl, ih h1 h2⟩
theorem lt_total : ∀ {a b : List Int}, bytesLt a b = false → a ≠ b → bytesLt b a = true
  | [], [], _, h => absurd rfl h
  | [], _ :: _, h, _ => by simp [bytesLt] at h
  | _ :: _, [], _, _ => by simp [bytesLt]
  | a :: x, b :: y, h1, h2 => by
    have ih := @lt_total x y
    simp only [bytesLt, Bool.or_eq_false_iff, decide_eq_false_iff_not, Bool.or_eq_true, Bool.and_eq_true, decide_eq_true_eq, beq_iff_eq] at h1 ⊢
    by_cases hab : a = b
    · subst hab
      refine .inr ⟨rfl, ih (by simpa using h1.2) (fun h => h2 (by rw [h]))⟩
    · exact .inl (by omega)
def Up (l : List Rule) : Prop := l.Pairwise fun a b => bytesLt a.1 b.1 = true
theorem up_of : ∀ l : List Rule, U.risingGo l = true → Up l
  | [], _ => List.Pairwise.nil
  | [x], _ => List.pairwise_singleton _ _
  | x :: y :: r, h => by
    simp only [U.risingGo, Bool.and_eq_true] at h
    have ih := up_of (y :: r) h.2
    refine List.pairwise_cons.2 ⟨fun z hz => ?_, ih⟩
    rcases List.mem_cons.1 hz with rfl | hz
    · exact h.1
    · exact lt_trans h.1 (List.rel_of_pairwise_cons ih hz)
theorem rising_of : ∀ l : List Rule, Up l → U.risingGo l = true
  | [], _ => rfl
  | [x], _ => rfl
  | x :: y :: r, h => by
    simp only [U.risingGo, Bool.and_eq_true]
    exact ⟨List.rel_of_pairwise_cons h (by simp), rising_of (y :: r) (List.Pairwise.of_cons h)⟩
theorem up_ext : ∀ {a b : List Rule}, Up a → Up b → (∀ r, r ∈ a ↔ r ∈ b) → a = b
  | [], [], _, _, _ => rfl
  | [], y :: b, _, _, h => by have := (h y).2 (by simp); simp at this
  | x :: a, [], _, _, h => by have := (h x).1 (by simp); simp at this
  | x :: a, y :: b, ha, hb, h => by
    have hx := (h x).1 (by simp)
    have hy := (h y).2 (by simp)
    have e : x = y := by
      rcases List.mem_cons.1 hx with e | hx
      · exact e
      · rcases List.mem_cons.1 hy with e | hy
        · exact e.symm
        · have h1 := List.rel_of_pairwise_cons ha hy
          have h2 := List.rel_of_pairwise_cons hb hx
          have := lt_trans h1 h2
          rw [lt_irrefl] at this; cases this
    subst e
    have na : x ∉ a := fun hm => by have := List.rel_of_pairwise_cons ha hm; rw [lt_irrefl] at this; cases this
    have nb : x ∉ b := fun hm => by have := List.rel_of_pairwise_cons hb hm; rw [lt_irrefl] at this; cases this
    rw [up_ext (List.Pairwise.of_cons ha) (List.Pairwise.of_cons hb) (fun r => ?_)]
    have := h r
    simp only [List.mem_cons] at this
    constructor
    · intro hr
      rcases this.1 (.inr hr) with rfl | h3
      · exact absurd hr na
      · exact h3
    · intro hr
      rcases this.2 (.inr hr) with rfl | h3
      · exact absurd hr nb
      · exact h3
/-- a rule is put in its place -/
def insR (x : Rule) : List Rule → List Rule
  | [] => [x]
  | r :: t => if U.gtBox x.1 r then x :: r :: t else r :: insR x t
theorem idx1_shift (p : Rule → Bool) : ∀ (l : List Rule) (i : Int), 0 ≤ i → (U.idx1 p l i = -1 ∧ U.idx1 p l 0 = -1) ∨ (0 ≤ U.idx1 p l 0 ∧ U.idx1 p l i = U.idx1 p l 0 + i)
  | [], _, _ => .inl ⟨rfl, rfl⟩
  | x :: r, i, hi => by
    simp only [U.idx1]
    by_cases h : p x = true
    · simp [h]
    · simp only [h]
      have h1 := idx1_shift p r (i + 1) (by omega)
      have h2 := idx1_shift p r (0 + 1) (by omega)
      grind
theorem ins_eq (x : Rule) : ∀ l : List Rule, U.ins l (U.place l x.1) [x] = insR x l
  | [] => rfl
  | r :: t => by
    have ih := ins_eq x t
    have hs := idx1_shift (U.gtBox x.1) t (0 + 1) (by omega)
    simp only [U.ins, U.place, U.idx1, insR] at ih ⊢
    by_cases h : U.gtBox x.1 r = true
    · simp [h]
    · simp only [h]
      rcases hs with ⟨h1, h2⟩ | ⟨h1, h2⟩
      · rw [h2] at ih
        simp only [Bool.false_eq_true, if_false, h1]
        simp at ih ⊢; exact ih
      · rw [if_neg (by omega)] at ih
        simp only [Bool.false_eq_true, if_false, h2]
        rw [if_neg (by omega), show (U.idx1 (U.gtBox x.1) t 0 + (0 + 1)).toNat = (U.idx1 (U.gtBox x.1) t 0).toNat + 1 by omega]
        simp only [List.take_succ_cons, List.drop_succ_cons, List.cons_append, List.nil_append] at ih ⊢
        rw [ih]
theorem setR_eq (l : List Rule) (box : List Int) (keep : Int) : U.setR l box keep = if keep ≤ 0 then U.del l box else insR (box, keep) (U.del l box) := by
  unfold U.setR
  have := ins_eq (box, keep) (U.del l box)
  simp only at this
  simp only [this]
theorem mem_insR (x y : Rule) : ∀ l : List Rule, y ∈ insR x l ↔ y = x ∨ y ∈ l
  | [] => by simp [insR]
  | r :: t => by
    have := mem_insR x y t
    unfold insR
    split
    · simp
    · simp only [List.mem_cons, this]; grind
theorem mem_del (l : List Rule) (box : List Int) (r : Rule) : r ∈ U.del l box ↔ r ∈ l ∧ r.1 ≠ box := by
  simp [U.del, U.notBox, U.isBox]
theorem up_del {l : List Rule} (h : Up l) (box : List Int) : Up (U.del l box) := List.Pairwise.filter _ h
theorem up_insR (x : Rule) : ∀ {l : List Rule}, Up l → (∀ r ∈ l, r.1 ≠ x.1) → Up (insR x l)
  | [], _, _ => List.pairwise_singleton _ _
  | r :: t, h, hn => by
    have ih := up_insR x (List.Pairwise.of_cons h) (fun r hr => hn r (by simp [hr]))
    unfold insR
    have hne := hn r (by simp)
    split
    · rename_i hg
      have hlt : bytesLt x.1 r.1 = true := by
        simp only [U.gtBox, Bool.not_eq_true', Bool.or_eq_false_iff] at hg
        exact lt_total hg.1 hne
      refine List.pairwise_cons.2 ⟨fun z hz => ?_, h⟩
      rcases List.mem_cons.1 hz with rfl | hz
      · exact hlt
      · exact lt_trans hlt (List.rel_of_pairwise_cons h hz)
    · rename_i hg
      have hlt : bytesLt r.1 x.1 = true := by
        simp only [U.gtBox, Bool.not_eq_true', Bool.or_eq_false_iff] at hg
        cases hb : bytesLt r.1 x.1 with
        | true => rfl
        | false => exact absurd ⟨hb, by simpa using hne⟩ hg
      refine List.pairwise_cons.2 ⟨fun z hz => ?_, ih⟩
      rcases (mem_insR x z t).1 hz with rfl | hz
      · exact hlt
      · exact List.rel_of_pairwise_cons h hz
theorem up_set {l : List Rule} (h : Up l) (box : List Int) (keep : Int) : Up (U.setR l box keep) := by
  rw [setR_eq]
  split
  · exact up_del h box
  · exact up_insR _ (up_del h box) (fun r hr => ((mem_del l box r).1 hr).2)
theorem mem_set (l : List Rule) (box : List Int) (keep : Int) (r : Rule) : r ∈ U.setR l box keep ↔ (r ∈ l ∧ r.1 ≠ box) ∨ (0 < keep ∧ r = (box, keep)) := by
  rw [setR_eq]
  split
  · rw [mem_del]
    constructor
    · exact fun h => .inl h
    · rintro (h | ⟨h, _⟩)
      · exact h
      · omega
  · rw [mem_insR, mem_del]
    constructor
    · rintro (h | h)
      · exact .inr ⟨by omega, h⟩
      · exact .inl h
    · rintro (h | h)
      · exact .inr h
      · exact .inl h.2
theorem insR_head (x : Rule) : ∀ l : List Rule, (∀ r ∈ l, bytesLt x.1 r.1 = true) → insR x l = x :: l
  | [], _ => rfl
  | r :: t, h => by
    have h1 := h r (by simp)
    unfold insR
    rw [if_pos]
    simp only [U.gtBox, Bool.not_eq_true', Bool.or_eq_false_iff]
    constructor
    · cases hb : bytesLt r.1 x.1 with
      | false => rfl
      | true => have := lt_trans h1 hb; rw [lt_irrefl] at this; cases this
    · cases hb : r.1 == x.1 with
      | false => rfl
      | true => rw [beq_iff_eq.1 hb, lt_irrefl] at h1; cases h1
theorem setGo_put (box : List Int) (keep : Int) : ∀ l : List Rule, U.setGo box keep l true = U.del l box
  | [] => rfl
  | r :: t => by
    have ih := setGo_put box keep t
    simp only [U.setGo, Bool.not_true, Bool.false_and, Bool.true_or, ih, U.del, List.filter_cons, U.notBox, U.isBox]
    by_cases h : r.1 = box <;> simp [h]
theorem del_cons {box : List Int} {r : Rule} (t : List Rule) (hne : r.1 ≠ box) : U.del (r :: t) box = r :: U.del t box := by
  have hn : U.notBox box r = true := by simp [U.notBox, U.isBox, hne]
  simp [U.del, List.filter_cons, hn]
theorem setGo_eq (box : List Int) (keep : Int) : ∀ {l : List Rule}, Up l → U.setGo box keep l false = insR (box, keep) (U.del l box)
  | [], _ => rfl
  | r :: t, h => by
    have ih := setGo_eq box keep (List.Pairwise.of_cons h)
    have hrel := fun z hz => List.rel_of_pairwise_cons h (a' := z) hz
    cases hlt : bytesLt r.1 box with
    | true =>
      have hne : r.1 ≠ box := fun e => by rw [e, lt_irrefl] at hlt; cases hlt
      have hd := del_cons t hne
      rw [hd]
      simp only [U.setGo, hlt, Bool.not_false, Bool.not_true, Bool.true_and, Bool.or_false, if_neg hne, ih]
      simp [insR, U.gtBox, hlt]
    | false =>
      by_cases hne : r.1 = box
      · have hd : U.del (r :: t) box = U.del t box := by simp [U.del, U.notBox, U.isBox, hne]
        rw [hd, insR_head]
        · simp only [U.setGo, hlt, Bool.not_false, Bool.true_and, Bool.or_true, if_pos hne, setGo_put]
          simp
        · intro z hz
          rw [← hne]; exact hrel z ((mem_del _ _ _).1 hz).1
      · have hgt := lt_total hlt hne
        have hd := del_cons t hne
        rw [hd, insR_head]
        · simp only [U.setGo, hlt, Bool.not_false, Bool.true_and, Bool.or_true, if_neg hne, setGo_put]
          simp
        · intro z hz
          rcases List.mem_cons.1 hz with rfl | hz
          · exact hgt
          · exact lt_trans hgt (hrel z ((mem_del _ _ _).1 hz).1)
theorem set_ref {l : List Rule} (h : Up l) (box : List Int) (keep : Int) : U.setGo box keep l (decide (keep ≤ 0)) = U.setR l box keep := by
  rw [setR_eq]
  by_cases hk : keep ≤ 0
  · rw [if_pos hk, decide_eq_true hk, setGo_put]
  · rw [if_neg hk, decide_eq_false hk, setGo_eq box keep h]
theorem keep_none (box : List Int) : ∀ l : List Rule, (∀ r ∈ l, r.1 ≠ box) → U.keep box l = 0
  | [], _ => rfl
  | r :: t, h => by
    have := h r (by simp)
    simp only [U.keep, if_neg this]
    exact keep_none box t (fun r hr => h r (by simp [hr]))
theorem keep_ins (x : Rule) : ∀ l : List Rule, (∀ r ∈ l, r.1 ≠ x.1) → U.keep x.1 (insR x l) = x.2
  | [], _ => by simp [insR, U.keep]
  | r :: t, h => by
    have := h r (by simp)
    have ih := keep_ins x t (fun r hr => h r (by simp [hr]))
    unfold insR
    split
    · simp [U.keep]
    · simp [U.keep, this, ih]
theorem keep_set (l : List Rule) (box : List Int) (keep : Int) : U.keep box (U.setR l box keep) = maxI keep 0 := by
  rw [setR_eq, maxI_eq]
  have hn : ∀ r ∈ U.del l box, r.1 ≠ box := fun r hr => ((mem_del l box r).1 hr).2
  split
  · rw [keep_none box _ hn]; omega
  · have := keep_ins (box, keep) _ hn
    simp only at this
    rw [this]; omega
theorem len_insR (x : Rule) : ∀ l : List Rule, (insR x l).length = l.length + 1
  | [] => rfl
  | r :: t => by unfold insR; split <;> simp [len_insR x t]
theorem len_set (l : List Rule) (box : List Int) (keep : Int) : (U.setR l box keep).length ≤ l.length + 1 := by
  have hd := del_len l box
  rw [setR_eq]
  split
  · omega
  · rw [len_insR]; omega
theorem great_le {n : Int} : ∀ {l : List Hold}, U.greatGo l n ≤ 1000 → n ≤ 1000
  | [], h => h
  | x :: r, h => by
    unfold U.greatGo at h
    split at h
    · assumption
    · exact h
theorem great_small {y : Law} {l : List Tomb} (h : U.great y l = false) : (y.1.length + y.2.length + l.length : Int) ≤ 1000 := by
  unfold U.great at h
  have := of_decide_eq_false h
  exact great_le (l := y.2) (by omega)
theorem ok3 (y : Law) (l : List Tomb) (now : Int) (hs : sm8 y l) : vc3 y l now := by
  unfold vc3
  refine ⟨hs, ?_⟩
  simp only [cond_prop, cond_or, cond_and, int_add, nat_sub, U.I3_6, U.at_]
  refine ⟨fun _ => ⟨trivial, trivial⟩, fun hg => ⟨0, ⟨rfl, by omega⟩, ?_⟩⟩
  have hs := great_small hg
  rintro x ⟨h0, h1⟩
  refine ⟨fun hx => ?_, fun hx => ?_⟩
  · have hx : x < l.length := of_decide_eq_true hx
    refine ⟨h0, hx, fun h => ?_, fun _ => ⟨x + 1, ?_, ⟨by omega, by omega⟩, by omega⟩⟩
    · exfalso; simp at h
    · rw [wrap_i (by omega) (by omega)]
  · exact ⟨by omega, by omega, by simp [U.eqI], trivial⟩
theorem ok4 (l : List Rule) (box : List Int) (keep : Int) : vc4 l box keep := by
  unfold vc4
  simp only [cond_prop, cond_or, cond_and, nat_add, nat_mul, maxLen_eq]
  refine ⟨fun _ => ⟨trivial, trivial⟩, fun hg => ?_⟩
  simp only [Bool.or_eq_false_iff, decide_eq_false_iff_not, Bool.not_eq_false'] at hg
  have hu := up_of l hg.2
  have hg1 := hg.1
  refine ⟨by omega, by omega, by omega, by omega, ?_, trivial⟩
  rw [set_ref hu, keep_set]
  simp only [Bool.and_eq_true, eqR_iff, decide_eq_true_eq, and_self, true_and, and_true]
  exact rising_of _ (up_set hu box keep)
theorem held_append (a b : List Hold) (box : List Int) (n : Int) : U.held (a ++ b) box n = (U.held a box n || U.held b box n) := by simp [U.held]
theorem ripe_later (t : Tomb) (k a b : Int) (h : a ≤ b) (hr : U.ripe t k a = true) : U.ripe t k b = true := by
  unfold U.ripe at hr ⊢
  have := of_decide_eq_true hr
  exact decide_eq_true (by omega)
theorem ok5 (y : Law) (t : Tomb) (three : List Int) (hs : sm8 y []) : vc5 y t three := by
  unfold vc5
  refine ⟨hs, ?_⟩
  simp only [cond_prop, cond_or, cond_and, nat_add, nat_mul, maxLen_eq, list_append, List.set_cons_zero, minI_eq, maxI_eq]
  refine ⟨fun _ => ⟨trivial, trivial⟩, fun hg => ?_⟩
  have hs := great_small hg
  simp only [List.length_nil] at hs
  refine ⟨by decide, by decide, by decide, by decide, by decide, by decide, by decide, by decide, by decide, by decide, by decide, by decide, by omega, by omega, by decide, by decide, by decide, by omega, by omega, by omega, by omega, by omega, by omega, ?_, trivial⟩
  generalize three.getD (Int.toNat 0) 0 = a
  generalize three.getD (Int.toNat 1) 0 = b
  generalize three.getD (Int.toNat 2) 0 = c
  have hr := ripe_later t (U.keep t.2.1 y.1) (min a b) (max a b) (by omega)
  have hm : U.held [(0, t.2.1, [])] t.2.1 t.2.2.2.1 = true := by simp [U.held, U.held1]
  simp only [U.goes, held_append, hm]
  cases h1 : U.held y.2 t.2.1 t.2.2.2.1 <;> cases h2 : U.ripe t (U.keep t.2.1 y.1) (min a b) <;> simp_all
theorem ok6 (l : List Rule) (p q : Rule) : vc6 l p q := by
  unfold vc6
  simp only [cond_prop, cond_or, cond_and, list_beq]
  refine ⟨fun _ => ⟨trivial, trivial⟩, fun hg => ?_⟩
  simp only [Bool.or_eq_false_iff, decide_eq_false_iff_not, Bool.not_eq_false'] at hg
  have hu := up_of l hg.2
  have hg1 := hg.1
  have l1 := len_set l p.1 p.2
  have l2 := len_set l q.1 q.2
  refine ⟨by omega, by omega, by omega, by omega, fun hne => ⟨?_, trivial⟩, fun he => ⟨?_, trivial⟩⟩
  · have hne : p.1 ≠ q.1 := by simpa using hne
    rw [eqR_iff]
    refine up_ext (up_set (up_set hu _ _) _ _) (up_set (up_set hu _ _) _ _) (fun r => ?_)
    simp only [mem_set]
    grind
  · have he : p.1 = q.1 := by simpa using he
    have k1 := keep_set (U.setR l p.1 p.2) q.1 q.2
    have k2 := keep_set (U.setR l q.1 q.2) p.1 p.2
    rw [← he] at k1 k2 ⊢
    rw [k1, k2]; simp
end Go.Proofs.Ytekapagdkclokaa
/- The functions' summaries hold of the program. -/
set_option linter.unusedSimpArgs false
set_option maxRecDepth 100000
set_option linter.unusedVariables false
namespace Go.Proofs.Ytekapagdkclokaa
open Go.Vc
theorem w7 (x : DenL []) : Owes Try.prog (cfgOf QG) (L7 ) 7 (argVs [] x) [] (d7 ) = vc7  := by kernel_rfl
theorem q7 : Pok 7 [] (fun x => d7 ) := by
  refine pk (L := fun x => L7 ) (l := QG) aQG (fun _ => rfl) ?_
  intro x hv hp
  rw [w7]
  exact ok7  
theorem p7 : SumOk Try.prog gl 7 s7 := q7
end Go.Proofs.Ytekapagdkclokaa
/- The functions' summaries hold of the program. -/
set_option linter.unusedSimpArgs false
set_option maxRecDepth 100000
set_option linter.unusedVariables false
namespace Go.Proofs.Ytekapagdkclokaa
open Go.Vc
theorem aQH : AllOk QH := .cons p7 aQG
end Go.Proofs.Ytekapagdkclokaa
