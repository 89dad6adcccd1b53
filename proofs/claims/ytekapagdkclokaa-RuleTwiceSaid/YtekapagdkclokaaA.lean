/- What functions of this seat compute, in plain Lean. -/
import Derived.Test.YtekapagdkclokaaBs
set_option linter.unusedVariables false
set_option linter.unusedSimpArgs false
set_option maxRecDepth 100000
namespace Go.Proofs.Ytekapagdkclokaa
open Go.Vc
abbrev tRule : Ty := .pair .str (.int .i64)
abbrev tRange : Ty := .pair (.int .i64) (.int .i64)
abbrev tRules : Ty := .slice tRule
abbrev tRanges : Ty := .slice tRange
abbrev tHold : Ty := .pair (.int .i64) (.pair .str tRanges)
abbrev tHolds : Ty := .slice tHold
abbrev tMsg : Ty := .pair (.int .i64) (.pair (.int .i64) (.pair (.int .i64) (.slice (.int .u8))))
abbrev tTomb : Ty := .pair (.int .i64) (.pair .str (.pair (.int .i64) tMsg))
abbrev tTombs : Ty := .slice tTomb
abbrev tLaw : Ty := .pair tRules tHolds
abbrev tInts : Ty := .slice (.int .i64)
abbrev tThree : Ty := .arr 3 (.int .i64)
abbrev Rule := List Int × Int
abbrev Range := Int × Int
abbrev Hold := Int × List Int × List Range
abbrev Msg := Int × Int × Int × List Int
abbrev Tomb := Int × List Int × Int × Msg
abbrev Law := List Rule × List Hold
namespace U
def idx1 {α : Type} (p : α → Bool) : List α → Int → Int
  | [], _ => -1
  | x :: r, i => if p x then i else idx1 p r (i + 1)
def keep (box : List Int) : List Rule → Int
  | [] => 0
  | r :: t => if r.1 = box then r.2 else keep box t
def isBox (box : List Int) (r : Rule) : Bool := r.1 == box
def end1 (x last : Int) : Int := if x = 0 then last else x
def has1 (n last : Int) (r : Range) : Bool := decide (min (end1 r.1 last) (end1 r.2 last) ≤ n) && decide (n ≤ max (end1 r.1 last) (end1 r.2 last))
def has (l : List Range) (n last : Int) : Bool := decide (1 ≤ n) && l.any (has1 n last)
def held1 (box : List Int) (uid : Int) (h : Hold) : Bool := h.2.1 == box && (decide ((h.2.2.length : Int) = 0) || has h.2.2 uid 4294967295)
def held (l : List Hold) (box : List Int) (uid : Int) : Bool := l.any (held1 box uid)
def from_ (a : Int) : Int := min (max a 0) 4611686018427387904
def ripe (t : Tomb) (k now : Int) : Bool := decide (from_ t.2.2.1 + min (max k 0) (4611686018427387904 - from_ t.2.2.1) ≤ now)
def goes (rules : List Rule) (holds : List Hold) (now : Int) (t : Tomb) : Bool := !held holds t.2.1 t.2.2.2.1 && ripe t (keep t.2.1 rules) now
def due (l : List Tomb) (rules : List Rule) (holds : List Hold) (now : Int) : List Int := (l.filter (goes rules holds now)).map fun t => t.1
def eqI (a b : List Int) : Bool := a == b
end U
namespace U
def st17_4 (a b : List Int) (i : Int) : St2 := ⟨⟨[sL false (.int .i64) a] ++ [sL false (.int .i64) b] ++ U.n 3 ++ [sI i] ++ U.n 20, [], []⟩, 0, []⟩
def I17_4 (a b : List Int)  (i : Int) : Prop := at_ a i ∧ a.length = b.length ∧ a.take i.toNat = b.take i.toNat
def st10_2 (l : List Rule) (box : List Int) (i : Int) : St2 := ⟨⟨[sL false tRule l] ++ [sS box] ++ U.n 3 ++ [sI i] ++ U.n 18, [], []⟩, 0, []⟩
def I10_2 (l : List Rule) (box : List Int)  (i : Int) : Prop := at_ l i ∧ keep box (l.drop i.toNat) = keep box l
def st24_2 (l : List Rule) (box : List Int) (i : Int) : St2 := ⟨⟨[sL false tRule l] ++ [sF 25 [0]] ++ U.n 5 ++ [sI l.length] ++ [sI i] ++ U.n 10, [], [(0, .obj [.str box])]⟩, 1, []⟩
def I24_2 (l : List Rule) (box : List Int)  (i : Int) : Prop := at_ l i ∧ idx1 (isBox box) (l.drop i.toNat) i = idx1 (isBox box) l 0
def st29_2 (l : List Range) (n last : Int) (i : Int) : St2 := ⟨⟨[sL false tRange l] ++ [sI n] ++ [sI last] ++ U.n 4 ++ [sI i] ++ U.n 40, [], []⟩, 0, []⟩
def I29_2 (l : List Range) (n last : Int)  (i : Int) : Prop := at_ l i ∧ (l.drop i.toNat).any (has1 n last) = l.any (has1 n last)
def st41_2 (l : List Range) (n last : Int) (i : Int) : St2 := ⟨⟨[sL false tRange l] ++ [sF 38 [2, 0]] ++ U.n 5 ++ [sI l.length] ++ [sI i] ++ U.n 10, [], [(0, .obj [.int .i64 n]), (1, .obj [.int .i64 last]), (2, .obj [.fn 36 [1]])]⟩, 3, []⟩
def I41_2 (l : List Range) (n last : Int)  (i : Int) : Prop := at_ l i ∧ idx1 (has1 n last) (l.drop i.toNat) i = idx1 (has1 n last) l 0
end U
def lp17_4 (a b : List Int) : Vc.Loop := ⟨{ keep := [0, 1, 5] }, Int, fun x => U.st17_4 a b x, fun x0 x => U.I17_4 a b  x, fun x => a.length - x.toNat⟩
def lp10_2 (l : List Rule) (box : List Int) : Vc.Loop := ⟨{ keep := [0, 1, 5] }, Int, fun x => U.st10_2 l box x, fun x0 x => U.I10_2 l box  x, fun x => l.length - x.toNat⟩
def lp24_2 (l : List Rule) (box : List Int) : Vc.Loop := ⟨{ keep := [0, 1, 7, 8] }, Int, fun x => U.st24_2 l box x, fun x0 x => U.I24_2 l box  x, fun x => l.length - x.toNat⟩
def lp29_2 (l : List Range) (n last : Int) : Vc.Loop := ⟨{ keep := [0, 1, 2, 7] }, Int, fun x => U.st29_2 l n last x, fun x0 x => U.I29_2 l n last  x, fun x => l.length - x.toNat⟩
def lp41_2 (l : List Range) (n last : Int) : Vc.Loop := ⟨{ keep := [0, 1, 7, 8] }, Int, fun x => U.st41_2 l n last x, fun x0 x => U.I41_2 l n last  x, fun x => l.length - x.toNat⟩
def d17 (a : List Int) (b : List Int) : Done := rB (U.eqI a b)
def s17 : Vc.Sum := .pure [tInts, tInts] false fun x => d17 x.1 x.2
def L17 (a : List Int) (b : List Int) : Nat → List V → Nat → Option Vc.Loop := fun f v k => cond (Nat.beq f 17 && Nat.beq k 4) (some (lp17_4 a b)) <| none
def d10 (l : List Rule) (box : List Int) : Done := rI (U.keep box l)
def s10 : Vc.Sum := .pure [tRules, .str] false fun x => d10 x.1 x.2
def L10 (l : List Rule) (box : List Int) : Nat → List V → Nat → Option Vc.Loop := fun f v k => cond (Nat.beq f 10 && Nat.beq k 2) (some (lp10_2 l box)) <| none
def d9 (l : List Rule) (box : List Int) : Done := rI (U.keep box l)
def s9 : Vc.Sum := .pure [tRules, .str] false fun x => d9 x.1 x.2
def L9 (l : List Rule) (box : List Int) : Nat → List V → Nat → Option Vc.Loop := fun f v k => cond (Nat.beq f 24 && Nat.beq k 2) (some (lp24_2 l box)) <| none
def d29 (l : List Range) (n : Int) (last : Int) : Done := rB (U.has l n last)
def s29 : Vc.Sum := .pure [tRanges, .int .i64, .int .i64] false fun x => d29 x.1 x.2.1 x.2.2
def L29 (l : List Range) (n : Int) (last : Int) : Nat → List V → Nat → Option Vc.Loop := fun f v k => cond (Nat.beq f 29 && Nat.beq k 2) (some (lp29_2 l n last)) <| none
def d36 (x : Int) (last : Int) : Done := rI (U.end1 x last)
def s36 : Vc.Sum := .clo [.int .i64] [.int .i64] fun x y => d36 x y
def L36 (x : Int) (last : Int) : Nat → List V → Nat → Option Vc.Loop := noKeep
def d28 (l : List Range) (n : Int) (last : Int) : Done := rB (U.has l n last)
def s28 : Vc.Sum := .pure [tRanges, .int .i64, .int .i64] false fun x => d28 x.1 x.2.1 x.2.2
def L28 (l : List Range) (n : Int) (last : Int) : Nat → List V → Nat → Option Vc.Loop := fun f v k => cond (Nat.beq f 41 && Nat.beq k 2) (some (lp41_2 l n last)) <| none
def d13 (t : Tomb) (k : Int) (now : Int) : Done := rB (U.ripe t k now)
def s13 : Vc.Sum := .pure [tTomb, .int .i64, .int .i64] false fun x => d13 x.1 x.2.1 x.2.2
def L13 (t : Tomb) (k : Int) (now : Int) : Nat → List V → Nat → Option Vc.Loop := noKeep
def d14 (t : Tomb) (k : Int) (now : Int) : Done := rB (U.ripe t k now)
def s14 : Vc.Sum := .pure [tTomb, .int .i64, .int .i64] false fun x => d14 x.1 x.2.1 x.2.2
def L14 (t : Tomb) (k : Int) (now : Int) : Nat → List V → Nat → Option Vc.Loop := noKeep
def Q0 : List (Nat × Vc.Sum) := (36, s36) :: []
def QA : List (Nat × Vc.Sum) := (17, s17) :: (10, s10) :: (9, s9) :: (29, s29) :: (28, s28) :: (13, s13) :: (14, s14) :: []
end Go.Proofs.Ytekapagdkclokaa
/- What is owed of the functions, in plain Lean (printed by a program of this project). -/
set_option maxRecDepth 100000
set_option linter.unusedVariables false
namespace Go.Proofs.Ytekapagdkclokaa
open Go.Vc
def vc17 (a : List Int) (b : List Int) : Prop :=
  bif (↑a.length : Int) != (↑b.length : Int) then false = U.eqI a b ∧ True
  else
    ∃ (x0 : Int),
      (U.st17_4 a b (0 : Int) = U.st17_4 a b x0 ∧ U.I17_4 a b x0) ∧
        ∀ (x : Int),
          U.I17_4 a b x →
            bif decide (x < (↑a.length : Int)) then
              (0 : Int) ≤ x ∧
                x < (↑a.length : Int) ∧
                  (0 : Int) ≤ x ∧
                    x < (↑b.length : Int) ∧
                      bif a.getD x.toNat (0 : Int) != b.getD x.toNat (0 : Int) then false = U.eqI a b ∧ True
                      else
                        ∃ (y : Int),
                          U.st17_4 a b (IntKind.i64.wrap (x.add (1 : Int))) = U.st17_4 a b y ∧
                            U.I17_4 a b y ∧ a.length.sub y.toNat < a.length.sub x.toNat
            else true = U.eqI a b ∧ True
def vc10 (l : List Rule) (box : List Int) : Prop :=
  ∃ (x0 : Int),
    (U.st10_2 l box (0 : Int) = U.st10_2 l box x0 ∧ U.I10_2 l box x0) ∧
      ∀ (x : Int),
        U.I10_2 l box x →
          bif decide (x < (↑l.length : Int)) then
            (0 : Int) ≤ x ∧
              x < (↑l.length : Int) ∧
                bif (l.getD x.toNat ([], (0 : Int))).fst.beq box then
                  (0 : Int) ≤ x ∧ x < (↑l.length : Int) ∧ (l.getD x.toNat ([], (0 : Int))).snd = U.keep box l ∧ True
                else
                  ∃ (y : Int),
                    U.st10_2 l box (IntKind.i64.wrap (x.add (1 : Int))) = U.st10_2 l box y ∧
                      U.I10_2 l box y ∧ l.length.sub y.toNat < l.length.sub x.toNat
          else (0 : Int) = U.keep box l ∧ True
def vc9 (l : List Rule) (box : List Int) : Prop :=
  ∃ (x0 : Int),
    (U.st24_2 l box (0 : Int) = U.st24_2 l box x0 ∧ U.I24_2 l box x0) ∧
      ∀ (x : Int),
        U.I24_2 l box x →
          bif decide (x < (↑l.length : Int)) then
            (0 : Int) ≤ x ∧
              x < (↑l.length : Int) ∧
                bif (l.getD x.toNat ([], (0 : Int))).fst.beq box then
                  bif decide (x ≥ (0 : Int)) then
                    (0 : Int) ≤ x ∧ x < (↑l.length : Int) ∧ (l.getD x.toNat ([], (0 : Int))).snd = U.keep box l ∧ True
                  else (0 : Int) = U.keep box l ∧ True
                else
                  ∃ (y : Int),
                    U.st24_2 l box (IntKind.i64.wrap (x.add (1 : Int))) = U.st24_2 l box y ∧
                      U.I24_2 l box y ∧ l.length.sub y.toNat < l.length.sub x.toNat
          else
            bif decide (Int.neg (1 : Int) ≥ (0 : Int)) then
              (0 : Int) ≤ Int.neg (1 : Int) ∧
                Int.neg (1 : Int) < (↑l.length : Int) ∧
                  (l.getD (Int.neg (1 : Int)).toNat ([], (0 : Int))).snd = U.keep box l ∧ True
            else (0 : Int) = U.keep box l ∧ True
def vc29 (l : List Range) (n : Int) (last : Int) : Prop :=
  ∃ (x0 : Int),
    (U.st29_2 l n last (0 : Int) = U.st29_2 l n last x0 ∧ U.I29_2 l n last x0) ∧
      ∀ (x : Int),
        U.I29_2 l n last x →
          bif bif decide (x < (↑l.length : Int)) then decide (n ≥ (1 : Int)) else false then
            (0 : Int) ≤ x ∧
              x < (↑l.length : Int) ∧
                (0 : Int) ≤ x ∧
                  x < (↑l.length : Int) ∧
                    bif decide ((l.getD x.toNat ((0 : Int), (0 : Int))).fst = (0 : Int)) then
                      bif decide ((l.getD x.toNat ((0 : Int), (0 : Int))).snd = (0 : Int)) then
                        bif bif decide (n ≥ minI last last) then decide (n ≤ maxI last last) else false then
                          true = U.has l n last ∧ True
                        else
                          ∃ (y : Int),
                            U.st29_2 l n last (IntKind.i64.wrap (x.add (1 : Int))) = U.st29_2 l n last y ∧
                              U.I29_2 l n last y ∧ l.length.sub y.toNat < l.length.sub x.toNat
                      else
                        bif
                            bif decide (n ≥ minI last (l.getD x.toNat ((0 : Int), (0 : Int))).snd) then
                              decide (n ≤ maxI last (l.getD x.toNat ((0 : Int), (0 : Int))).snd)
                            else false then
                          true = U.has l n last ∧ True
                        else
                          ∃ (y : Int),
                            U.st29_2 l n last (IntKind.i64.wrap (x.add (1 : Int))) = U.st29_2 l n last y ∧
                              U.I29_2 l n last y ∧ l.length.sub y.toNat < l.length.sub x.toNat
                    else
                      bif decide ((l.getD x.toNat ((0 : Int), (0 : Int))).snd = (0 : Int)) then
                        bif
                            bif decide (n ≥ minI (l.getD x.toNat ((0 : Int), (0 : Int))).fst last) then
                              decide (n ≤ maxI (l.getD x.toNat ((0 : Int), (0 : Int))).fst last)
                            else false then
                          true = U.has l n last ∧ True
                        else
                          ∃ (y : Int),
                            U.st29_2 l n last (IntKind.i64.wrap (x.add (1 : Int))) = U.st29_2 l n last y ∧
                              U.I29_2 l n last y ∧ l.length.sub y.toNat < l.length.sub x.toNat
                      else
                        bif
                            bif
                                decide
                                  (n ≥
                                    minI (l.getD x.toNat ((0 : Int), (0 : Int))).fst
                                      (l.getD x.toNat ((0 : Int), (0 : Int))).snd) then
                              decide
                                (n ≤
                                  maxI (l.getD x.toNat ((0 : Int), (0 : Int))).fst
                                    (l.getD x.toNat ((0 : Int), (0 : Int))).snd)
                            else false then
                          true = U.has l n last ∧ True
                        else
                          ∃ (y : Int),
                            U.st29_2 l n last (IntKind.i64.wrap (x.add (1 : Int))) = U.st29_2 l n last y ∧
                              U.I29_2 l n last y ∧ l.length.sub y.toNat < l.length.sub x.toNat
          else false = U.has l n last ∧ True
def vc36 (x : Int) (last : Int) : Prop := bif decide (x = (0 : Int)) then last = U.end1 x last ∧ True else x = U.end1 x last ∧ True
def vc28 (l : List Range) (n : Int) (last : Int) : Prop :=
  bif decide (n ≥ (1 : Int)) then
    ∃ (x0 : Int),
      (U.st41_2 l n last (0 : Int) = U.st41_2 l n last x0 ∧ U.I41_2 l n last x0) ∧
        ∀ (x : Int),
          U.I41_2 l n last x →
            bif decide (x < (↑l.length : Int)) then
              (0 : Int) ≤ x ∧
                x < (↑l.length : Int) ∧
                  bif
                      bif
                          decide
                            (minI (U.end1 (l.getD x.toNat ((0 : Int), (0 : Int))).fst last)
                                (U.end1 (l.getD x.toNat ((0 : Int), (0 : Int))).snd last) ≤
                              n) then
                        decide
                          (n ≤
                            maxI (U.end1 (l.getD x.toNat ((0 : Int), (0 : Int))).fst last)
                              (U.end1 (l.getD x.toNat ((0 : Int), (0 : Int))).snd last))
                      else false then
                    decide (x ≥ (0 : Int)) = U.has l n last ∧ True
                  else
                    ∃ (y : Int),
                      U.st41_2 l n last (IntKind.i64.wrap (x.add (1 : Int))) = U.st41_2 l n last y ∧
                        U.I41_2 l n last y ∧ l.length.sub y.toNat < l.length.sub x.toNat
            else decide (Int.neg (1 : Int) ≥ (0 : Int)) = U.has l n last ∧ True
  else false = U.has l n last ∧ True
def vc13 (t : Tomb) (k : Int) (now : Int) : Prop :=
  decide
        (now ≥
          IntKind.i64.wrap
            ((minI (maxI t.snd.snd.fst (0 : Int)) (4611686018427387904 : Int)).add
              (minI (maxI k (0 : Int))
                (IntKind.i64.wrap
                  (Int.sub (4611686018427387904 : Int)
                    (minI (maxI t.snd.snd.fst (0 : Int)) (4611686018427387904 : Int))))))) =
      U.ripe t k now ∧
    True
def vc14 (t : Tomb) (k : Int) (now : Int) : Prop :=
  bif
      bif decide (maxI t.snd.snd.fst (0 : Int) ≥ (4611686018427387904 : Int)) then true
      else
        decide
          (maxI k (0 : Int) ≥
            IntKind.i64.wrap (Int.sub (4611686018427387904 : Int) (maxI t.snd.snd.fst (0 : Int)))) then
    decide (now ≥ (4611686018427387904 : Int)) = U.ripe t k now ∧ True
  else decide (now ≥ IntKind.i64.wrap ((maxI t.snd.snd.fst (0 : Int)).add (maxI k (0 : Int)))) = U.ripe t k now ∧ True
end Go.Proofs.Ytekapagdkclokaa
/- What functions of this seat compute, in plain Lean. -/
set_option linter.unusedVariables false
set_option linter.unusedSimpArgs false
set_option maxRecDepth 100000
namespace Go.Proofs.Ytekapagdkclokaa
open Go.Vc
namespace U
def greatGo : List Hold → Int → Int
  | [], n => n
  | h :: r, n => if n ≤ 1000 then greatGo r (IntKind.wrap .i64 (n + h.2.2.length)) else n
def great (x : Law) (l : List Tomb) : Bool := decide (1000 < greatGo x.2 (x.1.length + x.2.length + l.length))
end U
def sm8 (y : Law) (l : List Tomb) : Prop := ShortL [tLaw, tTombs] (y, l)
namespace U
def st35_2 (l : List Hold) (box : List Int) (uid : Int) (i : Int) : St2 := ⟨⟨[sL false tHold l] ++ [sF 27 [0, 1]] ++ U.n 5 ++ [sI l.length] ++ [sI i] ++ U.n 10, [], [(0, .obj [.str box]), (1, .obj [.int .i64 uid])]⟩, 2, []⟩
def I35_2 (l : List Hold) (box : List Int) (uid : Int)  (i : Int) : Prop := at_ l i ∧ idx1 (held1 box uid) (l.drop i.toNat) i = idx1 (held1 box uid) l 0
def st12_2 (l : List Hold) (box : List Int) (uid : Int) (i : Int) : St2 := ⟨⟨[sL false tHold l] ++ [sS box] ++ [sI uid] ++ U.n 4 ++ [sI i] ++ U.n 31, [], []⟩, 0, []⟩
def I12_2 (l : List Hold) (box : List Int) (uid : Int)  (i : Int) : Prop := at_ l i ∧ (l.drop i.toNat).any (held1 box uid) = l.any (held1 box uid)
def st18_3 (l : List Tomb) (r : List Rule) (h : List Hold) (now : Int) (o : List Int) (i : Int) : St2 := ⟨⟨U.n 1 ++ [sL false tRule r] ++ [sL false tHold h] ++ [sI now] ++ U.n 5 ++ [own 0] ++ U.n 2 ++ [sL false tTomb l] ++ [sI l.length] ++ [sI i] ++ U.n 15, [], [(0, .row 3 (.int .i64) true true o)]⟩, 1, []⟩
def I18_3 (l : List Tomb) (r : List Rule) (h : List Hold) (now : Int)  (o : List Int) (i : Int) : Prop := at_ l i ∧ o = due (l.take i.toNat) r h now
def st19_3 (l : List Tomb) (r : List Rule) (h : List Hold) (now : Int) (o : List Int) (i : Int) : St2 := ⟨⟨[sL false tTomb l] ++ [sL false tRule r] ++ [sL false tHold h] ++ [sI now] ++ U.n 5 ++ [own 0] ++ [sI i] ++ U.n 23, [], [(0, .row 3 (.int .i64) true true o)]⟩, 1, []⟩
def I19_3 (l : List Tomb) (r : List Rule) (h : List Hold) (now : Int)  (o : List Int) (i : Int) : Prop := at_ l i ∧ o = due (l.take i.toNat) r h now
def st8_3 (y : Law) (l : List Tomb) (n : Int) (i : Int) : St2 := ⟨⟨U.n 2 ++ [sP 0 0] ++ U.n 2 ++ [sI n] ++ [sI i] ++ U.n 32, [], [(0, .obj [.psl false tRule y.1, .psl false tHold y.2])]⟩, 1, []⟩
def I8_3 (y : Law) (l : List Tomb)  (n : Int) (i : Int) : Prop := at_ y.2 i ∧ 0 ≤ n ∧ greatGo (y.2.drop i.toNat) n = greatGo y.2 (y.1.length + y.2.length + l.length)
end U
def lp35_2 (l : List Hold) (box : List Int) (uid : Int) : Vc.Loop := ⟨{ keep := [0, 1, 7, 8] }, Int, fun x => U.st35_2 l box uid x, fun x0 x => U.I35_2 l box uid  x, fun x => l.length - x.toNat⟩
def lp12_2 (l : List Hold) (box : List Int) (uid : Int) : Vc.Loop := ⟨{ keep := [0, 1, 2, 7] }, Int, fun x => U.st12_2 l box uid x, fun x0 x => U.I12_2 l box uid  x, fun x => l.length - x.toNat⟩
def lp18_3 (l : List Tomb) (r : List Rule) (h : List Hold) (now : Int) : Vc.Loop := ⟨{ keep := [1, 2, 3, 9, 12, 13, 14], wake := [(9, 3)] }, List Int × Int, fun x => U.st18_3 l r h now x.1 x.2, fun x0 x => U.I18_3 l r h now  x.1 x.2, fun x => l.length - x.2.toNat⟩
def lp19_3 (l : List Tomb) (r : List Rule) (h : List Hold) (now : Int) : Vc.Loop := ⟨{ keep := [0, 1, 2, 3, 9, 10], wake := [(9, 3)] }, List Int × Int, fun x => U.st19_3 l r h now x.1 x.2, fun x0 x => U.I19_3 l r h now  x.1 x.2, fun x => l.length - x.2.toNat⟩
def lp8_3 (y : Law) (l : List Tomb) : Vc.Loop := ⟨{ keep := [2, 5, 6] }, Int × Int, fun x => U.st8_3 y l x.1 x.2, fun x0 x => U.I8_3 y l  x.1 x.2, fun x => y.2.length - x.2.toNat⟩
def d11 (l : List Hold) (box : List Int) (uid : Int) : Done := rB (U.held l box uid)
def s11 : Vc.Sum := .pure [tHolds, .str, .int .i64] false fun x => d11 x.1 x.2.1 x.2.2
def L11 (l : List Hold) (box : List Int) (uid : Int) : Nat → List V → Nat → Option Vc.Loop := fun f v k => cond (Nat.beq f 35 && Nat.beq k 2) (some (lp35_2 l box uid)) <| none
def d12 (l : List Hold) (box : List Int) (uid : Int) : Done := rB (U.held l box uid)
def s12 : Vc.Sum := .pure [tHolds, .str, .int .i64] false fun x => d12 x.1 x.2.1 x.2.2
def L12 (l : List Hold) (box : List Int) (uid : Int) : Nat → List V → Nat → Option Vc.Loop := fun f v k => cond (Nat.beq f 12 && Nat.beq k 2) (some (lp12_2 l box uid)) <| none
def d15 (t : Tomb) (r : List Rule) (h : List Hold) (now : Int) : Done := rB (U.goes r h now t)
def s15 : Vc.Sum := .pure [tTomb, tRules, tHolds, .int .i64] false fun x => d15 x.1 x.2.1 x.2.2.1 x.2.2.2
def L15 (t : Tomb) (r : List Rule) (h : List Hold) (now : Int) : Nat → List V → Nat → Option Vc.Loop := noKeep
def d16 (t : Tomb) (r : List Rule) (h : List Hold) (now : Int) : Done := rB (U.goes r h now t)
def s16 : Vc.Sum := .pure [tTomb, tRules, tHolds, .int .i64] false fun x => d16 x.1 x.2.1 x.2.2.1 x.2.2.2
def L16 (t : Tomb) (r : List Rule) (h : List Hold) (now : Int) : Nat → List V → Nat → Option Vc.Loop := noKeep
def d18 (l : List Tomb) (r : List Rule) (h : List Hold) (now : Int) : Done := ⟨[List.length l ≤ 1000], .one (.psl true (.int .i64) (U.due l r h now)), [], []⟩
def s18 : Vc.Sum := .pure [tTombs, tRules, tHolds, .int .i64] false fun x => d18 x.1 x.2.1 x.2.2.1 x.2.2.2
def L18 (l : List Tomb) (r : List Rule) (h : List Hold) (now : Int) : Nat → List V → Nat → Option Vc.Loop := fun f v k => cond (Nat.beq f 18 && Nat.beq k 3) (some (lp18_3 l r h now)) <| none
def d19 (l : List Tomb) (r : List Rule) (h : List Hold) (now : Int) : Done := ⟨[List.length l ≤ 1000], .one (.psl true (.int .i64) (U.due l r h now)), [], []⟩
def s19 : Vc.Sum := .pure [tTombs, tRules, tHolds, .int .i64] false fun x => d19 x.1 x.2.1 x.2.2.1 x.2.2.2
def L19 (l : List Tomb) (r : List Rule) (h : List Hold) (now : Int) : Nat → List V → Nat → Option Vc.Loop := fun f v k => cond (Nat.beq f 19 && Nat.beq k 3) (some (lp19_3 l r h now)) <| none
def d8 (y : Law) (l : List Tomb) : Done := ⟨[sm8 y l], .one (.bool (U.great y l)), [], []⟩
def s8 : Vc.Sum := .pure [tLaw, tTombs] false fun x => d8 x.1 x.2
def L8 (y : Law) (l : List Tomb) : Nat → List V → Nat → Option Vc.Loop := fun f v k => cond (Nat.beq f 8 && Nat.beq k 3) (some (lp8_3 y l)) <| none
def QB : List (Nat × Vc.Sum) := (11, s11) :: (12, s12) :: QA
def QC : List (Nat × Vc.Sum) := (15, s15) :: (16, s16) :: QB
def QD : List (Nat × Vc.Sum) := (18, s18) :: (19, s19) :: (8, s8) :: QC
end Go.Proofs.Ytekapagdkclokaa
/- What is owed of the functions, in plain Lean (printed by a program of this project). -/
set_option maxRecDepth 100000
set_option linter.unusedVariables false
namespace Go.Proofs.Ytekapagdkclokaa
open Go.Vc
def vc11 (l : List Hold) (box : List Int) (uid : Int) : Prop :=
  ∃ (x0 : Int),
    (U.st35_2 l box uid (0 : Int) = U.st35_2 l box uid x0 ∧ U.I35_2 l box uid x0) ∧
      ∀ (x : Int),
        U.I35_2 l box uid x →
          bif decide (x < (↑l.length : Int)) then
            (0 : Int) ≤ x ∧
              x < (↑l.length : Int) ∧
                bif
                    bif (l.getD x.toNat ((0 : Int), [], [])).snd.fst.beq box then
                      bif decide ((↑(l.getD x.toNat ((0 : Int), [], [])).snd.snd.length : Int) = (0 : Int)) then true
                      else U.has (l.getD x.toNat ((0 : Int), [], [])).snd.snd uid (4294967295 : Int)
                    else false then
                  decide (x ≥ (0 : Int)) = U.held l box uid ∧ True
                else
                  ∃ (y : Int),
                    U.st35_2 l box uid (IntKind.i64.wrap (x.add (1 : Int))) = U.st35_2 l box uid y ∧
                      U.I35_2 l box uid y ∧ l.length.sub y.toNat < l.length.sub x.toNat
          else decide (Int.neg (1 : Int) ≥ (0 : Int)) = U.held l box uid ∧ True
def vc12 (l : List Hold) (box : List Int) (uid : Int) : Prop :=
  ∃ (x0 : Int),
    (U.st12_2 l box uid (0 : Int) = U.st12_2 l box uid x0 ∧ U.I12_2 l box uid x0) ∧
      ∀ (x : Int),
        U.I12_2 l box uid x →
          bif decide (x < (↑l.length : Int)) then
            (0 : Int) ≤ x ∧
              x < (↑l.length : Int) ∧
                ((l.getD x.toNat ((0 : Int), [], [])).snd.fst.beq box = true → (0 : Int) ≤ x) ∧
                  ((l.getD x.toNat ((0 : Int), [], [])).snd.fst.beq box = true → x < (↑l.length : Int)) ∧
                    ((l.getD x.toNat ((0 : Int), [], [])).snd.fst.beq box = true →
                        decide ((↑(l.getD x.toNat ((0 : Int), [], [])).snd.snd.length : Int) = (0 : Int)) = false →
                          (0 : Int) ≤ x) ∧
                      ((l.getD x.toNat ((0 : Int), [], [])).snd.fst.beq box = true →
                          decide ((↑(l.getD x.toNat ((0 : Int), [], [])).snd.snd.length : Int) = (0 : Int)) = false →
                            x < (↑l.length : Int)) ∧
                        bif
                            bif (l.getD x.toNat ((0 : Int), [], [])).snd.fst.beq box then
                              bif decide ((↑(l.getD x.toNat ((0 : Int), [], [])).snd.snd.length : Int) = (0 : Int)) then
                                true
                              else U.has (l.getD x.toNat ((0 : Int), [], [])).snd.snd uid (4294967295 : Int)
                            else false then
                          true = U.held l box uid ∧ True
                        else
                          ∃ (y : Int),
                            U.st12_2 l box uid (IntKind.i64.wrap (x.add (1 : Int))) = U.st12_2 l box uid y ∧
                              U.I12_2 l box uid y ∧ l.length.sub y.toNat < l.length.sub x.toNat
          else false = U.held l box uid ∧ True
def vc15 (t : Tomb) (r : List Rule) (h : List Hold) (now : Int) : Prop :=
  (bif !U.held h t.snd.fst t.snd.snd.snd.fst then U.ripe t (U.keep t.snd.fst r) now else false) = U.goes r h now t ∧
    True
def vc16 (t : Tomb) (r : List Rule) (h : List Hold) (now : Int) : Prop :=
  (bif U.ripe t (U.keep t.snd.fst r) now then !U.held h t.snd.fst t.snd.snd.snd.fst else false) = U.goes r h now t ∧
    True
def vc18 (l : List Tomb) (r : List Rule) (h : List Hold) (now : Int) : Prop :=
  ∃ (x0 : List Int × Int),
    (U.st18_3 l r h now [] (0 : Int) = U.st18_3 l r h now x0.fst x0.snd ∧ U.I18_3 l r h now x0.fst x0.snd) ∧
      ∀ (x : List Int × Int),
        U.I18_3 l r h now x.fst x.snd →
          bif decide (x.snd < (↑l.length : Int)) then
            (0 : Int) ≤ x.snd ∧
              x.snd < (↑l.length : Int) ∧
                bif
                    U.goes r h now
                      (l.getD x.snd.toNat ((0 : Int), [], (0 : Int), (0 : Int), (0 : Int), (0 : Int), [])) then
                  (x.fst.length.add ((1 : Nat))).mul (8 : Nat) ≤ (140737488355328 : Nat) ∧
                    x.fst.length.add ((1 : Nat)) ≤ maxLen ∧
                      ∃ (y : List Int × Int),
                        U.st18_3 l r h now
                              (x.fst.append
                                ([(0 : Int)].set (0 : Nat)
                                  (l.getD x.snd.toNat
                                      ((0 : Int), [], (0 : Int), (0 : Int), (0 : Int), (0 : Int), [])).fst))
                              (IntKind.i64.wrap (x.snd.add (1 : Int))) =
                            U.st18_3 l r h now y.fst y.snd ∧
                          U.I18_3 l r h now y.fst y.snd ∧ l.length.sub y.snd.toNat < l.length.sub x.snd.toNat
                else
                  ∃ (y : List Int × Int),
                    U.st18_3 l r h now x.fst (IntKind.i64.wrap (x.snd.add (1 : Int))) = U.st18_3 l r h now y.fst y.snd ∧
                      U.I18_3 l r h now y.fst y.snd ∧ l.length.sub y.snd.toNat < l.length.sub x.snd.toNat
          else x.fst = U.due l r h now ∧ True
def vc19 (l : List Tomb) (r : List Rule) (h : List Hold) (now : Int) : Prop :=
  ∃ (x0 : List Int × Int),
    (U.st19_3 l r h now [] (0 : Int) = U.st19_3 l r h now x0.fst x0.snd ∧ U.I19_3 l r h now x0.fst x0.snd) ∧
      ∀ (x : List Int × Int),
        U.I19_3 l r h now x.fst x.snd →
          bif decide (x.snd < (↑l.length : Int)) then
            (0 : Int) ≤ x.snd ∧
              x.snd < (↑l.length : Int) ∧
                bif
                    U.goes r h now
                      (l.getD x.snd.toNat ((0 : Int), [], (0 : Int), (0 : Int), (0 : Int), (0 : Int), [])) then
                  (0 : Int) ≤ x.snd ∧
                    x.snd < (↑l.length : Int) ∧
                      (x.fst.length.add ((1 : Nat))).mul (8 : Nat) ≤ (140737488355328 : Nat) ∧
                        x.fst.length.add ((1 : Nat)) ≤ maxLen ∧
                          ∃ (y : List Int × Int),
                            U.st19_3 l r h now
                                  (x.fst.append
                                    ([(0 : Int)].set (0 : Nat)
                                      (l.getD x.snd.toNat
                                          ((0 : Int), [], (0 : Int), (0 : Int), (0 : Int), (0 : Int), [])).fst))
                                  (IntKind.i64.wrap (x.snd.add (1 : Int))) =
                                U.st19_3 l r h now y.fst y.snd ∧
                              U.I19_3 l r h now y.fst y.snd ∧ l.length.sub y.snd.toNat < l.length.sub x.snd.toNat
                else
                  ∃ (y : List Int × Int),
                    U.st19_3 l r h now x.fst (IntKind.i64.wrap (x.snd.add (1 : Int))) = U.st19_3 l r h now y.fst y.snd ∧
                      U.I19_3 l r h now y.fst y.snd ∧ l.length.sub y.snd.toNat < l.length.sub x.snd.toNat
          else x.fst = U.due l r h now ∧ True
def vc8 (y : Law) (l : List Tomb) : Prop :=
  ∃ (x0 : Int × Int),
    (U.st8_3 y l
            (IntKind.i64.wrap
              ((IntKind.i64.wrap ((↑y.fst.length : Int).add (↑y.snd.length : Int))).add (↑l.length : Int)))
            (0 : Int) =
          U.st8_3 y l x0.fst x0.snd ∧
        U.I8_3 y l x0.fst x0.snd) ∧
      ∀ (x : Int × Int),
        U.I8_3 y l x.fst x.snd →
          bif bif decide (x.snd < (↑y.snd.length : Int)) then decide (x.fst ≤ (1000 : Int)) else false then
            (0 : Int) ≤ x.snd ∧
              x.snd < (↑y.snd.length : Int) ∧
                ∃ (y_1 : Int × Int),
                  U.st8_3 y l
                        (IntKind.i64.wrap
                          (x.fst.add (↑(y.snd.getD x.snd.toNat ((0 : Int), [], [])).snd.snd.length : Int)))
                        (IntKind.i64.wrap (x.snd.add (1 : Int))) =
                      U.st8_3 y l y_1.fst y_1.snd ∧
                    U.I8_3 y l y_1.fst y_1.snd ∧ y.snd.length.sub y_1.snd.toNat < y.snd.length.sub x.snd.toNat
          else decide (x.fst > (1000 : Int)) = U.great y l ∧ True
end Go.Proofs.Ytekapagdkclokaa
/- What is owed of the functions of chapter 13, proved in plain Lean. -/
set_option linter.unusedSimpArgs false
set_option linter.unusedVariables false
set_option maxRecDepth 100000
namespace Go.Proofs.Ytekapagdkclokaa
open Go.Vc
open Go.Vc.T
theorem take_succ_iff' {α : Type} {a b : List α} {i : Int} (h0 : 0 ≤ i) (ha : i < a.length) (hb : i < b.length) (h : a.take i.toNat = b.take i.toNat) : a.take (i + 1).toNat = b.take (i + 1).toNat ↔ a[i.toNat] = b[i.toNat] := by
  rw [take_at h0 ha, take_at h0 hb, h, List.append_cancel_left_eq]
  simp only [List.cons.injEq, and_true]
theorem eqI_iff (a b : List Int) : U.eqI a b = true ↔ a = b := by unfold U.eqI; exact beq_iff_eq
theorem ok17 (a b : List Int) (hl : a.length ≤ 9223372036854775807) : vc17 a b := by
  unfold vc17
  have he := eqI_iff a b
  simp only [cond_prop, int_add, nat_sub, U.I17_4, U.at_]
  refine ⟨?_, fun hlen => ⟨_, ⟨rfl, ?_⟩, ?_⟩⟩
  · grind
  · grind
  · rintro x ⟨⟨h0, h1⟩, h2, h3⟩
    simp only [wrap_i64]
    have := @take_succ_iff' Int a b x h0
    have := @take_end Int a x
    have := @take_end Int b x
    repeat' (first | apply And.intro | intro _ | refine Exists.intro _ (And.intro rfl ?_))
    all_goals grind
theorem ok10 (l : List Rule) (box : List Int) (hl : l.length ≤ 9223372036854775807) : vc10 l box := by
  unfold vc10
  simp only [cond_prop, int_add, nat_sub, list_beq, U.I10_2, U.at_]
  refine ⟨_, ⟨rfl, ?_⟩, ?_⟩
  · grind
  · rintro x ⟨⟨h0, h1⟩, h2⟩
    simp only [wrap_i64]
    have := @drop_at _ l x h0
    have := @drop_end _ l x
    repeat' (first | apply And.intro | intro _ | refine Exists.intro _ (And.intro rfl ?_))
    all_goals grind [U.keep]
theorem idx1_keep (box : List Int) : ∀ (l : List Rule) (i : Int), 0 ≤ i → (U.idx1 (U.isBox box) l i = -1 ∧ U.keep box l = 0) ∨ (∃ k : Nat, ∃ h : k < l.length, U.idx1 (U.isBox box) l i = i + k ∧ U.keep box l = l[k].2)
  | [], i, _ => .inl ⟨rfl, rfl⟩
  | r :: t, i, h => by
    unfold U.idx1 U.keep
    by_cases hr : r.1 = box
    · refine .inr ⟨0, by simp, ?_, ?_⟩ <;> simp [U.isBox, hr]
    · have hb : U.isBox box r = false := by simp [U.isBox, hr]
      rcases idx1_keep box t (i + 1) (by omega) with ⟨h1, h2⟩ | ⟨k, hk, h1, h2⟩
      · exact .inl ⟨by rw [hb]; simpa using h1, by rw [if_neg hr]; exact h2⟩
      · exact .inr ⟨k + 1, by simpa using hk, by rw [hb]; simp [h1]; omega, by rw [if_neg hr, h2]; rfl⟩
theorem ok9 (l : List Rule) (box : List Int) (hl : l.length ≤ 9223372036854775807) : vc9 l box := by
  unfold vc9
  simp only [cond_prop, int_add, int_neg, nat_sub, list_beq, U.I24_2, U.at_]
  have hk := idx1_keep box l 0 (by omega)
  refine ⟨_, ⟨rfl, ?_⟩, ?_⟩
  · grind
  · rintro x ⟨⟨h0, h1⟩, h2⟩
    simp only [wrap_i64]
    have := @drop_at _ l x h0
    have := @drop_end _ l x
    repeat' (first | apply And.intro | intro _ | refine Exists.intro _ (And.intro rfl ?_))
    all_goals grind [U.idx1, U.isBox]
theorem ok36 (x last : Int) : vc36 x last := by unfold vc36 U.end1; simp only [cond_prop]; grind
theorem ok29 (l : List Range) (n last : Int) (hl : l.length ≤ 9223372036854775807) : vc29 l n last := by
  unfold vc29
  simp only [cond_prop, cond_and, int_add, nat_sub, minI_eq, maxI_eq, U.I29_2, U.at_]
  refine ⟨_, ⟨rfl, ?_⟩, ?_⟩
  · grind
  · rintro x ⟨⟨h0, h1⟩, h2⟩
    simp only [wrap_i64, U.has]
    have := @drop_at _ l x h0
    have := @drop_end _ l x
    by_cases hx : x < l.length
    · have hg : l.getD x.toNat (0, 0) = l[x.toNat] := getD_at (by omega)
      have hd := drop_at h0 hx
      rw [hd, List.any_cons] at h2
      rw [hg]
      have h1 : U.has1 n last l[x.toNat] = (decide (min (U.end1 l[x.toNat].1 last) (U.end1 l[x.toNat].2 last) ≤ n) && decide (n ≤ max (U.end1 l[x.toNat].1 last) (U.end1 l[x.toNat].2 last))) := rfl
      rw [h1] at h2
      generalize l[x.toNat] = r at h2 ⊢
      clear hd hg h1
      repeat' (first | apply And.intro | intro _ | refine Exists.intro _ (And.intro rfl ?_))
      all_goals grind [U.end1]
    · rw [drop_end (by omega)] at h2
      have h2 : false = l.any (U.has1 n last) := h2
      rw [← h2]
      simp [hx]
theorem idx1_any {α : Type} (p : α → Bool) : ∀ (l : List α) (i : Int), 0 ≤ i → decide (U.idx1 p l i ≥ 0) = l.any p
  | [], i, _ => rfl
  | x :: r, i, h => by
    unfold U.idx1
    have := idx1_any p r (i + 1) (by omega)
    by_cases hp : p x = true <;> simp [hp, this] <;> omega
theorem ok28 (l : List Range) (n last : Int) (hl : l.length ≤ 9223372036854775807) : vc28 l n last := by
  unfold vc28
  simp only [cond_prop, cond_and, int_add, int_neg, nat_sub, minI_eq, maxI_eq, U.I41_2, U.at_]
  have hk := idx1_any (U.has1 n last) l 0 (by omega)
  refine ⟨fun hn => ⟨_, ⟨rfl, ?_⟩, ?_⟩, ?_⟩
  · grind
  · rintro x ⟨⟨h0, h1⟩, h2⟩
    simp only [wrap_i64, U.has]
    have := @drop_at _ l x h0
    have := @drop_end _ l x
    repeat' (first | apply And.intro | intro _ | refine Exists.intro _ (And.intro rfl ?_))
    all_goals grind [U.idx1, U.has1]
  · grind [U.has]
theorem ok13 (t : Tomb) (k now : Int) (h1 : -9223372036854775808 ≤ t.2.2.1 ∧ t.2.2.1 ≤ 9223372036854775807) (h2 : -9223372036854775808 ≤ k ∧ k ≤ 9223372036854775807) : vc13 t k now := by
  unfold vc13 U.ripe U.from_
  simp only [minI_eq, maxI_eq, int_add, int_sub, wrap_i64]
  refine ⟨?_, trivial⟩
  rw [decide_eq_decide]; omega
theorem ok14 (t : Tomb) (k now : Int) (h1 : -9223372036854775808 ≤ t.2.2.1 ∧ t.2.2.1 ≤ 9223372036854775807) (h2 : -9223372036854775808 ≤ k ∧ k ≤ 9223372036854775807) : vc14 t k now := by
  unfold vc14 U.ripe U.from_
  simp only [minI_eq, maxI_eq, int_add, int_sub, wrap_i64, cond_prop, cond_or, decide_eq_decide, Bool.or_eq_true, Bool.or_eq_false_iff, decide_eq_true_eq, decide_eq_false_iff_not]
  refine ⟨fun h => ⟨?_, trivial⟩, fun h => ⟨?_, trivial⟩⟩ <;> omega
theorem ok11 (l : List Hold) (box : List Int) (uid : Int) (hl : l.length ≤ 9223372036854775807) : vc11 l box uid := by
  unfold vc11
  simp only [cond_prop, cond_and, cond_or, int_add, int_neg, nat_sub, list_beq, U.I35_2, U.at_]
  have hk := idx1_any (U.held1 box uid) l 0 (by omega)
  refine ⟨_, ⟨rfl, ?_⟩, ?_⟩
  · grind
  · rintro x ⟨⟨h0, h1⟩, h2⟩
    simp only [wrap_i64, U.held]
    have := @drop_at _ l x h0
    have := @drop_end _ l x
    repeat' (first | apply And.intro | intro _ | refine Exists.intro _ (And.intro rfl ?_))
    all_goals grind [U.idx1, U.held1]
theorem ok12 (l : List Hold) (box : List Int) (uid : Int) (hl : l.length ≤ 9223372036854775807) : vc12 l box uid := by
  unfold vc12
  simp only [cond_prop, cond_and, cond_or, int_add, int_neg, nat_sub, list_beq, U.I12_2, U.at_]
  refine ⟨_, ⟨rfl, ?_⟩, ?_⟩
  · grind
  · rintro x ⟨⟨h0, h1⟩, h2⟩
    simp only [wrap_i64, U.held]
    have := @drop_at _ l x h0
    have := @drop_end _ l x
    repeat' (first | apply And.intro | intro _ | refine Exists.intro _ (And.intro rfl ?_))
    all_goals grind [U.held1]
theorem ok15 (t : Tomb) (r : List Rule) (h : List Hold) (now : Int) : vc15 t r h now := by
  unfold vc15 U.goes; simp [cond_and]
theorem ok16 (t : Tomb) (r : List Rule) (h : List Hold) (now : Int) : vc16 t r h now := by
  unfold vc16 U.goes; simp [cond_and, Bool.and_comm]
theorem due_succ (l : List Tomb) (r : List Rule) (h : List Hold) (now : Int) {i : Int} (h0 : 0 ≤ i) (hi : i < l.length) : U.due (l.take (i + 1).toNat) r h now = if U.goes r h now l[i.toNat] then U.due (l.take i.toNat) r h now ++ [l[i.toNat].1] else U.due (l.take i.toNat) r h now := by
  unfold U.due
  rw [take_at h0 hi, List.filter_append]
  cases hp : U.goes r h now l[i.toNat] <;> simp [hp]
theorem due_len (l : List Tomb) (r : List Rule) (h : List Hold) (now : Int) (i : Nat) : (U.due (l.take i) r h now).length ≤ l.length := by
  unfold U.due
  rw [List.length_map]
  exact Nat.le_trans (List.length_filter_le _ _) (by rw [List.length_take]; omega)
theorem ok18 (l : List Tomb) (r : List Rule) (h : List Hold) (now : Int) (hl : l.length ≤ 1000) : vc18 l r h now := by
  unfold vc18
  simp only [cond_prop, int_add, nat_sub, nat_add, nat_mul, list_append, maxLen_eq, U.I18_3, U.at_]
  refine ⟨(_, _), ⟨rfl, ?_⟩, ?_⟩
  · grind [U.due]
  · rintro ⟨o, x⟩ ⟨⟨h0, h1⟩, h2⟩
    simp only [wrap_i64]
    have := @due_succ l r h now x h0
    have := due_len l r h now x.toNat
    have := @take_end _ l x
    repeat' (first | apply And.intro | intro _ | refine Exists.intro (_, _) (And.intro rfl ?_))
    all_goals grind
theorem ok19 (l : List Tomb) (r : List Rule) (h : List Hold) (now : Int) (hl : l.length ≤ 1000) : vc19 l r h now := by
  unfold vc19
  simp only [cond_prop, int_add, nat_sub, nat_add, nat_mul, list_append, maxLen_eq, U.I19_3, U.at_]
  refine ⟨(_, _), ⟨rfl, ?_⟩, ?_⟩
  · grind [U.due]
  · rintro ⟨o, x⟩ ⟨⟨h0, h1⟩, h2⟩
    simp only [wrap_i64]
    have := @due_succ l r h now x h0
    have := due_len l r h now x.toNat
    have := @take_end _ l x
    repeat' (first | apply And.intro | intro _ | refine Exists.intro (_, _) (And.intro rfl ?_))
    all_goals grind
theorem ok8 (y : Law) (l : List Tomb) (hs : sm8 y l) : vc8 y l := by
  have h1 : y.1.length ≤ 140737488351232 := hs.1.1.2
  have h2 : y.2.length ≤ 140737488351232 := hs.1.2.2
  have h3 : l.length ≤ 140737488351232 := hs.2.2
  have h4 : ∀ h ∈ y.2, h.2.2.length ≤ 140737488351232 := fun h hh => (hs.1.2.1 h hh).2.2.2
  unfold vc8
  have hw : ∀ n : Int, 0 ≤ n → n ≤ 422212465053696 → IntKind.i64.wrap n = n := fun n h0 h1 => wrap_i (by omega) (by omega)
  have e1 : IntKind.i64.wrap (Int.add (y.1.length : Int) y.2.length) = y.1.length + y.2.length := hw _ (by rw [int_add]; omega) (by rw [int_add]; omega)
  have e2 : IntKind.i64.wrap (Int.add ((y.1.length : Int) + y.2.length) l.length) = y.1.length + y.2.length + l.length := hw _ (by rw [int_add]; omega) (by rw [int_add]; omega)
  rw [e1, e2]
  simp only [cond_prop, cond_and, int_add, nat_sub, U.I8_3, U.at_]
  refine ⟨(_, _), ⟨rfl, ?_⟩, ?_⟩
  · simp; omega
  · rintro ⟨n, x⟩ ⟨⟨h0, hx1⟩, hn0, hI⟩
    have hd := @drop_at _ y.2 x h0
    have hde := @drop_end _ y.2 x
    have hmem := fun h : x.toNat < y.2.length => h4 _ (List.getElem_mem h)
    dsimp only at hI h0 hx1 hn0 ⊢
    simp only [wrap_i64]
    clear e1 e2 hw h4
    repeat' (first | apply And.intro | intro _ | refine Exists.intro (_, _) (And.intro rfl ?_))
    all_goals grind [U.greatGo, U.great, wrap_i64]
end Go.Proofs.Ytekapagdkclokaa
/- The functions' summaries hold of the program. -/
set_option linter.unusedSimpArgs false
set_option maxRecDepth 100000
set_option linter.unusedVariables false
namespace Go.Proofs.Ytekapagdkclokaa
open Go.Vc
theorem w17 (x : DenL [tInts, tInts]) : Owes Try.prog (cfgOf []) (L17 x.1 x.2) 17 (argVs [tInts, tInts] x) [] (d17 x.1 x.2) = vc17 x.1 x.2 := by kernel_rfl
theorem q17 : Pok 17 [tInts, tInts] (fun x => d17 x.1 x.2) := by
  refine pk (L := fun x => L17 x.1 x.2) (l := []) allNil (fun _ => rfl) ?_
  intro x hv hp
  rw [w17]
  exact ok17 x.1 x.2 hv.1.2
theorem p17 : SumOk Try.prog gl 17 s17 := q17
theorem w10 (x : DenL [tRules, .str]) : Owes Try.prog (cfgOf []) (L10 x.1 x.2) 10 (argVs [tRules, .str] x) [] (d10 x.1 x.2) = vc10 x.1 x.2 := by kernel_rfl
theorem q10 : Pok 10 [tRules, .str] (fun x => d10 x.1 x.2) := by
  refine pk (L := fun x => L10 x.1 x.2) (l := []) allNil (fun _ => rfl) ?_
  intro x hv hp
  rw [w10]
  exact ok10 x.1 x.2 hv.1.2
theorem p10 : SumOk Try.prog gl 10 s10 := q10
theorem w9 (x : DenL [tRules, .str]) : Owes Try.prog (cfgOf []) (L9 x.1 x.2) 9 (argVs [tRules, .str] x) [] (d9 x.1 x.2) = vc9 x.1 x.2 := by kernel_rfl
theorem q9 : Pok 9 [tRules, .str] (fun x => d9 x.1 x.2) := by
  refine pk (L := fun x => L9 x.1 x.2) (l := []) allNil (fun _ => rfl) ?_
  intro x hv hp
  rw [w9]
  exact ok9 x.1 x.2 hv.1.2
theorem p9 : SumOk Try.prog gl 9 s9 := q9
theorem w29 (x : DenL [tRanges, .int .i64, .int .i64]) : Owes Try.prog (cfgOf []) (L29 x.1 x.2.1 x.2.2) 29 (argVs [tRanges, .int .i64, .int .i64] x) [] (d29 x.1 x.2.1 x.2.2) = vc29 x.1 x.2.1 x.2.2 := by kernel_rfl
theorem q29 : Pok 29 [tRanges, .int .i64, .int .i64] (fun x => d29 x.1 x.2.1 x.2.2) := by
  refine pk (L := fun x => L29 x.1 x.2.1 x.2.2) (l := []) allNil (fun _ => rfl) ?_
  intro x hv hp
  rw [w29]
  exact ok29 x.1 x.2.1 x.2.2 hv.1.2
theorem p29 : SumOk Try.prog gl 29 s29 := q29
theorem w36 (x : DenL [.int .i64]) (y : DenL [.int .i64]) : Owes Try.prog (cfgOf []) (L36 x y) 36 (argVs [.int .i64] x ++ ptrVs [.int .i64] y) [] (d36 x y) = vc36 x y := by kernel_rfl
theorem q36 : CloOk Try.prog gl 36 [.int .i64] [.int .i64] (fun x y => d36 x y) := by
  refine pkc (L := fun x y => L36 x y) (l := []) allNil (fun _ _ => rfl) ?_
  intro x y hv hc hp
  rw [w36]
  exact ok36 x y 
theorem p36 : SumOk Try.prog gl 36 s36 := q36
theorem aQ0 : AllOk Q0 := .cons p36 allNil
theorem w28 (x : DenL [tRanges, .int .i64, .int .i64]) : Owes Try.prog (cfgOf Q0) (L28 x.1 x.2.1 x.2.2) 28 (argVs [tRanges, .int .i64, .int .i64] x) [] (d28 x.1 x.2.1 x.2.2) = vc28 x.1 x.2.1 x.2.2 := by kernel_rfl
theorem q28 : Pok 28 [tRanges, .int .i64, .int .i64] (fun x => d28 x.1 x.2.1 x.2.2) := by
  refine pk (L := fun x => L28 x.1 x.2.1 x.2.2) (l := Q0) aQ0 (fun _ => rfl) ?_
  intro x hv hp
  rw [w28]
  exact ok28 x.1 x.2.1 x.2.2 hv.1.2
theorem p28 : SumOk Try.prog gl 28 s28 := q28
theorem w13 (x : DenL [tTomb, .int .i64, .int .i64]) : Owes Try.prog (cfgOf []) (L13 x.1 x.2.1 x.2.2) 13 (argVs [tTomb, .int .i64, .int .i64] x) [] (d13 x.1 x.2.1 x.2.2) = vc13 x.1 x.2.1 x.2.2 := by kernel_rfl
theorem q13 : Pok 13 [tTomb, .int .i64, .int .i64] (fun x => d13 x.1 x.2.1 x.2.2) := by
  refine pk (L := fun x => L13 x.1 x.2.1 x.2.2) (l := []) allNil (fun _ => rfl) ?_
  intro x hv hp
  rw [w13]
  exact ok13 x.1 x.2.1 x.2.2 (T.vI64 hv.1.2.2.1) (T.vI64 hv.2.1)
theorem p13 : SumOk Try.prog gl 13 s13 := q13
theorem w14 (x : DenL [tTomb, .int .i64, .int .i64]) : Owes Try.prog (cfgOf []) (L14 x.1 x.2.1 x.2.2) 14 (argVs [tTomb, .int .i64, .int .i64] x) [] (d14 x.1 x.2.1 x.2.2) = vc14 x.1 x.2.1 x.2.2 := by kernel_rfl
theorem q14 : Pok 14 [tTomb, .int .i64, .int .i64] (fun x => d14 x.1 x.2.1 x.2.2) := by
  refine pk (L := fun x => L14 x.1 x.2.1 x.2.2) (l := []) allNil (fun _ => rfl) ?_
  intro x hv hp
  rw [w14]
  exact ok14 x.1 x.2.1 x.2.2 (T.vI64 hv.1.2.2.1) (T.vI64 hv.2.1)
theorem p14 : SumOk Try.prog gl 14 s14 := q14
theorem aQA : AllOk QA := .cons p17 (.cons p10 (.cons p9 (.cons p29 (.cons p28 (.cons p13 (.cons p14 allNil))))))
end Go.Proofs.Ytekapagdkclokaa
/- The functions' summaries hold of the program. -/
set_option linter.unusedSimpArgs false
set_option maxRecDepth 100000
set_option linter.unusedVariables false
namespace Go.Proofs.Ytekapagdkclokaa
open Go.Vc
theorem w11 (x : DenL [tHolds, .str, .int .i64]) : Owes Try.prog (cfgOf QA) (L11 x.1 x.2.1 x.2.2) 11 (argVs [tHolds, .str, .int .i64] x) [] (d11 x.1 x.2.1 x.2.2) = vc11 x.1 x.2.1 x.2.2 := by kernel_rfl
theorem q11 : Pok 11 [tHolds, .str, .int .i64] (fun x => d11 x.1 x.2.1 x.2.2) := by
  refine pk (L := fun x => L11 x.1 x.2.1 x.2.2) (l := QA) aQA (fun _ => rfl) ?_
  intro x hv hp
  rw [w11]
  exact ok11 x.1 x.2.1 x.2.2 hv.1.2
theorem p11 : SumOk Try.prog gl 11 s11 := q11
theorem w12 (x : DenL [tHolds, .str, .int .i64]) : Owes Try.prog (cfgOf QA) (L12 x.1 x.2.1 x.2.2) 12 (argVs [tHolds, .str, .int .i64] x) [] (d12 x.1 x.2.1 x.2.2) = vc12 x.1 x.2.1 x.2.2 := by kernel_rfl
theorem q12 : Pok 12 [tHolds, .str, .int .i64] (fun x => d12 x.1 x.2.1 x.2.2) := by
  refine pk (L := fun x => L12 x.1 x.2.1 x.2.2) (l := QA) aQA (fun _ => rfl) ?_
  intro x hv hp
  rw [w12]
  exact ok12 x.1 x.2.1 x.2.2 hv.1.2
theorem p12 : SumOk Try.prog gl 12 s12 := q12
theorem aQB : AllOk QB := .cons p11 (.cons p12 aQA)
theorem w15 (x : DenL [tTomb, tRules, tHolds, .int .i64]) : Owes Try.prog (cfgOf QB) (L15 x.1 x.2.1 x.2.2.1 x.2.2.2) 15 (argVs [tTomb, tRules, tHolds, .int .i64] x) [] (d15 x.1 x.2.1 x.2.2.1 x.2.2.2) = vc15 x.1 x.2.1 x.2.2.1 x.2.2.2 := by kernel_rfl
theorem q15 : Pok 15 [tTomb, tRules, tHolds, .int .i64] (fun x => d15 x.1 x.2.1 x.2.2.1 x.2.2.2) := by
  refine pk (L := fun x => L15 x.1 x.2.1 x.2.2.1 x.2.2.2) (l := QB) aQB (fun _ => rfl) ?_
  intro x hv hp
  rw [w15]
  exact ok15 x.1 x.2.1 x.2.2.1 x.2.2.2 
theorem p15 : SumOk Try.prog gl 15 s15 := q15
theorem w16 (x : DenL [tTomb, tRules, tHolds, .int .i64]) : Owes Try.prog (cfgOf QB) (L16 x.1 x.2.1 x.2.2.1 x.2.2.2) 16 (argVs [tTomb, tRules, tHolds, .int .i64] x) [] (d16 x.1 x.2.1 x.2.2.1 x.2.2.2) = vc16 x.1 x.2.1 x.2.2.1 x.2.2.2 := by kernel_rfl
theorem q16 : Pok 16 [tTomb, tRules, tHolds, .int .i64] (fun x => d16 x.1 x.2.1 x.2.2.1 x.2.2.2) := by
  refine pk (L := fun x => L16 x.1 x.2.1 x.2.2.1 x.2.2.2) (l := QB) aQB (fun _ => rfl) ?_
  intro x hv hp
  rw [w16]
  exact ok16 x.1 x.2.1 x.2.2.1 x.2.2.2 
theorem p16 : SumOk Try.prog gl 16 s16 := q16
theorem aQC : AllOk QC := .cons p15 (.cons p16 aQB)
theorem w18 (x : DenL [tTombs, tRules, tHolds, .int .i64]) : Owes Try.prog (cfgOf QC) (L18 x.1 x.2.1 x.2.2.1 x.2.2.2) 18 (argVs [tTombs, tRules, tHolds, .int .i64] x) [] (d18 x.1 x.2.1 x.2.2.1 x.2.2.2) = vc18 x.1 x.2.1 x.2.2.1 x.2.2.2 := by kernel_rfl
theorem q18 : Pok 18 [tTombs, tRules, tHolds, .int .i64] (fun x => d18 x.1 x.2.1 x.2.2.1 x.2.2.2) := by
  refine pk (L := fun x => L18 x.1 x.2.1 x.2.2.1 x.2.2.2) (l := QC) aQC (fun _ => rfl) ?_
  intro x hv hp
  rw [w18]
  exact ok18 x.1 x.2.1 x.2.2.1 x.2.2.2 (hp (List.length x.1 ≤ 1000) (by simp [d18]))
theorem p18 : SumOk Try.prog gl 18 s18 := q18
theorem w19 (x : DenL [tTombs, tRules, tHolds, .int .i64]) : Owes Try.prog (cfgOf QC) (L19 x.1 x.2.1 x.2.2.1 x.2.2.2) 19 (argVs [tTombs, tRules, tHolds, .int .i64] x) [] (d19 x.1 x.2.1 x.2.2.1 x.2.2.2) = vc19 x.1 x.2.1 x.2.2.1 x.2.2.2 := by kernel_rfl
theorem q19 : Pok 19 [tTombs, tRules, tHolds, .int .i64] (fun x => d19 x.1 x.2.1 x.2.2.1 x.2.2.2) := by
  refine pk (L := fun x => L19 x.1 x.2.1 x.2.2.1 x.2.2.2) (l := QC) aQC (fun _ => rfl) ?_
  intro x hv hp
  rw [w19]
  exact ok19 x.1 x.2.1 x.2.2.1 x.2.2.2 (hp (List.length x.1 ≤ 1000) (by simp [d19]))
theorem p19 : SumOk Try.prog gl 19 s19 := q19
theorem w8 (x : DenL [tLaw, tTombs]) : Owes Try.prog (cfgOf QC) (L8 x.1 x.2) 8 (argVs [tLaw, tTombs] x) [] (d8 x.1 x.2) = vc8 x.1 x.2 := by kernel_rfl
theorem q8 : Pok 8 [tLaw, tTombs] (fun x => d8 x.1 x.2) := by
  refine pk (L := fun x => L8 x.1 x.2) (l := QC) aQC (fun _ => rfl) ?_
  intro x hv hp
  rw [w8]
  exact ok8 x.1 x.2 (hp (sm8 x.1 x.2) (by simp [d8]))
theorem p8 : SumOk Try.prog gl 8 s8 := q8
theorem aQD : AllOk QD := .cons p18 (.cons p19 (.cons p8 aQC))
end Go.Proofs.Ytekapagdkclokaa
