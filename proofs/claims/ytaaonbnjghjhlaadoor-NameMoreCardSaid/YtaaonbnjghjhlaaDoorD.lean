/- What functions of this seat compute, in plain Lean. -/
import Derived.Test.YtaaonbnjghjhlaaDoorC
set_option linter.unusedVariables false
set_option linter.unusedSimpArgs false
set_option maxRecDepth 100000
namespace Go.Proofs.YtaaonbnjghjhlaaDoor
open Go.Vc
namespace U
def stlaw10_NameClean_11 (s : List Int) (i : Int) : St2 := ⟨⟨U.n 5 ++ [sS (cleanN s).1] ++ U.n 1 ++ [sS (cleanN (cleanN s).1).1] ++ [sI (cleanN (cleanN s).1).2] ++ [sL true .str (aboveN (cleanN s).1)] ++ [sI i] ++ U.n 114, [], []⟩, 0, []⟩
def Ilaw10_NameClean_11 (s : List Int)  (i : Int) : Prop := at_ (aboveN (cleanN s).1) i ∧ formedN s = true
end U
def lplaw10_NameClean_11 (s : List Int) : Vc.Loop := ⟨{ keep := [5, 7, 8, 9, 10] }, Int, fun x => U.stlaw10_NameClean_11 s x, fun x0 x => U.Ilaw10_NameClean_11 s  x, fun x => (U.aboveN (U.cleanN s).1).length - x.toNat⟩
def dlaw10_alive  : Done := ⟨[], .one (.bool true), [], []⟩
def slaw10_alive : Vc.Sum := .pure [] false fun _ => dlaw10_alive 
def Llaw10_alive  : Nat → List V → Nat → Option Vc.Loop := noKeep
def Qlaw10_alive : List (Nat × Ent) := (7, .sum slaw10_alive) :: Qref10_Texts
def dlaw10_NameCleans (s : List Int) (t : List Int) : Done := sayTrue [.str, .str] (s, t)
def slaw10_NameCleans : Vc.Sum := .pure [.str, .str] false fun x => dlaw10_NameCleans x.1 x.2
def Llaw10_NameCleans (s : List Int) (t : List Int) : Nat → List V → Nat → Option Vc.Loop := noKeep
def dlaw10_NameLikes (p : List Int) (s : List Int) (b : List Int) : Done := sayTrue [.str, .str, .str] (p, s, b)
def slaw10_NameLikes : Vc.Sum := .pure [.str, .str, .str] false fun x => dlaw10_NameLikes x.1 x.2.1 x.2.2
def Llaw10_NameLikes (p : List Int) (s : List Int) (b : List Int) : Nat → List V → Nat → Option Vc.Loop := noKeep
def dlaw10_NameClean (s : List Int) (b : List Int) : Done := sayTrue [.str, .str] (s, b)
def slaw10_NameClean : Vc.Sum := .pure [.str, .str] false fun x => dlaw10_NameClean x.1 x.2
def Llaw10_NameClean (s : List Int) (b : List Int) : Nat → List V → Nat → Option Vc.Loop := fun f v k => cond (Nat.beq f 4 && Nat.beq k 11) (some (lplaw10_NameClean_11 s)) <| none
def dlaw10_NameMore (p : List Int) (s : List Int) (m : List Int) : Done := sayTrue [.str, .str, .str] (p, s, m)
def slaw10_NameMore : Vc.Sum := .pure [.str, .str, .str] false fun x => dlaw10_NameMore x.1 x.2.1 x.2.2
def Llaw10_NameMore (p : List Int) (s : List Int) (m : List Int) : Nat → List V → Nat → Option Vc.Loop := noKeep
end Go.Proofs.YtaaonbnjghjhlaaDoor
/- What is owed of the functions, in plain Lean (printed by a program of this project). -/
set_option maxRecDepth 100000
set_option linter.unusedVariables false
namespace Go.Proofs.YtaaonbnjghjhlaaDoor
open Go.Vc
def vclaw10_alive  : Prop :=
  (7 : Nat) ≤ (1000000000000 : Nat) ∧
    ((bif
              (U.cleanN
                      [(105 : Int), (110 : Int),
                        (66 : Int), (111 : Int),
                        (120 : Int), (47 : Int),
                        (97 : Int)]).fst.beq
                [(73 : Int), (78 : Int),
                  (66 : Int), (79 : Int),
                  (88 : Int), (47 : Int),
                  (97 : Int)] then
            decide
              ((U.cleanN
                    [(105 : Int), (110 : Int),
                      (66 : Int), (111 : Int),
                      (120 : Int), (47 : Int),
                      (97 : Int)]).snd =
                (0 : Int))
          else false) =
          true →
        (3 : Nat) ≤ (1000000000000 : Nat)) ∧
      ((bif
                (U.cleanN
                        [(105 : Int), (110 : Int),
                          (66 : Int), (111 : Int),
                          (120 : Int), (47 : Int),
                          (97 : Int)]).fst.beq
                  [(73 : Int), (78 : Int),
                    (66 : Int), (79 : Int),
                    (88 : Int), (47 : Int),
                    (97 : Int)] then
              decide
                ((U.cleanN
                      [(105 : Int), (110 : Int),
                        (66 : Int), (111 : Int),
                        (120 : Int), (47 : Int),
                        (97 : Int)]).snd =
                  (0 : Int))
            else false) =
            true →
          (3 : Nat) ≤ (1000000000000 : Nat)) ∧
        ((bif
                  bif
                      (U.cleanN
                              [(105 : Int), (110 : Int),
                                (66 : Int), (111 : Int),
                                (120 : Int), (47 : Int),
                                (97 : Int)]).fst.beq
                        [(73 : Int), (78 : Int),
                          (66 : Int), (79 : Int),
                          (88 : Int), (47 : Int),
                          (97 : Int)] then
                    decide
                      ((U.cleanN
                            [(105 : Int), (110 : Int),
                              (66 : Int), (111 : Int),
                              (120 : Int), (47 : Int),
                              (97 : Int)]).snd =
                        (0 : Int))
                  else false then
                U.likeN
                  [(97 : Int), (47 : Int),
                    (37 : Int)]
                  [(97 : Int), (47 : Int),
                    (98 : Int)]
              else false) =
              true →
            (3 : Nat) ≤ (1000000000000 : Nat)) ∧
          ((bif
                    bif
                        (U.cleanN
                                [(105 : Int), (110 : Int),
                                  (66 : Int), (111 : Int),
                                  (120 : Int), (47 : Int),
                                  (97 : Int)]).fst.beq
                          [(73 : Int), (78 : Int),
                            (66 : Int), (79 : Int),
                            (88 : Int), (47 : Int),
                            (97 : Int)] then
                      decide
                        ((U.cleanN
                              [(105 : Int), (110 : Int),
                                (66 : Int), (111 : Int),
                                (120 : Int), (47 : Int),
                                (97 : Int)]).snd =
                          (0 : Int))
                    else false then
                  U.likeN
                    [(97 : Int), (47 : Int),
                      (37 : Int)]
                    [(97 : Int), (47 : Int),
                      (98 : Int)]
                else false) =
                true →
              (5 : Nat) ≤ (1000000000000 : Nat)) ∧
            ((bif
                      bif
                          bif
                              (U.cleanN
                                      [(105 : Int), (110 : Int),
                                        (66 : Int), (111 : Int),
                                        (120 : Int), (47 : Int),
                                        (97 : Int)]).fst.beq
                                [(73 : Int), (78 : Int),
                                  (66 : Int), (79 : Int),
                                  (88 : Int), (47 : Int),
                                  (97 : Int)] then
                            decide
                              ((U.cleanN
                                    [(105 : Int), (110 : Int),
                                      (66 : Int), (111 : Int),
                                      (120 : Int), (47 : Int),
                                      (97 : Int)]).snd =
                                (0 : Int))
                          else false then
                        U.likeN
                          [(97 : Int), (47 : Int),
                            (37 : Int)]
                          [(97 : Int), (47 : Int),
                            (98 : Int)]
                      else false then
                    !U.likeN
                        [(97 : Int), (47 : Int),
                          (37 : Int)]
                        [(97 : Int), (47 : Int),
                          (98 : Int), (47 : Int),
                          (99 : Int)]
                  else false) =
                  true →
                (2 : Nat) ≤ (1000000000000 : Nat)) ∧
              ((bif
                        bif
                            bif
                                (U.cleanN
                                        [(105 : Int), (110 : Int),
                                          (66 : Int), (111 : Int),
                                          (120 : Int), (47 : Int),
                                          (97 : Int)]).fst.beq
                                  [(73 : Int), (78 : Int),
                                    (66 : Int), (79 : Int),
                                    (88 : Int), (47 : Int),
                                    (97 : Int)] then
                              decide
                                ((U.cleanN
                                      [(105 : Int), (110 : Int),
                                        (66 : Int), (111 : Int),
                                        (120 : Int), (47 : Int),
                                        (97 : Int)]).snd =
                                  (0 : Int))
                            else false then
                          U.likeN
                            [(97 : Int), (47 : Int),
                              (37 : Int)]
                            [(97 : Int), (47 : Int),
                              (98 : Int)]
                        else false then
                      !U.likeN
                          [(97 : Int), (47 : Int),
                            (37 : Int)]
                          [(97 : Int), (47 : Int),
                            (98 : Int), (47 : Int),
                            (99 : Int)]
                    else false) =
                    true →
                  (5 : Nat) ≤ (1000000000000 : Nat)) ∧
                ((bif
                          bif
                              bif
                                  bif
                                      (U.cleanN
                                              [(105 : Int),
                                                (110 : Int),
                                                (66 : Int),
                                                (111 : Int),
                                                (120 : Int),
                                                (47 : Int),
                                                (97 : Int)]).fst.beq
                                        [(73 : Int), (78 : Int),
                                          (66 : Int), (79 : Int),
                                          (88 : Int), (47 : Int),
                                          (97 : Int)] then
                                    decide
                                      ((U.cleanN
                                            [(105 : Int), (110 : Int),
                                              (66 : Int), (111 : Int),
                                              (120 : Int), (47 : Int),
                                              (97 : Int)]).snd =
                                        (0 : Int))
                                  else false then
                                U.likeN
                                  [(97 : Int), (47 : Int),
                                    (37 : Int)]
                                  [(97 : Int), (47 : Int),
                                    (98 : Int)]
                              else false then
                            !U.likeN
                                [(97 : Int), (47 : Int),
                                  (37 : Int)]
                                [(97 : Int), (47 : Int),
                                  (98 : Int), (47 : Int),
                                  (99 : Int)]
                          else false then
                        U.likeN [(42 : Int), (99 : Int)]
                          [(97 : Int), (47 : Int),
                            (98 : Int), (47 : Int),
                            (99 : Int)]
                      else false) =
                      true →
                    (5 : Nat) ≤ (1000000000000 : Nat)) ∧
                  ((bif
                            bif
                                bif
                                    bif
                                        bif
                                            (U.cleanN
                                                    [(105 : Int),
                                                      (110 : Int),
                                                      (66 : Int),
                                                      (111 : Int),
                                                      (120 : Int),
                                                      (47 : Int),
                                                      (97 : Int)]).fst.beq
                                              [(73 : Int), (78 : Int),
                                                (66 : Int),
                                                (79 : Int),
                                                (88 : Int),
                                                (47 : Int),
                                                (97 : Int)] then
                                          decide
                                            ((U.cleanN
                                                  [(105 : Int),
                                                    (110 : Int),
                                                    (66 : Int),
                                                    (111 : Int),
                                                    (120 : Int),
                                                    (47 : Int),
                                                    (97 : Int)]).snd =
                                              (0 : Int))
                                        else false then
                                      U.likeN
                                        [(97 : Int), (47 : Int),
                                          (37 : Int)]
                                        [(97 : Int), (47 : Int),
                                          (98 : Int)]
                                    else false then
                                  !U.likeN
                                      [(97 : Int), (47 : Int),
                                        (37 : Int)]
                                      [(97 : Int), (47 : Int),
                                        (98 : Int), (47 : Int),
                                        (99 : Int)]
                                else false then
                              U.likeN [(42 : Int), (99 : Int)]
                                [(97 : Int), (47 : Int),
                                  (98 : Int), (47 : Int),
                                  (99 : Int)]
                            else false then
                          U.belowN
                            [(97 : Int), (47 : Int),
                              (98 : Int), (47 : Int),
                              (99 : Int)]
                            [(97 : Int), (47 : Int),
                              (98 : Int)]
                        else false) =
                        true →
                      (4 : Nat) ≤ (1000000000000 : Nat)) ∧
                    (bif
                            bif
                                bif
                                    bif
                                        bif
                                            bif
                                                (U.cleanN
                                                        [(105 : Int),
                                                          (110 : Int),
                                                          (66 : Int),
                                                          (111 : Int),
                                                          (120 : Int),
                                                          (47 : Int),
                                                          (97 : Int)]).fst.beq
                                                  [(73 : Int),
                                                    (78 : Int),
                                                    (66 : Int),
                                                    (79 : Int),
                                                    (88 : Int),
                                                    (47 : Int),
                                                    (97 : Int)] then
                                              decide
                                                ((U.cleanN
                                                      [(105 : Int),
                                                        (110 : Int),
                                                        (66 : Int),
                                                        (111 : Int),
                                                        (120 : Int),
                                                        (47 : Int),
                                                        (97 : Int)]).snd =
                                                  (0 : Int))
                                            else false then
                                          U.likeN
                                            [(97 : Int), (47 : Int),
                                              (37 : Int)]
                                            [(97 : Int), (47 : Int),
                                              (98 : Int)]
                                        else false then
                                      !U.likeN
                                          [(97 : Int), (47 : Int),
                                            (37 : Int)]
                                          [(97 : Int), (47 : Int),
                                            (98 : Int), (47 : Int),
                                            (99 : Int)]
                                    else false then
                                  U.likeN [(42 : Int), (99 : Int)]
                                    [(97 : Int), (47 : Int),
                                      (98 : Int), (47 : Int),
                                      (99 : Int)]
                                else false then
                              U.belowN
                                [(97 : Int), (47 : Int),
                                  (98 : Int), (47 : Int),
                                  (99 : Int)]
                                [(97 : Int), (47 : Int),
                                  (98 : Int)]
                            else false then
                          !U.rightN
                              [(97 : Int), (47 : Int),
                                (47 : Int), (98 : Int)]
                        else false) =
                        true ∧
                      True
def vclaw10_NameCleans (s : List Int) (t : List Int) : Prop :=
  bif bif decide ((↑s.length : Int) > (300 : Int)) then true else decide ((↑t.length : Int) > (300 : Int)) then
    true = true ∧ True
  else
    s.length ≤ (1000000000000 : Nat) ∧
      s.length ≤ (1000000000000 : Nat) ∧
        ((bif (U.cleanN s).fst.beq (U.cleanN s).fst then decide ((U.cleanN s).snd = (U.cleanN s).snd) else false) =
              true →
            s.length ≤ (1000000000000 : Nat)) ∧
          ((bif (U.cleanN s).fst.beq (U.cleanN s).fst then decide ((U.cleanN s).snd = (U.cleanN s).snd) else false) =
                true →
              s.length ≤ (1000000000000 : Nat)) ∧
            ((bif
                      bif (U.cleanN s).fst.beq (U.cleanN s).fst then decide ((U.cleanN s).snd = (U.cleanN s).snd)
                      else false then
                    decide (U.rightN s = U.rightN s)
                  else false) =
                  true →
                s.length ≤ (1000000000000 : Nat)) ∧
              ((bif
                        bif (U.cleanN s).fst.beq (U.cleanN s).fst then decide ((U.cleanN s).snd = (U.cleanN s).snd)
                        else false then
                      decide (U.rightN s = U.rightN s)
                    else false) =
                    true →
                  s.length ≤ (1000000000000 : Nat)) ∧
                ((bif
                          bif
                              bif (U.cleanN s).fst.beq (U.cleanN s).fst then
                                decide ((U.cleanN s).snd = (U.cleanN s).snd)
                              else false then
                            decide (U.rightN s = U.rightN s)
                          else false then
                        decide (U.aboveN s = U.aboveN s)
                      else false) =
                      true →
                    s.length ≤ (1000000000000 : Nat)) ∧
                  ((bif
                            bif
                                bif (U.cleanN s).fst.beq (U.cleanN s).fst then
                                  decide ((U.cleanN s).snd = (U.cleanN s).snd)
                                else false then
                              decide (U.rightN s = U.rightN s)
                            else false then
                          decide (U.aboveN s = U.aboveN s)
                        else false) =
                        true →
                      s.length ≤ (1000000000000 : Nat)) ∧
                    (bif
                            bif
                                bif
                                    bif (U.cleanN s).fst.beq (U.cleanN s).fst then
                                      decide ((U.cleanN s).snd = (U.cleanN s).snd)
                                    else false then
                                  decide (U.rightN s = U.rightN s)
                                else false then
                              decide (U.aboveN s = U.aboveN s)
                            else false then
                          decide (U.belowN s t = U.belowN s t)
                        else false) =
                        true ∧
                      True
def vclaw10_NameLikes (p : List Int) (s : List Int) (b : List Int) : Prop :=
  bif
      bif bif decide ((↑p.length : Int) > (300 : Int)) then true else decide ((↑s.length : Int) > (300 : Int)) then true
      else decide ((↑b.length : Int) > (300 : Int)) then
    true = true ∧ True
  else
    b.length ≤ (500000000000 : Nat) ∧
      p.length ≤ (500000000000 : Nat) ∧
        b.length ≤ (1000000000000 : Nat) ∧
          p.length ≤ (1000000000000 : Nat) ∧
            p.length ≤ (1000000000000 : Nat) ∧
              s.length ≤ (1000000000000 : Nat) ∧
                s.length ≤ (1000000000000 : Nat) ∧
                  (bif
                          bif decide (U.likeN p s = U.likeN p s) then (U.joinN b p).fst.beq (U.joinN b p).fst
                          else false then
                        decide ((U.joinN b p).snd = (U.joinN b p).snd)
                      else false) =
                      true ∧
                    True
def vclaw10_NameClean (s : List Int) (b : List Int) : Prop :=
  bif bif decide ((↑s.length : Int) > (300 : Int)) then true else decide ((↑b.length : Int) > (300 : Int)) then
    true = true ∧ True
  else
    s.length ≤ (1000000000000 : Nat) ∧
      bif (U.cleanN s).snd != (0 : Int) then
        ((U.cleanN s).fst.beq [] = true → s.length ≤ (1000000000000 : Nat)) ∧
          ((bif (U.cleanN s).fst.beq [] then !U.rightN s else false) = true → s.length ≤ (1000000000000 : Nat)) ∧
            ((bif bif (U.cleanN s).fst.beq [] then !U.rightN s else false then
                    decide ((↑(U.aboveN s).length : Int) = (0 : Int))
                  else false) =
                  true →
                (1 : Nat) ≤ (1000000000000 : Nat)) ∧
              ((bif bif (U.cleanN s).fst.beq [] then !U.rightN s else false then
                      decide ((↑(U.aboveN s).length : Int) = (0 : Int))
                    else false) =
                    true →
                  s.length ≤ (1000000000000 : Nat)) ∧
                (bif
                        bif bif (U.cleanN s).fst.beq [] then !U.rightN s else false then
                          decide ((↑(U.aboveN s).length : Int) = (0 : Int))
                        else false then
                      !U.likeN [(42 : Int)] s
                    else false) =
                    true ∧
                  True
      else
        (U.cleanN s).fst.length ≤ (1000000000000 : Nat) ∧
          (U.cleanN s).fst.length ≤ (1000000000000 : Nat) ∧
            ∃ (x0 : Int),
              (U.stlaw10_NameClean_11 s (0 : Int) = U.stlaw10_NameClean_11 s x0 ∧ U.Ilaw10_NameClean_11 s x0) ∧
                ∀ (x : Int),
                  U.Ilaw10_NameClean_11 s x →
                    bif decide (x < (↑(U.aboveN (U.cleanN s).fst).length : Int)) then
                      (0 : Int) ≤ x ∧
                        x < (↑(U.aboveN (U.cleanN s).fst).length : Int) ∧
                          ((U.aboveN (U.cleanN s).fst).getD x.toNat []).length ≤ (1000000000000 : Nat) ∧
                            ((!U.rightN ((U.aboveN (U.cleanN s).fst).getD x.toNat [])) = false → (0 : Int) ≤ x) ∧
                              ((!U.rightN ((U.aboveN (U.cleanN s).fst).getD x.toNat [])) = false →
                                  x < (↑(U.aboveN (U.cleanN s).fst).length : Int)) ∧
                                ((!U.rightN ((U.aboveN (U.cleanN s).fst).getD x.toNat [])) = false →
                                    (U.cleanN s).fst.length ≤ (1000000000000 : Nat)) ∧
                                  ((bif !U.rightN ((U.aboveN (U.cleanN s).fst).getD x.toNat []) then true
                                        else !U.belowN (U.cleanN s).fst ((U.aboveN (U.cleanN s).fst).getD x.toNat [])) =
                                        false →
                                      decide (x > (0 : Int)) = true → (0 : Int) ≤ IntKind.i64.wrap (x.sub (1 : Int))) ∧
                                    ((bif !U.rightN ((U.aboveN (U.cleanN s).fst).getD x.toNat []) then true
                                          else
                                            !U.belowN (U.cleanN s).fst ((U.aboveN (U.cleanN s).fst).getD x.toNat [])) =
                                          false →
                                        decide (x > (0 : Int)) = true →
                                          IntKind.i64.wrap (x.sub (1 : Int)) <
                                            (↑(U.aboveN (U.cleanN s).fst).length : Int)) ∧
                                      ((bif !U.rightN ((U.aboveN (U.cleanN s).fst).getD x.toNat []) then true
                                            else
                                              !U.belowN (U.cleanN s).fst
                                                  ((U.aboveN (U.cleanN s).fst).getD x.toNat [])) =
                                            false →
                                          decide (x > (0 : Int)) = true → (0 : Int) ≤ x) ∧
                                        ((bif !U.rightN ((U.aboveN (U.cleanN s).fst).getD x.toNat []) then true
                                              else
                                                !U.belowN (U.cleanN s).fst
                                                    ((U.aboveN (U.cleanN s).fst).getD x.toNat [])) =
                                              false →
                                            decide (x > (0 : Int)) = true →
                                              x < (↑(U.aboveN (U.cleanN s).fst).length : Int)) ∧
                                          bif
                                              bif
                                                  bif !U.rightN ((U.aboveN (U.cleanN s).fst).getD x.toNat []) then true
                                                  else
                                                    !U.belowN (U.cleanN s).fst
                                                        ((U.aboveN (U.cleanN s).fst).getD x.toNat []) then
                                                true
                                              else
                                                bif decide (x > (0 : Int)) then
                                                  decide
                                                    ((↑((U.aboveN (U.cleanN s).fst).getD
                                                              (IntKind.i64.wrap (x.sub (1 : Int))).toNat []).length :
                                                        Int) ≥
                                                      (↑((U.aboveN (U.cleanN s).fst).getD x.toNat []).length : Int))
                                                else false then
                                            false = true ∧ True
                                          else
                                            ∃ (y : Int),
                                              U.stlaw10_NameClean_11 s (IntKind.i64.wrap (x.add (1 : Int))) =
                                                  U.stlaw10_NameClean_11 s y ∧
                                                U.Ilaw10_NameClean_11 s y ∧
                                                  (U.aboveN (U.cleanN s).fst).length.sub y.toNat <
                                                    (U.aboveN (U.cleanN s).fst).length.sub x.toNat
                    else
                      ((bif decide ((U.cleanN (U.cleanN s).fst).snd = (0 : Int)) then
                              (U.cleanN (U.cleanN s).fst).fst.beq (U.cleanN s).fst
                            else false) =
                            true →
                          (U.cleanN s).fst.length ≤ (1000000000000 : Nat)) ∧
                        ((bif
                                  bif decide ((U.cleanN (U.cleanN s).fst).snd = (0 : Int)) then
                                    (U.cleanN (U.cleanN s).fst).fst.beq (U.cleanN s).fst
                                  else false then
                                U.rightN (U.cleanN s).fst
                              else false) =
                              true →
                            (U.cleanN s).fst.length ≤ (1000000000000 : Nat)) ∧
                          ((bif
                                    bif decide ((U.cleanN (U.cleanN s).fst).snd = (0 : Int)) then
                                      (U.cleanN (U.cleanN s).fst).fst.beq (U.cleanN s).fst
                                    else false then
                                  U.rightN (U.cleanN s).fst
                                else false) =
                                true →
                              (U.cleanN s).fst.length ≤ (1000000000000 : Nat)) ∧
                            ((bif
                                      bif
                                          bif decide ((U.cleanN (U.cleanN s).fst).snd = (0 : Int)) then
                                            (U.cleanN (U.cleanN s).fst).fst.beq (U.cleanN s).fst
                                          else false then
                                        U.rightN (U.cleanN s).fst
                                      else false then
                                    U.likeN (U.cleanN s).fst (U.cleanN s).fst
                                  else false) =
                                  true →
                                (1 : Nat) ≤ (1000000000000 : Nat)) ∧
                              ((bif
                                        bif
                                            bif decide ((U.cleanN (U.cleanN s).fst).snd = (0 : Int)) then
                                              (U.cleanN (U.cleanN s).fst).fst.beq (U.cleanN s).fst
                                            else false then
                                          U.rightN (U.cleanN s).fst
                                        else false then
                                      U.likeN (U.cleanN s).fst (U.cleanN s).fst
                                    else false) =
                                    true →
                                  (U.cleanN s).fst.length ≤ (1000000000000 : Nat)) ∧
                                ((bif
                                          bif
                                              bif
                                                  bif
                                                      bif decide ((U.cleanN (U.cleanN s).fst).snd = (0 : Int)) then
                                                        (U.cleanN (U.cleanN s).fst).fst.beq (U.cleanN s).fst
                                                      else false then
                                                    U.rightN (U.cleanN s).fst
                                                  else false then
                                                U.likeN (U.cleanN s).fst (U.cleanN s).fst
                                              else false then
                                            U.likeN [(42 : Int)] (U.cleanN s).fst
                                          else false then
                                        decide ((↑(U.aboveN (U.cleanN s).fst).length : Int) ≤ (3 : Int))
                                      else false) =
                                      true →
                                    (1 : Nat) ≤ (1000000000000 : Nat)) ∧
                                  ((bif
                                            bif
                                                bif
                                                    bif
                                                        bif decide ((U.cleanN (U.cleanN s).fst).snd = (0 : Int)) then
                                                          (U.cleanN (U.cleanN s).fst).fst.beq (U.cleanN s).fst
                                                        else false then
                                                      U.rightN (U.cleanN s).fst
                                                    else false then
                                                  U.likeN (U.cleanN s).fst (U.cleanN s).fst
                                                else false then
                                              U.likeN [(42 : Int)] (U.cleanN s).fst
                                            else false then
                                          decide ((↑(U.aboveN (U.cleanN s).fst).length : Int) ≤ (3 : Int))
                                        else false) =
                                        true →
                                      (U.cleanN s).fst.length ≤ (1000000000000 : Nat)) ∧
                                    (bif
                                            bif
                                                bif
                                                    bif
                                                        bif
                                                            bif
                                                                decide
                                                                  ((U.cleanN (U.cleanN s).fst).snd = (0 : Int)) then
                                                              (U.cleanN (U.cleanN s).fst).fst.beq (U.cleanN s).fst
                                                            else false then
                                                          U.rightN (U.cleanN s).fst
                                                        else false then
                                                      U.likeN (U.cleanN s).fst (U.cleanN s).fst
                                                    else false then
                                                  U.likeN [(42 : Int)] (U.cleanN s).fst
                                                else false then
                                              decide ((↑(U.aboveN (U.cleanN s).fst).length : Int) ≤ (3 : Int))
                                            else false then
                                          decide
                                            (U.likeN [(37 : Int)] (U.cleanN s).fst =
                                              decide ((↑(U.aboveN (U.cleanN s).fst).length : Int) = (0 : Int)))
                                        else false) =
                                        true ∧
                                      True
def vclaw10_NameMore (p : List Int) (s : List Int) (m : List Int) : Prop :=
  bif
      bif bif decide ((↑p.length : Int) > (70 : Int)) then true else decide ((↑s.length : Int) > (300 : Int)) then true
      else decide ((↑m.length : Int) > (300 : Int)) then
    true = true ∧ True
  else
    p.length ≤ (1000000000000 : Nat) ∧
      s.length ≤ (1000000000000 : Nat) ∧
        (U.likeN p s = true → p.length.add ((1 : Nat)) ≤ (9223372036854775807 : Nat)) ∧
          (U.likeN p s = true → (p.append [(42 : Int)]).length ≤ (1000000000000 : Nat)) ∧
            (U.likeN p s = true → s.length ≤ (1000000000000 : Nat)) ∧
              (U.likeN p s = true →
                  (!U.likeN (p.append [(42 : Int)]) s) = false →
                    Nat.add ((1 : Nat)) p.length ≤ (9223372036854775807 : Nat)) ∧
                (U.likeN p s = true →
                    (!U.likeN (p.append [(42 : Int)]) s) = false →
                      p.length.add (1 : Nat) ≤ (1000000000000 : Nat)) ∧
                  (U.likeN p s = true →
                      (!U.likeN (p.append [(42 : Int)]) s) = false →
                        s.length ≤ (1000000000000 : Nat)) ∧
                    bif
                        bif U.likeN p s then
                          bif !U.likeN (p.append [(42 : Int)]) s then true
                          else !U.likeN ((42 : Int) :: p) s
                        else false then
                      false = true ∧ True
                    else
                      s.length.add ((1 : Nat)) ≤ (9223372036854775807 : Nat) ∧
                        (s.append [(47 : Int)]).length.add m.length ≤
                            (9223372036854775807 : Nat) ∧
                          ((s.append [(47 : Int)]).append m).length ≤ (1000000000000 : Nat) ∧
                            ((!U.rightN ((s.append [(47 : Int)]).append m)) = false →
                                s.length ≤ (1000000000000 : Nat)) ∧
                              ((bif !U.rightN ((s.append [(47 : Int)]).append m) then true
                                    else !U.rightN s) =
                                    false →
                                  ((s.append [(47 : Int)]).append m).length ≤
                                    (1000000000000 : Nat)) ∧
                                ((bif !U.rightN ((s.append [(47 : Int)]).append m) then true
                                      else !U.rightN s) =
                                      false →
                                    U.belowN ((s.append [(47 : Int)]).append m) s = true →
                                      s.length ≤ (1000000000000 : Nat)) ∧
                                  ((bif !U.rightN ((s.append [(47 : Int)]).append m) then true
                                        else !U.rightN s) =
                                        false →
                                      (bif U.belowN ((s.append [(47 : Int)]).append m) s then
                                            !U.belowN s ((s.append [(47 : Int)]).append m)
                                          else false) =
                                          true →
                                        s.length.add ((2 : Nat)) ≤ (9223372036854775807 : Nat)) ∧
                                    ((bif !U.rightN ((s.append [(47 : Int)]).append m) then
                                            true
                                          else !U.rightN s) =
                                          false →
                                        (bif U.belowN ((s.append [(47 : Int)]).append m) s then
                                              !U.belowN s ((s.append [(47 : Int)]).append m)
                                            else false) =
                                            true →
                                          (s.append
                                                [(47 : Int),
                                                  (42 : Int)]).length ≤
                                            (1000000000000 : Nat)) ∧
                                      ((bif !U.rightN ((s.append [(47 : Int)]).append m) then
                                              true
                                            else !U.rightN s) =
                                            false →
                                          (bif
                                                  U.belowN ((s.append [(47 : Int)]).append m)
                                                    s then
                                                !U.belowN s ((s.append [(47 : Int)]).append m)
                                              else false) =
                                              true →
                                            ((s.append [(47 : Int)]).append m).length ≤
                                              (1000000000000 : Nat)) ∧
                                        (bif
                                                bif
                                                    !U.rightN
                                                        ((s.append [(47 : Int)]).append m) then
                                                  true
                                                else !U.rightN s then
                                              true
                                            else
                                              bif
                                                  bif
                                                      U.belowN
                                                        ((s.append [(47 : Int)]).append m)
                                                        s then
                                                    !U.belowN s
                                                        ((s.append [(47 : Int)]).append m)
                                                  else false then
                                                U.likeN
                                                  (s.append
                                                    [(47 : Int),
                                                      (42 : Int)])
                                                  ((s.append [(47 : Int)]).append m)
                                              else false) =
                                            true ∧
                                          True
end Go.Proofs.YtaaonbnjghjhlaaDoor
/- What is owed of the functions, proved in plain Lean. -/
set_option linter.unusedSimpArgs false
set_option linter.unusedVariables false
set_option maxRecDepth 100000
namespace Go.Proofs.YtaaonbnjghjhlaaDoor
open Go.Vc
open Go.Vc.T
theorem oklaw10_alive : vclaw10_alive := by unfold vclaw10_alive; decide +kernel
theorem oklaw10_NameCleans (s t : List Int) (hs : ShortL [.str, .str] (s, t)) : vclaw10_NameCleans s t := by
  unfold vclaw10_NameCleans
  simp only [cond_prop, cond_and, cond_or, int_add, int_sub, int_mul, int_neg, nat_add, nat_sub, nat_mul, list_append, list_beq, U.at_, maxLen_eq, decide_eq_true_eq, decide_eq_false_iff_not, bne_iff_ne, bne_eq_false_iff_eq, Bool.not_eq_true', Bool.not_eq_false', Bool.not_eq_eq_eq_not, Bool.not_true, Bool.not_false, beq_eq_false_iff_ne, beq_iff_eq, and_true, true_and, Bool.and_eq_true, Bool.or_eq_true, Bool.and_eq_false_iff, Bool.or_eq_false_iff, decide_true, beq_self_eq_true]
  refine ⟨fun _ => trivial, fun h => ?_⟩
  simp; omega
theorem oklaw10_NameLikes (p s b : List Int) (hs : ShortL [.str, .str, .str] (p, s, b)) : vclaw10_NameLikes p s b := by
  unfold vclaw10_NameLikes
  simp only [cond_prop, cond_and, cond_or, int_add, int_sub, int_mul, int_neg, nat_add, nat_sub, nat_mul, list_append, list_beq, U.at_, maxLen_eq, decide_eq_true_eq, decide_eq_false_iff_not, bne_iff_ne, bne_eq_false_iff_eq, Bool.not_eq_true', Bool.not_eq_false', Bool.not_eq_eq_eq_not, Bool.not_true, Bool.not_false, beq_eq_false_iff_ne, beq_iff_eq, and_true, true_and, Bool.and_eq_true, Bool.or_eq_true, Bool.and_eq_false_iff, Bool.or_eq_false_iff, decide_true, beq_self_eq_true]
  refine ⟨fun _ => trivial, fun h => ?_⟩
  simp; omega
theorem right_iff (s : List Int) : U.rightN s = true ↔ U.formedN s = true ∧ ((U.firstN s).map lowB = U.inboxL.map lowB → U.firstN s = U.inboxL) := by
  constructor
  · intro h
    have hf := right_formed h
    refine ⟨hf, fun he => ?_⟩
    unfold U.rightN at h
    rw [clean_of hf, decide_eq_true he] at h
    simp only [cond_true, Bool.and_eq_true, decide_eq_true_eq] at h
    have h2 := h.2
    conv at h2 => rhs; rw [← (first_spec s).1]
    exact (List.append_cancel_right h2).symm
  · rintro ⟨hf, h⟩
    unfold U.rightN
    by_cases he : (U.firstN s).map lowB = U.inboxL.map lowB
    · rw [clean_of hf, decide_eq_true he]
      simp only [cond_true, Bool.and_eq_true, decide_eq_true_eq, true_and]
      rw [← h he]; exact (first_spec s).1
    · rw [clean_same hf he]; simp
theorem okS_app : ∀ (p : Bool) (a b : List Int), U.okS p (a ++ 47 :: b) = (U.okS p a && U.okS true b)
  | p, [], b => by rw [List.nil_append, okS_c]; simp [U.okS]
  | p, x :: a, b => by
    rw [List.cons_append, okS_c, okS_c, okS_app true a b, okS_app false a b]
    cases decide (x = 47) <;> simp [Bool.and_assoc]
theorem cnt_app : ∀ a b : List Int, U.cnt47 (a ++ b) = U.cnt47 a + U.cnt47 b
  | [], b => by rw [List.nil_append]; show _ = 0 + _; omega
  | x :: a, b => by rw [List.cons_append, cnt_c, cnt_c, cnt_app a b]; omega
theorem cnt_pos (a : List Int) : 0 ≤ U.cnt47 a := by unfold U.cnt47; omega
theorem cnt_zero : ∀ a : List Int, 47 ∉ a ↔ U.cnt47 a = 0
  | [] => by simp [U.cnt47]
  | x :: a => by
    rw [cnt_c, List.mem_cons, not_or, cnt_zero a]
    have := cnt_pos a
    by_cases h : x = 47
    · rw [decide_eq_true h]; simp only [cond_true]; constructor
      · rintro ⟨h1, _⟩; exact absurd h.symm h1
      · intro; omega
    · rw [decide_eq_false h]; simp only [cond_false]; constructor
      · rintro ⟨_, h2⟩; omega
      · intro h2; exact ⟨fun h' => h h'.symm, by omega⟩
theorem okS_free : ∀ (p : Bool) (a b : List Int), 47 ∉ a → U.okS p (a ++ b) = U.okS (p && a.isEmpty) b
  | p, [], b, _ => by simp
  | p, x :: a, b, h => by
    rw [List.mem_cons, not_or] at h
    rw [List.cons_append, okS_c, decide_eq_false (fun e => h.1 e.symm), cond_false, okS_free false a b h.2]; simp
theorem formed_iff (s : List Int) : U.formedN s = true ↔ s.length ≤ 40 ∧ 1 + U.cnt47 s ≤ 4 ∧ U.okS true s = true ∧ ∀ x ∈ s, U.oddB x = false := by
  rw [formed_eq]; simp only [Bool.and_eq_true, decide_eq_true_eq, Bool.not_eq_true', List.any_eq_false, Bool.not_eq_true]
/-- what is cleaned is right -/
theorem clean_right {s : List Int} (hf : U.formedN s = true) : U.formedN (U.cleanN s).1 = true ∧ U.cleanN (U.cleanN s).1 = ((U.cleanN s).1, 0) ∧ U.rightN (U.cleanN s).1 = true := by
  have key : ∀ t, U.formedN t = true → ((U.firstN t).map lowB = U.inboxL.map lowB → U.firstN t = U.inboxL) → U.formedN t = true ∧ U.cleanN t = (t, 0) ∧ U.rightN t = true := by
    intro t h1 h2
    have hr := (right_iff t).2 ⟨h1, h2⟩
    refine ⟨h1, ?_, hr⟩
    unfold U.rightN at hr
    simp only [Bool.and_eq_true, decide_eq_true_eq] at hr
    exact Prod.ext hr.2 hr.1
  by_cases he : (U.firstN s).map lowB = U.inboxL.map lowB
  · rw [clean_of hf, decide_eq_true he]
    show U.formedN (U.inboxL ++ U.restN s) = true ∧ _
    obtain ⟨h1, h2, h3⟩ := first_spec s
    have hu := first_uniq U.inboxL (U.restN s) (by decide) h3
    have hl : (U.firstN s).length = 5 := by
      have := congrArg List.length he
      rw [List.length_map, List.length_map] at this; exact this
    refine key _ ?_ (fun _ => hu.1)
    rw [formed_iff] at *
    obtain ⟨f1, f2, f3, f4⟩ := hf
    rw [← h1] at f1 f2 f3 f4
    rw [List.length_append] at *
    rw [cnt_app] at *
    rw [okS_free _ _ _ h2] at f3
    rw [okS_free _ _ _ (by decide)]
    rw [(cnt_zero _).1 h2] at f2
    rw [(cnt_zero U.inboxL).1 (by decide)]
    refine ⟨by show 5 + _ ≤ 40; omega, f2, ?_, fun x hx => ?_⟩
    · rw [show (true && (U.firstN s).isEmpty) = false by rw [Bool.true_and, List.isEmpty_eq_false_iff_exists_mem]; exact ⟨(U.firstN s)[0]'(by omega), List.getElem_mem _⟩] at f3
      exact f3
    · rcases List.mem_append.1 hx with hx | hx
      · have : ∀ x ∈ U.inboxL, U.oddB x = false := by decide
        exact this x hx
      · exact f4 x (List.mem_append_right _ hx)
  · rw [clean_same hf he]
    exact key s hf (fun h => absurd h he)
theorem patB_plain {x : Int} (h : U.oddB x = false) : U.patB x = false := by unfold U.patB; rw [h]; rfl
theorem pattern_iff (s : List Int) : U.patternN s = true ↔ s.length ≤ 80 ∧ ∀ x ∈ s, U.patB x = false := by
  unfold U.patternN
  rw [← ge_not, (idxP_neg U.patB s 0 (by omega)).1]
  simp only [Bool.and_eq_true, decide_eq_true_eq, Bool.not_eq_true', List.any_eq_false, Bool.not_eq_true]
theorem match_self : ∀ t : List Int, (∀ x ∈ t, U.oddB x = false) → U.matchP t t = true
  | [], _ => rfl
  | x :: t, h => by
    have hx := h x (List.mem_cons_self ..)
    have h1 : x ≠ 42 := by rintro rfl; exact absurd hx (by decide)
    have h2 : x ≠ 37 := by rintro rfl; exact absurd hx (by decide)
    rw [matchP_lit h1 h2]
    simp [match_self t (fun y hy => h y (List.mem_cons_of_mem _ hy))]
theorem above_mem (s : List Int) : ∀ (n : Nat) (x : List Int), x ∈ U.aboveFrom s n ↔ ∃ i, i < n ∧ s.getD i 0 = 47 ∧ x = s.take i
  | 0, x => by simp [U.aboveFrom]
  | n + 1, x => by
    unfold U.aboveFrom
    rw [List.mem_append, above_mem s n x]
    constructor
    · rintro (⟨i, h1, h2, h3⟩ | h)
      · exact ⟨i, by omega, h2, h3⟩
      · by_cases h0 : s.getD n 0 = 47
        · rw [decide_eq_true h0] at h
          simp only [cond_true, List.mem_singleton] at h
          exact ⟨n, by omega, h0, h⟩
        · rw [decide_eq_false h0] at h; cases h
    · rintro ⟨i, h1, h2, h3⟩
      by_cases hi : i = n
      · subst hi; right; rw [decide_eq_true h2]; simp [h3]
      · exact .inl ⟨i, by omega, h2, h3⟩
theorem above_cnt (s : List Int) : ∀ n, n ≤ s.length → ((U.aboveFrom s n).length : Int) = U.cnt47 (s.take n)
  | 0, _ => by simp [U.aboveFrom, U.cnt47]
  | n + 1, h => by
    unfold U.aboveFrom
    have ih := above_cnt s n (by omega)
    rw [List.length_append, List.take_succ_eq_append_getElem (by omega), cnt_app, cnt_c, ← ih, getD_at (by omega)]
    have : U.cnt47 [] = 0 := rfl
    rw [this]
    cases decide (s[n] = 47) <;> simp
theorem above_up (s : List Int) : ∀ n, n ≤ s.length → (U.aboveFrom s n).Pairwise (fun a b => a.length < b.length)
  | 0, _ => List.Pairwise.nil
  | n + 1, h => by
    unfold U.aboveFrom
    rw [List.pairwise_append]
    refine ⟨above_up s n (by omega), ?_, ?_⟩
    · cases decide (s.getD n 0 = 47) <;> simp
    · intro a ha b hb
      obtain ⟨i, h1, h2, rfl⟩ := (above_mem s n a).1 ha
      have : b = s.take n := by
        revert hb; cases decide (s.getD n 0 = 47) <;> simp
      rw [this, List.length_take, List.length_take]; omega
theorem below_iff (s t : List Int) : U.belowN s t = true ↔ t ∈ U.aboveN s := by
  unfold U.belowN
  have := idxS_mem t (U.aboveN s) 0 (by omega)
  rw [decide_eq_true_eq]
  constructor
  · intro h; exact Decidable.byContradiction fun hn => by have := this.2 hn; omega
  · intro h; exact Decidable.byContradiction fun hn => this.1 (by omega) h
theorem above_right {s : List Int} (h : U.rightN s = true) : U.aboveN s = U.aboveFrom s s.length := by unfold U.aboveN; rw [h]; rfl
theorem cut_right {a b : List Int} (h : U.rightN (a ++ 47 :: b) = true) : U.rightN a = true := by
  rw [right_iff] at *
  obtain ⟨hf, hi⟩ := h
  have hfa : U.firstN (a ++ 47 :: b) = U.firstN a := by
    obtain ⟨h1, h2, h3⟩ := first_spec a
    have : a ++ 47 :: b = U.firstN a ++ (U.restN a ++ 47 :: b) := by rw [← List.append_assoc, h1]
    rw [this]
    refine (first_uniq _ _ h2 ?_).1
    rcases h3 with h3 | ⟨r, h3⟩
    · rw [h3]; exact .inr ⟨b, rfl⟩
    · rw [h3]; exact .inr ⟨_, rfl⟩
  rw [hfa] at hi
  refine ⟨?_, hi⟩
  rw [formed_iff] at *
  obtain ⟨f1, f2, f3, f4⟩ := hf
  rw [List.length_append, List.length_cons] at f1
  rw [cnt_app, cnt_c] at f2
  have := cnt_pos b
  rw [okS_app, Bool.and_eq_true] at f3
  have h47 : decide ((47 : Int) = 47) = true := rfl
  rw [h47] at f2; simp only [cond_true] at f2
  exact ⟨by omega, by omega, f3.1, fun x hx => f4 x (List.mem_append_left _ hx)⟩
theorem take_cut {s : List Int} {i : Nat} (h : i < s.length) (he : s.getD i 0 = 47) : s = s.take i ++ 47 :: s.drop (i + 1) := by
  rw [getD_at h] at he
  conv => lhs; rw [← List.take_append_drop i s, List.drop_eq_getElem_cons h, he]
theorem oklaw10_NameClean (s b : List Int) (hs : ShortL [.str, .str] (s, b)) : vclaw10_NameClean s b := by
  unfold vclaw10_NameClean
  cases hf : U.formedN s with
  | false =>
    have hc : U.cleanN s = ([], 3) := by unfold U.cleanN; rw [hf]; rfl
    have hr : U.rightN s = false := by unfold U.rightN; rw [hc]; rfl
    have ha : U.aboveN s = [] := by unfold U.aboveN; rw [hr]; rfl
    have hl : U.likeN [42] s = false := by unfold U.likeN; rw [hr]; simp
    rw [hc, hr, ha, hl]
    simp only [cond_prop, cond_or, decide_eq_true_eq, Bool.or_eq_true, Bool.or_eq_false_iff, decide_eq_false_iff_not, show ((3 : Int) != 0) = true from rfl]
    refine ⟨fun _ => ⟨trivial, trivial⟩, fun _ => ⟨by omega, fun _ => ⟨fun _ => by omega, fun _ => by omega, fun _ => by omega, fun _ => by omega, rfl, trivial⟩, fun h => by cases h⟩⟩
  | true =>
    obtain ⟨hft, hct, hrt⟩ := clean_right hf
    have hc0 : (U.cleanN s).2 = 0 := by rw [clean_of hf]
    rw [hc0, hct, hrt]
    have ft := (formed_iff _).1 hft
    unfold U.Ilaw10_NameClean_11
    generalize U.cleanN s = tt at *
    obtain ⟨t, e⟩ := tt
    simp only [] at *
    obtain ⟨ht1, ht2, ht3, ht4⟩ := ft
    have hA := above_right hrt
    have hpt : U.patternN t = true := (pattern_iff t).2 ⟨by omega, fun x hx => patB_plain (ht4 x hx)⟩
    have hll : U.likeN t t = true := by unfold U.likeN; rw [hpt, hrt, match_self t ht4]; rfl
    have hls : U.likeN [42] t = true := by unfold U.likeN; rw [hrt, star1]; rfl
    have hcl := above_cnt t t.length (Nat.le_refl _)
    rw [List.take_length] at hcl
    have hlp : U.likeN [37] t = decide (((U.aboveN t).length : Int) = 0) := by
      unfold U.likeN; rw [hrt, hA, hcl, Bool.eq_iff_iff, Bool.and_eq_true, Bool.true_and, part1, decide_eq_true_eq, ← cnt_zero]
      constructor
      · rintro ⟨_, h⟩ hm; exact h 47 hm rfl
      · intro h; exact ⟨by decide, fun x hx he => h (he ▸ hx)⟩
    have hup := above_up t t.length (Nat.le_refl _)
    rw [← hA] at hcl hup
    have hmem := above_mem t t.length
    rw [← hA] at hmem
    rw [hll, hls, hlp]
    have h3 : ((U.aboveN t).length : Int) ≤ 3 := by omega
    simp only [cond_prop, cond_and, cond_or, int_add, int_sub, int_mul, int_neg, nat_add, nat_sub, nat_mul, list_append, list_beq, U.at_, maxLen_eq, decide_eq_true_eq, decide_eq_false_iff_not, bne_iff_ne, bne_eq_false_iff_eq, Bool.not_eq_true', Bool.not_eq_false', Bool.not_eq_eq_eq_not, Bool.not_true, Bool.not_false, beq_eq_false_iff_ne, beq_iff_eq, and_true, true_and, Bool.and_eq_true, Bool.or_eq_true, Bool.and_eq_false_iff, Bool.or_eq_false_iff, decide_true, beq_self_eq_true, decide_eq_true h3]
    refine ⟨fun _ => trivial, fun _ => ⟨by omega, fun h => absurd rfl h, fun _ => ⟨by omega, by omega, 0, ⟨rfl, ⟨by omega, by omega⟩, hf⟩, ?_⟩⟩⟩
    rintro i ⟨⟨h0, h1⟩, _⟩
    refine ⟨fun hi => ?_, fun hi => ?_⟩
    · rw [getD_at (by omega)]
      obtain ⟨k, k1, k2, k3⟩ := (hmem _).1 (List.getElem_mem (l := U.aboveN t) (n := i.toNat) (by omega))
      have hr : U.rightN (U.aboveN t)[i.toNat] = true := by
        rw [k3]
        rw [take_cut k1 k2] at hrt
        exact cut_right hrt
      have hb : U.belowN t (U.aboveN t)[i.toNat] = true := (below_iff _ _).2 (List.getElem_mem _)
      have hlen : (U.aboveN t)[i.toNat].length ≤ 40 := by rw [k3, List.length_take]; omega
      rw [hr, hb, wrap_i (x := i + 1) (by omega) (by omega), wrap_i (x := i - 1) (by omega) (by omega)]
      simp only [cond_prop, cond_and, cond_or, int_add, int_sub, int_mul, int_neg, nat_add, nat_sub, nat_mul, list_append, list_beq, U.at_, maxLen_eq, decide_eq_true_eq, decide_eq_false_iff_not, bne_iff_ne, bne_eq_false_iff_eq, Bool.not_eq_true', Bool.not_eq_false', Bool.not_eq_eq_eq_not, Bool.not_true, Bool.not_false, beq_eq_false_iff_ne, beq_iff_eq, and_true, true_and, Bool.and_eq_true, Bool.or_eq_true, Bool.and_eq_false_iff, Bool.or_eq_false_iff]
      refine ⟨h0, hi, by omega, fun _ => h0, fun _ => hi, fun _ => by omega, fun _ _ => by omega, fun _ _ => by omega, fun _ _ => h0, fun _ _ => hi, fun hb => ?_, fun _ => ⟨i + 1, rfl, ⟨⟨by omega, by omega⟩, hf⟩, by omega⟩⟩
      exfalso
      obtain ⟨hb1, hb2⟩ := hb.resolve_left (by simp)
      rw [getD_at (by omega)] at hb2
      have := List.pairwise_iff_getElem.1 hup (i - 1).toNat i.toNat (by omega) (by omega) (by omega)
      omega
    · refine ⟨fun _ => by omega, fun _ => by omega, fun _ => by omega, fun _ => by omega, fun _ => by omega, fun _ => by omega, fun _ => by omega⟩
theorem oklaw10_NameMore (p s m : List Int) (hs : ShortL [.str, .str, .str] (p, s, m)) : vclaw10_NameMore p s m := by
  unfold vclaw10_NameMore
  simp only [cond_prop, cond_and, cond_or, int_add, int_sub, int_mul, int_neg, nat_add, nat_sub, nat_mul, list_append, list_beq, U.at_, maxLen_eq, decide_eq_true_eq, decide_eq_false_iff_not, bne_iff_ne, bne_eq_false_iff_eq, Bool.not_eq_true', Bool.not_eq_false', Bool.not_eq_eq_eq_not, Bool.not_true, Bool.not_false, beq_eq_false_iff_ne, beq_iff_eq, and_true, true_and, Bool.and_eq_true, Bool.or_eq_true, Bool.and_eq_false_iff, Bool.or_eq_false_iff, List.length_append, List.length_cons, List.length_nil]
  refine ⟨fun _ => trivial, fun hl => ?_⟩
  have hL : p.length ≤ 70 → U.likeN p s = true → U.likeN (p ++ [42]) s = true ∧ U.likeN (42 :: p) s = true := by
    intro h7 h
    unfold U.likeN at h
    simp only [Bool.and_eq_true] at h
    obtain ⟨hp, hr, hm⟩ := h
    have hp' := (pattern_iff p).1 hp
    unfold U.likeN
    simp only [Bool.and_eq_true]
    refine ⟨⟨(pattern_iff _).2 ⟨by simp; omega, fun x hx => ?_⟩, hr, ?_⟩, (pattern_iff _).2 ⟨by simp; omega, fun x hx => ?_⟩, hr, ?_⟩
    · rcases List.mem_append.1 hx with hx | hx
      · exact hp'.2 x hx
      · simp at hx; subst hx; rfl
    · rw [match_app]; exact ⟨s.length, Nat.le_refl _, by rw [List.take_length]; exact hm, star1 _⟩
    · rcases List.mem_cons.1 hx with rfl | hx
      · rfl
      · exact hp'.2 x hx
    · rw [matchP_star, suf_iff]; exact ⟨0, by omega, hm⟩
  have h7 : p.length ≤ 70 := by omega
  have hM : U.rightN (s ++ 47 :: m) = true → U.rightN s = true → U.belowN (s ++ 47 :: m) s = true ∧ U.belowN s (s ++ 47 :: m) = false ∧ U.likeN (s ++ [47, 42]) (s ++ 47 :: m) = true := by
    intro h1 h2
    have hf := (formed_iff s).1 (right_formed h2)
    have hfl := (formed_iff _).1 (right_formed h1)
    refine ⟨?_, ?_, ?_⟩
    · rw [below_iff, above_right h1, above_mem]
      refine ⟨s.length, by simp, ?_, by simp⟩
      rw [getD_at (by simp), List.getElem_append_right (Nat.le_refl _)]; simp
    · rw [Bool.eq_false_iff, Ne, below_iff, above_right h2, above_mem]
      rintro ⟨i, h1, h2, h3⟩
      have := congrArg List.length h3
      rw [List.length_take, List.length_append, List.length_cons] at this; omega
    · unfold U.likeN
      rw [h1]
      simp only [Bool.and_eq_true, true_and]
      refine ⟨(pattern_iff _).2 ⟨by rw [List.length_append]; show s.length + 2 ≤ 80; omega, fun x hx => ?_⟩, ?_⟩
      · rcases List.mem_append.1 hx with hx | hx
        · exact patB_plain (hf.2.2.2 x hx)
        · simp at hx; rcases hx with rfl | rfl <;> decide
      · rw [match_app]
        refine ⟨s.length, by simp, by rw [List.take_left]; exact match_self s hf.2.2.2, ?_⟩
        rw [List.drop_left, matchP_lit (by omega) (by omega)]
        simp [star1]
  have happ : s ++ [47] ++ m = s ++ 47 :: m := by simp
  rw [happ]
  refine ⟨by omega, by omega, fun _ => by omega, fun _ => by omega, fun _ => by omega, fun _ _ => by omega, fun _ _ => by omega, fun _ _ => by omega, fun hb => ?_, fun _ => ⟨by omega, by omega, by omega, fun _ => by omega, fun _ => by omega, fun _ _ => by omega, fun _ _ => by omega, fun _ _ => by omega, fun _ _ => by omega, ?_⟩⟩
  · obtain ⟨h1, h2⟩ := hL h7 hb.1
    rcases hb.2 with h | h
    · rw [h1] at h; cases h
    · rw [h2] at h; cases h
  · by_cases h1 : U.rightN (s ++ 47 :: m) = true
    · by_cases h2 : U.rightN s = true
      · obtain ⟨a, b, c⟩ := hM h1 h2
        exact .inr ⟨⟨a, b⟩, c⟩
      · exact .inl (.inr (by simpa using h2))
    · exact .inl (.inl (by simpa using h1))
end Go.Proofs.YtaaonbnjghjhlaaDoor
/- The functions' summaries hold of the program. -/
set_option linter.unusedSimpArgs false
set_option maxRecDepth 100000
set_option linter.unusedVariables false
namespace Go.Proofs.YtaaonbnjghjhlaaDoor
open Go.Vc
theorem wlaw10_alive (x : DenL []) : Owes Tryd.prog (cfgOf Qref10_Texts) (Llaw10_alive ) 7 (argVs [] x) [] (dlaw10_alive ) = vclaw10_alive  := by kernel_rfl
theorem qlaw10_alive : Pok 7 [] (fun x => dlaw10_alive ) := by
  refine pk (L := fun x => Llaw10_alive ) (l := Qref10_Texts) aQref10_Texts (fun _ => rfl) ?_
  intro x hv hp
  rw [wlaw10_alive]
  exact oklaw10_alive  
theorem plaw10_alive : SumOk Tryd.prog gl 7 slaw10_alive := qlaw10_alive
theorem aQlaw10_alive : AllOk Qlaw10_alive := .cons plaw10_alive aQref10_Texts
end Go.Proofs.YtaaonbnjghjhlaaDoor
