/- What functions of this seat compute, in plain Lean. -/
import Derived.Test.YtaaonbnjghjhlaaDoorB
set_option linter.unusedVariables false
set_option linter.unusedSimpArgs false
set_option maxRecDepth 100000
namespace Go.Proofs.YtaaonbnjghjhlaaDoor
open Go.Vc
namespace U
/-- between slashes there is something (p: is one just ahead?) -/
def okS : Bool → List Int → Bool
  | p, [] => !p
  | p, x :: r => cond (decide (x = 47)) (!p && okS true r) (okS false r)
def prevS (s : List Int) (i : Int) : Bool := decide (i = 0) || decide (s.getD (i - 1).toNat 0 = 47)
def cnt47 (s : List Int) : Int := ((s.filter (fun x => decide (x = 47))).length : Int)
def rowM (p s : List Int) : List Bool := (List.range (s.length + 1)).map fun k => matchP p (s.take k)
end U
namespace U
def stref10_formed_5 (s : List Int) (n : Int) (i : Int) : St2 := ⟨⟨[sS s] ++ U.n 2 ++ [sI n] ++ [sI i] ++ U.n 51, [], []⟩, 0, []⟩
def Iref10_formed_5 (s : List Int)  (n : Int) (i : Int) : Prop := 1 ≤ s.length ∧ s.length ≤ 40 ∧ at_ s i ∧ (i = s.length → prevS s i = false) ∧ 1 ≤ n ∧ n ≤ i + 1 ∧ s.any oddB = (s.drop i.toNat).any oddB ∧ okS true s = okS (prevS s i) (s.drop i.toNat) ∧ 1 + cnt47 s = n + cnt47 (s.drop i.toNat)
def stref10_Clean_6 (s : List Int) (i : Int) : St2 := ⟨⟨[sS s] ++ U.n 3 ++ [sI i] ++ U.n 41, [], []⟩, 0, []⟩
def Iref10_Clean_6 (s : List Int)  (i : Int) : Prop := 5 ≤ s.length ∧ (s.length = 5 ∨ s.getD 5 0 = 47) ∧ 0 ≤ i ∧ i ≤ 5 ∧ (s.take i.toNat).map lowB = (inboxL.take i.toNat).map lowB
def stref10_Pattern_2 (s : List Int) (i : Int) : St2 := ⟨⟨[sS s] ++ U.n 2 ++ [sI i] ++ U.n 30, [], []⟩, 0, []⟩
def Iref10_Pattern_2 (s : List Int)  (i : Int) : Prop := at_ s i ∧ i ≤ 81 ∧ s.any patB = (s.drop i.toNat).any patB
def stref10_table_4 (p s : List Int) (row : List Bool) (i : Int) : St2 := ⟨⟨[sS p] ++ [sS s] ++ U.n 3 ++ [own 0] ++ [sI i] ++ U.n 95, [], [(0, .row 4 .bool true true row)]⟩, 1, []⟩
def Iref10_table_4 (p s : List Int)  (row : List Bool) (i : Int) : Prop := at_ p i ∧ row = rowM (p.take i.toNat) s
def stref10_table_10 (p s : List Int) (row : List Bool) (w : Bool) (l : List Bool) (i : Int) (k : Int) : St2 := ⟨⟨[sS p] ++ [sS s] ++ U.n 3 ++ [own 0] ++ [sI i] ++ [own 1] ++ [sB w] ++ [sI k] ++ U.n 92, [], [(0, .row 4 .bool true true row), (1, .row 4 .bool true true l)]⟩, 2, []⟩
def Iref10_table_10 (p s : List Int) (row' : List Bool) (w' : Bool) (l' : List Bool) (i' : Int) (k' : Int) (row : List Bool) (w : Bool) (l : List Bool) (i : Int) (k : Int) : Prop :=  i = i' ∧ w = w' ∧ row = row' ∧ 1 ≤ k ∧ k ≤ s.length + 1 ∧ l = (rowM (p.take (i + 1).toNat) s).take k.toNat ++ List.replicate (s.length + 1 - k.toNat) false
def stref10_Above_5 (s : List Int) (o : List (List Int)) (i : Int) : St2 := ⟨⟨[sS s] ++ U.n 2 ++ [own 0] ++ [sI i] ++ U.n 20, [], [(0, .row 9 .str true true o)]⟩, 1, []⟩
def Iref10_Above_5 (s : List Int)  (o : List (List Int)) (i : Int) : Prop := at_ s i ∧ o = aboveFrom s i.toNat ∧ o.length ≤ i
def stref10_Below_3 (s t : List Int) (i : Int) : St2 := ⟨⟨U.n 1 ++ [sS t] ++ U.n 3 ++ [sL true .str (aboveN s)] ++ [sI i] ++ U.n 14, [], []⟩, 0, []⟩
def Iref10_Below_3 (s t : List Int)  (i : Int) : Prop := at_ (aboveN s) i ∧ idxS t ((aboveN s).drop i.toNat) i = idxS t (aboveN s) 0
def stref10_Texts_4 (a b : List (List Int)) (i : Int) : St2 := ⟨⟨[sL false .str a] ++ [sL false .str b] ++ U.n 3 ++ [sI i] ++ U.n 20, [], []⟩, 0, []⟩
def Iref10_Texts_4 (a b : List (List Int))  (i : Int) : Prop := at_ a i ∧ a.length = b.length ∧ a.take i.toNat = b.take i.toNat
end U
def lpref10_formed_5 (s : List Int) : Vc.Loop := ⟨{ keep := [0, 3, 4] }, Int × Int, fun x => U.stref10_formed_5 s x.1 x.2, fun x0 x => U.Iref10_formed_5 s  x.1 x.2, fun x => s.length - x.2.toNat⟩
def lpref10_Clean_6 (s : List Int) : Vc.Loop := ⟨{ keep := [0, 4] }, Int, fun x => U.stref10_Clean_6 s x, fun x0 x => U.Iref10_Clean_6 s  x, fun x => 5 - x.toNat⟩
def lpref10_Pattern_2 (s : List Int) : Vc.Loop := ⟨{ keep := [0, 3] }, Int, fun x => U.stref10_Pattern_2 s x, fun x0 x => U.Iref10_Pattern_2 s  x, fun x => s.length - x.toNat⟩
def lpref10_table_4 (p s : List Int) : Vc.Loop := ⟨{ keep := [0, 1, 5, 6] }, List Bool × Int, fun x => U.stref10_table_4 p s x.1 x.2, fun x0 x => U.Iref10_table_4 p s  x.1 x.2, fun x => p.length - x.2.toNat⟩
def lpref10_table_10 (p s : List Int) : Vc.Loop := ⟨{ keep := [0, 1, 5, 6, 7, 8, 9] }, List Bool × Bool × List Bool × Int × Int, fun x => U.stref10_table_10 p s x.1 x.2.1 x.2.2.1 x.2.2.2.1 x.2.2.2.2, fun x0 x => U.Iref10_table_10 p s x0.1 x0.2.1 x0.2.2.1 x0.2.2.2.1 x0.2.2.2.2 x.1 x.2.1 x.2.2.1 x.2.2.2.1 x.2.2.2.2, fun x => s.length + 1 - x.2.2.2.2.toNat⟩
def lpref10_Above_5 (s : List Int) : Vc.Loop := ⟨{ keep := [0, 3, 4], wake := [(3, 9)] }, List (List Int) × Int, fun x => U.stref10_Above_5 s x.1 x.2, fun x0 x => U.Iref10_Above_5 s  x.1 x.2, fun x => s.length - x.2.toNat⟩
def lpref10_Below_3 (s t : List Int) : Vc.Loop := ⟨{ keep := [1, 5, 6] }, Int, fun x => U.stref10_Below_3 s t x, fun x0 x => U.Iref10_Below_3 s t  x, fun x => (U.aboveN s).length - x.toNat⟩
def lpref10_Texts_4 (a b : List (List Int)) : Vc.Loop := ⟨{ keep := [0, 1, 5] }, Int, fun x => U.stref10_Texts_4 a b x, fun x0 x => U.Iref10_Texts_4 a b  x, fun x => a.length - x.toNat⟩
def dref10_plain (c : Int) : Done := rB (!(U.oddB c))
def sref10_plain : Vc.Sum := .pure [.int .u8] false fun x => dref10_plain x
def Lref10_plain (c : Int) : Nat → List V → Nat → Option Vc.Loop := noKeep
def Qref10_plain : List (Nat × Ent) := (36, .sum sref10_plain) :: Qname_Join
def dref10_formed (s : List Int) : Done := ⟨[s.length ≤ 1000000000000], .one (.bool (U.formedN s)), [], []⟩
def sref10_formed : Vc.Sum := .pure [.str] false fun x => dref10_formed x
def Lref10_formed (s : List Int) : Nat → List V → Nat → Option Vc.Loop := fun f v k => cond (Nat.beq f 24 && Nat.beq k 5) (some (lpref10_formed_5 s)) <| none
def Qref10_formed : List (Nat × Ent) := (24, .sum sref10_formed) :: Qref10_plain
def dref10_Clean (s : List Int) : Done := ⟨[s.length ≤ 1000000000000], rSE (U.cleanN s), [], []⟩
def sref10_Clean : Vc.Sum := .pure [.str] false fun x => dref10_Clean x
def Lref10_Clean (s : List Int) : Nat → List V → Nat → Option Vc.Loop := fun f v k => cond (Nat.beq f 9 && Nat.beq k 6) (some (lpref10_Clean_6 s)) <| none
def Qref10_Clean : List (Nat × Ent) := (9, .sum sref10_Clean) :: Qref10_formed
def dref10_Right (s : List Int) : Done := ⟨[s.length ≤ 1000000000000], .one (.bool (U.rightN s)), [], []⟩
def sref10_Right : Vc.Sum := .pure [.str] false fun x => dref10_Right x
def Lref10_Right (s : List Int) : Nat → List V → Nat → Option Vc.Loop := noKeep
def Qref10_Right : List (Nat × Ent) := (11, .sum sref10_Right) :: Qref10_Clean
def dref10_Pattern (s : List Int) : Done := ⟨[], .one (.bool (U.patternN s)), [], []⟩
def sref10_Pattern : Vc.Sum := .pure [.str] false fun x => dref10_Pattern x
def Lref10_Pattern (s : List Int) : Nat → List V → Nat → Option Vc.Loop := fun f v k => cond (Nat.beq f 28 && Nat.beq k 2) (some (lpref10_Pattern_2 s)) <| none
def Qref10_Pattern : List (Nat × Ent) := (28, .sum sref10_Pattern) :: Qref10_Right
def dref10_table (p : List Int) (s : List Int) : Done := ⟨[p.length ≤ 80, s.length ≤ 40], .one (.bool (U.matchP p s)), [], []⟩
def sref10_table : Vc.Sum := .pure [.str, .str] false fun x => dref10_table x.1 x.2
def Lref10_table (p : List Int) (s : List Int) : Nat → List V → Nat → Option Vc.Loop := fun f v k => cond (Nat.beq f 29 && Nat.beq k 4) (some (lpref10_table_4 p s)) <| cond (Nat.beq f 29 && Nat.beq k 10) (some (lpref10_table_10 p s)) <| none
def Qref10_table : List (Nat × Ent) := (29, .sum sref10_table) :: Qref10_Pattern
def dref10_Like (p : List Int) (s : List Int) : Done := ⟨[s.length ≤ 1000000000000], .one (.bool (U.likeN p s)), [], []⟩
def sref10_Like : Vc.Sum := .pure [.str, .str] false fun x => dref10_Like x.1 x.2
def Lref10_Like (p : List Int) (s : List Int) : Nat → List V → Nat → Option Vc.Loop := noKeep
def Qref10_Like : List (Nat × Ent) := (20, .sum sref10_Like) :: Qref10_table
def dref10_Join (p : List Int) (s : List Int) : Done := ⟨[p.length ≤ 1000000000000, s.length ≤ 1000000000000], rSE (U.joinN p s), [], []⟩
def sref10_Join : Vc.Sum := .pure [.str, .str] false fun x => dref10_Join x.1 x.2
def Lref10_Join (p : List Int) (s : List Int) : Nat → List V → Nat → Option Vc.Loop := noKeep
def Qref10_Join : List (Nat × Ent) := (19, .sum sref10_Join) :: Qref10_Like
def dref10_Above (s : List Int) : Done := ⟨[s.length ≤ 1000000000000], .one (.psl true .str (U.aboveN s)), [], []⟩
def sref10_Above : Vc.Sum := .pure [.str] false fun x => dref10_Above x
def Lref10_Above (s : List Int) : Nat → List V → Nat → Option Vc.Loop := fun f v k => cond (Nat.beq f 14 && Nat.beq k 5) (some (lpref10_Above_5 s)) <| none
def Qref10_Above : List (Nat × Ent) := (14, .sum sref10_Above) :: Qref10_Join
def dref10_Below (s : List Int) (t : List Int) : Done := ⟨[s.length ≤ 1000000000000], .one (.bool (U.belowN s t)), [], []⟩
def sref10_Below : Vc.Sum := .pure [.str, .str] false fun x => dref10_Below x.1 x.2
def Lref10_Below (s : List Int) (t : List Int) : Nat → List V → Nat → Option Vc.Loop := fun f v k => cond (Nat.beq f 16 && Nat.beq k 3) (some (lpref10_Below_3 s t)) <| none
def Qref10_Below : List (Nat × Ent) := (16, .sum sref10_Below) :: Qref10_Above
def dref10_Texts (a : List (List Int)) (b : List (List Int)) : Done := ⟨[], .one (.bool (decide (a = b))), [], []⟩
def sref10_Texts : Vc.Sum := .pure [tStrs, tStrs] false fun x => dref10_Texts x.1 x.2
def Lref10_Texts (a : List (List Int)) (b : List (List Int)) : Nat → List V → Nat → Option Vc.Loop := fun f v k => cond (Nat.beq f 12 && Nat.beq k 4) (some (lpref10_Texts_4 a b)) <| none
def Qref10_Texts : List (Nat × Ent) := (12, .sum sref10_Texts) :: Qref10_Below
end Go.Proofs.YtaaonbnjghjhlaaDoor
/- What is owed of the functions, in plain Lean (printed by a program of this project). -/
set_option maxRecDepth 100000
set_option linter.unusedVariables false
namespace Go.Proofs.YtaaonbnjghjhlaaDoor
open Go.Vc
def vcref10_plain (c : Int) : Prop :=
  (bif
          bif
              bif
                  bif
                      bif
                          bif
                              bif bif decide (c > (32 : Int)) then decide (c ≤ (126 : Int)) else false then
                                c != (40 : Int)
                              else false then
                            c != (41 : Int)
                          else false then
                        c != (123 : Int)
                      else false then
                    c != (37 : Int)
                  else false then
                c != (42 : Int)
              else false then
            c != (34 : Int)
          else false then
        c != (92 : Int)
      else false) =
      !U.oddB c ∧
    True
def vcref10_formed (s : List Int) : Prop :=
  bif bif decide ((↑s.length : Int) < (1 : Int)) then true else decide ((↑s.length : Int) > (40 : Int)) then
    false = U.formedN s ∧ True
  else
    ∃ (x0 : Int × Int),
      (U.stref10_formed_5 s (1 : Int) (0 : Int) = U.stref10_formed_5 s x0.fst x0.snd ∧
          U.Iref10_formed_5 s x0.fst x0.snd) ∧
        ∀ (x : Int × Int),
          U.Iref10_formed_5 s x.fst x.snd →
            bif decide (x.snd < (↑s.length : Int)) then
              (0 : Int) ≤ x.snd ∧
                x.snd < (↑s.length : Int) ∧
                  ((!!U.oddB (s.getD x.snd.toNat (0 : Int))) = false → (0 : Int) ≤ x.snd) ∧
                    ((!!U.oddB (s.getD x.snd.toNat (0 : Int))) = false → x.snd < (↑s.length : Int)) ∧
                      ((!!U.oddB (s.getD x.snd.toNat (0 : Int))) = false →
                          decide (s.getD x.snd.toNat (0 : Int) = (47 : Int)) = true →
                            (bif decide (x.snd = (0 : Int)) then true
                                else decide (x.snd = IntKind.i64.wrap ((↑s.length : Int).sub (1 : Int)))) =
                                false →
                              (0 : Int) ≤ IntKind.i64.wrap (x.snd.sub (1 : Int))) ∧
                        ((!!U.oddB (s.getD x.snd.toNat (0 : Int))) = false →
                            decide (s.getD x.snd.toNat (0 : Int) = (47 : Int)) = true →
                              (bif decide (x.snd = (0 : Int)) then true
                                  else decide (x.snd = IntKind.i64.wrap ((↑s.length : Int).sub (1 : Int)))) =
                                  false →
                                IntKind.i64.wrap (x.snd.sub (1 : Int)) < (↑s.length : Int)) ∧
                          bif
                              bif !!U.oddB (s.getD x.snd.toNat (0 : Int)) then true
                              else
                                bif decide (s.getD x.snd.toNat (0 : Int) = (47 : Int)) then
                                  bif
                                      bif decide (x.snd = (0 : Int)) then true
                                      else decide (x.snd = IntKind.i64.wrap ((↑s.length : Int).sub (1 : Int))) then
                                    true
                                  else
                                    decide
                                      (s.getD (IntKind.i64.wrap (x.snd.sub (1 : Int))).toNat (0 : Int) = (47 : Int))
                                else false then
                            false = U.formedN s ∧ True
                          else
                            (0 : Int) ≤ x.snd ∧
                              x.snd < (↑s.length : Int) ∧
                                bif decide (s.getD x.snd.toNat (0 : Int) = (47 : Int)) then
                                  ∃ (y : Int × Int),
                                    U.stref10_formed_5 s (IntKind.i64.wrap (x.fst.add (1 : Int)))
                                          (IntKind.i64.wrap (x.snd.add (1 : Int))) =
                                        U.stref10_formed_5 s y.fst y.snd ∧
                                      U.Iref10_formed_5 s y.fst y.snd ∧
                                        s.length.sub y.snd.toNat < s.length.sub x.snd.toNat
                                else
                                  ∃ (y : Int × Int),
                                    U.stref10_formed_5 s x.fst (IntKind.i64.wrap (x.snd.add (1 : Int))) =
                                        U.stref10_formed_5 s y.fst y.snd ∧
                                      U.Iref10_formed_5 s y.fst y.snd ∧
                                        s.length.sub y.snd.toNat < s.length.sub x.snd.toNat
            else decide (x.fst ≤ (4 : Int)) = U.formedN s ∧ True
def vcref10_Clean (s : List Int) : Prop :=
  s.length ≤ (1000000000000 : Nat) ∧
    bif !U.formedN s then [] = (U.cleanN s).fst ∧ (3 : Int) = (U.cleanN s).snd ∧ True
    else
      (decide ((↑s.length : Int) < (5 : Int)) = false →
          decide ((↑s.length : Int) > (5 : Int)) = true → (0 : Int) ≤ (5 : Int)) ∧
        (decide ((↑s.length : Int) < (5 : Int)) = false →
            decide ((↑s.length : Int) > (5 : Int)) = true → (5 : Int) < (↑s.length : Int)) ∧
          bif
              bif decide ((↑s.length : Int) < (5 : Int)) then true
              else
                bif decide ((↑s.length : Int) > (5 : Int)) then s.getD (5 : Nat) (0 : Int) != (47 : Int)
                else false then
            s = (U.cleanN s).fst ∧ (0 : Int) = (U.cleanN s).snd ∧ True
          else
            ∃ (x0 : Int),
              (U.stref10_Clean_6 s (0 : Int) = U.stref10_Clean_6 s x0 ∧ U.Iref10_Clean_6 s x0) ∧
                ∀ (x : Int),
                  U.Iref10_Clean_6 s x →
                    bif decide (x < (5 : Int)) then
                      (0 : Int) ≤ x ∧
                        x < (↑s.length : Int) ∧
                          bif
                              bif decide (s.getD x.toNat (0 : Int) ≥ (97 : Int)) then
                                decide (s.getD x.toNat (0 : Int) ≤ (122 : Int))
                              else false then
                            (0 : Int) ≤ x ∧
                              x < (↑((5 : Nat)) : Int) ∧
                                bif
                                    IntKind.u8.wrap ((s.getD x.toNat (0 : Int)).sub (32 : Int)) !=
                                      [(73 : Int), (78 : Int),
                                            (66 : Int), (79 : Int),
                                            (88 : Int)].getD
                                        x.toNat (0 : Int) then
                                  s = (U.cleanN s).fst ∧ (0 : Int) = (U.cleanN s).snd ∧ True
                                else
                                  ∃ (y : Int),
                                    U.stref10_Clean_6 s (IntKind.i64.wrap (x.add (1 : Int))) = U.stref10_Clean_6 s y ∧
                                      U.Iref10_Clean_6 s y ∧ Nat.sub (5 : Nat) y.toNat < Nat.sub (5 : Nat) x.toNat
                          else
                            (0 : Int) ≤ x ∧
                              x < (↑((5 : Nat)) : Int) ∧
                                bif
                                    s.getD x.toNat (0 : Int) !=
                                      [(73 : Int), (78 : Int),
                                            (66 : Int), (79 : Int),
                                            (88 : Int)].getD
                                        x.toNat (0 : Int) then
                                  s = (U.cleanN s).fst ∧ (0 : Int) = (U.cleanN s).snd ∧ True
                                else
                                  ∃ (y : Int),
                                    U.stref10_Clean_6 s (IntKind.i64.wrap (x.add (1 : Int))) = U.stref10_Clean_6 s y ∧
                                      U.Iref10_Clean_6 s y ∧ Nat.sub (5 : Nat) y.toNat < Nat.sub (5 : Nat) x.toNat
                    else
                      (0 : Int) ≤ (5 : Int) ∧
                        (5 : Int) ≤ (↑s.length : Int) ∧
                          (↑s.length : Int) ≤ (↑s.length : Int) ∧
                            Nat.add ((5 : Nat))
                                  (List.take ((↑s.length : Int).toNat.sub (5 : Nat))
                                      (List.drop (5 : Nat) s)).length ≤
                                (9223372036854775807 : Nat) ∧
                              (73 : Int) ::
                                    (78 : Int) ::
                                      (66 : Int) ::
                                        (79 : Int) ::
                                          (88 : Int) ::
                                            List.take ((↑s.length : Int).toNat.sub (5 : Nat))
                                              (List.drop (5 : Nat) s) =
                                  (U.cleanN s).fst ∧
                                (0 : Int) = (U.cleanN s).snd ∧ True
def vcref10_Right (s : List Int) : Prop :=
  s.length ≤ (1000000000000 : Nat) ∧
    (bif decide ((U.cleanN s).snd = (0 : Int)) then (U.cleanN s).fst.beq s else false) = U.rightN s ∧ True
def vcref10_Pattern (s : List Int) : Prop :=
  ∃ (x0 : Int),
    (U.stref10_Pattern_2 s (0 : Int) = U.stref10_Pattern_2 s x0 ∧ U.Iref10_Pattern_2 s x0) ∧
      ∀ (x : Int),
        U.Iref10_Pattern_2 s x →
          bif bif decide (x < (↑s.length : Int)) then decide (x < (81 : Int)) else false then
            (0 : Int) ≤ x ∧
              x < (↑s.length : Int) ∧
                ((!!U.oddB (s.getD x.toNat (0 : Int))) = true → (0 : Int) ≤ x) ∧
                  ((!!U.oddB (s.getD x.toNat (0 : Int))) = true → x < (↑s.length : Int)) ∧
                    ((bif !!U.oddB (s.getD x.toNat (0 : Int)) then s.getD x.toNat (0 : Int) != (42 : Int) else false) =
                          true →
                        (0 : Int) ≤ x) ∧
                      ((bif !!U.oddB (s.getD x.toNat (0 : Int)) then s.getD x.toNat (0 : Int) != (42 : Int)
                            else false) =
                            true →
                          x < (↑s.length : Int)) ∧
                        bif
                            bif
                                bif !!U.oddB (s.getD x.toNat (0 : Int)) then s.getD x.toNat (0 : Int) != (42 : Int)
                                else false then
                              s.getD x.toNat (0 : Int) != (37 : Int)
                            else false then
                          false = U.patternN s ∧ True
                        else
                          ∃ (y : Int),
                            U.stref10_Pattern_2 s (IntKind.i64.wrap (x.add (1 : Int))) = U.stref10_Pattern_2 s y ∧
                              U.Iref10_Pattern_2 s y ∧ s.length.sub y.toNat < s.length.sub x.toNat
          else decide ((↑s.length : Int) ≤ (80 : Int)) = U.patternN s ∧ True
def vcref10_table (p : List Int) (s : List Int) : Prop :=
  (0 : Int) ≤ IntKind.i64.wrap ((↑s.length : Int).add (1 : Int)) ∧
    IntKind.i64.wrap ((↑s.length : Int).add (1 : Int)) ≤ IntKind.i64.wrap ((↑s.length : Int).add (1 : Int)) ∧
      (IntKind.i64.wrap ((↑s.length : Int).add (1 : Int))).mul (↑(1 : Nat) : Int) ≤ (140737488355328 : Int) ∧
        IntKind.i64.wrap ((↑s.length : Int).add (1 : Int)) ≤ (9223372036854775807 : Int) ∧
          (0 : Int) ≤ (0 : Int) ∧
            (0 : Int) <
                (↑(List.replicate (IntKind.i64.wrap ((↑s.length : Int).add (1 : Int))).toNat false).length : Int) ∧
              (0 : Nat) <
                  (List.replicate (IntKind.i64.wrap ((↑s.length : Int).add (1 : Int))).toNat false).length ∧
                ∃ (x0 : List Bool × Int),
                  (U.stref10_table_4 p s
                          ((List.replicate (IntKind.i64.wrap ((↑s.length : Int).add (1 : Int))).toNat false).set
                            (0 : Nat) true)
                          (0 : Int) =
                        U.stref10_table_4 p s x0.fst x0.snd ∧
                      U.Iref10_table_4 p s x0.fst x0.snd) ∧
                    ∀ (x : List Bool × Int),
                      U.Iref10_table_4 p s x.fst x.snd →
                        bif decide (x.snd < (↑p.length : Int)) then
                          (0 : Int) ≤ IntKind.i64.wrap ((↑s.length : Int).add (1 : Int)) ∧
                            IntKind.i64.wrap ((↑s.length : Int).add (1 : Int)) ≤
                                IntKind.i64.wrap ((↑s.length : Int).add (1 : Int)) ∧
                              (IntKind.i64.wrap ((↑s.length : Int).add (1 : Int))).mul (↑(1 : Nat) : Int) ≤
                                  (140737488355328 : Int) ∧
                                IntKind.i64.wrap ((↑s.length : Int).add (1 : Int)) ≤ (9223372036854775807 : Int) ∧
                                  (0 : Int) ≤ x.snd ∧
                                    x.snd < (↑p.length : Int) ∧
                                      (decide (p.getD x.snd.toNat (0 : Int) = (42 : Int)) = false → (0 : Int) ≤ x.snd) ∧
                                        (decide (p.getD x.snd.toNat (0 : Int) = (42 : Int)) = false →
                                            x.snd < (↑p.length : Int)) ∧
                                          ((bif decide (p.getD x.snd.toNat (0 : Int) = (42 : Int)) then true
                                                else decide (p.getD x.snd.toNat (0 : Int) = (37 : Int))) =
                                                true →
                                              (0 : Int) ≤ (0 : Int)) ∧
                                            ((bif decide (p.getD x.snd.toNat (0 : Int) = (42 : Int)) then true
                                                  else decide (p.getD x.snd.toNat (0 : Int) = (37 : Int))) =
                                                  true →
                                                (0 : Int) < (↑x.fst.length : Int)) ∧
                                              ((bif decide (p.getD x.snd.toNat (0 : Int) = (42 : Int)) then true
                                                    else decide (p.getD x.snd.toNat (0 : Int) = (37 : Int))) =
                                                    true →
                                                  (0 : Nat) < x.fst.length) ∧
                                                (0 : Int) ≤ (0 : Int) ∧
                                                  (0 : Int) <
                                                      (↑(List.replicate
                                                              (IntKind.i64.wrap ((↑s.length : Int).add (1 : Int))).toNat
                                                              false).length :
                                                        Int) ∧
                                                    (0 : Nat) <
                                                        (List.replicate
                                                            (IntKind.i64.wrap ((↑s.length : Int).add (1 : Int))).toNat
                                                            false).length ∧
                                                      ∃ (x0 : List Bool × Bool × List Bool × Int × Int),
                                                        (U.stref10_table_10 p s x.fst
                                                                (bif
                                                                    decide
                                                                      (p.getD x.snd.toNat (0 : Int) = (42 : Int)) then
                                                                  true
                                                                else decide (p.getD x.snd.toNat (0 : Int) = (37 : Int)))
                                                                ((List.replicate
                                                                      (IntKind.i64.wrap
                                                                          ((↑s.length : Int).add (1 : Int))).toNat
                                                                      false).set
                                                                  (0 : Nat)
                                                                  (bif
                                                                      bif
                                                                          decide
                                                                            (p.getD x.snd.toNat (0 : Int) =
                                                                              (42 : Int)) then
                                                                        true
                                                                      else
                                                                        decide
                                                                          (p.getD x.snd.toNat (0 : Int) =
                                                                            (37 : Int)) then
                                                                    x.fst.getD (0 : Nat) false
                                                                  else false))
                                                                x.snd (1 : Int) =
                                                              U.stref10_table_10 p s x0.fst x0.snd.fst x0.snd.snd.fst
                                                                x0.snd.snd.snd.fst x0.snd.snd.snd.snd ∧
                                                            U.Iref10_table_10 p s x0.fst x0.snd.fst x0.snd.snd.fst
                                                              x0.snd.snd.snd.fst x0.snd.snd.snd.snd x0.fst x0.snd.fst
                                                              x0.snd.snd.fst x0.snd.snd.snd.fst x0.snd.snd.snd.snd) ∧
                                                          ∀ (x_1 : List Bool × Bool × List Bool × Int × Int),
                                                            U.Iref10_table_10 p s x0.fst x0.snd.fst x0.snd.snd.fst
                                                                x0.snd.snd.snd.fst x0.snd.snd.snd.snd x_1.fst
                                                                x_1.snd.fst x_1.snd.snd.fst x_1.snd.snd.snd.fst
                                                                x_1.snd.snd.snd.snd →
                                                              bif decide (x_1.snd.snd.snd.snd ≤ (↑s.length : Int)) then
                                                                bif x_1.snd.fst then
                                                                  (0 : Int) ≤ x_1.snd.snd.snd.snd ∧
                                                                    x_1.snd.snd.snd.snd < (↑x_1.fst.length : Int) ∧
                                                                      x_1.snd.snd.snd.snd.toNat < x_1.fst.length ∧
                                                                        (x_1.fst.getD x_1.snd.snd.snd.snd.toNat false =
                                                                              false →
                                                                            (0 : Int) ≤
                                                                              IntKind.i64.wrap
                                                                                (x_1.snd.snd.snd.snd.sub (1 : Int))) ∧
                                                                          (x_1.fst.getD x_1.snd.snd.snd.snd.toNat
                                                                                  false =
                                                                                false →
                                                                              IntKind.i64.wrap
                                                                                  (x_1.snd.snd.snd.snd.sub (1 : Int)) <
                                                                                (↑x_1.snd.snd.fst.length : Int)) ∧
                                                                            (x_1.fst.getD x_1.snd.snd.snd.snd.toNat
                                                                                    false =
                                                                                  false →
                                                                                (IntKind.i64.wrap
                                                                                      (x_1.snd.snd.snd.snd.sub
                                                                                        (1 : Int))).toNat <
                                                                                  x_1.snd.snd.fst.length) ∧
                                                                              (x_1.fst.getD x_1.snd.snd.snd.snd.toNat
                                                                                      false =
                                                                                    false →
                                                                                  x_1.snd.snd.fst.getD
                                                                                        (IntKind.i64.wrap
                                                                                            (x_1.snd.snd.snd.snd.sub
                                                                                              (1 : Int))).toNat
                                                                                        false =
                                                                                      true →
                                                                                    (0 : Int) ≤ x_1.snd.snd.snd.fst) ∧
                                                                                (x_1.fst.getD x_1.snd.snd.snd.snd.toNat
                                                                                        false =
                                                                                      false →
                                                                                    x_1.snd.snd.fst.getD
                                                                                          (IntKind.i64.wrap
                                                                                              (x_1.snd.snd.snd.snd.sub
                                                                                                (1 : Int))).toNat
                                                                                          false =
                                                                                        true →
                                                                                      x_1.snd.snd.snd.fst <
                                                                                        (↑p.length : Int)) ∧
                                                                                  (x_1.fst.getD
                                                                                          x_1.snd.snd.snd.snd.toNat
                                                                                          false =
                                                                                        false →
                                                                                      x_1.snd.snd.fst.getD
                                                                                            (IntKind.i64.wrap
                                                                                                (x_1.snd.snd.snd.snd.sub
                                                                                                  (1 : Int))).toNat
                                                                                            false =
                                                                                          true →
                                                                                        decide
                                                                                              (p.getD
                                                                                                  x_1.snd.snd.snd.fst.toNat
                                                                                                  (0 : Int) =
                                                                                                (42 : Int)) =
                                                                                            false →
                                                                                          (0 : Int) ≤
                                                                                            IntKind.i64.wrap
                                                                                              (x_1.snd.snd.snd.snd.sub
                                                                                                (1 : Int))) ∧
                                                                                    (x_1.fst.getD
                                                                                            x_1.snd.snd.snd.snd.toNat
                                                                                            false =
                                                                                          false →
                                                                                        x_1.snd.snd.fst.getD
                                                                                              (IntKind.i64.wrap
                                                                                                  (x_1.snd.snd.snd.snd.sub
                                                                                                    (1 : Int))).toNat
                                                                                              false =
                                                                                            true →
                                                                                          decide
                                                                                                (p.getD
                                                                                                    x_1.snd.snd.snd.fst.toNat
                                                                                                    (0 : Int) =
                                                                                                  (42 : Int)) =
                                                                                              false →
                                                                                            IntKind.i64.wrap
                                                                                                (x_1.snd.snd.snd.snd.sub
                                                                                                  (1 : Int)) <
                                                                                              (↑s.length : Int)) ∧
                                                                                      (0 : Int) ≤ x_1.snd.snd.snd.snd ∧
                                                                                        x_1.snd.snd.snd.snd <
                                                                                            (↑x_1.snd.snd.fst.length :
                                                                                              Int) ∧
                                                                                          x_1.snd.snd.snd.snd.toNat <
                                                                                              x_1.snd.snd.fst.length ∧
                                                                                            ∃ (y :
                                                                                              List Bool ×
                                                                                                Bool ×
                                                                                                  List Bool ×
                                                                                                    Int × Int),
                                                                                              U.stref10_table_10 p s
                                                                                                    x_1.fst x_1.snd.fst
                                                                                                    (x_1.snd.snd.fst.set
                                                                                                      x_1.snd.snd.snd.snd.toNat
                                                                                                      (bif
                                                                                                          x_1.fst.getD
                                                                                                            x_1.snd.snd.snd.snd.toNat
                                                                                                            false then
                                                                                                        true
                                                                                                      else
                                                                                                        bif
                                                                                                            x_1.snd.snd.fst.getD
                                                                                                              (IntKind.i64.wrap
                                                                                                                  (x_1.snd.snd.snd.snd.sub
                                                                                                                    (1 :
                                                                                                                      Int))).toNat
                                                                                                              false then
                                                                                                          bif
                                                                                                              decide
                                                                                                                (p.getD
                                                                                                                    x_1.snd.snd.snd.fst.toNat
                                                                                                                    (0 :
                                                                                                                      Int) =
                                                                                                                  (42 :
                                                                                                                    Int)) then
                                                                                                            true
                                                                                                          else
                                                                                                            s.getD
                                                                                                                (IntKind.i64.wrap
                                                                                                                    (x_1.snd.snd.snd.snd.sub
                                                                                                                      (1 :
                                                                                                                        Int))).toNat
                                                                                                                (0 :
                                                                                                                  Int) !=
                                                                                                              (47 : Int)
                                                                                                        else false))
                                                                                                    x_1.snd.snd.snd.fst
                                                                                                    (IntKind.i64.wrap
                                                                                                      (x_1.snd.snd.snd.snd.add
                                                                                                        (1 : Int))) =
                                                                                                  U.stref10_table_10 p s
                                                                                                    y.fst y.snd.fst
                                                                                                    y.snd.snd.fst
                                                                                                    y.snd.snd.snd.fst
                                                                                                    y.snd.snd.snd.snd ∧
                                                                                                U.Iref10_table_10 p s
                                                                                                    x0.fst x0.snd.fst
                                                                                                    x0.snd.snd.fst
                                                                                                    x0.snd.snd.snd.fst
                                                                                                    x0.snd.snd.snd.snd
                                                                                                    y.fst y.snd.fst
                                                                                                    y.snd.snd.fst
                                                                                                    y.snd.snd.snd.fst
                                                                                                    y.snd.snd.snd.snd ∧
                                                                                                  (s.length.add
                                                                                                          (1 : Nat)).sub
                                                                                                      y.snd.snd.snd.snd.toNat <
                                                                                                    (s.length.add
                                                                                                          (1 : Nat)).sub
                                                                                                      x_1.snd.snd.snd.snd.toNat
                                                                else
                                                                  (0 : Int) ≤
                                                                      IntKind.i64.wrap
                                                                        (x_1.snd.snd.snd.snd.sub (1 : Int)) ∧
                                                                    IntKind.i64.wrap
                                                                          (x_1.snd.snd.snd.snd.sub (1 : Int)) <
                                                                        (↑x_1.fst.length : Int) ∧
                                                                      (IntKind.i64.wrap
                                                                              (x_1.snd.snd.snd.snd.sub
                                                                                (1 : Int))).toNat <
                                                                          x_1.fst.length ∧
                                                                        (x_1.fst.getD
                                                                                (IntKind.i64.wrap
                                                                                    (x_1.snd.snd.snd.snd.sub
                                                                                      (1 : Int))).toNat
                                                                                false =
                                                                              true →
                                                                            (0 : Int) ≤
                                                                              IntKind.i64.wrap
                                                                                (x_1.snd.snd.snd.snd.sub (1 : Int))) ∧
                                                                          (x_1.fst.getD
                                                                                  (IntKind.i64.wrap
                                                                                      (x_1.snd.snd.snd.snd.sub
                                                                                        (1 : Int))).toNat
                                                                                  false =
                                                                                true →
                                                                              IntKind.i64.wrap
                                                                                  (x_1.snd.snd.snd.snd.sub (1 : Int)) <
                                                                                (↑s.length : Int)) ∧
                                                                            (x_1.fst.getD
                                                                                    (IntKind.i64.wrap
                                                                                        (x_1.snd.snd.snd.snd.sub
                                                                                          (1 : Int))).toNat
                                                                                    false =
                                                                                  true →
                                                                                (0 : Int) ≤ x_1.snd.snd.snd.fst) ∧
                                                                              (x_1.fst.getD
                                                                                      (IntKind.i64.wrap
                                                                                          (x_1.snd.snd.snd.snd.sub
                                                                                            (1 : Int))).toNat
                                                                                      false =
                                                                                    true →
                                                                                  x_1.snd.snd.snd.fst <
                                                                                    (↑p.length : Int)) ∧
                                                                                (0 : Int) ≤ x_1.snd.snd.snd.snd ∧
                                                                                  x_1.snd.snd.snd.snd <
                                                                                      (↑x_1.snd.snd.fst.length : Int) ∧
                                                                                    x_1.snd.snd.snd.snd.toNat <
                                                                                        x_1.snd.snd.fst.length ∧
                                                                                      ∃ (y :
                                                                                        List Bool ×
                                                                                          Bool × List Bool × Int × Int),
                                                                                        U.stref10_table_10 p s x_1.fst
                                                                                              x_1.snd.fst
                                                                                              (x_1.snd.snd.fst.set
                                                                                                x_1.snd.snd.snd.snd.toNat
                                                                                                (bif
                                                                                                    x_1.fst.getD
                                                                                                      (IntKind.i64.wrap
                                                                                                          (x_1.snd.snd.snd.snd.sub
                                                                                                            (1 :
                                                                                                              Int))).toNat
                                                                                                      false then
                                                                                                  decide
                                                                                                    (s.getD
                                                                                                        (IntKind.i64.wrap
                                                                                                            (x_1.snd.snd.snd.snd.sub
                                                                                                              (1 :
                                                                                                                Int))).toNat
                                                                                                        (0 : Int) =
                                                                                                      p.getD
                                                                                                        x_1.snd.snd.snd.fst.toNat
                                                                                                        (0 : Int))
                                                                                                else false))
                                                                                              x_1.snd.snd.snd.fst
                                                                                              (IntKind.i64.wrap
                                                                                                (x_1.snd.snd.snd.snd.add
                                                                                                  (1 : Int))) =
                                                                                            U.stref10_table_10 p s y.fst
                                                                                              y.snd.fst y.snd.snd.fst
                                                                                              y.snd.snd.snd.fst
                                                                                              y.snd.snd.snd.snd ∧
                                                                                          U.Iref10_table_10 p s x0.fst
                                                                                              x0.snd.fst x0.snd.snd.fst
                                                                                              x0.snd.snd.snd.fst
                                                                                              x0.snd.snd.snd.snd y.fst
                                                                                              y.snd.fst y.snd.snd.fst
                                                                                              y.snd.snd.snd.fst
                                                                                              y.snd.snd.snd.snd ∧
                                                                                            (s.length.add (1 : Nat)).sub
                                                                                                y.snd.snd.snd.snd.toNat <
                                                                                              (s.length.add
                                                                                                    (1 : Nat)).sub
                                                                                                x_1.snd.snd.snd.snd.toNat
                                                              else
                                                                ∃ (y : List Bool × Int),
                                                                  U.stref10_table_4 p s x_1.snd.snd.fst
                                                                        (IntKind.i64.wrap
                                                                          (x_1.snd.snd.snd.fst.add (1 : Int))) =
                                                                      U.stref10_table_4 p s y.fst y.snd ∧
                                                                    U.Iref10_table_4 p s y.fst y.snd ∧
                                                                      p.length.sub y.snd.toNat <
                                                                        p.length.sub x.snd.toNat
                        else
                          (0 : Int) ≤ (↑s.length : Int) ∧
                            (↑s.length : Int) < (↑x.fst.length : Int) ∧
                              (↑s.length : Int).toNat < x.fst.length ∧
                                x.fst.getD (↑s.length : Int).toNat false = U.matchP p s ∧ True
def vcref10_Like (p : List Int) (s : List Int) : Prop :=
  ((!U.patternN p) = false → s.length ≤ (1000000000000 : Nat)) ∧
    bif bif !U.patternN p then true else !U.rightN s then false = U.likeN p s ∧ True
    else p.length ≤ (80 : Nat) ∧ s.length ≤ (40 : Nat) ∧ U.matchP p s = U.likeN p s ∧ True
def vcref10_Join (p : List Int) (s : List Int) : Prop :=
  ((bif decide ((↑p.length : Int) > (80 : Int)) then true else decide ((↑s.length : Int) > (80 : Int))) = false →
      p.length.add s.length ≤ (9223372036854775807 : Nat)) ∧
    bif
        bif bif decide ((↑p.length : Int) > (80 : Int)) then true else decide ((↑s.length : Int) > (80 : Int)) then true
        else !U.patternN (p.append s) then
      [] = (U.joinN p s).fst ∧ (3 : Int) = (U.joinN p s).snd ∧ True
    else
      p.length.add s.length ≤ (9223372036854775807 : Nat) ∧
        p.append s = (U.joinN p s).fst ∧ (0 : Int) = (U.joinN p s).snd ∧ True
def vcref10_Above (s : List Int) : Prop :=
  s.length ≤ (1000000000000 : Nat) ∧
    bif !U.rightN s then [] = U.aboveN s ∧ True
    else
      ∃ (x0 : List (List Int) × Int),
        (U.stref10_Above_5 s [] (0 : Int) = U.stref10_Above_5 s x0.fst x0.snd ∧ U.Iref10_Above_5 s x0.fst x0.snd) ∧
          ∀ (x : List (List Int) × Int),
            U.Iref10_Above_5 s x.fst x.snd →
              bif decide (x.snd < (↑s.length : Int)) then
                (0 : Int) ≤ x.snd ∧
                  x.snd < (↑s.length : Int) ∧
                    bif decide (s.getD x.snd.toNat (0 : Int) = (47 : Int)) then
                      (0 : Int) ≤ (0 : Int) ∧
                        (0 : Int) ≤ x.snd ∧
                          x.snd ≤ (↑s.length : Int) ∧
                            (x.fst.length.add ((1 : Nat))).mul (16 : Nat) ≤ (140737488355328 : Nat) ∧
                              x.fst.length.add ((1 : Nat)) ≤ maxLen ∧
                                ∃ (y : List (List Int) × Int),
                                  U.stref10_Above_5 s
                                        (x.fst.append
                                          ([[]].set (0 : Nat)
                                            (List.take (x.snd.toNat.sub (0 : Nat))
                                              (List.drop (0 : Nat) s))))
                                        (IntKind.i64.wrap (x.snd.add (1 : Int))) =
                                      U.stref10_Above_5 s y.fst y.snd ∧
                                    U.Iref10_Above_5 s y.fst y.snd ∧ s.length.sub y.snd.toNat < s.length.sub x.snd.toNat
                    else
                      ∃ (y : List (List Int) × Int),
                        U.stref10_Above_5 s x.fst (IntKind.i64.wrap (x.snd.add (1 : Int))) =
                            U.stref10_Above_5 s y.fst y.snd ∧
                          U.Iref10_Above_5 s y.fst y.snd ∧ s.length.sub y.snd.toNat < s.length.sub x.snd.toNat
              else x.fst = U.aboveN s ∧ True
def vcref10_Below (s : List Int) (t : List Int) : Prop :=
  s.length ≤ (1000000000000 : Nat) ∧
    ∃ (x0 : Int),
      (U.stref10_Below_3 s t (0 : Int) = U.stref10_Below_3 s t x0 ∧ U.Iref10_Below_3 s t x0) ∧
        ∀ (x : Int),
          U.Iref10_Below_3 s t x →
            bif decide (x < (↑(U.aboveN s).length : Int)) then
              (0 : Int) ≤ x ∧
                x < (↑(U.aboveN s).length : Int) ∧
                  bif ((U.aboveN s).getD x.toNat []).beq t then true = U.belowN s t ∧ True
                  else
                    ∃ (y : Int),
                      U.stref10_Below_3 s t (IntKind.i64.wrap (x.add (1 : Int))) = U.stref10_Below_3 s t y ∧
                        U.Iref10_Below_3 s t y ∧ (U.aboveN s).length.sub y.toNat < (U.aboveN s).length.sub x.toNat
            else false = U.belowN s t ∧ True
def vcref10_Texts (a : List (List Int)) (b : List (List Int)) : Prop :=
  bif (↑a.length : Int) != (↑b.length : Int) then false = decide (a = b) ∧ True
  else
    ∃ (x0 : Int),
      (U.stref10_Texts_4 a b (0 : Int) = U.stref10_Texts_4 a b x0 ∧ U.Iref10_Texts_4 a b x0) ∧
        ∀ (x : Int),
          U.Iref10_Texts_4 a b x →
            bif decide (x < (↑a.length : Int)) then
              (0 : Int) ≤ x ∧
                x < (↑a.length : Int) ∧
                  (0 : Int) ≤ x ∧
                    x < (↑b.length : Int) ∧
                      bif !(a.getD x.toNat []).beq (b.getD x.toNat []) then false = decide (a = b) ∧ True
                      else
                        ∃ (y : Int),
                          U.stref10_Texts_4 a b (IntKind.i64.wrap (x.add (1 : Int))) = U.stref10_Texts_4 a b y ∧
                            U.Iref10_Texts_4 a b y ∧ a.length.sub y.toNat < a.length.sub x.toNat
            else true = decide (a = b) ∧ True
end Go.Proofs.YtaaonbnjghjhlaaDoor
/- What is owed of the functions, proved in plain Lean. -/
set_option linter.unusedSimpArgs false
set_option linter.unusedVariables false
set_option maxRecDepth 100000
namespace Go.Proofs.YtaaonbnjghjhlaaDoor
open Go.Vc
open Go.Vc.T
theorem idxB_mem : ∀ (l : List Int) (c : Int), (idxB l c ≥ 0) ↔ c ∈ l
  | [], c => by simp [idxB]
  | x :: l, c => by
    have ih := idxB_mem l c
    have hb := idxB_bounds l c
    unfold idxB; rw [List.mem_cons]
    by_cases hx : x = c
    · simp [hx]
    · rw [if_neg hx]
      by_cases hi : idxB l c = -1
      · rw [if_pos hi]
        constructor
        · intro h; omega
        · rintro (h | h)
          · exact absurd h.symm hx
          · have := ih.2 h; omega
      · rw [if_neg hi]
        constructor
        · intro _; exact .inr (ih.1 (by omega))
        · intro _; omega
theorem odd_eq (c : Int) : U.oddB c = (decide (c ≤ 32) || decide (c > 126) || decide (c = 40) || decide (c = 41) || decide (c = 123) || decide (c = 37) || decide (c = 42) || decide (c = 34) || decide (c = 92)) := by
  have e : decide (idxB [40, 41, 123, 37, 42, 34, 92] c ≥ 0) = (decide (c = 40) || decide (c = 41) || decide (c = 123) || decide (c = 37) || decide (c = 42) || decide (c = 34) || decide (c = 92)) := by
    rw [Bool.eq_iff_iff]
    simp only [decide_eq_true_eq, Bool.or_eq_true]
    have := idxB_mem [40, 41, 123, 37, 42, 34, 92] c
    rw [this]; simp only [List.mem_cons, List.not_mem_nil, or_false]
    omega
  unfold U.oddB; rw [e]; simp only [Bool.or_assoc]
theorem okref10_plain (c : Int) : vcref10_plain c := by
  unfold vcref10_plain
  refine ⟨?_, trivial⟩
  rw [odd_eq, Bool.eq_iff_iff]
  simp only [cond_and, Bool.and_eq_true, decide_eq_true_eq, bne_iff_ne, Bool.not_eq_true', Bool.or_eq_false_iff, decide_eq_false_iff_not]
  omega
theorem okref10_Right (s : List Int) (h : s.length ≤ 1000000000000) : vcref10_Right s := by
  refine ⟨h, ?_, trivial⟩
  unfold U.rightN
  rw [cond_and, list_beq]; congr 1
  rw [Bool.eq_iff_iff]; simp
theorem okref10_Like (p s : List Int) (h : s.length ≤ 1000000000000) : vcref10_Like p s := by
  unfold vcref10_Like U.likeN
  refine ⟨fun _ => h, ?_⟩
  cases hp : U.patternN p with
  | false => exact ⟨rfl, trivial⟩
  | true =>
    cases hr : U.rightN s with
    | false => exact ⟨rfl, trivial⟩
    | true =>
      have h1 := hp; unfold U.patternN at h1
      simp only [Bool.and_eq_true, decide_eq_true_eq] at h1
      exact ⟨h1.1, formed_len (right_formed hr), by simp, trivial⟩
theorem okref10_Join (p s : List Int) (h1 : p.length ≤ 1000000000000) (h2 : s.length ≤ 1000000000000) : vcref10_Join p s := by
  unfold vcref10_Join U.joinN
  simp only [list_append, nat_add, cond_or]
  refine ⟨fun _ => by omega, ?_⟩
  cases hp : U.patternN (p ++ s) with
  | false => rw [Bool.not_false, Bool.or_true]; exact ⟨rfl, rfl, trivial⟩
  | true =>
    have h := hp; unfold U.patternN at h
    simp only [Bool.and_eq_true, decide_eq_true_eq, List.length_append] at h
    rw [show decide ((p.length : Int) > 80) = false by rw [decide_eq_false_iff_not]; omega, show decide ((s.length : Int) > 80) = false by rw [decide_eq_false_iff_not]; omega]
    exact ⟨by omega, rfl, rfl, trivial⟩
theorem split_c (c x : Int) (r : List Int) : U.split c (x :: r) = if x = c then [] :: U.split c r else (x :: (U.split c r).headD []) :: (U.split c r).tail := rfl
theorem okS_c (p : Bool) (x : Int) (r : List Int) : U.okS p (x :: r) = cond (decide (x = 47)) (!p && U.okS true r) (U.okS false r) := rfl
theorem cnt_c (x : Int) (r : List Int) : U.cnt47 (x :: r) = cond (decide (x = 47)) 1 0 + U.cnt47 r := by
  unfold U.cnt47; rw [List.filter_cons]
  cases decide (x = 47) <;> simp; omega
theorem split47 (s : List Int) : ((U.split 47 s).length : Int) = 1 + U.cnt47 s := by
  induction s with
  | nil => rfl
  | cons x r ih =>
    rw [split_c, cnt_c]
    have hc : 0 ≤ U.cnt47 r := by unfold U.cnt47; omega
    by_cases h : x = 47
    · rw [if_pos h, decide_eq_true h, List.length_cons]; simp only [cond_true]; omega
    · rw [if_neg h, decide_eq_false h, List.length_cons, List.length_tail]
      simp only [cond_false]
      omega
theorem split_pos (s : List Int) : ∃ a l, U.split 47 s = a :: l := by
  cases h : U.split 47 s with
  | nil =>
    have := split47 s
    rw [h] at this; unfold U.cnt47 at this; simp at this; omega
  | cons a l => exact ⟨a, l, rfl⟩
theorem idxS_mem (x : List Int) : ∀ (l : List (List Int)) (i : Int), 0 ≤ i → (U.idxS x l i < 0 ↔ x ∉ l)
  | [], i, h => by simp [U.idxS]
  | y :: r, i, h => by
    have ih := idxS_mem x r (i + 1) (by omega)
    unfold U.idxS
    by_cases hy : y = x
    · rw [if_pos hy, hy]; simp; omega
    · rw [if_neg hy, ih, List.mem_cons]
      constructor
      · rintro h (rfl | h'); exact hy rfl; exact h h'
      · intro h h'; exact h (.inr h')
theorem okS_split : ∀ s : List Int, (U.okS true s = true ↔ [] ∉ U.split 47 s) ∧ (U.okS false s = true ↔ [] ∉ (U.split 47 s).tail)
  | [] => by simp [U.okS, U.split]
  | x :: r => by
    have ih := okS_split r
    unfold U.okS U.split
    by_cases h : x = 47
    · rw [if_pos h, decide_eq_true h]
      simp only [cond_true, Bool.not_true, Bool.false_and, Bool.not_false, Bool.true_and, List.tail_cons, List.mem_cons, true_or, not_true_eq_false]
      exact ⟨by simp, ih.1⟩
    · rw [if_neg h, decide_eq_false h]
      simp only [cond_false, List.tail_cons, List.mem_cons]
      refine ⟨?_, ih.2⟩
      rw [ih.2]
      simp
theorem formed_eq (s : List Int) : U.formedN s = (decide (s.length ≤ 40) && (decide (1 + U.cnt47 s ≤ 4) && (U.okS true s && !s.any U.oddB))) := by
  unfold U.formedN
  congr 1
  rw [show decide ((U.split 47 s).length ≤ 4) = decide (1 + U.cnt47 s ≤ 4) by rw [decide_eq_decide, ← split47]; omega]
  congr 1
  rw [← (idxP_neg U.oddB s 0 (by omega)).1, show (!decide (U.idxP U.oddB s 0 ≥ 0)) = decide (U.idxP U.oddB s 0 < 0) from ge_not _]
  congr 1
  rw [Bool.eq_iff_iff, decide_eq_true_eq, idxS_mem [] _ 0 (by omega), (okS_split s).1]
theorem okref10_formed (s : List Int) (h : s.length ≤ 1000000000000) : vcref10_formed s := by
  unfold vcref10_formed
  simp only [cond_prop, cond_and, cond_or, int_add, int_sub, nat_sub, decide_eq_true_eq, decide_eq_false_iff_not, Bool.or_eq_true, Bool.or_eq_false_iff, Bool.and_eq_true, Bool.and_eq_false_iff, Bool.not_not, U.Iref10_formed_5, U.at_]
  refine ⟨fun hl => ⟨?_, trivial⟩, fun hl => ⟨(1, 0), ⟨rfl, by omega, by omega, ⟨by omega, by omega⟩, fun hz => by omega, by omega, by omega, rfl, rfl, by simp⟩, ?_⟩⟩
  · rcases hl with hl | hl
    · obtain rfl : s = [] := List.length_eq_zero_iff.1 (by omega)
      rfl
    · rw [formed_eq, show decide (s.length ≤ 40) = false by rw [decide_eq_false_iff_not]; omega]; rfl
  rintro ⟨n, i⟩ ⟨hs1, hs2, ⟨h0, h1⟩, hend, hn0, hn1, ha, ho, hc⟩
  simp only [] at *
  refine ⟨fun hi => ?_, fun hi => ⟨?_, trivial⟩⟩
  · simp (disch := omega) only [wrap_i]
    have hx : s.getD i.toNat 0 = s[i.toNat] := getD_at (by omega)
    rw [hx]
    have hd := drop_at h0 hi
    rw [hd, List.any_cons] at ha
    rw [hd] at ho hc
    have hp1 : U.prevS s (i + 1) = decide (s[i.toNat] = 47) := by
      unfold U.prevS
      rw [show decide (i + 1 = 0) = false by rw [decide_eq_false_iff_not]; omega, Bool.false_or, show (i + 1 - 1).toNat = i.toNat by omega, hx]
    rw [cnt_c] at hc
    rw [okS_c] at ho
    refine ⟨h0, hi, fun _ => h0, fun _ => hi, fun _ _ _ => by omega, fun _ _ _ => by omega, fun hb => ⟨?_, trivial⟩, fun hb => ⟨h0, hi, fun he => ⟨(n + 1, i + 1), rfl, ⟨hs1, hs2, ⟨by show 0 ≤ i + 1; omega, by show i + 1 ≤ _; omega⟩, ?_, by show 1 ≤ n + 1; omega, by show n + 1 ≤ i + 1 + 1; omega, ?_, ?_, ?_⟩, by show s.length - (i + 1).toNat < _; omega⟩, fun he => ⟨(n, i + 1), rfl, ⟨hs1, hs2, ⟨by show 0 ≤ i + 1; omega, by show i + 1 ≤ _; omega⟩, ?_, hn0, by show n ≤ i + 1 + 1; omega, ?_, ?_, ?_⟩, by show s.length - (i + 1).toNat < _; omega⟩⟩⟩
    · rw [formed_eq]
      rcases hb with hb | ⟨hb1, hb2⟩
      · rw [ha, hb]; simp
      · rw [ho, hb1]
        rcases hb2 with (hb2 | hb2) | hb2
        · simp [U.prevS, hb2]
        · rw [drop_end (i := i + 1) (by omega)]; simp [U.okS]
        · have hp : U.prevS s i = true := by unfold U.prevS; rw [Bool.or_eq_true]; exact .inr (decide_eq_true hb2)
          rw [hp]; simp
    · show i + 1 = _ → U.prevS s (i + 1) = false
      rintro hie; exfalso; exact hb.2.elim (fun h => h he) (fun h => h.1.2 (by omega))
    · rw [ha, hb.1, Bool.false_or]
    · rw [ho, hp1, he]
      rcases hb.2 with h | h
      · exact absurd he h
      · have hp : U.prevS s i = false := by unfold U.prevS; rw [Bool.or_eq_false_iff]; exact ⟨decide_eq_false h.1.1, decide_eq_false h.2⟩
        rw [hp]; simp
    · show 1 + U.cnt47 s = n + 1 + _
      rw [hc, decide_eq_true he]; simp only [cond_true]; omega
    · show i + 1 = _ → U.prevS s (i + 1) = false
      rintro hie; rw [hp1, decide_eq_false he]
    · rw [ha, hb.1, Bool.false_or]
    · rw [ho, hp1, decide_eq_false he]; rfl
    · show 1 + U.cnt47 s = n + _
      rw [hc, decide_eq_false he]; simp only [cond_false]; omega
  · have hi : i = s.length := by omega
    rw [formed_eq, ha, ho, hend hi, drop_end (by omega), decide_eq_true hs2, Bool.true_and]
    rw [drop_end (by omega)] at hc
    have : U.cnt47 [] = 0 := rfl
    rw [hc, this]; simp [U.okS]
theorem okref10_Pattern (s : List Int) (h : s.length ≤ maxLen) : vcref10_Pattern s := by
  unfold vcref10_Pattern
  rw [maxLen_eq] at h
  simp only [cond_prop, cond_and, cond_or, int_add, int_sub, nat_sub, decide_eq_true_eq, decide_eq_false_iff_not, Bool.or_eq_true, Bool.or_eq_false_iff, Bool.and_eq_true, Bool.and_eq_false_iff, Bool.not_not, bne_iff_ne, U.Iref10_Pattern_2, U.at_]
  refine ⟨0, ⟨rfl, ⟨by omega, by omega⟩, by omega, rfl⟩, ?_⟩
  rintro i ⟨⟨h0, h1⟩, h2, h3⟩
  have hany : decide (U.idxP U.patB s 0 < 0) = !s.any U.patB := by rw [← ge_not, (idxP_neg U.patB s 0 (by omega)).1]
  unfold U.patternN
  rw [hany]
  refine ⟨fun hi => ?_, fun hi => ⟨?_, trivial⟩⟩
  · rw [wrap_i (x := i + 1) (by omega) (by omega), getD_at (by omega)]
    rw [drop_at h0 hi.1, List.any_cons] at h3
    refine ⟨h0, hi.1, fun _ => h0, fun _ => hi.1, fun _ => h0, fun _ => hi.1, fun hb => ⟨?_, trivial⟩, fun hb => ⟨i + 1, rfl, ⟨⟨by omega, by omega⟩, by omega, ?_⟩, by omega⟩⟩
    · have : U.patB s[i.toNat] = true := by unfold U.patB U.wildB; simp [hb.1.1, hb.1.2, hb.2]
      rw [h3, this]; simp
    · have : U.patB s[i.toNat] = false := by
        unfold U.patB U.wildB
        rcases hb with (hb | hb) | hb
        · rw [hb]; rfl
        · have : s[i.toNat] = 42 := by simpa using hb
          rw [this]; rfl
        · have : s[i.toNat] = 37 := by simpa using hb
          rw [this]; rfl
      rw [h3, this, Bool.false_or]
  · by_cases h8 : s.length ≤ 80
    · have : s.drop i.toNat = [] := drop_end (by omega)
      rw [h3, this]; simp; omega
    · rw [show decide (s.length ≤ 80) = false by simpa using h8]; simp; omega
theorem first_cons (x : Int) (r : List Int) : U.firstN (x :: r) = (if x = 47 then [] else x :: U.firstN r) ∧ U.restN (x :: r) = (if x = 47 then x :: r else U.restN r) := by
  unfold U.firstN U.restN
  rw [idxB]
  have hb := idxB_bounds r 47
  by_cases hx : x = 47
  · simp [hx]
  · rw [if_neg hx, if_neg hx, if_neg hx]
    by_cases hi : idxB r 47 = -1
    · rw [if_pos hi, hi]; exact ⟨rfl, rfl⟩
    · rw [if_neg hi, show decide (idxB r 47 ≥ 0) = true by rw [decide_eq_true_eq]; omega, show decide (idxB r 47 + 1 ≥ 0) = true by rw [decide_eq_true_eq]; omega, show (idxB r 47 + 1).toNat = (idxB r 47).toNat + 1 by omega]
      exact ⟨rfl, rfl⟩
theorem first_spec : ∀ s : List Int, U.firstN s ++ U.restN s = s ∧ 47 ∉ U.firstN s ∧ (U.restN s = [] ∨ ∃ r, U.restN s = 47 :: r)
  | [] => ⟨rfl, by simp [U.firstN], .inl rfl⟩
  | x :: r => by
    obtain ⟨h1, h2, h3⟩ := first_spec r
    rw [(first_cons x r).1, (first_cons x r).2]
    by_cases hx : x = 47
    · rw [if_pos hx, if_pos hx, hx]; exact ⟨rfl, by simp, .inr ⟨r, rfl⟩⟩
    · rw [if_neg hx, if_neg hx]; refine ⟨by rw [List.cons_append, h1], ?_, h3⟩
      rw [List.mem_cons]; rintro (h | h)
      · exact hx h.symm
      · exact h2 h
theorem first_uniq : ∀ a b : List Int, 47 ∉ a → (b = [] ∨ ∃ r, b = 47 :: r) → U.firstN (a ++ b) = a ∧ U.restN (a ++ b) = b
  | [], b, _, h => by
    rcases h with rfl | ⟨r, rfl⟩
    · exact ⟨rfl, rfl⟩
    · rw [List.nil_append, (first_cons 47 r).1, (first_cons 47 r).2]; exact ⟨rfl, rfl⟩
  | x :: a, b, ha, h => by
    have ih := first_uniq a b (fun h => ha (List.mem_cons_of_mem _ h)) h
    have hx : x ≠ 47 := fun h => ha (by rw [h]; exact List.mem_cons_self ..)
    rw [List.cons_append, (first_cons x _).1, (first_cons x _).2, if_neg hx, if_neg hx, ih.1, ih.2]; exact ⟨rfl, rfl⟩
theorem clean_of {s : List Int} (hf : U.formedN s = true) : U.cleanN s = (cond (decide ((U.firstN s).map lowB = U.inboxL.map lowB)) U.inboxL (U.firstN s) ++ U.restN s, 0) := by
  unfold U.cleanN; rw [hf]; rfl
theorem clean_same {s : List Int} (hf : U.formedN s = true) (hn : ¬ (U.firstN s).map lowB = U.inboxL.map lowB) : U.cleanN s = (s, 0) := by
  rw [clean_of hf, decide_eq_false hn]
  show (U.firstN s ++ U.restN s, (0 : Int)) = (s, 0)
  rw [(first_spec s).1]
theorem low_five {s : List Int} (h : (U.firstN s).map lowB = U.inboxL.map lowB) : 5 ≤ s.length ∧ (s.length = 5 ∨ s.getD 5 0 = 47) ∧ s.take 5 = U.firstN s ∧ s.drop 5 = U.restN s := by
  have hl : (U.firstN s).length = 5 := by
    have := congrArg List.length h
    rw [List.length_map, List.length_map] at this; exact this
  obtain ⟨h1, h2, h3⟩ := first_spec s
  generalize U.firstN s = a at *
  generalize U.restN s = b at *
  subst h1
  refine ⟨by rw [List.length_append]; omega, ?_, by rw [← hl]; simp, by rw [← hl]; simp⟩
  rcases h3 with rfl | ⟨r, rfl⟩
  · left; rw [List.append_nil]; exact hl
  · right; rw [getD_at (by rw [List.length_append, List.length_cons]; omega), List.getElem_append_right (by omega)]; simp [hl]
theorem low_up {x y : Int} (hy : 65 ≤ y ∧ y ≤ 90) : (97 ≤ x ∧ x ≤ 122 → (lowB x = lowB y ↔ x - 32 = y)) ∧ (¬ (97 ≤ x ∧ x ≤ 122) → (lowB x = lowB y ↔ x = y)) := by
  unfold lowB
  constructor
  · intro h; rw [if_neg (by omega), if_pos (by omega)]; omega
  · intro h; rw [if_pos hy]; by_cases h2 : 65 ≤ x ∧ x ≤ 90
    · rw [if_pos h2]; omega
    · rw [if_neg h2]; omega
theorem okref10_Clean (s : List Int) (hb : ∀ x ∈ s, Byte x) (h : s.length ≤ 1000000000000) : vcref10_Clean s := by
  unfold vcref10_Clean
  refine ⟨h, ?_⟩
  cases hf : U.formedN s with
  | false => unfold U.cleanN; rw [hf]; exact ⟨rfl, rfl, trivial⟩
  | true =>
    simp only [Bool.not_true, cond_false, cond_prop, cond_and, cond_or, int_add, int_sub, nat_sub, nat_add, decide_eq_true_eq, decide_eq_false_iff_not, Bool.or_eq_true, Bool.or_eq_false_iff, Bool.and_eq_true, Bool.and_eq_false_iff, bne_iff_ne, bne_eq_false_iff_eq, U.Iref10_Clean_6]
    refine ⟨fun _ _ => by omega, fun _ _ => by omega, fun hl => ?_, fun hl => ⟨0, ⟨rfl, by omega, ?_, by omega, by omega, rfl⟩, ?_⟩⟩
    · have hn : ¬ (U.firstN s).map lowB = U.inboxL.map lowB := by
        intro he
        obtain ⟨h1, h2, _⟩ := low_five he
        rcases hl with hl | hl
        · omega
        · rcases h2 with h2 | h2
          · omega
          · exact hl.2 h2
      rw [clean_same hf hn]; exact ⟨rfl, rfl, trivial⟩
    · rcases hl.2 with h' | h'
      · left; omega
      · exact .inr h'
    · rintro i ⟨hs5, hs6, h0, h1, h2⟩
      refine ⟨fun hi => ?_, fun hi => ?_⟩
      · have hx : s.getD i.toNat 0 = s[i.toNat] := getD_at (by omega)
        have hy : [(73 : Int), 78, 66, 79, 88].getD i.toNat 0 = U.inboxL[i.toNat]'(by show i.toNat < 5; omega) := getD_at (by show i.toNat < 5; omega)
        have hyb : 65 ≤ U.inboxL[i.toNat]'(by show i.toNat < 5; omega) ∧ U.inboxL[i.toNat]'(by show i.toNat < 5; omega) ≤ 90 := by
          have : ∀ z ∈ U.inboxL, (65 : Int) ≤ z ∧ z ≤ 90 := by decide
          exact this _ (List.getElem_mem _)
        have hup := low_up (x := s[i.toNat]) hyb
        have hbx := hb s[i.toNat] (List.getElem_mem _)
        have hbx0 : 0 ≤ s[i.toNat] ∧ s[i.toNat] ≤ 255 := ⟨hbx.1, by have := hbx.2; omega⟩
        have ht := take_at (l := s) h0 (by omega)
        have ht2 := take_at (l := U.inboxL) h0 (by show i < 5; omega)
        have hbad : ¬ lowB s[i.toNat] = lowB (U.inboxL[i.toNat]'(by show i.toNat < 5; omega)) → s = (U.cleanN s).1 ∧ 0 = (U.cleanN s).2 ∧ True := by
          intro hne
          have hn : ¬ (U.firstN s).map lowB = U.inboxL.map lowB := by
            intro he
            obtain ⟨_, _, h3, _⟩ := low_five he
            rw [← h3] at he
            apply hne
            have this : ((s.take 5).map lowB).getD i.toNat 0 = (U.inboxL.map lowB).getD i.toNat 0 := by rw [he]
            rw [getD_at (by rw [List.length_map, List.length_take]; omega), getD_at (by rw [List.length_map]; show i.toNat < 5; omega)] at this
            simpa using this
          rw [clean_same hf hn]; exact ⟨rfl, rfl, trivial⟩
        have hgood : lowB s[i.toNat] = lowB (U.inboxL[i.toNat]'(by show i.toNat < 5; omega)) → (s.take (i + 1).toNat).map lowB = (U.inboxL.take (i + 1).toNat).map lowB := by
          intro he
          rw [ht, ht2, List.map_append, List.map_append, h2, List.map_singleton, List.map_singleton, he]
        rw [hx, hy, wrap_i (x := i + 1) (by omega) (by omega), wrap_u8]
        refine ⟨h0, by omega, fun hlo => ⟨h0, hi, fun hne => hbad ?_, fun he => ⟨i + 1, rfl, ⟨hs5, hs6, by omega, by omega, hgood ?_⟩, by omega⟩⟩, fun hlo => ⟨h0, hi, fun hne => hbad ?_, fun he => ⟨i + 1, rfl, ⟨hs5, hs6, by omega, by omega, hgood ?_⟩, by omega⟩⟩⟩
        · rw [(hup.1 hlo)]; omega
        · rw [(hup.1 hlo)]; omega
        · rw [hup.2 (by omega)]; exact hne
        · rw [hup.2 (by omega)]; exact he
      · have h5 : i = 5 := by omega
        subst h5
        have h2 : (s.take 5).map lowB = U.inboxL.map lowB := h2
        have hno : 47 ∉ s.take 5 := by
          intro hm
          have : lowB 47 ∈ (s.take 5).map lowB := List.mem_map_of_mem hm
          rw [h2] at this; revert this; decide
        have hd : s.drop 5 = [] ∨ ∃ r, s.drop 5 = 47 :: r := by
          rcases hs6 with h6 | h6
          · left; exact List.drop_eq_nil_of_le (by omega)
          · by_cases hl5 : s.length = 5
            · left; exact List.drop_eq_nil_of_le (by omega)
            · right; rw [List.drop_eq_getElem_cons (by omega)]; rw [getD_at (by omega)] at h6; rw [h6]; exact ⟨_, rfl⟩
        have hu := first_uniq (s.take 5) (s.drop 5) hno hd
        rw [List.take_append_drop] at hu
        have hc := clean_of hf
        rw [hu.1, hu.2, decide_eq_true h2] at hc
        have htk : List.take ((s.length : Int).toNat - 5) (s.drop 5) = s.drop 5 := List.take_of_length_le (by rw [List.length_drop]; omega)
        rw [htk, hc]
        exact ⟨by omega, by omega, by omega, by rw [List.length_drop]; omega, rfl, rfl, trivial⟩
theorem okref10_Below (s t : List Int) (h : s.length ≤ 1000000000000) : vcref10_Below s t := by
  unfold vcref10_Below U.belowN
  have hl : (U.aboveN s).length ≤ 1000000000000 := by
    have := above_len s s.length
    unfold U.aboveN; cases U.rightN s <;> simp; omega
  simp only [cond_prop, int_add, nat_sub, U.Iref10_Below_3, U.at_, decide_eq_true_eq, decide_eq_false_iff_not, list_beq, beq_iff_eq, beq_eq_false_iff_ne]
  refine ⟨h, 0, ⟨rfl, ⟨by omega, by omega⟩, rfl⟩, ?_⟩
  rintro i ⟨⟨h0, h1⟩, h2⟩
  refine ⟨fun hi => ?_, fun hi => ⟨?_, trivial⟩⟩
  · rw [wrap_i (x := i + 1) (by omega) (by omega), getD_at (by omega)]
    rw [drop_at h0 hi] at h2
    refine ⟨h0, hi, fun he => ⟨?_, trivial⟩, fun hne => ⟨i + 1, rfl, ⟨⟨by omega, by omega⟩, ?_⟩, by omega⟩⟩
    · rw [← h2, U.idxS, if_pos he]; symm; rw [decide_eq_true_eq]; exact h0
    · rw [← h2, U.idxS, if_neg hne]
  · rw [← h2, drop_end (by omega)]; rfl
theorem okref10_Above (s : List Int) (h : s.length ≤ 1000000000000) : vcref10_Above s := by
  unfold vcref10_Above U.aboveN
  refine ⟨h, ?_⟩
  cases hr : U.rightN s with
  | false => exact ⟨rfl, trivial⟩
  | true =>
    have h40 := formed_len (right_formed hr)
    simp only [Bool.not_true, cond_false, cond_true, cond_prop, int_add, nat_add, nat_sub, nat_mul, list_append, U.Iref10_Above_5, U.at_, maxLen_eq, decide_eq_true_eq, decide_eq_false_iff_not]
    refine ⟨([], 0), ⟨rfl, ⟨by simp, by simp⟩, rfl, by simp⟩, ?_⟩
    rintro ⟨o, i⟩ ⟨⟨h0, h1⟩, ho, hl⟩
    simp only [] at *
    have hst : i < s.length → U.aboveFrom s (i + 1).toNat = U.aboveFrom s i.toNat ++ cond (decide (s.getD i.toNat 0 = 47)) [s.take i.toNat] [] := by
      intro _; rw [show (i + 1).toNat = i.toNat + 1 by omega]; rfl
    refine ⟨fun hi => ?_, fun hi => ⟨?_, trivial⟩⟩
    · rw [wrap_i (x := i + 1) (by omega) (by omega)]
      refine ⟨h0, hi, fun he => ⟨by omega, h0, h1, by show (o.length + 1) * 16 ≤ _; omega, by show o.length + 1 ≤ _; omega, (_, i + 1), rfl, ⟨⟨by show 0 ≤ i + 1; omega, by show i + 1 ≤ _; omega⟩, ?_, ?_⟩, by show s.length - (i + 1).toNat < _; omega⟩, fun he => ⟨(_, i + 1), rfl, ⟨⟨by show 0 ≤ i + 1; omega, by show i + 1 ≤ _; omega⟩, ?_, by show (o.length : Int) ≤ i + 1; omega⟩, by show s.length - (i + 1).toNat < _; omega⟩⟩
      · show o ++ [List.take (i.toNat - 0) (List.drop 0 s)] = _
        rw [hst hi, he, ← ho]; rfl
      · show (((o ++ [List.take (i.toNat - 0) (List.drop 0 s)]).length : Nat) : Int) ≤ i + 1
        rw [List.length_append]; show ((o.length + 1 : Nat) : Int) ≤ i + 1; omega
      · show o = _
        rw [hst hi, decide_eq_false he, ← ho]; simp
    · rw [ho, show i.toNat = s.length by omega]
theorem okref10_Texts (a b : List (List Int)) (h : a.length ≤ maxLen) : vcref10_Texts a b := by
  unfold vcref10_Texts
  rw [maxLen_eq] at h
  simp only [cond_prop, cond_and, cond_or, int_add, int_sub, int_mul, int_neg, nat_add, nat_sub, nat_mul, list_append, list_beq, U.at_, maxLen_eq, decide_eq_true_eq, decide_eq_false_iff_not, bne_iff_ne, bne_eq_false_iff_eq, Bool.not_eq_true', Bool.not_eq_false', Bool.not_eq_eq_eq_not, Bool.not_true, Bool.not_false, beq_eq_false_iff_ne, beq_iff_eq, and_true, true_and, Bool.and_eq_true, Bool.or_eq_true, Bool.and_eq_false_iff, Bool.or_eq_false_iff, wrap_i64, U.Iref10_Texts_4]
  refine ⟨fun hn => ?_, fun hl => ⟨0, ⟨rfl, ⟨by omega, by omega⟩, by omega, rfl⟩, ?_⟩⟩
  · symm; rw [decide_eq_false_iff_not]; rintro rfl; exact hn rfl
  · rintro i ⟨⟨h0, h1⟩, h2, h3⟩
    refine ⟨fun hi => ⟨h0, hi, h0, by omega, fun hne => ?_, fun he => ⟨i + 1, by rw [show (i + 1 + 9223372036854775808) % 18446744073709551616 - 9223372036854775808 = i + 1 by omega], ⟨⟨by omega, by omega⟩, h2, ?_⟩, by omega⟩⟩, fun hi => ?_⟩
    · symm; rw [decide_eq_false_iff_not]; rintro rfl; exact hne rfl
    · rw [take_at h0 hi, take_at h0 (by omega), h3]
      rw [getD_at (by omega), getD_at (by omega)] at he
      rw [he]
    · symm; rw [decide_eq_true_eq]
      rw [take_end (by omega), take_end (by omega)] at h3; exact h3
theorem suf_iff (f : List Int → Bool) : ∀ s, U.anySuf f s = true ↔ ∃ k, k ≤ s.length ∧ f (s.drop k) = true
  | [] => by simp [U.anySuf]
  | x :: s => by
    unfold U.anySuf
    rw [Bool.or_eq_true, suf_iff f s]
    constructor
    · rintro (h | ⟨k, hk, h⟩)
      · exact ⟨0, by simp, h⟩
      · exact ⟨k + 1, by simpa using hk, by simpa using h⟩
    · rintro ⟨k, hk, h⟩
      cases k with
      | zero => exact .inl h
      | succ k => exact .inr ⟨k, by simpa using hk, by simpa using h⟩
theorem run_iff (f : List Int → Bool) : ∀ s, U.anyRun f s = true ↔ ∃ k, k ≤ s.length ∧ (∀ x ∈ s.take k, x ≠ 47) ∧ f (s.drop k) = true
  | [] => by simp [U.anyRun]
  | x :: s => by
    unfold U.anyRun
    rw [Bool.or_eq_true, Bool.and_eq_true, run_iff f s, decide_eq_true_eq]
    constructor
    · rintro (h | ⟨hx, k, hk, hs, h⟩)
      · exact ⟨0, by simp, by simp, h⟩
      · refine ⟨k + 1, by simpa using hk, ?_, by simpa using h⟩
        intro y hy
        rw [List.take_succ_cons, List.mem_cons] at hy
        rcases hy with rfl | hy
        · exact hx
        · exact hs y hy
    · rintro ⟨k, hk, hs, h⟩
      cases k with
      | zero => exact .inl h
      | succ k => exact .inr ⟨hs x (by simp), k, by simpa using hk, fun y hy => hs y (by rw [List.take_succ_cons]; exact List.mem_cons_of_mem _ hy), by simpa using h⟩
theorem match_app : ∀ (p q s : List Int), U.matchP (p ++ q) s = true ↔ ∃ k, k ≤ s.length ∧ U.matchP p (s.take k) = true ∧ U.matchP q (s.drop k) = true
  | [], q, s => by
    constructor
    · intro h; exact ⟨0, by omega, rfl, h⟩
    · rintro ⟨k, hk, h1, h2⟩
      unfold U.matchP at h1
      rw [List.isEmpty_iff, List.take_eq_nil_iff] at h1
      rcases h1 with rfl | rfl
      · exact h2
      · simpa using h2
  | c :: p, q, s => by
    rw [List.cons_append]
    by_cases h1 : c = 42
    · subst h1
      rw [matchP_star, suf_iff]
      constructor
      · rintro ⟨m, hm, h⟩
        obtain ⟨k, hk, a, b⟩ := (match_app p q _).1 h
        rw [List.length_drop] at hk
        refine ⟨m + k, by omega, ?_, by rw [← List.drop_drop]; exact b⟩
        rw [matchP_star, suf_iff]
        refine ⟨m, by rw [List.length_take]; omega, ?_⟩
        rw [List.drop_take, Nat.add_sub_cancel_left]; exact a
      · rintro ⟨k, hk, a, b⟩
        rw [matchP_star, suf_iff] at a
        obtain ⟨m, hm, a⟩ := a
        rw [List.length_take] at hm
        refine ⟨m, by omega, (match_app p q _).2 ⟨k - m, by rw [List.length_drop]; omega, ?_, ?_⟩⟩
        · rw [← List.drop_take]; exact a
        · rw [List.drop_drop, show m + (k - m) = k by omega]; exact b
    · by_cases h2 : c = 37
      · subst h2
        rw [matchP_part, run_iff]
        constructor
        · rintro ⟨m, hm, hr, h⟩
          obtain ⟨k, hk, a, b⟩ := (match_app p q _).1 h
          rw [List.length_drop] at hk
          refine ⟨m + k, by omega, ?_, by rw [← List.drop_drop]; exact b⟩
          rw [matchP_part, run_iff]
          refine ⟨m, by rw [List.length_take]; omega, ?_, ?_⟩
          · rw [List.take_take, Nat.min_eq_left (by omega)]; exact hr
          · rw [List.drop_take, Nat.add_sub_cancel_left]; exact a
        · rintro ⟨k, hk, a, b⟩
          rw [matchP_part, run_iff] at a
          obtain ⟨m, hm, hr, a⟩ := a
          rw [List.length_take] at hm
          rw [List.take_take, Nat.min_eq_left (by omega)] at hr
          refine ⟨m, by omega, hr, (match_app p q _).2 ⟨k - m, by rw [List.length_drop]; omega, ?_, ?_⟩⟩
          · rw [← List.drop_take]; exact a
          · rw [List.drop_drop, show m + (k - m) = k by omega]; exact b
      · rw [matchP_lit h1 h2]
        cases s with
        | nil => simp [matchP_lit h1 h2]
        | cons x r =>
          show (decide (c = x) && U.matchP (p ++ q) r) = true ↔ _
          rw [Bool.and_eq_true, decide_eq_true_eq, match_app p q r]
          constructor
          · rintro ⟨hx, k, hk, a, b⟩
            refine ⟨k + 1, by simpa using hk, ?_, b⟩
            rw [List.take_succ_cons, matchP_lit h1 h2]
            simp [hx, a]
          · rintro ⟨k, hk, a, b⟩
            cases k with
            | zero => rw [List.take_zero, matchP_lit h1 h2] at a; cases a
            | succ k =>
              rw [List.take_succ_cons, matchP_lit h1 h2] at a
              simp only [Bool.and_eq_true, decide_eq_true_eq] at a
              exact ⟨a.1, k, by simpa using hk, a.2, b⟩
theorem star1 (s : List Int) : U.matchP [42] s = true := by
  rw [matchP_star, suf_iff]; exact ⟨s.length, Nat.le_refl _, by simp [U.matchP]⟩
theorem part1 (s : List Int) : U.matchP [37] s = true ↔ ∀ x ∈ s, x ≠ 47 := by
  rw [matchP_part, run_iff]
  constructor
  · rintro ⟨k, hk, h, e⟩
    unfold U.matchP at e
    rw [List.isEmpty_iff, List.drop_eq_nil_iff] at e
    rwa [List.take_of_length_le e] at h
  · intro h
    exact ⟨s.length, Nat.le_refl _, by rw [List.take_length]; exact h, by simp [U.matchP]⟩
theorem lit1 {c : Int} (h1 : c ≠ 42) (h2 : c ≠ 37) (s : List Int) : U.matchP [c] s = true ↔ s = [c] := by
  rw [matchP_lit h1 h2]
  cases s with
  | nil => simp
  | cons x r => simp [U.matchP]; rintro rfl; exact eq_comm
theorem snoc_split {P : Nat → Prop} {n : Nat} : (∃ k, k ≤ n + 1 ∧ P k) ↔ P (n + 1) ∨ ∃ k, k ≤ n ∧ P k := by
  constructor
  · rintro ⟨k, hk, h⟩
    by_cases he : k = n + 1
    · exact .inl (he ▸ h)
    · exact .inr ⟨k, by omega, h⟩
  · rintro (h | ⟨k, hk, h⟩)
    · exact ⟨_, Nat.le_refl _, h⟩
    · exact ⟨k, by omega, h⟩
theorem mt_nil (p : List Int) (c : Int) : U.matchP (p ++ [c]) [] = (decide (c = 42 ∨ c = 37) && U.matchP p []) := by
  rw [Bool.eq_iff_iff, match_app, Bool.and_eq_true, decide_eq_true_eq]
  constructor
  · rintro ⟨k, hk, a, b⟩
    rw [List.take_nil] at a; rw [List.drop_nil] at b
    refine ⟨?_, a⟩
    by_cases h1 : c = 42
    · exact .inl h1
    · by_cases h2 : c = 37
      · exact .inr h2
      · rw [lit1 h1 h2] at b; cases b
  · rintro ⟨h, a⟩
    refine ⟨0, by omega, a, ?_⟩
    rcases h with rfl | rfl
    · exact star1 _
    · rw [List.drop_nil, part1]; simp
theorem mt_wild (p s : List Int) (x c : Int) (hc : c = 42 ∨ c = 37) : U.matchP (p ++ [c]) (s ++ [x]) = (U.matchP p (s ++ [x]) || (U.matchP (p ++ [c]) s && (decide (c = 42) || decide (x ≠ 47)))) := by
  have hk : ∀ k, k ≤ s.length → (s ++ [x]).take k = s.take k ∧ (s ++ [x]).drop k = s.drop k ++ [x] := fun k hk => ⟨List.take_append_of_le_length hk, List.drop_append_of_le_length hk⟩
  rw [Bool.eq_iff_iff, match_app, List.length_append, List.length_singleton, snoc_split, Bool.or_eq_true, Bool.and_eq_true, match_app, Bool.or_eq_true, decide_eq_true_eq, decide_eq_true_eq]
  rw [show s.length + 1 = (s ++ [x]).length by simp, List.take_length, List.drop_length]
  have he : U.matchP [c] [] = true := by
    rcases hc with rfl | rfl
    · exact star1 _
    · rw [part1]; simp
  simp only [he, and_true]
  constructor
  · rintro (h | ⟨k, h1, h2, h3⟩)
    · exact .inl h
    · rw [(hk k h1).1] at h2; rw [(hk k h1).2] at h3
      refine .inr ⟨⟨k, h1, h2, ?_⟩, ?_⟩
      · rcases hc with rfl | rfl
        · exact star1 _
        · rw [part1] at *; exact fun y hy => h3 y (List.mem_append_left _ hy)
      · rcases hc with rfl | rfl
        · exact .inl rfl
        · rw [part1] at h3; exact .inr (h3 x (by simp))
  · rintro (h | ⟨⟨k, h1, h2, h3⟩, h4⟩)
    · exact .inl h
    · refine .inr ⟨k, h1, by rw [(hk k h1).1]; exact h2, ?_⟩
      rw [(hk k h1).2]
      rcases hc with rfl | rfl
      · exact star1 _
      · rw [part1] at *
        intro y hy
        rcases List.mem_append.1 hy with h | h
        · exact h3 y h
        · rcases h4 with h4 | h4
          · cases h4
          · simp at h; rw [h]; exact h4
theorem mt_lit (p s : List Int) (x c : Int) (h1 : c ≠ 42) (h2 : c ≠ 37) : U.matchP (p ++ [c]) (s ++ [x]) = (U.matchP p s && decide (x = c)) := by
  rw [Bool.eq_iff_iff, match_app, Bool.and_eq_true, decide_eq_true_eq]
  constructor
  · rintro ⟨k, hk, a, b⟩
    rw [lit1 h1 h2] at b
    have hl := congrArg List.length b
    rw [List.length_drop, List.length_append, List.length_singleton, List.length_singleton] at hl
    have : k = s.length := by omega
    subst this
    rw [List.take_left] at a; rw [List.drop_left] at b
    exact ⟨a, by simpa using b⟩
  · rintro ⟨a, rfl⟩
    exact ⟨s.length, by simp, by rw [List.take_left]; exact a, by rw [List.drop_left, lit1 h1 h2]⟩
theorem row_len (p s : List Int) : (U.rowM p s).length = s.length + 1 := by simp [U.rowM]
theorem row_at (p s : List Int) (k : Nat) (h : k ≤ s.length) : (U.rowM p s).getD k false = U.matchP p (s.take k) := by
  rw [getD_at (by rw [row_len]; omega)]; simp [U.rowM]
theorem row_get (p s : List Int) (k : Nat) (h : k < (U.rowM p s).length) : (U.rowM p s)[k] = U.matchP p (s.take k) := by simp [U.rowM]
/-- one more cell of a row is told -/
theorem row_next (R : List Bool) (n k : Nat) (b : Bool) (hR : R.length = n) (hk : k < n) (hb : R[k]? = some b) : (R.take k ++ List.replicate (n - k) false).set k b = R.take (k + 1) ++ List.replicate (n - (k + 1)) false := by
  have hlt : (R.take k).length = k := by rw [List.length_take]; omega
  rw [List.set_append_right _ _ (by omega), hlt, Nat.sub_self, show n - k = (n - (k + 1)) + 1 by omega, List.replicate_succ, List.set_cons_zero]
  obtain ⟨h', hb⟩ := List.getElem?_eq_some_iff.1 hb
  rw [List.take_succ_eq_append_getElem h', hb, List.append_assoc]; rfl
theorem part_at (R : List Bool) (n k j : Nat) (hR : R.length = n) (hj : j < k) (hk : k ≤ n) : (R.take k ++ List.replicate (n - k) false).getD j false = R.getD j false := by
  have hlt : (R.take k).length = k := by rw [List.length_take]; omega
  rw [getD_at (by rw [List.length_append]; omega), getD_at (by omega), List.getElem_append_left (by omega), List.getElem_take]
theorem okref10_table (p s : List Int) (hp : p.length ≤ 80) (hs : s.length ≤ 40) : vcref10_table p s := by
  unfold vcref10_table
  simp only [cond_prop, cond_and, cond_or, int_add, int_sub, int_mul, int_neg, nat_add, nat_sub, nat_mul, list_append, list_beq, U.at_, maxLen_eq, decide_eq_true_eq, decide_eq_false_iff_not, bne_iff_ne, bne_eq_false_iff_eq, Bool.not_eq_true', Bool.not_eq_false', Bool.not_eq_eq_eq_not, Bool.not_true, Bool.not_false, beq_eq_false_iff_ne, beq_iff_eq, and_true, true_and, Bool.and_eq_true, Bool.or_eq_true, Bool.and_eq_false_iff, Bool.or_eq_false_iff, List.length_replicate]
  have hw : IntKind.i64.wrap ((s.length : Int) + 1) = s.length + 1 := by rw [wrap_i] <;> omega
  rw [hw, show ((s.length : Int) + 1).toNat = s.length + 1 by omega]
  refine ⟨by omega, by omega, by omega, by omega, by omega, by omega, by omega, (_, 0), ⟨rfl, ⟨by show (0 : Int) ≤ 0; omega, by show (0 : Int) ≤ _; omega⟩, ?_⟩, ?_⟩
  · show (List.replicate (s.length + 1) false).set 0 true = U.rowM [] s
    apply List.ext_getElem
    · simp [U.rowM]
    · intro k h1 h2
      rw [row_get]
      rw [List.getElem_set]
      unfold U.matchP
      cases k with
      | zero => simp
      | succ k =>
        rw [if_neg (by omega), List.getElem_replicate]
        symm; rw [Bool.eq_false_iff, Ne, List.isEmpty_iff, List.take_eq_nil_iff]
        rw [row_len] at h2
        rintro (h | h)
        · omega
        · rw [h] at h2; simp at h2
  rintro ⟨row, i⟩ ⟨⟨h0, h1⟩, hr⟩
  simp only [] at *
  have hrl : row.length = s.length + 1 := by rw [hr, row_len]
  have hra : ∀ k : Nat, k ≤ s.length → row.getD k false = U.matchP (p.take i.toNat) (s.take k) := fun k hk => by rw [hr, row_at _ _ _ hk]
  refine ⟨fun hi => ?_, fun hi => ⟨by omega, by omega, by omega, ?_⟩⟩
  · have hc : p.getD i.toNat 0 = p[i.toNat] := getD_at (by omega)
    have hpt := take_at (l := p) h0 hi
    generalize hq : p.take (i + 1).toNat = q at *
    have hRl : (U.rowM q s).length = s.length + 1 := row_len q s
    have hRa : ∀ k : Nat, k ≤ s.length → (U.rowM q s)[k]? = some (U.matchP q (s.take k)) := by
      intro k hk; rw [List.getElem?_eq_getElem (by omega), row_get]
    rw [hc, hrl]
    refine ⟨by omega, by omega, by omega, by omega, h0, hi, fun _ => h0, fun _ => hi, fun _ => by omega, fun _ => by omega, fun _ => by omega, by omega, by omega, by omega, (row, _, _, i, 1), ⟨rfl, rfl, rfl, rfl, by show (1 : Int) ≤ 1; omega, by show (1 : Int) ≤ _; omega, ?_⟩, ?_⟩
    · show (List.replicate (s.length + 1) false).set 0 _ = (U.rowM (p.take (i + 1).toNat) s).take 1 ++ List.replicate (s.length + 1 - 1) false
      rw [hq, hra 0 (by omega), List.take_zero]
      have := row_next (U.rowM q s) (s.length + 1) 0 _ hRl (by omega) (hRa 0 (by omega))
      rw [List.take_zero, List.take_zero, Nat.sub_zero, List.nil_append] at this
      rw [show 0 + 1 = 1 from rfl] at this
      rw [← this, hpt, mt_nil]
      congr 1; congr 1
      rw [Bool.eq_iff_iff]; simp
    · rintro ⟨row', w, l, i', k⟩ ⟨hi', hw', hr', k1, k2, hl⟩
      simp only [] at *
      subst hi'; subst hr'
      rw [hq] at hl
      have hll : l.length = s.length + 1 := by rw [hl, List.length_append, List.length_take, List.length_replicate]; omega
      refine ⟨fun hk => ?_, fun hk => ⟨(l, i' + 1), ?_, ⟨⟨by show 0 ≤ i' + 1; omega, by show i' + 1 ≤ _; omega⟩, ?_⟩, by show p.length - (i' + 1).toNat < _; omega⟩⟩
      · have hla : l.getD (k - 1).toNat false = U.matchP q (s.take (k - 1).toNat) := by
          rw [hl, part_at (U.rowM q s) (s.length + 1) k.toNat (k - 1).toNat hRl (by omega) (by omega), row_at _ _ _ (by omega)]
        have hlk : ∀ b, b = U.matchP q (s.take k.toNat) → l.set k.toNat b = (U.rowM q s).take (k + 1).toNat ++ List.replicate (s.length + 1 - (k + 1).toNat) false := by
          rintro b rfl
          rw [hl, row_next (U.rowM q s) (s.length + 1) k.toNat _ hRl (by omega) (hRa k.toNat (by omega)), show (k + 1).toNat = k.toNat + 1 by omega]
        have hst : s.take k.toNat = s.take (k - 1).toNat ++ [s[(k - 1).toNat]] := by
          have := take_at (l := s) (i := k - 1) (by omega) (by omega)
          rw [show k - 1 + 1 = k by omega] at this; exact this
        have hsx : s.getD (k - 1).toNat 0 = s[(k - 1).toNat] := getD_at (by omega)
        have e1 : IntKind.i64.wrap (k - 1) = k - 1 := by rw [wrap_i] <;> omega
        have e2 : IntKind.i64.wrap (k + 1) = k + 1 := by rw [wrap_i] <;> omega
        simp only [e1, e2, hrl, hll, hla, hsx, hc, hra k.toNat (by omega), hra (k - 1).toNat (by omega)]
        refine ⟨fun hw => ?_, fun hw => ?_⟩
        · have hcw : p[i'.toNat] = 42 ∨ p[i'.toNat] = 37 := by
            by_cases h42 : p[i'.toNat] = 42
            · exact .inl h42
            · rw [hw', decide_eq_false h42] at hw; exact .inr (of_decide_eq_true hw)
          refine ⟨by omega, by omega, by omega, fun _ => by omega, fun _ => by omega, fun _ => by omega, fun _ _ => h0, fun _ _ => hi, fun _ _ _ => by omega, fun _ _ _ => by omega, by omega, by omega, by omega, (_, _, _, _, _), rfl, ⟨rfl, hw', rfl, by show 1 ≤ k + 1; omega, by show k + 1 ≤ _; omega, ?_⟩, by show s.length + 1 - (k + 1).toNat < _; omega⟩
          show l.set k.toNat _ = _
          rw [hq]
          apply hlk
          have hm := mt_wild (p.take i'.toNat) (s.take (k - 1).toNat) s[(k - 1).toNat] p[i'.toNat] hcw
          rw [← hpt, ← hst] at hm
          rw [hm]
          congr 3
          rw [Bool.eq_iff_iff]; simp
        · have hcw : p[i'.toNat] ≠ 42 ∧ p[i'.toNat] ≠ 37 := by
            by_cases h42 : p[i'.toNat] = 42
            · rw [hw', decide_eq_true h42] at hw; cases hw
            · rw [hw', decide_eq_false h42] at hw; exact ⟨h42, of_decide_eq_false hw⟩
          refine ⟨by omega, by omega, by omega, fun _ => by omega, fun _ => by omega, fun _ => h0, fun _ => hi, by omega, by omega, by omega, (_, _, _, _, _), rfl, ⟨rfl, hw', rfl, by show 1 ≤ k + 1; omega, by show k + 1 ≤ _; omega, ?_⟩, by show s.length + 1 - (k + 1).toNat < _; omega⟩
          show l.set k.toNat _ = _
          rw [hq]
          apply hlk
          have hm := mt_lit (p.take i'.toNat) (s.take (k - 1).toNat) s[(k - 1).toNat] p[i'.toNat] hcw.1 hcw.2
          rw [← hpt, ← hst] at hm
          rw [hm]
      · rw [wrap_i (x := i' + 1) (by omega) (by omega)]
      · show l = U.rowM (p.take (i' + 1).toNat) s
        rw [hq, hl, show s.length + 1 - k.toNat = 0 by omega, List.take_of_length_le (by omega)]; simp
  · rw [show ((s.length : Int)).toNat = s.length by omega, hra _ (Nat.le_refl _), take_end (by omega), List.take_length]
end Go.Proofs.YtaaonbnjghjhlaaDoor
/- The functions' summaries hold of the program. -/
set_option linter.unusedSimpArgs false
set_option maxRecDepth 100000
set_option linter.unusedVariables false
namespace Go.Proofs.YtaaonbnjghjhlaaDoor
open Go.Vc
theorem wref10_plain (x : DenL [.int .u8]) : Owes Tryd.prog (cfgOf Qname_Join) (Lref10_plain x) 36 (argVs [.int .u8] x) [] (dref10_plain x) = vcref10_plain x := by kernel_rfl
theorem qref10_plain : Pok 36 [.int .u8] (fun x => dref10_plain x) := by
  refine pk (L := fun x => Lref10_plain x) (l := Qname_Join) aQname_Join (fun _ => rfl) ?_
  intro x hv hp
  rw [wref10_plain]
  exact okref10_plain x 
theorem pref10_plain : SumOk Tryd.prog gl 36 sref10_plain := qref10_plain
theorem aQref10_plain : AllOk Qref10_plain := .cons pref10_plain aQname_Join
theorem wref10_formed (x : DenL [.str]) : Owes Tryd.prog (cfgOf Qref10_plain) (Lref10_formed x) 24 (argVs [.str] x) [] (dref10_formed x) = vcref10_formed x := by kernel_rfl
theorem qref10_formed : Pok 24 [.str] (fun x => dref10_formed x) := by
  refine pk (L := fun x => Lref10_formed x) (l := Qref10_plain) aQref10_plain (fun _ => rfl) ?_
  intro x hv hp
  rw [wref10_formed]
  exact okref10_formed x (hp (List.length x ≤ 1000000000000) (by simp [dref10_formed]))
theorem pref10_formed : SumOk Tryd.prog gl 24 sref10_formed := qref10_formed
theorem aQref10_formed : AllOk Qref10_formed := .cons pref10_formed aQref10_plain
theorem wref10_Clean (x : DenL [.str]) : Owes Tryd.prog (cfgOf Qref10_formed) (Lref10_Clean x) 9 (argVs [.str] x) [] (dref10_Clean x) = vcref10_Clean x := by kernel_rfl
theorem qref10_Clean : Pok 9 [.str] (fun x => dref10_Clean x) := by
  refine pk (L := fun x => Lref10_Clean x) (l := Qref10_formed) aQref10_formed (fun _ => rfl) ?_
  intro x hv hp
  rw [wref10_Clean]
  exact okref10_Clean x hv.1 (hp (List.length x ≤ 1000000000000) (by simp [dref10_Clean]))
theorem pref10_Clean : SumOk Tryd.prog gl 9 sref10_Clean := qref10_Clean
theorem aQref10_Clean : AllOk Qref10_Clean := .cons pref10_Clean aQref10_formed
theorem wref10_Right (x : DenL [.str]) : Owes Tryd.prog (cfgOf Qref10_Clean) (Lref10_Right x) 11 (argVs [.str] x) [] (dref10_Right x) = vcref10_Right x := by kernel_rfl
theorem qref10_Right : Pok 11 [.str] (fun x => dref10_Right x) := by
  refine pk (L := fun x => Lref10_Right x) (l := Qref10_Clean) aQref10_Clean (fun _ => rfl) ?_
  intro x hv hp
  rw [wref10_Right]
  exact okref10_Right x (hp (List.length x ≤ 1000000000000) (by simp [dref10_Right]))
theorem pref10_Right : SumOk Tryd.prog gl 11 sref10_Right := qref10_Right
theorem aQref10_Right : AllOk Qref10_Right := .cons pref10_Right aQref10_Clean
theorem wref10_Pattern (x : DenL [.str]) : Owes Tryd.prog (cfgOf Qref10_Right) (Lref10_Pattern x) 28 (argVs [.str] x) [] (dref10_Pattern x) = vcref10_Pattern x := by kernel_rfl
theorem qref10_Pattern : Pok 28 [.str] (fun x => dref10_Pattern x) := by
  refine pk (L := fun x => Lref10_Pattern x) (l := Qref10_Right) aQref10_Right (fun _ => rfl) ?_
  intro x hv hp
  rw [wref10_Pattern]
  exact okref10_Pattern x hv.2
theorem pref10_Pattern : SumOk Tryd.prog gl 28 sref10_Pattern := qref10_Pattern
theorem aQref10_Pattern : AllOk Qref10_Pattern := .cons pref10_Pattern aQref10_Right
theorem wref10_table (x : DenL [.str, .str]) : Owes Tryd.prog (cfgOf Qref10_Pattern) (Lref10_table x.1 x.2) 29 (argVs [.str, .str] x) [] (dref10_table x.1 x.2) = vcref10_table x.1 x.2 := by kernel_rfl
theorem qref10_table : Pok 29 [.str, .str] (fun x => dref10_table x.1 x.2) := by
  refine pk (L := fun x => Lref10_table x.1 x.2) (l := Qref10_Pattern) aQref10_Pattern (fun _ => rfl) ?_
  intro x hv hp
  rw [wref10_table]
  exact okref10_table x.1 x.2 (hp (List.length x.1 ≤ 80) (by simp [dref10_table])) (hp (List.length x.2 ≤ 40) (by simp [dref10_table]))
theorem pref10_table : SumOk Tryd.prog gl 29 sref10_table := qref10_table
theorem aQref10_table : AllOk Qref10_table := .cons pref10_table aQref10_Pattern
theorem wref10_Like (x : DenL [.str, .str]) : Owes Tryd.prog (cfgOf Qref10_table) (Lref10_Like x.1 x.2) 20 (argVs [.str, .str] x) [] (dref10_Like x.1 x.2) = vcref10_Like x.1 x.2 := by kernel_rfl
theorem qref10_Like : Pok 20 [.str, .str] (fun x => dref10_Like x.1 x.2) := by
  refine pk (L := fun x => Lref10_Like x.1 x.2) (l := Qref10_table) aQref10_table (fun _ => rfl) ?_
  intro x hv hp
  rw [wref10_Like]
  exact okref10_Like x.1 x.2 (hp (List.length x.2 ≤ 1000000000000) (by simp [dref10_Like]))
theorem pref10_Like : SumOk Tryd.prog gl 20 sref10_Like := qref10_Like
theorem aQref10_Like : AllOk Qref10_Like := .cons pref10_Like aQref10_table
theorem wref10_Join (x : DenL [.str, .str]) : Owes Tryd.prog (cfgOf Qref10_Like) (Lref10_Join x.1 x.2) 19 (argVs [.str, .str] x) [] (dref10_Join x.1 x.2) = vcref10_Join x.1 x.2 := by kernel_rfl
theorem qref10_Join : Pok 19 [.str, .str] (fun x => dref10_Join x.1 x.2) := by
  refine pk (L := fun x => Lref10_Join x.1 x.2) (l := Qref10_Like) aQref10_Like (fun _ => rfl) ?_
  intro x hv hp
  rw [wref10_Join]
  exact okref10_Join x.1 x.2 (hp (List.length x.1 ≤ 1000000000000) (by simp [dref10_Join])) (hp (List.length x.2 ≤ 1000000000000) (by simp [dref10_Join]))
theorem pref10_Join : SumOk Tryd.prog gl 19 sref10_Join := qref10_Join
theorem aQref10_Join : AllOk Qref10_Join := .cons pref10_Join aQref10_Like
theorem wref10_Above (x : DenL [.str]) : Owes Tryd.prog (cfgOf Qref10_Join) (Lref10_Above x) 14 (argVs [.str] x) [] (dref10_Above x) = vcref10_Above x := by kernel_rfl
theorem qref10_Above : Pok 14 [.str] (fun x => dref10_Above x) := by
  refine pk (L := fun x => Lref10_Above x) (l := Qref10_Join) aQref10_Join (fun _ => rfl) ?_
  intro x hv hp
  rw [wref10_Above]
  exact okref10_Above x (hp (List.length x ≤ 1000000000000) (by simp [dref10_Above]))
theorem pref10_Above : SumOk Tryd.prog gl 14 sref10_Above := qref10_Above
theorem aQref10_Above : AllOk Qref10_Above := .cons pref10_Above aQref10_Join
theorem wref10_Below (x : DenL [.str, .str]) : Owes Tryd.prog (cfgOf Qref10_Above) (Lref10_Below x.1 x.2) 16 (argVs [.str, .str] x) [] (dref10_Below x.1 x.2) = vcref10_Below x.1 x.2 := by kernel_rfl
theorem qref10_Below : Pok 16 [.str, .str] (fun x => dref10_Below x.1 x.2) := by
  refine pk (L := fun x => Lref10_Below x.1 x.2) (l := Qref10_Above) aQref10_Above (fun _ => rfl) ?_
  intro x hv hp
  rw [wref10_Below]
  exact okref10_Below x.1 x.2 (hp (List.length x.1 ≤ 1000000000000) (by simp [dref10_Below]))
theorem pref10_Below : SumOk Tryd.prog gl 16 sref10_Below := qref10_Below
theorem aQref10_Below : AllOk Qref10_Below := .cons pref10_Below aQref10_Above
theorem wref10_Texts (x : DenL [tStrs, tStrs]) : Owes Tryd.prog (cfgOf Qref10_Below) (Lref10_Texts x.1 x.2) 12 (argVs [tStrs, tStrs] x) [] (dref10_Texts x.1 x.2) = vcref10_Texts x.1 x.2 := by kernel_rfl
theorem qref10_Texts : Pok 12 [tStrs, tStrs] (fun x => dref10_Texts x.1 x.2) := by
  refine pk (L := fun x => Lref10_Texts x.1 x.2) (l := Qref10_Below) aQref10_Below (fun _ => rfl) ?_
  intro x hv hp
  rw [wref10_Texts]
  exact okref10_Texts x.1 x.2 hv.1.2
theorem pref10_Texts : SumOk Tryd.prog gl 12 sref10_Texts := qref10_Texts
theorem aQref10_Texts : AllOk Qref10_Texts := .cons pref10_Texts aQref10_Below
end Go.Proofs.YtaaonbnjghjhlaaDoor
