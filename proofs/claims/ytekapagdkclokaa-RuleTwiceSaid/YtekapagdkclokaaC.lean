/- What functions of this seat compute, in plain Lean. -/
import Derived.Test.YtekapagdkclokaaA
set_option linter.unusedVariables false
set_option linter.unusedSimpArgs false
set_option maxRecDepth 100000
namespace Go.Proofs.Ytekapagdkclokaa
open Go.Vc
def s39 : Vc.Sum := .apart
namespace U
def gtBox (box : List Int) (r : Rule) : Bool := !(bytesLt r.1 box || r.1 == box)
def notBox (box : List Int) (r : Rule) : Bool := !(isBox box r)
def del (l : List Rule) (box : List Int) : List Rule := l.filter (notBox box)
def ins (l : List Rule) (i : Nat) (m : List Rule) : List Rule := l.take i ++ (m ++ l.drop i)
def place (l : List Rule) (box : List Int) : Nat := let i := idx1 (gtBox box) l 0; if i < 0 then l.length else i.toNat
def setR (l : List Rule) (box : List Int) (keep : Int) : List Rule := let d := del l box; if keep ≤ 0 then d else ins d (place d box) [(box, keep)]
end U
namespace U
def st24nA (box : List Int) (i : Int) : St2 := ⟨⟨[nil_] ++ [sF 32 [0]] ++ U.n 5 ++ [sI 0] ++ [sI i] ++ U.n 10, [], [(0, .obj [.str box])]⟩, 1, []⟩
def I24nA (box : List Int)  (i : Int) : Prop := i = 0
def st24oA (l : List Rule) (box : List Int) (i : Int) : St2 := ⟨⟨[own 0] ++ [sF 32 [1]] ++ U.n 5 ++ [sI l.length] ++ [sI i] ++ U.n 10, [], [(0, .row 54 tRule true true l), (1, .obj [.str box])]⟩, 2, []⟩
def I24oA (l : List Rule) (box : List Int)  (i : Int) : Prop := at_ l i ∧ idx1 (isBox box) (l.drop i.toNat) i = idx1 (isBox box) l 0
def st24nB (box : List Int) (i : Int) : St2 := ⟨⟨[nil_] ++ [sF 33 [0]] ++ U.n 5 ++ [sI 0] ++ [sI i] ++ U.n 10, [], [(0, .obj [.str box])]⟩, 1, []⟩
def I24nB (box : List Int)  (i : Int) : Prop := i = 0
def st24oB (l : List Rule) (box : List Int) (i : Int) : St2 := ⟨⟨[own 0] ++ [sF 33 [1]] ++ U.n 5 ++ [sI l.length] ++ [sI i] ++ U.n 10, [], [(0, .row 54 tRule true true l), (1, .obj [.str box])]⟩, 2, []⟩
def I24oB (l : List Rule) (box : List Int)  (i : Int) : Prop := at_ l i ∧ idx1 (gtBox box) (l.drop i.toNat) i = idx1 (gtBox box) l 0
def st30_5 (l : List Rule) (box : List Int) (i : Int) (j : Int) (L : List Rule) : St2 := ⟨⟨[own 0] ++ [sF 32 [1]] ++ U.n 3 ++ [sI i] ++ [sI j] ++ U.n 35, [], [(0, .row 54 tRule true true L), (1, .obj [.str box])]⟩, 2, []⟩
def I30_5 (l : List Rule) (box : List Int)  (i : Int) (j : Int) (L : List Rule) : Prop := 0 ≤ i ∧ i < j ∧ j ≤ l.length ∧ L.length = l.length ∧ L.take i.toNat = del (l.take j.toNat) box ∧ L.drop j.toNat = l.drop j.toNat
end U
def lp24nA (box : List Int) : Vc.Loop := ⟨{ keep := [0, 1, 7, 8] }, Int, fun x => U.st24nA box x, fun x0 x => U.I24nA box  x, fun x => 0⟩
def lp24oA (l : List Rule) (box : List Int) : Vc.Loop := ⟨{ keep := [0, 1, 7, 8] }, Int, fun x => U.st24oA l box x, fun x0 x => U.I24oA l box  x, fun x => l.length - x.toNat⟩
def lp24nB (box : List Int) : Vc.Loop := ⟨{ keep := [0, 1, 7, 8] }, Int, fun x => U.st24nB box x, fun x0 x => U.I24nB box  x, fun x => 0⟩
def lp24oB (l : List Rule) (box : List Int) : Vc.Loop := ⟨{ keep := [0, 1, 7, 8] }, Int, fun x => U.st24oB l box x, fun x0 x => U.I24oB l box  x, fun x => l.length - x.toNat⟩
def lp30_5 (l : List Rule) (box : List Int) : Vc.Loop := ⟨{ keep := [0, 1, 5, 6] }, Int × Int × List Rule, fun x => U.st30_5 l box x.1 x.2.1 x.2.2, fun x0 x => U.I30_5 l box  x.1 x.2.1 x.2.2, fun x => l.length - x.2.1.toNat⟩
def d24nA (box : List Int) : Done := ⟨[], .one (.int .i64 (-1)), [.obj [.str box]], []⟩
def ar24nA (box : List Int) : List V := [⟨false, [.nils]⟩, ⟨false, [.fn 32 [0]]⟩]
def es24nA (box : List Int) : List Entry := [.obj [.str box]]
def L24nA (box : List Int) : Nat → List V → Nat → Option Vc.Loop := fun f v k => cond (Nat.beq f 24 && Nat.beq k 2) (some (lp24nA box)) <| none
def al24nA : List V → List Entry → Option Done
  | [⟨false, [.nils]⟩, ⟨false, [.fn n1 [n2]]⟩], [.obj [.str box]] => cond (Nat.beq n1 32 && Nat.beq n2 0) (some (d24nA box)) none
  | _, _ => none
theorem al24nA_eq {args : List V} {es : List Entry} {d : Done} (h : al24nA args es = some d) : ∃ box, args = ar24nA box ∧ es = es24nA box ∧ d = d24nA box := by
  unfold al24nA at h
  split at h
  · obtain ⟨hb, hd⟩ := cond_some h; simp only [Bool.and_eq_true, Nat.beq_eq] at hb; (try obtain ⟨rfl, rfl⟩ := hb); subst hd; (try subst_vars); exact ⟨_, rfl, rfl, rfl⟩
  · cases h
def d24oA (l : List Rule) (box : List Int) : Done := ⟨[], .one (.int .i64 (U.idx1 (U.isBox box) l 0)), [.row 54 tRule true true l, .obj [.str box]], []⟩
def ar24oA (l : List Rule) (box : List Int) : List V := [⟨false, [.own 0]⟩, ⟨false, [.fn 32 [1]]⟩]
def es24oA (l : List Rule) (box : List Int) : List Entry := [.row 54 tRule true true l, .obj [.str box]]
def L24oA (l : List Rule) (box : List Int) : Nat → List V → Nat → Option Vc.Loop := fun f v k => cond (Nat.beq f 24 && Nat.beq k 2) (some (lp24oA l box)) <| none
def al24oA : List V → List Entry → Option Done
  | [⟨false, [.own n1]⟩, ⟨false, [.fn n2 [n3]]⟩], [.row n4 t4 true true l4, .obj [.str box]] => if h4 : t4 = tRule then cond (Nat.beq n1 0 && Nat.beq n2 32 && Nat.beq n3 1 && Nat.beq n4 54) (some (d24oA (h4 ▸ l4 : List (Ty.den tRule)) box)) none else none
  | _, _ => none
theorem al24oA_eq {args : List V} {es : List Entry} {d : Done} (h : al24oA args es = some d) : ∃ l box, args = ar24oA l box ∧ es = es24oA l box ∧ d = d24oA l box := by
  unfold al24oA at h
  split at h
  · split at h <;> first | (cases h; done) | skip
    rename_i ht; subst ht
    obtain ⟨hb, hd⟩ := cond_some h; simp only [Bool.and_eq_true, Nat.beq_eq] at hb; (try obtain ⟨⟨⟨rfl, rfl⟩, rfl⟩, rfl⟩ := hb); subst hd; (try subst_vars); exact ⟨_, _, rfl, rfl, rfl⟩
  · cases h
def d24nB (box : List Int) : Done := ⟨[], .one (.int .i64 (-1)), [.obj [.str box]], []⟩
def ar24nB (box : List Int) : List V := [⟨false, [.nils]⟩, ⟨false, [.fn 33 [0]]⟩]
def es24nB (box : List Int) : List Entry := [.obj [.str box]]
def L24nB (box : List Int) : Nat → List V → Nat → Option Vc.Loop := fun f v k => cond (Nat.beq f 24 && Nat.beq k 2) (some (lp24nB box)) <| none
def al24nB : List V → List Entry → Option Done
  | [⟨false, [.nils]⟩, ⟨false, [.fn n1 [n2]]⟩], [.obj [.str box]] => cond (Nat.beq n1 33 && Nat.beq n2 0) (some (d24nB box)) none
  | _, _ => none
theorem al24nB_eq {args : List V} {es : List Entry} {d : Done} (h : al24nB args es = some d) : ∃ box, args = ar24nB box ∧ es = es24nB box ∧ d = d24nB box := by
  unfold al24nB at h
  split at h
  · obtain ⟨hb, hd⟩ := cond_some h; simp only [Bool.and_eq_true, Nat.beq_eq] at hb; (try obtain ⟨rfl, rfl⟩ := hb); subst hd; (try subst_vars); exact ⟨_, rfl, rfl, rfl⟩
  · cases h
def d24oB (l : List Rule) (box : List Int) : Done := ⟨[], .one (.int .i64 (U.idx1 (U.gtBox box) l 0)), [.row 54 tRule true true l, .obj [.str box]], []⟩
def ar24oB (l : List Rule) (box : List Int) : List V := [⟨false, [.own 0]⟩, ⟨false, [.fn 33 [1]]⟩]
def es24oB (l : List Rule) (box : List Int) : List Entry := [.row 54 tRule true true l, .obj [.str box]]
def L24oB (l : List Rule) (box : List Int) : Nat → List V → Nat → Option Vc.Loop := fun f v k => cond (Nat.beq f 24 && Nat.beq k 2) (some (lp24oB l box)) <| none
def al24oB : List V → List Entry → Option Done
  | [⟨false, [.own n1]⟩, ⟨false, [.fn n2 [n3]]⟩], [.row n4 t4 true true l4, .obj [.str box]] => if h4 : t4 = tRule then cond (Nat.beq n1 0 && Nat.beq n2 33 && Nat.beq n3 1 && Nat.beq n4 54) (some (d24oB (h4 ▸ l4 : List (Ty.den tRule)) box)) none else none
  | _, _ => none
theorem al24oB_eq {args : List V} {es : List Entry} {d : Done} (h : al24oB args es = some d) : ∃ l box, args = ar24oB l box ∧ es = es24oB l box ∧ d = d24oB l box := by
  unfold al24oB at h
  split at h
  · split at h <;> first | (cases h; done) | skip
    rename_i ht; subst ht
    obtain ⟨hb, hd⟩ := cond_some h; simp only [Bool.and_eq_true, Nat.beq_eq] at hb; (try obtain ⟨⟨⟨rfl, rfl⟩, rfl⟩, rfl⟩ := hb); subst hd; (try subst_vars); exact ⟨_, _, rfl, rfl, rfl⟩
  · cases h
def F24 (args : List V) (es : List Entry) : Option Done := orE (al24nA args es) (orE (al24oA args es) (orE (al24nB args es) (orE (al24oB args es) (none))))
def s24 : Vc.Sum := .gen F24
def d30n (box : List Int) : Done := ⟨[], .one .nils, [.obj [.str box]], []⟩
def ar30n (box : List Int) : List V := [⟨false, [.nils]⟩, ⟨false, [.fn 32 [0]]⟩]
def es30n (box : List Int) : List Entry := [.obj [.str box]]
def L30n (box : List Int) : Nat → List V → Nat → Option Vc.Loop := noKeep
def al30n : List V → List Entry → Option Done
  | [⟨false, [.nils]⟩, ⟨false, [.fn n1 [n2]]⟩], [.obj [.str box]] => cond (Nat.beq n1 32 && Nat.beq n2 0) (some (d30n box)) none
  | _, _ => none
theorem al30n_eq {args : List V} {es : List Entry} {d : Done} (h : al30n args es = some d) : ∃ box, args = ar30n box ∧ es = es30n box ∧ d = d30n box := by
  unfold al30n at h
  split at h
  · obtain ⟨hb, hd⟩ := cond_some h; simp only [Bool.and_eq_true, Nat.beq_eq] at hb; (try obtain ⟨rfl, rfl⟩ := hb); subst hd; (try subst_vars); exact ⟨_, rfl, rfl, rfl⟩
  · cases h
def d30o (l : List Rule) (box : List Int) : Done := ⟨[], .one (.own 2), [.dead, .obj [.str box]], [.row 54 tRule true true (U.del l box)]⟩
def ar30o (l : List Rule) (box : List Int) : List V := [⟨false, [.own 0]⟩, ⟨false, [.fn 32 [1]]⟩]
def es30o (l : List Rule) (box : List Int) : List Entry := [.row 54 tRule true true l, .obj [.str box]]
def L30o (l : List Rule) (box : List Int) : Nat → List V → Nat → Option Vc.Loop := fun f v k => cond (Nat.beq f 30 && Nat.beq k 5) (some (lp30_5 l box)) <| none
def al30o : List V → List Entry → Option Done
  | [⟨false, [.own n1]⟩, ⟨false, [.fn n2 [n3]]⟩], [.row n4 t4 true true l4, .obj [.str box]] => if h4 : t4 = tRule then cond (Nat.beq n1 0 && Nat.beq n2 32 && Nat.beq n3 1 && Nat.beq n4 54) (some (d30o (h4 ▸ l4 : List (Ty.den tRule)) box)) none else none
  | _, _ => none
theorem al30o_eq {args : List V} {es : List Entry} {d : Done} (h : al30o args es = some d) : ∃ l box, args = ar30o l box ∧ es = es30o l box ∧ d = d30o l box := by
  unfold al30o at h
  split at h
  · split at h <;> first | (cases h; done) | skip
    rename_i ht; subst ht
    obtain ⟨hb, hd⟩ := cond_some h; simp only [Bool.and_eq_true, Nat.beq_eq] at hb; (try obtain ⟨⟨⟨rfl, rfl⟩, rfl⟩, rfl⟩ := hb); subst hd; (try subst_vars); exact ⟨_, _, rfl, rfl, rfl⟩
  · cases h
def F30 (args : List V) (es : List Entry) : Option Done := orE (al30n args es) (orE (al30o args es) (none))
def s30 : Vc.Sum := .gen F30
def d34n (i : Int) (m : List Rule) : Done := ⟨[List.length m = 1, i = 0], .one (.own 1), [.dead], [.row 54 tRule true true m]⟩
def ar34n (i : Int) (m : List Rule) : List V := [⟨false, [.nils]⟩, ⟨false, [.int .i64 i]⟩, ⟨false, [.own 0]⟩]
def es34n (i : Int) (m : List Rule) : List Entry := [.row 54 tRule true true m]
def L34n (i : Int) (m : List Rule) : Nat → List V → Nat → Option Vc.Loop := noKeep
def al34n : List V → List Entry → Option Done
  | [⟨false, [.nils]⟩, ⟨false, [.int .i64 i]⟩, ⟨false, [.own n1]⟩], [.row n2 t2 true true l2] => if h2 : t2 = tRule then cond (Nat.beq n1 0 && Nat.beq n2 54) (some (d34n i (h2 ▸ l2 : List (Ty.den tRule)))) none else none
  | _, _ => none
theorem al34n_eq {args : List V} {es : List Entry} {d : Done} (h : al34n args es = some d) : ∃ i m, args = ar34n i m ∧ es = es34n i m ∧ d = d34n i m := by
  unfold al34n at h
  split at h
  · split at h <;> first | (cases h; done) | skip
    rename_i ht; subst ht
    obtain ⟨hb, hd⟩ := cond_some h; simp only [Bool.and_eq_true, Nat.beq_eq] at hb; (try obtain ⟨rfl, rfl⟩ := hb); subst hd; (try subst_vars); exact ⟨_, _, rfl, rfl, rfl⟩
  · cases h
def d34o (l : List Rule) (i : Int) (m : List Rule) : Done := ⟨[List.length m = 1, List.length l ≤ 1000000, 0 ≤ i, i ≤ List.length l], .one (.own 2), [.dead, .dead], [.row 54 tRule true true (U.ins l i.toNat m)]⟩
def ar34o (l : List Rule) (i : Int) (m : List Rule) : List V := [⟨false, [.own 0]⟩, ⟨false, [.int .i64 i]⟩, ⟨false, [.own 1]⟩]
def es34o (l : List Rule) (i : Int) (m : List Rule) : List Entry := [.row 54 tRule true true l, .row 54 tRule true true m]
def L34o (l : List Rule) (i : Int) (m : List Rule) : Nat → List V → Nat → Option Vc.Loop := noKeep
def al34o : List V → List Entry → Option Done
  | [⟨false, [.own n1]⟩, ⟨false, [.int .i64 i]⟩, ⟨false, [.own n2]⟩], [.row n3 t3 true true l3, .row n4 t4 true true l4] => if h4 : t4 = tRule then if h3 : t3 = tRule then cond (Nat.beq n1 0 && Nat.beq n2 1 && Nat.beq n3 54 && Nat.beq n4 54) (some (d34o (h3 ▸ l3 : List (Ty.den tRule)) i (h4 ▸ l4 : List (Ty.den tRule)))) none else none else none
  | _, _ => none
theorem al34o_eq {args : List V} {es : List Entry} {d : Done} (h : al34o args es = some d) : ∃ l i m, args = ar34o l i m ∧ es = es34o l i m ∧ d = d34o l i m := by
  unfold al34o at h
  split at h
  · split at h <;> first | (cases h; done) | skip
    rename_i ht; subst ht
    split at h <;> first | (cases h; done) | skip
    rename_i ht; subst ht
    obtain ⟨hb, hd⟩ := cond_some h; simp only [Bool.and_eq_true, Nat.beq_eq] at hb; (try obtain ⟨⟨⟨rfl, rfl⟩, rfl⟩, rfl⟩ := hb); subst hd; (try subst_vars); exact ⟨_, _, _, rfl, rfl, rfl⟩
  · cases h
def F34 (args : List V) (es : List Entry) : Option Done := orE (al34n args es) (orE (al34o args es) (none))
def s34 : Vc.Sum := .gen F34
def QE : List (Nat × Vc.Sum) := (24, s24) :: QD
def QE2 : List (Nat × Vc.Sum) := (39, s39) :: QE
def QF : List (Nat × Vc.Sum) := (30, s30) :: (34, s34) :: QE2
end Go.Proofs.Ytekapagdkclokaa
/- What is owed of the functions, in plain Lean (printed by a program of this project). -/
set_option maxRecDepth 100000
set_option linter.unusedVariables false
namespace Go.Proofs.Ytekapagdkclokaa
open Go.Vc
def vc24nA (box : List Int) : Prop :=
  ∃ (x0 : Int),
    (U.st24nA box (0 : Int) = U.st24nA box x0 ∧ U.I24nA box x0) ∧
      ∀ (x : Int),
        U.I24nA box x →
          bif decide (x < (0 : Int)) then False else Int.neg (1 : Int) = Int.neg (1 : Int) ∧ box = box ∧ True
def vc24oA (l : List Rule) (box : List Int) : Prop :=
  ∃ (x0 : Int),
    (U.st24oA l box (0 : Int) = U.st24oA l box x0 ∧ U.I24oA l box x0) ∧
      ∀ (x : Int),
        U.I24oA l box x →
          bif decide (x < (↑l.length : Int)) then
            (0 : Int) ≤ x ∧
              x < (↑l.length : Int) ∧
                x.toNat < l.length ∧
                  bif (l.getD x.toNat (([] : List Int), (0 : Int))).fst.beq box then
                    x = U.idx1 (U.isBox box) l (0 : Int) ∧ l = l ∧ box = box ∧ True
                  else
                    ∃ (y : Int),
                      U.st24oA l box (IntKind.i64.wrap (x.add (1 : Int))) = U.st24oA l box y ∧
                        U.I24oA l box y ∧ l.length.sub y.toNat < l.length.sub x.toNat
          else Int.neg (1 : Int) = U.idx1 (U.isBox box) l (0 : Int) ∧ l = l ∧ box = box ∧ True
def vc24nB (box : List Int) : Prop :=
  ∃ (x0 : Int),
    (U.st24nB box (0 : Int) = U.st24nB box x0 ∧ U.I24nB box x0) ∧
      ∀ (x : Int),
        U.I24nB box x →
          bif decide (x < (0 : Int)) then False else Int.neg (1 : Int) = Int.neg (1 : Int) ∧ box = box ∧ True
def vc24oB (l : List Rule) (box : List Int) : Prop :=
  ∃ (x0 : Int),
    (U.st24oB l box (0 : Int) = U.st24oB l box x0 ∧ U.I24oB l box x0) ∧
      ∀ (x : Int),
        U.I24oB l box x →
          bif decide (x < (↑l.length : Int)) then
            (0 : Int) ≤ x ∧
              x < (↑l.length : Int) ∧
                x.toNat < l.length ∧
                  bif
                      !(bytesLt (l.getD x.toNat (([] : List Int), (0 : Int))).fst box ||
                          (l.getD x.toNat (([] : List Int), (0 : Int))).fst.beq box) then
                    x = U.idx1 (U.gtBox box) l (0 : Int) ∧ l = l ∧ box = box ∧ True
                  else
                    ∃ (y : Int),
                      U.st24oB l box (IntKind.i64.wrap (x.add (1 : Int))) = U.st24oB l box y ∧
                        U.I24oB l box y ∧ l.length.sub y.toNat < l.length.sub x.toNat
          else Int.neg (1 : Int) = U.idx1 (U.gtBox box) l (0 : Int) ∧ l = l ∧ box = box ∧ True
def vc30n (box : List Int) : Prop := bif decide (Int.neg (1 : Int) = Int.neg (1 : Int)) then box = box ∧ True else False
def vc30o (l : List Rule) (box : List Int) : Prop :=
  bif decide (U.idx1 (U.isBox box) l (0 : Int) = Int.neg (1 : Int)) then box = box ∧ l = U.del l box ∧ True
  else
    ∃ (x0 : Int × Int × List (List Int × Int)),
      (U.st30_5 l box (U.idx1 (U.isBox box) l (0 : Int))
              (IntKind.i64.wrap ((U.idx1 (U.isBox box) l (0 : Int)).add (1 : Int))) l =
            U.st30_5 l box x0.fst x0.snd.fst x0.snd.snd ∧
          U.I30_5 l box x0.fst x0.snd.fst x0.snd.snd) ∧
        ∀ (x : Int × Int × List (List Int × Int)),
          U.I30_5 l box x.fst x.snd.fst x.snd.snd →
            bif decide (x.snd.fst < (↑x.snd.snd.length : Int)) then
              (0 : Int) ≤ x.snd.fst ∧
                x.snd.fst < (↑x.snd.snd.length : Int) ∧
                  x.snd.fst.toNat < x.snd.snd.length ∧
                    bif !(x.snd.snd.getD x.snd.fst.toNat (([] : List Int), (0 : Int))).fst.beq box then
                      (0 : Int) ≤ x.fst ∧
                        x.fst < (↑x.snd.snd.length : Int) ∧
                          x.fst.toNat < x.snd.snd.length ∧
                            ∃ (y : Int × Int × List (List Int × Int)),
                              U.st30_5 l box (IntKind.i64.wrap (x.fst.add (1 : Int)))
                                    (IntKind.i64.wrap (x.snd.fst.add (1 : Int)))
                                    (x.snd.snd.set x.fst.toNat (x.snd.snd.getD x.snd.fst.toNat (([] : List Int), (0 : Int)))) =
                                  U.st30_5 l box y.fst y.snd.fst y.snd.snd ∧
                                U.I30_5 l box y.fst y.snd.fst y.snd.snd ∧
                                  l.length.sub y.snd.fst.toNat < l.length.sub x.snd.fst.toNat
                    else
                      ∃ (y : Int × Int × List (List Int × Int)),
                        U.st30_5 l box x.fst (IntKind.i64.wrap (x.snd.fst.add (1 : Int))) x.snd.snd =
                            U.st30_5 l box y.fst y.snd.fst y.snd.snd ∧
                          U.I30_5 l box y.fst y.snd.fst y.snd.snd ∧
                            l.length.sub y.snd.fst.toNat < l.length.sub x.snd.fst.toNat
            else
              (0 : Int) ≤ x.fst ∧
                x.fst ≤ (↑x.snd.snd.length : Int) ∧
                  (↑x.snd.snd.length : Int) ≤ (↑x.snd.snd.length : Int) ∧
                    (0 : Int) ≤ (0 : Int) ∧
                      (0 : Int) ≤ x.fst ∧
                        x.fst ≤
                            (↑((List.take x.fst.toNat x.snd.snd).append
                                    ((List.replicate ((↑x.snd.snd.length : Int).toNat.sub x.fst.toNat)
                                          (([] : List Int), (0 : Int))).append
                                      (List.drop (x.fst.toNat.add ((↑x.snd.snd.length : Int).toNat.sub x.fst.toNat))
                                        x.snd.snd))).length :
                              Int) ∧
                          box = box ∧
                            List.take (x.fst.toNat.sub (Int.toNat (0 : Int)))
                                  ((List.take x.fst.toNat x.snd.snd).append
                                    ((List.replicate ((↑x.snd.snd.length : Int).toNat.sub x.fst.toNat)
                                          (([] : List Int), (0 : Int))).append
                                      (List.drop (x.fst.toNat.add ((↑x.snd.snd.length : Int).toNat.sub x.fst.toNat))
                                        x.snd.snd))) =
                                U.del l box ∧
                              True
def vc34n (i : Int) (m : List Rule) : Prop :=
  (0 : Int) ≤ i ∧
    i ≤ (0 : Int) ∧
      (0 : Int) ≤ (0 : Int) ∧
        bif decide ((↑m.length : Int) = (0 : Int)) then False
        else
          bif decide (i = (0 : Int)) then
            m.length.mul (24 : Nat) ≤ (140737488355328 : Nat) ∧ m.length ≤ maxLen ∧ m = m ∧ True
          else
            bif decide (IntKind.i64.wrap (Int.add (0 : Int) (↑m.length : Int)) > (0 : Int)) then
              (0 : Int) ≤ (0 : Int) ∧
                (0 : Int) ≤ i ∧
                  i ≤ (0 : Int) ∧
                    (0 : Int) < IntKind.i64.wrap ((IntKind.i64.wrap (Int.add (0 : Int) (↑m.length : Int))).sub i) ∧
                      (IntKind.i64.wrap ((IntKind.i64.wrap (Int.add (0 : Int) (↑m.length : Int))).sub i)).mul
                            (↑(24 : Nat) : Int) ≤
                          (140737488355328 : Int) ∧
                        IntKind.i64.wrap ((IntKind.i64.wrap (Int.add (0 : Int) (↑m.length : Int))).sub i) ≤
                            (↑maxLen : Int) ∧
                          (0 : Int) ≤ i ∧
                            i ≤
                                (↑(List.replicate
                                        (IntKind.i64.wrap
                                            ((IntKind.i64.wrap (Int.add (0 : Int) (↑m.length : Int))).sub i)).toNat
                                        (([] : List Int), (0 : Int))).length :
                                  Int) ∧
                              (↑(List.replicate
                                          (IntKind.i64.wrap
                                              ((IntKind.i64.wrap (Int.add (0 : Int) (↑m.length : Int))).sub i)).toNat
                                          (([] : List Int), (0 : Int))).length :
                                    Int) ≤
                                  (↑(List.replicate
                                          (IntKind.i64.wrap
                                              ((IntKind.i64.wrap (Int.add (0 : Int) (↑m.length : Int))).sub i)).toNat
                                          (([] : List Int), (0 : Int))).length :
                                    Int) ∧
                                (0 : Int) ≤ IntKind.i64.wrap (i.add (↑m.length : Int)) ∧
                                  IntKind.i64.wrap (i.add (↑m.length : Int)) ≤
                                      (↑((List.take i.toNat
                                                  (List.replicate
                                                    (IntKind.i64.wrap
                                                        ((IntKind.i64.wrap (Int.add (0 : Int) (↑m.length : Int))).sub
                                                          i)).toNat
                                                    (([] : List Int), (0 : Int)))).append
                                              ((List.take
                                                    ((↑(List.replicate
                                                                  (IntKind.i64.wrap
                                                                      ((IntKind.i64.wrap
                                                                            (Int.add (0 : Int) (↑m.length : Int))).sub
                                                                        i)).toNat
                                                                  (([] : List Int), (0 : Int))).length :
                                                            Int).toNat.sub
                                                      i.toNat)
                                                    m).append
                                                (List.drop
                                                  (i.toNat.add
                                                    (List.take
                                                        ((↑(List.replicate
                                                                      (IntKind.i64.wrap
                                                                          ((IntKind.i64.wrap
                                                                                (Int.add (0 : Int)
                                                                                  (↑m.length : Int))).sub
                                                                            i)).toNat
                                                                      (([] : List Int), (0 : Int))).length :
                                                                Int).toNat.sub
                                                          i.toNat)
                                                        m).length)
                                                  (List.replicate
                                                    (IntKind.i64.wrap
                                                        ((IntKind.i64.wrap (Int.add (0 : Int) (↑m.length : Int))).sub
                                                          i)).toNat
                                                    (([] : List Int), (0 : Int)))))).length :
                                        Int) ∧
                                    (↑((List.take i.toNat
                                                    (List.replicate
                                                      (IntKind.i64.wrap
                                                          ((IntKind.i64.wrap (Int.add (0 : Int) (↑m.length : Int))).sub
                                                            i)).toNat
                                                      (([] : List Int), (0 : Int)))).append
                                                ((List.take
                                                      ((↑(List.replicate
                                                                    (IntKind.i64.wrap
                                                                        ((IntKind.i64.wrap
                                                                              (Int.add (0 : Int) (↑m.length : Int))).sub
                                                                          i)).toNat
                                                                    (([] : List Int), (0 : Int))).length :
                                                              Int).toNat.sub
                                                        i.toNat)
                                                      m).append
                                                  (List.drop
                                                    (i.toNat.add
                                                      (List.take
                                                          ((↑(List.replicate
                                                                        (IntKind.i64.wrap
                                                                            ((IntKind.i64.wrap
                                                                                  (Int.add (0 : Int)
                                                                                    (↑m.length : Int))).sub
                                                                              i)).toNat
                                                                        (([] : List Int), (0 : Int))).length :
                                                                  Int).toNat.sub
                                                            i.toNat)
                                                          m).length)
                                                    (List.replicate
                                                      (IntKind.i64.wrap
                                                          ((IntKind.i64.wrap (Int.add (0 : Int) (↑m.length : Int))).sub
                                                            i)).toNat
                                                      (([] : List Int), (0 : Int)))))).length :
                                          Int) ≤
                                        (↑((List.take i.toNat
                                                    (List.replicate
                                                      (IntKind.i64.wrap
                                                          ((IntKind.i64.wrap (Int.add (0 : Int) (↑m.length : Int))).sub
                                                            i)).toNat
                                                      (([] : List Int), (0 : Int)))).append
                                                ((List.take
                                                      ((↑(List.replicate
                                                                    (IntKind.i64.wrap
                                                                        ((IntKind.i64.wrap
                                                                              (Int.add (0 : Int) (↑m.length : Int))).sub
                                                                          i)).toNat
                                                                    (([] : List Int), (0 : Int))).length :
                                                              Int).toNat.sub
                                                        i.toNat)
                                                      m).append
                                                  (List.drop
                                                    (i.toNat.add
                                                      (List.take
                                                          ((↑(List.replicate
                                                                        (IntKind.i64.wrap
                                                                            ((IntKind.i64.wrap
                                                                                  (Int.add (0 : Int)
                                                                                    (↑m.length : Int))).sub
                                                                              i)).toNat
                                                                        (([] : List Int), (0 : Int))).length :
                                                                  Int).toNat.sub
                                                            i.toNat)
                                                          m).length)
                                                    (List.replicate
                                                      (IntKind.i64.wrap
                                                          ((IntKind.i64.wrap (Int.add (0 : Int) (↑m.length : Int))).sub
                                                            i)).toNat
                                                      (([] : List Int), (0 : Int)))))).length :
                                          Int) ∧
                                      (0 : Int) ≤ i ∧
                                        i ≤ (0 : Int) ∧
                                          (0 : Int) ≤ (0 : Int) ∧
                                            (List.take (IntKind.i64.wrap (i.add (↑m.length : Int))).toNat
                                                      ((List.take i.toNat
                                                            (List.replicate
                                                              (IntKind.i64.wrap
                                                                  ((IntKind.i64.wrap
                                                                        (Int.add (0 : Int) (↑m.length : Int))).sub
                                                                    i)).toNat
                                                              (([] : List Int), (0 : Int)))).append
                                                        ((List.take
                                                              ((↑(List.replicate
                                                                            (IntKind.i64.wrap
                                                                                ((IntKind.i64.wrap
                                                                                      (Int.add (0 : Int)
                                                                                        (↑m.length : Int))).sub
                                                                                  i)).toNat
                                                                            (([] : List Int), (0 : Int))).length :
                                                                      Int).toNat.sub
                                                                i.toNat)
                                                              m).append
                                                          (List.drop
                                                            (i.toNat.add
                                                              (List.take
                                                                  ((↑(List.replicate
                                                                                (IntKind.i64.wrap
                                                                                    ((IntKind.i64.wrap
                                                                                          (Int.add (0 : Int)
                                                                                            (↑m.length : Int))).sub
                                                                                      i)).toNat
                                                                                (([] : List Int), (0 : Int))).length :
                                                                          Int).toNat.sub
                                                                    i.toNat)
                                                                  m).length)
                                                            (List.replicate
                                                              (IntKind.i64.wrap
                                                                  ((IntKind.i64.wrap
                                                                        (Int.add (0 : Int) (↑m.length : Int))).sub
                                                                    i)).toNat
                                                              (([] : List Int), (0 : Int))))))).append
                                                  ((List.take
                                                        ((↑((List.take i.toNat
                                                                          (List.replicate
                                                                            (IntKind.i64.wrap
                                                                                ((IntKind.i64.wrap
                                                                                      (Int.add (0 : Int)
                                                                                        (↑m.length : Int))).sub
                                                                                  i)).toNat
                                                                            (([] : List Int), (0 : Int)))).append
                                                                      ((List.take
                                                                            ((↑(List.replicate
                                                                                          (IntKind.i64.wrap
                                                                                              ((IntKind.i64.wrap
                                                                                                    (Int.add (0 : Int)
                                                                                                      (↑m.length :
                                                                                                        Int))).sub
                                                                                                i)).toNat
                                                                                          (([] : List Int), (0 : Int))).length :
                                                                                    Int).toNat.sub
                                                                              i.toNat)
                                                                            m).append
                                                                        (List.drop
                                                                          (i.toNat.add
                                                                            (List.take
                                                                                ((↑(List.replicate
                                                                                              (IntKind.i64.wrap
                                                                                                  ((IntKind.i64.wrap
                                                                                                        (Int.add
                                                                                                          (0 : Int)
                                                                                                          (↑m.length :
                                                                                                            Int))).sub
                                                                                                    i)).toNat
                                                                                              (([] : List Int), (0 : Int))).length :
                                                                                        Int).toNat.sub
                                                                                  i.toNat)
                                                                                m).length)
                                                                          (List.replicate
                                                                            (IntKind.i64.wrap
                                                                                ((IntKind.i64.wrap
                                                                                      (Int.add (0 : Int)
                                                                                        (↑m.length : Int))).sub
                                                                                  i)).toNat
                                                                            (([] : List Int), (0 : Int)))))).length :
                                                                Int).toNat.sub
                                                          (IntKind.i64.wrap (i.add (↑m.length : Int))).toNat)
                                                        ([] : List Rule)).append
                                                    (List.drop
                                                      ((IntKind.i64.wrap (i.add (↑m.length : Int))).toNat.add
                                                        (List.take
                                                            ((↑((List.take i.toNat
                                                                              (List.replicate
                                                                                (IntKind.i64.wrap
                                                                                    ((IntKind.i64.wrap
                                                                                          (Int.add (0 : Int)
                                                                                            (↑m.length : Int))).sub
                                                                                      i)).toNat
                                                                                (([] : List Int), (0 : Int)))).append
                                                                          ((List.take
                                                                                ((↑(List.replicate
                                                                                              (IntKind.i64.wrap
                                                                                                  ((IntKind.i64.wrap
                                                                                                        (Int.add
                                                                                                          (0 : Int)
                                                                                                          (↑m.length :
                                                                                                            Int))).sub
                                                                                                    i)).toNat
                                                                                              (([] : List Int), (0 : Int))).length :
                                                                                        Int).toNat.sub
                                                                                  i.toNat)
                                                                                m).append
                                                                            (List.drop
                                                                              (i.toNat.add
                                                                                (List.take
                                                                                    ((↑(List.replicate
                                                                                                  (IntKind.i64.wrap
                                                                                                      ((IntKind.i64.wrap
                                                                                                            (Int.add
                                                                                                              (0 : Int)
                                                                                                              (↑m.length :
                                                                                                                Int))).sub
                                                                                                        i)).toNat
                                                                                                  (([] : List Int), (0 : Int))).length :
                                                                                            Int).toNat.sub
                                                                                      i.toNat)
                                                                                    m).length)
                                                                              (List.replicate
                                                                                (IntKind.i64.wrap
                                                                                    ((IntKind.i64.wrap
                                                                                          (Int.add (0 : Int)
                                                                                            (↑m.length : Int))).sub
                                                                                      i)).toNat
                                                                                (([] : List Int), (0 : Int)))))).length :
                                                                    Int).toNat.sub
                                                              (IntKind.i64.wrap (i.add (↑m.length : Int))).toNat)
                                                            ([] : List Rule)).length)
                                                      ((List.take i.toNat
                                                            (List.replicate
                                                              (IntKind.i64.wrap
                                                                  ((IntKind.i64.wrap
                                                                        (Int.add (0 : Int) (↑m.length : Int))).sub
                                                                    i)).toNat
                                                              (([] : List Int), (0 : Int)))).append
                                                        ((List.take
                                                              ((↑(List.replicate
                                                                            (IntKind.i64.wrap
                                                                                ((IntKind.i64.wrap
                                                                                      (Int.add (0 : Int)
                                                                                        (↑m.length : Int))).sub
                                                                                  i)).toNat
                                                                            (([] : List Int), (0 : Int))).length :
                                                                      Int).toNat.sub
                                                                i.toNat)
                                                              m).append
                                                          (List.drop
                                                            (i.toNat.add
                                                              (List.take
                                                                  ((↑(List.replicate
                                                                                (IntKind.i64.wrap
                                                                                    ((IntKind.i64.wrap
                                                                                          (Int.add (0 : Int)
                                                                                            (↑m.length : Int))).sub
                                                                                      i)).toNat
                                                                                (([] : List Int), (0 : Int))).length :
                                                                          Int).toNat.sub
                                                                    i.toNat)
                                                                  m).length)
                                                            (List.replicate
                                                              (IntKind.i64.wrap
                                                                  ((IntKind.i64.wrap
                                                                        (Int.add (0 : Int) (↑m.length : Int))).sub
                                                                    i)).toNat
                                                              (([] : List Int), (0 : Int)))))))) =
                                                m ∧
                                              True
            else
              (0 : Int) ≤ (0 : Int) ∧
                (0 : Int) ≤ IntKind.i64.wrap (Int.add (0 : Int) (↑m.length : Int)) ∧
                  IntKind.i64.wrap (Int.add (0 : Int) (↑m.length : Int)) ≤ (0 : Int) ∧
                    (0 : Int) ≤ IntKind.i64.wrap (i.add (↑m.length : Int)) ∧
                      IntKind.i64.wrap (i.add (↑m.length : Int)) ≤ (0 : Int) ∧ (0 : Int) ≤ (0 : Int) ∧ False
def vc34o (l : List Rule) (i : Int) (m : List Rule) : Prop :=
  ∀ (sp : List (List Int × Int)),
    l.length.add sp.length ≤ maxLen →
      (∀ (x : List Int × Int), List.Mem x sp → Valid (Ty.str.pair (Ty.int IntKind.i64)) x) →
        (0 : Int) ≤ i ∧
          i ≤ (↑l.length : Int) ∧
            (↑l.length : Int) ≤ (↑((l.append sp).length.sub (0 : Nat)) : Int) ∧
              bif decide ((↑m.length : Int) = (0 : Int)) then
                List.take l.length (l.append sp) = U.ins l i.toNat m ∧ True
              else
                bif decide (i = (↑l.length : Int)) then
                  (l.length.add m.length).mul (24 : Nat) ≤ (140737488355328 : Nat) ∧
                    l.length.add m.length ≤ maxLen ∧
                      (List.take l.length (l.append sp)).append m = U.ins l i.toNat m ∧ True
                else
                  bif
                      decide
                        (IntKind.i64.wrap ((↑l.length : Int).add (↑m.length : Int)) >
                          (↑((l.append sp).length.sub (0 : Nat)) : Int)) then
                    (0 : Int) ≤ (0 : Int) ∧
                      (0 : Int) ≤ i ∧
                        i ≤ (↑((l.append sp).length.sub (0 : Nat)) : Int) ∧
                          (0 : Int) <
                              IntKind.i64.wrap ((IntKind.i64.wrap ((↑l.length : Int).add (↑m.length : Int))).sub i) ∧
                            (↑(l.append sp).length : Int) <
                                (↑(i.toNat.sub (Int.toNat (0 : Int))) : Int).add
                                  (IntKind.i64.wrap
                                    ((IntKind.i64.wrap ((↑l.length : Int).add (↑m.length : Int))).sub i)) ∧
                              ((↑(i.toNat.sub (Int.toNat (0 : Int))) : Int).add
                                        (IntKind.i64.wrap
                                          ((IntKind.i64.wrap ((↑l.length : Int).add (↑m.length : Int))).sub i))).mul
                                    (↑(24 : Nat) : Int) ≤
                                  (140737488355328 : Int) ∧
                                (↑(i.toNat.sub (Int.toNat (0 : Int))) : Int).add
                                      (IntKind.i64.wrap
                                        ((IntKind.i64.wrap ((↑l.length : Int).add (↑m.length : Int))).sub i)) ≤
                                    (↑maxLen : Int) ∧
                                  (0 : Int) ≤ i ∧
                                    i ≤
                                        (↑((List.take (i.toNat.sub (Int.toNat (0 : Int))) (l.append sp)).append
                                                (List.replicate
                                                  (IntKind.i64.wrap
                                                      ((IntKind.i64.wrap ((↑l.length : Int).add (↑m.length : Int))).sub
                                                        i)).toNat
                                                  (([] : List Int), (0 : Int)))).length :
                                          Int) ∧
                                      (↑((List.take (i.toNat.sub (Int.toNat (0 : Int))) (l.append sp)).append
                                                  (List.replicate
                                                    (IntKind.i64.wrap
                                                        ((IntKind.i64.wrap
                                                              ((↑l.length : Int).add (↑m.length : Int))).sub
                                                          i)).toNat
                                                    (([] : List Int), (0 : Int)))).length :
                                            Int) ≤
                                          (↑((List.take (i.toNat.sub (Int.toNat (0 : Int))) (l.append sp)).append
                                                  (List.replicate
                                                    (IntKind.i64.wrap
                                                        ((IntKind.i64.wrap
                                                              ((↑l.length : Int).add (↑m.length : Int))).sub
                                                          i)).toNat
                                                    (([] : List Int), (0 : Int)))).length :
                                            Int) ∧
                                        (0 : Int) ≤ IntKind.i64.wrap (i.add (↑m.length : Int)) ∧
                                          IntKind.i64.wrap (i.add (↑m.length : Int)) ≤
                                              (↑((List.take i.toNat
                                                          ((List.take (i.toNat.sub (Int.toNat (0 : Int)))
                                                                (l.append sp)).append
                                                            (List.replicate
                                                              (IntKind.i64.wrap
                                                                  ((IntKind.i64.wrap
                                                                        ((↑l.length : Int).add (↑m.length : Int))).sub
                                                                    i)).toNat
                                                              (([] : List Int), (0 : Int))))).append
                                                      ((List.take
                                                            ((↑((List.take (i.toNat.sub (Int.toNat (0 : Int)))
                                                                              (l.append sp)).append
                                                                          (List.replicate
                                                                            (IntKind.i64.wrap
                                                                                ((IntKind.i64.wrap
                                                                                      ((↑l.length : Int).add
                                                                                        (↑m.length : Int))).sub
                                                                                  i)).toNat
                                                                            (([] : List Int), (0 : Int)))).length :
                                                                    Int).toNat.sub
                                                              i.toNat)
                                                            m).append
                                                        (List.drop
                                                          (i.toNat.add
                                                            (List.take
                                                                ((↑((List.take (i.toNat.sub (Int.toNat (0 : Int)))
                                                                                  (l.append sp)).append
                                                                              (List.replicate
                                                                                (IntKind.i64.wrap
                                                                                    ((IntKind.i64.wrap
                                                                                          ((↑l.length : Int).add
                                                                                            (↑m.length : Int))).sub
                                                                                      i)).toNat
                                                                                (([] : List Int), (0 : Int)))).length :
                                                                        Int).toNat.sub
                                                                  i.toNat)
                                                                m).length)
                                                          ((List.take (i.toNat.sub (Int.toNat (0 : Int)))
                                                                (l.append sp)).append
                                                            (List.replicate
                                                              (IntKind.i64.wrap
                                                                  ((IntKind.i64.wrap
                                                                        ((↑l.length : Int).add (↑m.length : Int))).sub
                                                                    i)).toNat
                                                              (([] : List Int), (0 : Int))))))).length :
                                                Int) ∧
                                            (↑((List.take i.toNat
                                                            ((List.take (i.toNat.sub (Int.toNat (0 : Int)))
                                                                  (l.append sp)).append
                                                              (List.replicate
                                                                (IntKind.i64.wrap
                                                                    ((IntKind.i64.wrap
                                                                          ((↑l.length : Int).add (↑m.length : Int))).sub
                                                                      i)).toNat
                                                                (([] : List Int), (0 : Int))))).append
                                                        ((List.take
                                                              ((↑((List.take (i.toNat.sub (Int.toNat (0 : Int)))
                                                                                (l.append sp)).append
                                                                            (List.replicate
                                                                              (IntKind.i64.wrap
                                                                                  ((IntKind.i64.wrap
                                                                                        ((↑l.length : Int).add
                                                                                          (↑m.length : Int))).sub
                                                                                    i)).toNat
                                                                              (([] : List Int), (0 : Int)))).length :
                                                                      Int).toNat.sub
                                                                i.toNat)
                                                              m).append
                                                          (List.drop
                                                            (i.toNat.add
                                                              (List.take
                                                                  ((↑((List.take (i.toNat.sub (Int.toNat (0 : Int)))
                                                                                    (l.append sp)).append
                                                                                (List.replicate
                                                                                  (IntKind.i64.wrap
                                                                                      ((IntKind.i64.wrap
                                                                                            ((↑l.length : Int).add
                                                                                              (↑m.length : Int))).sub
                                                                                        i)).toNat
                                                                                  (([] : List Int), (0 : Int)))).length :
                                                                          Int).toNat.sub
                                                                    i.toNat)
                                                                  m).length)
                                                            ((List.take (i.toNat.sub (Int.toNat (0 : Int)))
                                                                  (l.append sp)).append
                                                              (List.replicate
                                                                (IntKind.i64.wrap
                                                                    ((IntKind.i64.wrap
                                                                          ((↑l.length : Int).add (↑m.length : Int))).sub
                                                                      i)).toNat
                                                                (([] : List Int), (0 : Int))))))).length :
                                                  Int) ≤
                                                (↑((List.take i.toNat
                                                            ((List.take (i.toNat.sub (Int.toNat (0 : Int)))
                                                                  (l.append sp)).append
                                                              (List.replicate
                                                                (IntKind.i64.wrap
                                                                    ((IntKind.i64.wrap
                                                                          ((↑l.length : Int).add (↑m.length : Int))).sub
                                                                      i)).toNat
                                                                (([] : List Int), (0 : Int))))).append
                                                        ((List.take
                                                              ((↑((List.take (i.toNat.sub (Int.toNat (0 : Int)))
                                                                                (l.append sp)).append
                                                                            (List.replicate
                                                                              (IntKind.i64.wrap
                                                                                  ((IntKind.i64.wrap
                                                                                        ((↑l.length : Int).add
                                                                                          (↑m.length : Int))).sub
                                                                                    i)).toNat
                                                                              (([] : List Int), (0 : Int)))).length :
                                                                      Int).toNat.sub
                                                                i.toNat)
                                                              m).append
                                                          (List.drop
                                                            (i.toNat.add
                                                              (List.take
                                                                  ((↑((List.take (i.toNat.sub (Int.toNat (0 : Int)))
                                                                                    (l.append sp)).append
                                                                                (List.replicate
                                                                                  (IntKind.i64.wrap
                                                                                      ((IntKind.i64.wrap
                                                                                            ((↑l.length : Int).add
                                                                                              (↑m.length : Int))).sub
                                                                                        i)).toNat
                                                                                  (([] : List Int), (0 : Int)))).length :
                                                                          Int).toNat.sub
                                                                    i.toNat)
                                                                  m).length)
                                                            ((List.take (i.toNat.sub (Int.toNat (0 : Int)))
                                                                  (l.append sp)).append
                                                              (List.replicate
                                                                (IntKind.i64.wrap
                                                                    ((IntKind.i64.wrap
                                                                          ((↑l.length : Int).add (↑m.length : Int))).sub
                                                                      i)).toNat
                                                                (([] : List Int), (0 : Int))))))).length :
                                                  Int) ∧
                                              (0 : Int) ≤ i ∧
                                                i ≤ (↑l.length : Int) ∧
                                                  (↑l.length : Int) ≤ (↑((l.append sp).length.sub (0 : Nat)) : Int) ∧
                                                    (List.take (IntKind.i64.wrap (i.add (↑m.length : Int))).toNat
                                                              ((List.take i.toNat
                                                                    ((List.take (i.toNat.sub (Int.toNat (0 : Int)))
                                                                          (l.append sp)).append
                                                                      (List.replicate
                                                                        (IntKind.i64.wrap
                                                                            ((IntKind.i64.wrap
                                                                                  ((↑l.length : Int).add
                                                                                    (↑m.length : Int))).sub
                                                                              i)).toNat
                                                                        (([] : List Int), (0 : Int))))).append
                                                                ((List.take
                                                                      ((↑((List.take (i.toNat.sub (Int.toNat (0 : Int)))
                                                                                        (l.append sp)).append
                                                                                    (List.replicate
                                                                                      (IntKind.i64.wrap
                                                                                          ((IntKind.i64.wrap
                                                                                                ((↑l.length : Int).add
                                                                                                  (↑m.length :
                                                                                                    Int))).sub
                                                                                            i)).toNat
                                                                                      (([] : List Int), (0 : Int)))).length :
                                                                              Int).toNat.sub
                                                                        i.toNat)
                                                                      m).append
                                                                  (List.drop
                                                                    (i.toNat.add
                                                                      (List.take
                                                                          ((↑((List.take
                                                                                            (i.toNat.sub
                                                                                              (Int.toNat (0 : Int)))
                                                                                            (l.append sp)).append
                                                                                        (List.replicate
                                                                                          (IntKind.i64.wrap
                                                                                              ((IntKind.i64.wrap
                                                                                                    ((↑l.length :
                                                                                                          Int).add
                                                                                                      (↑m.length :
                                                                                                        Int))).sub
                                                                                                i)).toNat
                                                                                          (([] : List Int), (0 : Int)))).length :
                                                                                  Int).toNat.sub
                                                                            i.toNat)
                                                                          m).length)
                                                                    ((List.take (i.toNat.sub (Int.toNat (0 : Int)))
                                                                          (l.append sp)).append
                                                                      (List.replicate
                                                                        (IntKind.i64.wrap
                                                                            ((IntKind.i64.wrap
                                                                                  ((↑l.length : Int).add
                                                                                    (↑m.length : Int))).sub
                                                                              i)).toNat
                                                                        (([] : List Int), (0 : Int)))))))).append
                                                          ((List.take
                                                                ((↑((List.take i.toNat
                                                                                  ((List.take
                                                                                        (i.toNat.sub
                                                                                          (Int.toNat (0 : Int)))
                                                                                        (l.append sp)).append
                                                                                    (List.replicate
                                                                                      (IntKind.i64.wrap
                                                                                          ((IntKind.i64.wrap
                                                                                                ((↑l.length : Int).add
                                                                                                  (↑m.length :
                                                                                                    Int))).sub
                                                                                            i)).toNat
                                                                                      (([] : List Int), (0 : Int))))).append
                                                                              ((List.take
                                                                                    ((↑((List.take
                                                                                                      (i.toNat.sub
                                                                                                        (Int.toNat
                                                                                                          (0 : Int)))
                                                                                                      (l.append
                                                                                                        sp)).append
                                                                                                  (List.replicate
                                                                                                    (IntKind.i64.wrap
                                                                                                        ((IntKind.i64.wrap
                                                                                                              ((↑l.length :
                                                                                                                    Int).add
                                                                                                                (↑m.length :
                                                                                                                  Int))).sub
                                                                                                          i)).toNat
                                                                                                    (([] : List Int), (0 : Int)))).length :
                                                                                            Int).toNat.sub
                                                                                      i.toNat)
                                                                                    m).append
                                                                                (List.drop
                                                                                  (i.toNat.add
                                                                                    (List.take
                                                                                        ((↑((List.take
                                                                                                          (i.toNat.sub
                                                                                                            (Int.toNat
                                                                                                              (0 :
                                                                                                                Int)))
                                                                                                          (l.append
                                                                                                            sp)).append
                                                                                                      (List.replicate
                                                                                                        (IntKind.i64.wrap
                                                                                                            ((IntKind.i64.wrap
                                                                                                                  ((↑l.length :
                                                                                                                        Int).add
                                                                                                                    (↑m.length :
                                                                                                                      Int))).sub
                                                                                                              i)).toNat
                                                                                                        (([] : List Int), (0 : Int)))).length :
                                                                                                Int).toNat.sub
                                                                                          i.toNat)
                                                                                        m).length)
                                                                                  ((List.take
                                                                                        (i.toNat.sub
                                                                                          (Int.toNat (0 : Int)))
                                                                                        (l.append sp)).append
                                                                                    (List.replicate
                                                                                      (IntKind.i64.wrap
                                                                                          ((IntKind.i64.wrap
                                                                                                ((↑l.length : Int).add
                                                                                                  (↑m.length :
                                                                                                    Int))).sub
                                                                                            i)).toNat
                                                                                      (([] : List Int), (0 : Int))))))).length :
                                                                        Int).toNat.sub
                                                                  (IntKind.i64.wrap (i.add (↑m.length : Int))).toNat)
                                                                (List.take ((↑l.length : Int).toNat.sub i.toNat)
                                                                  (List.drop (Nat.add (0 : Nat) i.toNat)
                                                                    (l.append sp)))).append
                                                            (List.drop
                                                              ((IntKind.i64.wrap (i.add (↑m.length : Int))).toNat.add
                                                                (List.take
                                                                    ((↑((List.take i.toNat
                                                                                      ((List.take
                                                                                            (i.toNat.sub
                                                                                              (Int.toNat (0 : Int)))
                                                                                            (l.append sp)).append
                                                                                        (List.replicate
                                                                                          (IntKind.i64.wrap
                                                                                              ((IntKind.i64.wrap
                                                                                                    ((↑l.length :
                                                                                                          Int).add
                                                                                                      (↑m.length :
                                                                                                        Int))).sub
                                                                                                i)).toNat
                                                                                          (([] : List Int), (0 : Int))))).append
                                                                                  ((List.take
                                                                                        ((↑((List.take
                                                                                                          (i.toNat.sub
                                                                                                            (Int.toNat
                                                                                                              (0 :
                                                                                                                Int)))
                                                                                                          (l.append
                                                                                                            sp)).append
                                                                                                      (List.replicate
                                                                                                        (IntKind.i64.wrap
                                                                                                            ((IntKind.i64.wrap
                                                                                                                  ((↑l.length :
                                                                                                                        Int).add
                                                                                                                    (↑m.length :
                                                                                                                      Int))).sub
                                                                                                              i)).toNat
                                                                                                        (([] : List Int), (0 : Int)))).length :
                                                                                                Int).toNat.sub
                                                                                          i.toNat)
                                                                                        m).append
                                                                                    (List.drop
                                                                                      (i.toNat.add
                                                                                        (List.take
                                                                                            ((↑((List.take
                                                                                                              (i.toNat.sub
                                                                                                                (Int.toNat
                                                                                                                  (0 :
                                                                                                                    Int)))
                                                                                                              (l.append
                                                                                                                sp)).append
                                                                                                          (List.replicate
                                                                                                            (IntKind.i64.wrap
                                                                                                                ((IntKind.i64.wrap
                                                                                                                      ((↑l.length :
                                                                                                                            Int).add
                                                                                                                        (↑m.length :
                                                                                                                          Int))).sub
                                                                                                                  i)).toNat
                                                                                                            (([] : List Int), (0 : Int)))).length :
                                                                                                    Int).toNat.sub
                                                                                              i.toNat)
                                                                                            m).length)
                                                                                      ((List.take
                                                                                            (i.toNat.sub
                                                                                              (Int.toNat (0 : Int)))
                                                                                            (l.append sp)).append
                                                                                        (List.replicate
                                                                                          (IntKind.i64.wrap
                                                                                              ((IntKind.i64.wrap
                                                                                                    ((↑l.length :
                                                                                                          Int).add
                                                                                                      (↑m.length :
                                                                                                        Int))).sub
                                                                                                i)).toNat
                                                                                          (([] : List Int), (0 : Int))))))).length :
                                                                            Int).toNat.sub
                                                                      (IntKind.i64.wrap
                                                                          (i.add (↑m.length : Int))).toNat)
                                                                    (List.take ((↑l.length : Int).toNat.sub i.toNat)
                                                                      (List.drop (Nat.add (0 : Nat) i.toNat)
                                                                        (l.append sp)))).length)
                                                              ((List.take i.toNat
                                                                    ((List.take (i.toNat.sub (Int.toNat (0 : Int)))
                                                                          (l.append sp)).append
                                                                      (List.replicate
                                                                        (IntKind.i64.wrap
                                                                            ((IntKind.i64.wrap
                                                                                  ((↑l.length : Int).add
                                                                                    (↑m.length : Int))).sub
                                                                              i)).toNat
                                                                        (([] : List Int), (0 : Int))))).append
                                                                ((List.take
                                                                      ((↑((List.take (i.toNat.sub (Int.toNat (0 : Int)))
                                                                                        (l.append sp)).append
                                                                                    (List.replicate
                                                                                      (IntKind.i64.wrap
                                                                                          ((IntKind.i64.wrap
                                                                                                ((↑l.length : Int).add
                                                                                                  (↑m.length :
                                                                                                    Int))).sub
                                                                                            i)).toNat
                                                                                      (([] : List Int), (0 : Int)))).length :
                                                                              Int).toNat.sub
                                                                        i.toNat)
                                                                      m).append
                                                                  (List.drop
                                                                    (i.toNat.add
                                                                      (List.take
                                                                          ((↑((List.take
                                                                                            (i.toNat.sub
                                                                                              (Int.toNat (0 : Int)))
                                                                                            (l.append sp)).append
                                                                                        (List.replicate
                                                                                          (IntKind.i64.wrap
                                                                                              ((IntKind.i64.wrap
                                                                                                    ((↑l.length :
                                                                                                          Int).add
                                                                                                      (↑m.length :
                                                                                                        Int))).sub
                                                                                                i)).toNat
                                                                                          (([] : List Int), (0 : Int)))).length :
                                                                                  Int).toNat.sub
                                                                            i.toNat)
                                                                          m).length)
                                                                    ((List.take (i.toNat.sub (Int.toNat (0 : Int)))
                                                                          (l.append sp)).append
                                                                      (List.replicate
                                                                        (IntKind.i64.wrap
                                                                            ((IntKind.i64.wrap
                                                                                  ((↑l.length : Int).add
                                                                                    (↑m.length : Int))).sub
                                                                              i)).toNat
                                                                        (([] : List Int), (0 : Int))))))))) =
                                                        U.ins l i.toNat m ∧
                                                      True
                  else
                    (0 : Int) ≤ (0 : Int) ∧
                      (0 : Int) ≤ IntKind.i64.wrap ((↑l.length : Int).add (↑m.length : Int)) ∧
                        IntKind.i64.wrap ((↑l.length : Int).add (↑m.length : Int)) ≤
                            (↑((l.append sp).length.sub (0 : Nat)) : Int) ∧
                          (0 : Int) ≤ IntKind.i64.wrap (i.add (↑m.length : Int)) ∧
                            IntKind.i64.wrap (i.add (↑m.length : Int)) ≤
                                (↑((IntKind.i64.wrap ((↑l.length : Int).add (↑m.length : Int))).toNat.sub
                                      (Int.toNat (0 : Int))) :
                                  Int) ∧
                              (↑((IntKind.i64.wrap ((↑l.length : Int).add (↑m.length : Int))).toNat.sub
                                        (Int.toNat (0 : Int))) :
                                    Int) ≤
                                  (↑((l.append sp).length.sub (Nat.add (0 : Nat) (Int.toNat (0 : Int)))) : Int) ∧
                                (0 : Int) ≤ IntKind.i64.wrap (i.add (↑m.length : Int)) ∧
                                  IntKind.i64.wrap (i.add (↑m.length : Int)) ≤
                                      (↑((IntKind.i64.wrap ((↑l.length : Int).add (↑m.length : Int))).toNat.sub
                                            (Int.toNat (0 : Int))) :
                                        Int) ∧
                                    (↑((IntKind.i64.wrap ((↑l.length : Int).add (↑m.length : Int))).toNat.sub
                                              (Int.toNat (0 : Int))) :
                                          Int) ≤
                                        (↑((l.append sp).length.sub (Nat.add (0 : Nat) (Int.toNat (0 : Int)))) : Int) ∧
                                      (0 : Int) ≤ i ∧
                                        i ≤
                                            (↑((IntKind.i64.wrap ((↑l.length : Int).add (↑m.length : Int))).toNat.sub
                                                  (Int.toNat (0 : Int))) :
                                              Int) ∧
                                          (↑((IntKind.i64.wrap ((↑l.length : Int).add (↑m.length : Int))).toNat.sub
                                                    (Int.toNat (0 : Int))) :
                                                Int) ≤
                                              (↑((l.append sp).length.sub (Nat.add (0 : Nat) (Int.toNat (0 : Int)))) :
                                                Int) ∧
                                            (0 : Int) ≤ i ∧
                                              i ≤
                                                  (↑((IntKind.i64.wrap
                                                              ((↑l.length : Int).add (↑m.length : Int))).toNat.sub
                                                        (Int.toNat (0 : Int))) :
                                                    Int) ∧
                                                (↑((IntKind.i64.wrap
                                                                ((↑l.length : Int).add (↑m.length : Int))).toNat.sub
                                                          (Int.toNat (0 : Int))) :
                                                      Int) ≤
                                                    (↑(((List.take
                                                                    ((Nat.add (0 : Nat) (Int.toNat (0 : Int))).add
                                                                      (IntKind.i64.wrap
                                                                          (i.add (↑m.length : Int))).toNat)
                                                                    (l.append sp)).append
                                                                ((List.take
                                                                      ((↑((IntKind.i64.wrap
                                                                                        ((↑l.length : Int).add
                                                                                          (↑m.length : Int))).toNat.sub
                                                                                  (Int.toNat (0 : Int))) :
                                                                              Int).toNat.sub
                                                                        (IntKind.i64.wrap
                                                                            (i.add (↑m.length : Int))).toNat)
                                                                      (List.take
                                                                        ((↑((IntKind.i64.wrap
                                                                                          ((↑l.length : Int).add
                                                                                            (↑m.length :
                                                                                              Int))).toNat.sub
                                                                                    (Int.toNat (0 : Int))) :
                                                                                Int).toNat.sub
                                                                          i.toNat)
                                                                        (List.drop
                                                                          ((Nat.add (0 : Nat) (Int.toNat (0 : Int))).add
                                                                            i.toNat)
                                                                          (l.append sp)))).append
                                                                  (List.drop
                                                                    (((Nat.add (0 : Nat) (Int.toNat (0 : Int))).add
                                                                          (IntKind.i64.wrap
                                                                              (i.add (↑m.length : Int))).toNat).add
                                                                      (List.take
                                                                          ((↑((IntKind.i64.wrap
                                                                                            ((↑l.length : Int).add
                                                                                              (↑m.length :
                                                                                                Int))).toNat.sub
                                                                                      (Int.toNat (0 : Int))) :
                                                                                  Int).toNat.sub
                                                                            (IntKind.i64.wrap
                                                                                (i.add (↑m.length : Int))).toNat)
                                                                          (List.take
                                                                            ((↑((IntKind.i64.wrap
                                                                                              ((↑l.length : Int).add
                                                                                                (↑m.length :
                                                                                                  Int))).toNat.sub
                                                                                        (Int.toNat (0 : Int))) :
                                                                                    Int).toNat.sub
                                                                              i.toNat)
                                                                            (List.drop
                                                                              ((Nat.add (0 : Nat)
                                                                                    (Int.toNat (0 : Int))).add
                                                                                i.toNat)
                                                                              (l.append sp)))).length)
                                                                    (l.append sp)))).length.sub
                                                          (Nat.add (0 : Nat) (Int.toNat (0 : Int)))) :
                                                      Int) ∧
                                                  List.take
                                                        ((IntKind.i64.wrap
                                                                ((↑l.length : Int).add (↑m.length : Int))).toNat.sub
                                                          (Int.toNat (0 : Int)))
                                                        ((List.take
                                                              ((Nat.add (0 : Nat) (Int.toNat (0 : Int))).add i.toNat)
                                                              ((List.take
                                                                    ((Nat.add (0 : Nat) (Int.toNat (0 : Int))).add
                                                                      (IntKind.i64.wrap
                                                                          (i.add (↑m.length : Int))).toNat)
                                                                    (l.append sp)).append
                                                                ((List.take
                                                                      ((↑((IntKind.i64.wrap
                                                                                        ((↑l.length : Int).add
                                                                                          (↑m.length : Int))).toNat.sub
                                                                                  (Int.toNat (0 : Int))) :
                                                                              Int).toNat.sub
                                                                        (IntKind.i64.wrap
                                                                            (i.add (↑m.length : Int))).toNat)
                                                                      (List.take
                                                                        ((↑((IntKind.i64.wrap
                                                                                          ((↑l.length : Int).add
                                                                                            (↑m.length :
                                                                                              Int))).toNat.sub
                                                                                    (Int.toNat (0 : Int))) :
                                                                                Int).toNat.sub
                                                                          i.toNat)
                                                                        (List.drop
                                                                          ((Nat.add (0 : Nat) (Int.toNat (0 : Int))).add
                                                                            i.toNat)
                                                                          (l.append sp)))).append
                                                                  (List.drop
                                                                    (((Nat.add (0 : Nat) (Int.toNat (0 : Int))).add
                                                                          (IntKind.i64.wrap
                                                                              (i.add (↑m.length : Int))).toNat).add
                                                                      (List.take
                                                                          ((↑((IntKind.i64.wrap
                                                                                            ((↑l.length : Int).add
                                                                                              (↑m.length :
                                                                                                Int))).toNat.sub
                                                                                      (Int.toNat (0 : Int))) :
                                                                                  Int).toNat.sub
                                                                            (IntKind.i64.wrap
                                                                                (i.add (↑m.length : Int))).toNat)
                                                                          (List.take
                                                                            ((↑((IntKind.i64.wrap
                                                                                              ((↑l.length : Int).add
                                                                                                (↑m.length :
                                                                                                  Int))).toNat.sub
                                                                                        (Int.toNat (0 : Int))) :
                                                                                    Int).toNat.sub
                                                                              i.toNat)
                                                                            (List.drop
                                                                              ((Nat.add (0 : Nat)
                                                                                    (Int.toNat (0 : Int))).add
                                                                                i.toNat)
                                                                              (l.append sp)))).length)
                                                                    (l.append sp))))).append
                                                          ((List.take
                                                                ((↑((IntKind.i64.wrap
                                                                                  ((↑l.length : Int).add
                                                                                    (↑m.length : Int))).toNat.sub
                                                                            (Int.toNat (0 : Int))) :
                                                                        Int).toNat.sub
                                                                  i.toNat)
                                                                m).append
                                                            (List.drop
                                                              (((Nat.add (0 : Nat) (Int.toNat (0 : Int))).add
                                                                    i.toNat).add
                                                                (List.take
                                                                    ((↑((IntKind.i64.wrap
                                                                                      ((↑l.length : Int).add
                                                                                        (↑m.length : Int))).toNat.sub
                                                                                (Int.toNat (0 : Int))) :
                                                                            Int).toNat.sub
                                                                      i.toNat)
                                                                    m).length)
                                                              ((List.take
                                                                    ((Nat.add (0 : Nat) (Int.toNat (0 : Int))).add
                                                                      (IntKind.i64.wrap
                                                                          (i.add (↑m.length : Int))).toNat)
                                                                    (l.append sp)).append
                                                                ((List.take
                                                                      ((↑((IntKind.i64.wrap
                                                                                        ((↑l.length : Int).add
                                                                                          (↑m.length : Int))).toNat.sub
                                                                                  (Int.toNat (0 : Int))) :
                                                                              Int).toNat.sub
                                                                        (IntKind.i64.wrap
                                                                            (i.add (↑m.length : Int))).toNat)
                                                                      (List.take
                                                                        ((↑((IntKind.i64.wrap
                                                                                          ((↑l.length : Int).add
                                                                                            (↑m.length :
                                                                                              Int))).toNat.sub
                                                                                    (Int.toNat (0 : Int))) :
                                                                                Int).toNat.sub
                                                                          i.toNat)
                                                                        (List.drop
                                                                          ((Nat.add (0 : Nat) (Int.toNat (0 : Int))).add
                                                                            i.toNat)
                                                                          (l.append sp)))).append
                                                                  (List.drop
                                                                    (((Nat.add (0 : Nat) (Int.toNat (0 : Int))).add
                                                                          (IntKind.i64.wrap
                                                                              (i.add (↑m.length : Int))).toNat).add
                                                                      (List.take
                                                                          ((↑((IntKind.i64.wrap
                                                                                            ((↑l.length : Int).add
                                                                                              (↑m.length :
                                                                                                Int))).toNat.sub
                                                                                      (Int.toNat (0 : Int))) :
                                                                                  Int).toNat.sub
                                                                            (IntKind.i64.wrap
                                                                                (i.add (↑m.length : Int))).toNat)
                                                                          (List.take
                                                                            ((↑((IntKind.i64.wrap
                                                                                              ((↑l.length : Int).add
                                                                                                (↑m.length :
                                                                                                  Int))).toNat.sub
                                                                                        (Int.toNat (0 : Int))) :
                                                                                    Int).toNat.sub
                                                                              i.toNat)
                                                                            (List.drop
                                                                              ((Nat.add (0 : Nat)
                                                                                    (Int.toNat (0 : Int))).add
                                                                                i.toNat)
                                                                              (l.append sp)))).length)
                                                                    (l.append sp))))))) =
                                                      U.ins l i.toNat m ∧
                                                    True
end Go.Proofs.Ytekapagdkclokaa
/- What is owed of the slices' functions, proved in plain Lean. -/
set_option linter.unusedSimpArgs false
set_option linter.unusedVariables false
set_option maxRecDepth 100000
namespace Go.Proofs.Ytekapagdkclokaa
open Go.Vc
open Go.Vc.T
theorem ok24nA (box : List Int) : vc24nA box := by
  unfold vc24nA
  simp only [cond_prop, int_neg, U.I24nA]
  exact ⟨0, ⟨rfl, rfl⟩, fun x h => ⟨fun hx => by simp at hx; omega, fun _ => by simp⟩⟩
theorem ok24nB (box : List Int) : vc24nB box := by
  unfold vc24nB
  simp only [cond_prop, int_neg, U.I24nB]
  exact ⟨0, ⟨rfl, rfl⟩, fun x h => ⟨fun hx => by simp at hx; omega, fun _ => by simp⟩⟩
theorem ok24oA (l : List Rule) (box : List Int) (hl : Valid (.slice tRule) l) : vc24oA l box := by
  have hl : l.length ≤ 9223372036854775807 := hl.2
  unfold vc24oA
  simp only [cond_prop, int_add, int_neg, nat_sub, list_beq, U.I24oA, U.at_]
  refine ⟨_, ⟨rfl, ?_⟩, ?_⟩
  · grind
  · rintro x ⟨⟨h0, h1⟩, h2⟩
    simp only [wrap_i64]
    have := @drop_at _ l x h0
    have := @drop_end _ l x
    repeat' (first | apply And.intro | intro _ | refine Exists.intro _ (And.intro rfl ?_))
    all_goals grind [U.idx1, U.isBox]
theorem ok24oB (l : List Rule) (box : List Int) (hl : Valid (.slice tRule) l) : vc24oB l box := by
  have hl : l.length ≤ 9223372036854775807 := hl.2
  unfold vc24oB
  simp only [cond_prop, int_add, int_neg, nat_sub, list_beq, U.I24oB, U.at_]
  refine ⟨_, ⟨rfl, ?_⟩, ?_⟩
  · grind
  · rintro x ⟨⟨h0, h1⟩, h2⟩
    simp only [wrap_i64]
    have := @drop_at _ l x h0
    have := @drop_end _ l x
    repeat' (first | apply And.intro | intro _ | refine Exists.intro _ (And.intro rfl ?_))
    all_goals grind [U.idx1, U.gtBox]
theorem idx1_ge (p : Rule → Bool) : ∀ (l : List Rule) (i : Int), 0 ≤ i → U.idx1 p l i = -1 ∧ (∀ x ∈ l, p x = false) ∨ ∃ k : Nat, ∃ h : k < l.length, U.idx1 p l i = i + k ∧ p l[k] = true ∧ ∀ x ∈ l.take k, p x = false
  | [], i, _ => .inl ⟨rfl, fun x h => by cases h⟩
  | x :: r, i, h0 => by
    unfold U.idx1
    by_cases hx : p x = true
    · rw [if_pos hx]; exact .inr ⟨0, by simp, by simp, by simpa using hx, fun y hy => by simp at hy⟩
    · rw [if_neg hx]
      have hx : p x = false := by simpa using hx
      rcases idx1_ge p r (i + 1) (by omega) with ⟨h1, h2⟩ | ⟨k, h, h1, h2, h3⟩
      · exact .inl ⟨h1, fun y hy => by rcases List.mem_cons.1 hy with rfl | hy; exact hx; exact h2 y hy⟩
      · refine .inr ⟨k + 1, by simpa using h, by rw [h1]; omega, by simpa using h2, fun y hy => ?_⟩
        rw [List.take_succ_cons] at hy
        rcases List.mem_cons.1 hy with rfl | hy
        · exact hx
        · exact h3 y hy
theorem ok30n (box : List Int) : vc30n box := by
  unfold vc30n
  simp
theorem del_succ (l : List Rule) (box : List Int) {j : Nat} (h : j < l.length) : U.del (l.take (j + 1)) box = U.del (l.take j) box ++ (if U.isBox box l[j] then [] else [l[j]]) := by
  unfold U.del
  rw [List.take_succ_eq_append_getElem h, List.filter_append]
  congr 1
  cases hb : U.isBox box l[j] <;> simp [U.notBox, hb]
theorem ok30o (l : List Rule) (box : List Int) (hl : Valid (.slice tRule) l) : vc30o l box := by
  have hl : l.length ≤ 9223372036854775807 := hl.2
  unfold vc30o
  simp only [cond_prop, int_add, int_neg, nat_sub, nat_add, list_beq, list_append, U.I30_5]
  have hidx := idx1_ge (U.isBox box) l 0 (by omega)
  refine ⟨fun h => ?_, fun h => ?_⟩
  · have h : U.idx1 (U.isBox box) l 0 = -1 := by simpa using h
    rcases hidx with ⟨_, h2⟩ | ⟨k, hk, h1, _⟩
    · have : l = U.del l box := by
        unfold U.del
        rw [List.filter_eq_self.2 fun x hx => by simp [U.notBox, h2 x hx]]
      simpa using this
    · omega
  · have h : U.idx1 (U.isBox box) l 0 ≠ -1 := by simpa using h
    rcases hidx with ⟨h2, _⟩ | ⟨k, hk, h1, h2, h3⟩
    · omega
    · have hw : IntKind.wrap .i64 (U.idx1 (U.isBox box) l 0 + 1) = (k : Int) + 1 := by rw [wrap_i64, h1]; omega
      rw [hw, h1]
      refine ⟨(0 + k, (k : Int) + 1, l), ⟨rfl, ?_⟩, ?_⟩
      · refine ⟨by show (0 : Int) ≤ 0 + k; omega, by show (0 : Int) + k < k + 1; omega, by show (k : Int) + 1 ≤ l.length; omega, rfl, ?_, rfl⟩
        show l.take (0 + (k : Int)).toNat = U.del (l.take ((k : Int) + 1).toNat) box
        have e1 : (0 + (k : Int)).toNat = k := by omega
        have e2 : ((k : Int) + 1).toNat = k + 1 := by omega
        rw [e1, e2, del_succ l box hk, if_pos h2, List.append_nil]
        unfold U.del
        rw [List.filter_eq_self.2 fun x hx => by simp [U.notBox, h3 x hx]]
      · rintro ⟨i, j, L⟩ ⟨i0, i1, i2, i3, i4, i5⟩
        simp only at i0 i1 i2 i3 i4 i5
        obtain ⟨a, rfl⟩ := Int.eq_ofNat_of_zero_le i0
        obtain ⟨b, rfl⟩ := Int.eq_ofNat_of_zero_le (show 0 ≤ j by omega)
        simp only [Int.toNat_natCast] at i4 i5 ⊢
        have ha : IntKind.wrap .i64 ((a : Int) + 1) = ((a + 1 : Nat) : Int) := by rw [wrap_i64]; omega
        refine ⟨fun hj => ?_, fun hj => ?_⟩
        · have hj : b < L.length := by simpa using hj
          have hjl : b < l.length := by omega
          have hb : IntKind.wrap .i64 ((b : Int) + 1) = ((b + 1 : Nat) : Int) := by rw [wrap_i64]; omega
          have hLj : L.getD b (([] : List Int), (0 : Int)) = l[b] := by
            have h1 := List.drop_eq_getElem_cons hj
            have h2 := List.drop_eq_getElem_cons hjl
            rw [i5, h2] at h1
            rw [getD_at hj]; simp only [List.cons.injEq] at h1; exact h1.1.symm
          have hdrop : L.drop (b + 1) = l.drop (b + 1) := by rw [← List.drop_drop, i5, List.drop_drop]
          refine ⟨by omega, by omega, by omega, ?_, ?_⟩
          · intro hk'
            have hnb : U.isBox box l[b] = false := by
              rw [hLj] at hk'
              unfold U.isBox; simpa using hk'
            refine ⟨by omega, by omega, by omega, (((a + 1 : Nat) : Int), ((b + 1 : Nat) : Int), L.set a (L.getD b (([] : List Int), (0 : Int)))), ?_, ?_, ?_⟩
            · rw [ha, hb]
            · refine ⟨by show (0 : Int) ≤ ((a + 1 : Nat) : Int); omega, by show ((a + 1 : Nat) : Int) < ((b + 1 : Nat) : Int); omega, by show ((b + 1 : Nat) : Int) ≤ l.length; omega, by rw [List.length_set]; exact i3, ?_, ?_⟩
              · show (L.set a _).take (a + 1) = U.del (l.take (b + 1)) box
                rw [del_succ l box hjl, hnb, hLj, ← i4, List.take_succ_eq_append_getElem (by rw [List.length_set]; omega), List.getElem_set_self, List.take_set, List.set_eq_of_length_le (by rw [List.length_take]; omega)]
                simp
              · show (L.set a _).drop (b + 1) = l.drop (b + 1)
                rw [List.drop_set_of_lt (by omega), hdrop]
            · show l.length - (b + 1) < l.length - b; omega
          · intro hk'
            have hnb : U.isBox box l[b] = true := by
              rw [hLj] at hk'
              unfold U.isBox; simpa using hk'
            refine ⟨((a : Int), ((b + 1 : Nat) : Int), L), ?_, ?_, ?_⟩
            · rw [hb]
            · refine ⟨i0, by show (a : Int) < ((b + 1 : Nat) : Int); omega, by show ((b + 1 : Nat) : Int) ≤ l.length; omega, i3, ?_, hdrop⟩
              show L.take a = U.del (l.take (b + 1)) box
              rw [del_succ l box hjl, hnb, i4]; simp
            · show l.length - (b + 1) < l.length - b; omega
        · have hj : ¬ b < L.length := by simpa using hj
          have hfin : L.take a = U.del l box := by rw [i4, List.take_of_length_le (by omega)]
          have hlen : (L.take a).length = a := by rw [List.length_take]; omega
          refine ⟨by omega, by omega, by omega, by omega, by omega, ?_, trivial, ?_, trivial⟩
          · simp only [List.length_append, List.length_take, List.length_replicate, List.length_drop, Int.toNat_natCast]; omega
          · rw [show Int.toNat 0 = 0 from rfl, Nat.sub_zero, List.take_left' hlen, hfin]
theorem ok34n (i : Int) (m : List Rule) (hp : ∀ p ∈ (d34n i m).pre, p) : vc34n i m := by
  have h1 : m.length = 1 := hp _ (.head _)
  have h2 : i = 0 := hp _ (.tail _ (.head _))
  subst h2
  obtain ⟨v, rfl⟩ : ∃ v, m = [v] := List.length_eq_one_iff.1 h1
  unfold vc34n
  simp [cond_prop, maxLen_eq]
set_option maxHeartbeats 2000000 in
theorem ok34o (l : List Rule) (i : Int) (m : List Rule) (hl : Valid (.slice tRule) l) (hp : ∀ p ∈ (d34o l i m).pre, p) : vc34o l i m := by
  have h1 : m.length = 1 := hp _ (.head _)
  have h2 : l.length ≤ 1000000 := hp _ (.tail _ (.head _))
  have h3 : 0 ≤ i := hp _ (.tail _ (.tail _ (.head _)))
  have h4 : i ≤ l.length := hp _ (.tail _ (.tail _ (.tail _ (.head _))))
  obtain ⟨v, rfl⟩ : ∃ v, m = [v] := List.length_eq_one_iff.1 h1
  obtain ⟨k, rfl⟩ := Int.eq_ofNat_of_zero_le h3
  have hk : k ≤ l.length := by omega
  obtain ⟨a, b, rfl, rfl⟩ : ∃ a b, l = a ++ b ∧ a.length = k := ⟨l.take k, l.drop k, (List.take_append_drop k l).symm, by rw [List.length_take]; omega⟩
  have hlen : (a ++ b).length = a.length + b.length := List.length_append
  rw [hlen] at h2
  have hw1 : IntKind.wrap .i64 (((a.length + b.length : Nat) : Int) + ((1 : Nat) : Int)) = ((a.length + b.length + 1 : Nat) : Int) := by rw [wrap_i64]; omega
  have hw2 : IntKind.wrap .i64 (((a.length + b.length + 1 : Nat) : Int) - (a.length : Int)) = ((b.length + 1 : Nat) : Int) := by rw [wrap_i64]; omega
  have hw3 : IntKind.wrap .i64 ((a.length : Int) + ((1 : Nat) : Int)) = ((a.length + 1 : Nat) : Int) := by rw [wrap_i64]; omega
  unfold vc34o
  intro sp hsp hval
  simp only [int_add, int_sub, int_mul, nat_add, nat_sub, nat_mul, list_append, List.length_singleton, hlen, hw1, hw2, hw3, Int.toNat_natCast, U.ins] at hsp ⊢
  simp only [cond_prop, maxLen_eq] at hsp ⊢
  have z0 : Int.toNat 0 = 0 := rfl
  have e1 : ∀ x : List Rule, List.take a.length (a ++ x) = a := fun x => List.take_left
  have e2 : ∀ x : List Rule, List.drop a.length (a ++ x) = x := fun x => List.drop_left
  have e3 : ∀ x : List Rule, List.take (a.length + b.length) (a ++ (b ++ x)) = a ++ b := fun x => by rw [← List.append_assoc]; exact List.take_left' hlen
  have e4 : ∀ x : List Rule, List.drop (a.length + 1) (a ++ x) = List.drop 1 x := fun x => by rw [← List.drop_drop, List.drop_left]
  have e5 : ∀ x : List Rule, List.take (a.length + 1) (a ++ x) = a ++ List.take 1 x := fun x => by rw [List.take_append, List.take_of_length_le (by omega), Nat.add_sub_cancel_left]
  simp only [z0, Nat.sub_zero, List.append_assoc, e1, e2, e3, e4, e5, Nat.zero_add] 
  have n1 : ∀ n : Nat, a.length + n - a.length = n := fun n => by omega
  have n2 : ∀ x : List Rule, (a ++ x).length = a.length + x.length := fun x => List.length_append
  have n3 : b.length + 1 + a.length - a.length = b.length + 1 := by omega
  have t1 : List.take (b.length + 1) [v] = [v] := List.take_of_length_le (by simp)
  refine ⟨by omega, by omega, by simp; omega, by simp, fun _ => ⟨fun hb => ?_, fun hb => ⟨fun hc => ?_, fun hc => ?_⟩⟩⟩
  · have hb : b = [] := by
      have : (a.length : Int) = ((a.length + b.length : Nat) : Int) := by simpa using hb
      exact List.eq_nil_of_length_eq_zero (by omega)
    subst hb
    simp at h2 ⊢; omega
  · have hc : a.length + b.length + 1 > a.length + (b.length + sp.length) := by
      have := of_decide_eq_true hc
      simp only [List.length_append] at this
      omega
    have n4 : a.length + (b.length + 1) - (a.length + 1) = b.length := by omega
    have t2 : List.take b.length (b ++ sp) = b := List.take_left
    have t3 : ∀ x : List Rule, List.drop (a.length + 1 + x.length) (a ++ v :: x) = [] := fun x => List.drop_of_length_le (by rw [List.length_append, List.length_cons]; omega)
    have t4 := t3 (List.replicate b.length (([] : List Int), (0 : Int)))
    rw [List.length_replicate] at t4
    simp only [List.replicate_succ, n2, n1, List.length_cons, List.length_replicate, List.length_append, t1, List.length_nil, Nat.zero_add, e4, List.drop_succ_cons, List.drop_zero, e5, List.take_succ_cons, List.take_zero, List.singleton_append, List.cons_append, List.nil_append, n4, t2, List.take_length, t4, List.append_nil]
    repeat' apply And.intro
    all_goals first | omega | trivial | rfl | skip
  · have hc : ¬ a.length + b.length + 1 > a.length + (b.length + sp.length) := by
      have := of_decide_eq_false hc
      simp only [List.length_append] at this
      omega
    have hb0 : 0 < b.length := by
      have := of_decide_eq_false hb
      omega
    have n5 : a.length + b.length + 1 - (a.length + 1) = b.length := by omega
    have n6 : a.length + b.length + 1 - a.length = b.length + 1 := by omega
    have u1 : List.take b.length (List.take (b.length + 1) (b ++ sp)) = b := by rw [List.take_take, Nat.min_eq_left (by omega), List.take_left]
    have q1 : ∃ x, List.take 1 (b ++ sp) = [x] := by
      match b, hb0 with
      | x :: b', _ => exact ⟨x, rfl⟩
    obtain ⟨x, q1⟩ := q1
    have t3 : ∀ y : List Rule, List.take (a.length + b.length + 1) (a ++ v :: (b ++ y)) = a ++ v :: b := fun y => by
      rw [show a ++ v :: (b ++ y) = (a ++ v :: b) ++ y by simp, List.take_left' (by simp; omega)]
    simp only [List.replicate_succ, n2, n1, n5, n6, u1, q1, List.length_cons, List.length_replicate, List.length_append, t1, List.length_nil, Nat.zero_add, e4, List.drop_succ_cons, List.drop_zero, e5, List.take_succ_cons, List.take_zero, List.singleton_append, List.cons_append, List.nil_append, List.take_length, List.append_nil, List.length_drop, t3]
    repeat' apply And.intro
    all_goals first | omega | trivial | rfl | skip
    trace_state
end Go.Proofs.Ytekapagdkclokaa
/- The functions' summaries hold of the program. -/
set_option linter.unusedSimpArgs false
set_option maxRecDepth 100000
set_option linter.unusedVariables false
namespace Go.Proofs.Ytekapagdkclokaa
open Go.Vc
theorem p39 : SumOk Try.prog gl 39 s39 :=
  apartOk_of (fn := Try.f39) (tS := 22) (tR := 4) (e := 54) (size := 2) (by kernel_rfl) (by kernel_rfl) (by kernel_rfl) (by kernel_rfl) (by rfl) (by kernel_rfl) (T.sizeOf_of (by kernel_rfl) (by kernel_rfl))
theorem w24nA (box : List Int) : Owes Try.prog (cfgOf QD) (L24nA box) 24 (ar24nA box) (es24nA box) (d24nA box) = vc24nA box := by kernel_rfl
theorem w24oA (l : List Rule) (box : List Int) : Owes Try.prog (cfgOf QD) (L24oA l box) 24 (ar24oA l box) (es24oA l box) (d24oA l box) = vc24oA l box := by kernel_rfl
theorem w24nB (box : List Int) : Owes Try.prog (cfgOf QD) (L24nB box) 24 (ar24nB box) (es24nB box) (d24nB box) = vc24nB box := by kernel_rfl
theorem w24oB (l : List Rule) (box : List Int) : Owes Try.prog (cfgOf QD) (L24oB l box) 24 (ar24oB l box) (es24oB l box) (d24oB l box) = vc24oB l box := by kernel_rfl
theorem q24 : GenOk Try.prog gl 24 F24 := by
  refine pkg (l := QD) aQD (fun args es d h => ?_) (fun args es d h hv he hp => ?_)
  · unfold F24 at h
    rcases orE_some h with h | h
    · obtain ⟨box, rfl, rfl, rfl⟩ := al24nA_eq h
      rfl
    rcases orE_some h with h | h
    · obtain ⟨l, box, rfl, rfl, rfl⟩ := al24oA_eq h
      rfl
    rcases orE_some h with h | h
    · obtain ⟨box, rfl, rfl, rfl⟩ := al24nB_eq h
      rfl
    rcases orE_some h with h | h
    · obtain ⟨l, box, rfl, rfl, rfl⟩ := al24oB_eq h
      rfl
    cases h
  · unfold F24 at h
    rcases orE_some h with h | h
    · obtain ⟨box, rfl, rfl, rfl⟩ := al24nA_eq h
      refine ⟨L24nA box, ?_⟩
      rw [w24nA]
      exact ok24nA box 
    rcases orE_some h with h | h
    · obtain ⟨l, box, rfl, rfl, rfl⟩ := al24oA_eq h
      refine ⟨L24oA l box, ?_⟩
      rw [w24oA]
      exact ok24oA l box (he _ (.head _))
    rcases orE_some h with h | h
    · obtain ⟨box, rfl, rfl, rfl⟩ := al24nB_eq h
      refine ⟨L24nB box, ?_⟩
      rw [w24nB]
      exact ok24nB box 
    rcases orE_some h with h | h
    · obtain ⟨l, box, rfl, rfl, rfl⟩ := al24oB_eq h
      refine ⟨L24oB l box, ?_⟩
      rw [w24oB]
      exact ok24oB l box (he _ (.head _))
    cases h
theorem p24 : SumOk Try.prog gl 24 s24 := q24
theorem aQE : AllOk QE := .cons p24 aQD
theorem aQE2 : AllOk QE2 := .cons p39 aQE
theorem w30n (box : List Int) : Owes Try.prog (cfgOf QE) (L30n box) 30 (ar30n box) (es30n box) (d30n box) = vc30n box := by kernel_rfl
theorem w30o (l : List Rule) (box : List Int) : Owes Try.prog (cfgOf QE) (L30o l box) 30 (ar30o l box) (es30o l box) (d30o l box) = vc30o l box := by kernel_rfl
theorem q30 : GenOk Try.prog gl 30 F30 := by
  refine pkg (l := QE) aQE (fun args es d h => ?_) (fun args es d h hv he hp => ?_)
  · unfold F30 at h
    rcases orE_some h with h | h
    · obtain ⟨box, rfl, rfl, rfl⟩ := al30n_eq h
      rfl
    rcases orE_some h with h | h
    · obtain ⟨l, box, rfl, rfl, rfl⟩ := al30o_eq h
      rfl
    cases h
  · unfold F30 at h
    rcases orE_some h with h | h
    · obtain ⟨box, rfl, rfl, rfl⟩ := al30n_eq h
      refine ⟨L30n box, ?_⟩
      rw [w30n]
      exact ok30n box 
    rcases orE_some h with h | h
    · obtain ⟨l, box, rfl, rfl, rfl⟩ := al30o_eq h
      refine ⟨L30o l box, ?_⟩
      rw [w30o]
      exact ok30o l box (he _ (.head _))
    cases h
theorem p30 : SumOk Try.prog gl 30 s30 := q30
theorem w34n (i : Int) (m : List Rule) : Owes Try.prog (cfgOf QE2) (L34n i m) 34 (ar34n i m) (es34n i m) (d34n i m) = vc34n i m := by kernel_rfl
theorem w34o (l : List Rule) (i : Int) (m : List Rule) : Owes Try.prog (cfgOf QE2) (L34o l i m) 34 (ar34o l i m) (es34o l i m) (d34o l i m) = vc34o l i m := by kernel_rfl
theorem q34 : GenOk Try.prog gl 34 F34 := by
  refine pkg (l := QE2) aQE2 (fun args es d h => ?_) (fun args es d h hv he hp => ?_)
  · unfold F34 at h
    rcases orE_some h with h | h
    · obtain ⟨i, m, rfl, rfl, rfl⟩ := al34n_eq h
      rfl
    rcases orE_some h with h | h
    · obtain ⟨l, i, m, rfl, rfl, rfl⟩ := al34o_eq h
      rfl
    cases h
  · unfold F34 at h
    rcases orE_some h with h | h
    · obtain ⟨i, m, rfl, rfl, rfl⟩ := al34n_eq h
      refine ⟨L34n i m, ?_⟩
      rw [w34n]
      exact ok34n i m hp
    rcases orE_some h with h | h
    · obtain ⟨l, i, m, rfl, rfl, rfl⟩ := al34o_eq h
      refine ⟨L34o l i m, ?_⟩
      rw [w34o]
      exact ok34o l i m (he _ (.head _)) hp
    cases h
theorem p34 : SumOk Try.prog gl 34 s34 := q34
theorem aQF : AllOk QF := .cons p30 (.cons p34 aQE2)
end Go.Proofs.Ytekapagdkclokaa
