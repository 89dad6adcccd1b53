/- What functions of this seat compute, in plain Lean. -/
import Derived.Test.YtggccomebfpfpaaDoorAB
import Derived.Test.YtggccomebfpfpaaDoorAC
set_option linter.unusedVariables false
set_option linter.unusedSimpArgs false
set_option maxRecDepth 100000
namespace Go.Proofs.YtggccomebfpfpaaDoor
open Go.Vc
namespace U
def sides (b : List Int) : Int -> List Field -> Prop
 | _, [] => True
 | p, f :: r => f.2.2.1 = p /\ f.1 ≠ [] /\ p + f.1.length < f.2.2.2 /\ f.2.2.2 <= b.length /\ (b.drop p.toNat).take f.1.length = f.1 /\ b.getD (p + f.1.length).toNat 0 = 58 /\ sides b f.2.2.2 r
def jM : Int -> List Field -> Int
 | p, [] => p
 | _, f :: r => jM f.2.2.2 r
end U
namespace U
def bH (b : List Int) (names : List (List Int)) (no : Bool) (o : List Int) (i : Int) : St2 := ⟨⟨[sL false (.int .u8) b] ++ [sL false .str names] ++ [sB no] ++ U.n 4 ++ [own 0] ++ U.n 3 ++ [sL true jO (fieldsOf b)] ++ [sI (fieldsOf b).length] ++ [sI i] ++ U.n 19, [], [(0, .row 5 (.int .u8) true true o)]⟩, 1, []⟩
def eP (b : List Int) (names : List (List Int)) (no : Bool)  (o : List Int) (i : Int) : Prop := at_ (fieldsOf b) i /\ o ++ qH b names no ((fieldsOf b).drop i.toNat) = qH b names no (fieldsOf b)
def kT (names : List (List Int)) (o : List Int) (fd : Field) (j : Int) : St2 := ⟨⟨[sL false .str names] ++ [sF 32 [1]] ++ U.n 5 ++ [sI names.length] ++ [sI j] ++ U.n 10, [], [(0, .row 5 (.int .u8) true true o), (1, .obj [.str fd.1, .str fd.2.1, .int .i64 fd.2.2.1, .int .i64 fd.2.2.2])]⟩, 2, []⟩
def qX (names : List (List Int)) (o' : List Int) (fd' : Field) (j' : Int) (o : List Int) (fd : Field) (j : Int) : Prop :=  o = o' /\ fd = fd' /\ at_ names j /\ (names.drop j.toNat).any (dF fd.1) = names.any (dF fd.1)
end U
def Nu (b : List Int) (names : List (List Int)) (no : Bool) : Vc.Loop := ⟨{ keep := [0, 1, 2, 7, 11, 12, 13], wake := [(7, 5)] }, List Int × Int, fun x => U.bH b names no x.1 x.2, fun x0 x => U.eP b names no  x.1 x.2, fun x => (U.fieldsOf b).length - x.2.toNat, fun p => ∀ x, p x, fun _ h => h⟩
def QC (names : List (List Int)) : Vc.Loop := ⟨{ keep := [0, 1, 7, 8] }, List Int × Field × Int, fun x => U.kT names x.1 x.2.1 x.2.2, fun x0 x => U.qX names x0.1 x0.2.1 x0.2.2 x.1 x.2.1 x.2.2, fun x => names.length - x.2.2.toNat, fun p => ∀ x, p x, fun _ h => h⟩
def uV (b : List Int) (names : List (List Int)) (no : Bool) : Done := ⟨[b.length <= 4000], .one (.psl true (.int .u8) (U.UH b names no)), [], []⟩
def J3 : Vc.Sum := .pure [au, NT, .bool] false fun x => uV x.1 x.2.1 x.2.2
def J4 (b : List Int) (names : List (List Int)) (no : Bool) : Nat -> List V -> Nat -> Option Vc.Loop := fun f v k => cond (Nat.beq f 19 && Nat.beq k 3) (some (Nu b names no)) <| cond (Nat.beq f 41 && Nat.beq k 2) (some (QC names)) <| none
def uX : List (Nat × Ent) := (19, .sum J3) :: jg
def xK  : Done := ⟨[], .one (.bool true), [], []⟩
def EF : Vc.Sum := .pure [] false fun _ => xK
def EG  : Nat -> List V -> Nat -> Option Vc.Loop := dH
def xM : List (Nat × Ent) := (7, .sum EF) :: uX
def xO (b : List Int) (name : List Int) (more : List Int) : Nat -> List V -> Nat -> Option Vc.Loop := dH
end Go.Proofs.YtggccomebfpfpaaDoor
set_option maxRecDepth 100000
set_option linter.unusedVariables false
namespace Go.Proofs.YtggccomebfpfpaaDoor
open Go.Vc
def zk (b : List Int) (names : List (List Int)) (no : Bool) : Prop := b.length <= (1000000000 : Nat) /\ ∃ (x0 : List Int × Int), (U.bH b names no [] (0 : Int) = U.bH b names no x0.1 x0.2 /\ U.eP b names no x0.1 x0.2) /\ ∀ (x : List Int × Int), U.eP b names no x.1 x.2 -> bif decide (x.2 < (↑(U.fieldsOf b).length : Int)) then (0 : Int) <= x.2 /\ x.2 <
 (↑(U.fieldsOf b).length : Int) /\ ∃ (x0 : List Int × (List Int × List Int × Int × Int) × Int), (U.kT names x.1 ((U.fieldsOf b).getD x.2.toNat ([], [], (0 : Int), (0 : Int))) (0 : Int) = U.kT names x0.1 x0.2.1 x0.2.2 /\ U.qX names x0.1 x0.2.1 x0.2.2 x0.1 x0.2.1 x0.2.2) /\ ∀ (x_1 : List Int × (List Int × List Int × Int × Int) × Int), U.qX names x0.1 x0.2.1 x0.2.2
 x_1.1 x_1.2.1 x_1.2.2 -> bif decide (x_1.2.2 < (↑names.length : Int)) then (0 : Int) <= x_1.2.2 /\ x_1.2.2 < (↑names.length : Int) /\ bif U.dF x_1.2.1.1 (names.getD x_1.2.2.toNat []) then bif !decide (decide (x_1.2.2 >= (0 : Int)) = no) then (0 : Int) <= x_1.2.1.2.2.1 /\ x_1.2.1.2.2.1 <= x_1.2.1.2.2.2 /\ x_1.2.1.2.2.2 <= (↑b.length : Int) /\ (x_1.1.length.add (List.take (x_1.2.1.2.2.2.toNat.sub
 x_1.2.1.2.2.1.toNat) (List.drop x_1.2.1.2.2.1.toNat b)).length).mul (1 : Nat) <= (140737488355328 : Nat) /\ x_1.1.length.add (List.take (x_1.2.1.2.2.2.toNat.sub x_1.2.1.2.2.1.toNat) (List.drop x_1.2.1.2.2.1.toNat b)).length <= maxLen /\ ∃ (y : List Int × Int), U.bH b names no (x_1.1.append (List.take (x_1.2.1.2.2.2.toNat.sub x_1.2.1.2.2.1.toNat) (List.drop x_1.2.1.2.2.1.toNat b)))
 (IntKind.i64.wrap (x.2.add (1 : Int))) = U.bH b names no y.1 y.2 /\ U.eP b names no y.1 y.2 /\ (U.fieldsOf b).length.sub y.2.toNat < (U.fieldsOf b).length.sub x.2.toNat else ∃ (y : List Int × Int), U.bH b names no x_1.1 (IntKind.i64.wrap (x.2.add (1 : Int))) = U.bH b names no y.1 y.2 /\ U.eP b names no y.1 y.2 /\ (U.fieldsOf b).length.sub y.2.toNat <
 (U.fieldsOf b).length.sub x.2.toNat else ∃ (y : List Int × (List Int × List Int × Int × Int) × Int), U.kT names x_1.1 x_1.2.1 (IntKind.i64.wrap (x_1.2.2.add (1 : Int))) = U.kT names y.1 y.2.1 y.2.2 /\ U.qX names x0.1 x0.2.1 x0.2.2 y.1 y.2.1 y.2.2 /\ names.length.sub y.2.2.toNat < names.length.sub x_1.2.2.toNat else bif !decide (decide ((-1 : Int) >= (0 : Int)) = no) then
 (0 : Int) <= x_1.2.1.2.2.1 /\ x_1.2.1.2.2.1 <= x_1.2.1.2.2.2 /\ x_1.2.1.2.2.2 <= (↑b.length : Int) /\ (x_1.1.length.add (List.take (x_1.2.1.2.2.2.toNat.sub x_1.2.1.2.2.1.toNat) (List.drop x_1.2.1.2.2.1.toNat b)).length).mul (1 : Nat) <= (140737488355328 : Nat) /\ x_1.1.length.add (List.take (x_1.2.1.2.2.2.toNat.sub x_1.2.1.2.2.1.toNat) (List.drop x_1.2.1.2.2.1.toNat b)).length <= maxLen /\ ∃ (y : List Int ×
 Int), U.bH b names no (x_1.1.append (List.take (x_1.2.1.2.2.2.toNat.sub x_1.2.1.2.2.1.toNat) (List.drop x_1.2.1.2.2.1.toNat b))) (IntKind.i64.wrap (x.2.add (1 : Int))) = U.bH b names no y.1 y.2 /\ U.eP b names no y.1 y.2 /\ (U.fieldsOf b).length.sub y.2.toNat < (U.fieldsOf b).length.sub x.2.toNat else ∃ (y : List Int × Int), U.bH b names no x_1.1
 (IntKind.i64.wrap (x.2.add (1 : Int))) = U.bH b names no y.1 y.2 /\ U.eP b names no y.1 y.2 /\ (U.fieldsOf b).length.sub y.2.toNat < (U.fieldsOf b).length.sub x.2.toNat else (x.1.length.add ((2 : Nat))).mul (1 : Nat) <= (140737488355328 : Nat) /\ x.1.length.add ((2 : Nat)) <= maxLen /\ x.1.append [(13 : Int), (10 : Int)] = U.UH b names no /\ True
def tu : Prop := (0 : Nat) < (14 : Nat) /\ (14 : Nat) <= (1000000000 : Nat) /\ ((bif (U.eF (U.fieldsOf (((((((((((((([(0 : Int), (0 : Int), (0 : Int), (0 : Int), (0 : Int), (0 : Int), (0 : Int), (0 : Int), (0 : Int), (0 : Int), (0 : Int), (0 : Int), (0 : Int), (0 : Int)].set (0 : Nat) (65 : Int)).set (1 : Nat) (58 : Int)).set (2 : Nat) (32 : Int)).set (3 : Nat) (49 : Int)).set (4 : Nat)
 (13 : Int)).set (5 : Nat) (10 : Int)).set (6 : Nat) (32 : Int)).set (7 : Nat) (50 : Int)).set (8 : Nat) (10 : Int)).set (9 : Nat) (98 : Int)).set (10 : Nat) (58 : Int)).set (11 : Nat) (10 : Int)).set (12 : Nat) (10 : Int)).set (13 : Nat) (120 : Int))) [(97 : Int)]).1.beq [(49 : Int), (32 : Int), (50 : Int)] then (U.eF (U.fieldsOf (((((((((((((([(0 : Int), (0 : Int), (0 : Int), (0 : Int), (0 :
 Int), (0 : Int), (0 : Int), (0 : Int), (0 : Int), (0 : Int), (0 : Int), (0 : Int), (0 : Int), (0 : Int)].set (0 : Nat) (65 : Int)).set (1 : Nat) (58 : Int)).set (2 : Nat) (32 : Int)).set (3 : Nat) (49 : Int)).set (4 : Nat) (13 : Int)).set (5 : Nat) (10 : Int)).set (6 : Nat) (32 : Int)).set (7 : Nat) (50 : Int)).set (8 : Nat) (10 : Int)).set (9 : Nat) (98 : Int)).set (10 : Nat) (58 : Int)).set (11 :
 Nat) (10 : Int)).set (12 : Nat) (10 : Int)).set (13 : Nat) (120 : Int))) [(97 : Int)]).2 else false) = true -> (14 : Nat) <= (1000000000 : Nat)) /\ ((bif bif (U.eF (U.fieldsOf (((((((((((((([(0 : Int), (0 : Int), (0 : Int), (0 : Int), (0 : Int), (0 : Int), (0 : Int), (0 : Int), (0 : Int), (0 : Int), (0 : Int), (0 : Int), (0 : Int), (0 : Int)].set (0 : Nat) (65 : Int)).set (1 : Nat) (58 : Int)).set
 (2 : Nat) (32 : Int)).set (3 : Nat) (49 : Int)).set (4 : Nat) (13 : Int)).set (5 : Nat) (10 : Int)).set (6 : Nat) (32 : Int)).set (7 : Nat) (50 : Int)).set (8 : Nat) (10 : Int)).set (9 : Nat) (98 : Int)).set (10 : Nat) (58 : Int)).set (11 : Nat) (10 : Int)).set (12 : Nat) (10 : Int)).set (13 : Nat) (120 : Int))) [(97 : Int)]).1.beq [(49 : Int), (32 : Int), (50 : Int)] then (U.eF (U.fieldsOf
 (((((((((((((([(0 : Int), (0 : Int), (0 : Int), (0 : Int), (0 : Int), (0 : Int), (0 : Int), (0 : Int), (0 : Int), (0 : Int), (0 : Int), (0 : Int), (0 : Int), (0 : Int)].set (0 : Nat) (65 : Int)).set (1 : Nat) (58 : Int)).set (2 : Nat) (32 : Int)).set (3 : Nat) (49 : Int)).set (4 : Nat) (13 : Int)).set (5 : Nat) (10 : Int)).set (6 : Nat) (32 : Int)).set (7 : Nat) (50 : Int)).set (8 : Nat) (10 :
 Int)).set (9 : Nat) (98 : Int)).set (10 : Nat) (58 : Int)).set (11 : Nat) (10 : Int)).set (12 : Nat) (10 : Int)).set (13 : Nat) (120 : Int))) [(97 : Int)]).2 else false then decide ((↑((2 : Nat)) : Int) = (2 : Int)) else false) = true -> (14 : Nat) <= (1000000000 : Nat)) /\ bif bif bif bif (U.eF (U.fieldsOf (((((((((((((([(0 : Int), (0 : Int), (0 : Int), (0 : Int), (0 : Int), (0 : Int), (0 : Int),
 (0 : Int), (0 : Int), (0 : Int), (0 : Int), (0 : Int), (0 : Int), (0 : Int)].set (0 : Nat) (65 : Int)).set (1 : Nat) (58 : Int)).set (2 : Nat) (32 : Int)).set (3 : Nat) (49 : Int)).set (4 : Nat) (13 : Int)).set (5 : Nat) (10 : Int)).set (6 : Nat) (32 : Int)).set (7 : Nat) (50 : Int)).set (8 : Nat) (10 : Int)).set (9 : Nat) (98 : Int)).set (10 : Nat) (58 : Int)).set (11 : Nat) (10 : Int)).set (12 :
 Nat) (10 : Int)).set (13 : Nat) (120 : Int))) [(97 : Int)]).1.beq [(49 : Int), (32 : Int), (50 : Int)] then (U.eF (U.fieldsOf (((((((((((((([(0 : Int), (0 : Int), (0 : Int), (0 : Int), (0 : Int), (0 : Int), (0 : Int), (0 : Int), (0 : Int), (0 : Int), (0 : Int), (0 : Int), (0 : Int), (0 : Int)].set (0 : Nat) (65 : Int)).set (1 : Nat) (58 : Int)).set (2 : Nat) (32 : Int)).set (3 : Nat) (49 :
 Int)).set (4 : Nat) (13 : Int)).set (5 : Nat) (10 : Int)).set (6 : Nat) (32 : Int)).set (7 : Nat) (50 : Int)).set (8 : Nat) (10 : Int)).set (9 : Nat) (98 : Int)).set (10 : Nat) (58 : Int)).set (11 : Nat) (10 : Int)).set (12 : Nat) (10 : Int)).set (13 : Nat) (120 : Int))) [(97 : Int)]).2 else false then decide ((↑((2 : Nat)) : Int) = (2 : Int)) else false then decide (U.textOf (((((((((((((([(0 :
 Int), (0 : Int), (0 : Int), (0 : Int), (0 : Int), (0 : Int), (0 : Int), (0 : Int), (0 : Int), (0 : Int), (0 : Int), (0 : Int), (0 : Int), (0 : Int)].set (0 : Nat) (65 : Int)).set (1 : Nat) (58 : Int)).set (2 : Nat) (32 : Int)).set (3 : Nat) (49 : Int)).set (4 : Nat) (13 : Int)).set (5 : Nat) (10 : Int)).set (6 : Nat) (32 : Int)).set (7 : Nat) (50 : Int)).set (8 : Nat) (10 : Int)).set (9 : Nat) (98
 : Int)).set (10 : Nat) (58 : Int)).set (11 : Nat) (10 : Int)).set (12 : Nat) (10 : Int)).set (13 : Nat) (120 : Int)) = IntKind.i64.wrap ((↑((14 : Nat)) : Int).sub (1 : Int))) else false then (14 : Nat) <= (4000 : Nat) /\ (bif (U.UH (((((((((((((([(0 : Int), (0 : Int), (0 : Int), (0 : Int), (0 : Int), (0 : Int), (0 : Int), (0 : Int), (0 : Int), (0 : Int), (0 : Int), (0 : Int), (0 : Int), (0 :
 Int)].set (0 : Nat) (65 : Int)).set (1 : Nat) (58 : Int)).set (2 : Nat) (32 : Int)).set (3 : Nat) (49 : Int)).set (4 : Nat) (13 : Int)).set (5 : Nat) (10 : Int)).set (6 : Nat) (32 : Int)).set (7 : Nat) (50 : Int)).set (8 : Nat) (10 : Int)).set (9 : Nat) (98 : Int)).set (10 : Nat) (58 : Int)).set (11 : Nat) (10 : Int)).set (12 : Nat) (10 : Int)).set (13 : Nat) (120 : Int)) ([[]].set (0 : Nat) [(65 :
 Int)]) true).beq [(98 : Int), (58 : Int), (10 : Int), (13 : Int), (10 : Int)] then decide ((↑((4 : Nat)) : Int) = (4 : Int)) else false) = true /\ True else false = true /\ True
def lS (b : List Int) (name : List Int) (more : List Int) : Prop := bif bif bif decide ((↑b.length : Int) > (4000 : Int)) then true else decide ((↑name.length : Int) > (200 : Int)) then true else decide ((↑more.length : Int) > (4000 : Int)) then true = true /\ True else b.length <= (1000000000 : Nat) /\ b.length <= (1000000000 : Nat) /\ b.length <= (1000000000 : Nat) /\ b.length <=
 (1000000000 : Nat) /\ (decide (U.fieldsOf b = U.fieldsOf b) = true -> b.length <= (1000000000 : Nat)) /\ (decide (U.fieldsOf b = U.fieldsOf b) = true -> b.length <= (1000000000 : Nat)) /\ (bif bif bif bif decide (U.fieldsOf b = U.fieldsOf b) then decide (U.textOf b = U.textOf b) else false then (U.eF (U.fieldsOf b) name).1.beq (U.eF (U.fieldsOf b) name).1 else false then decide ((U.eF (U.fieldsOf b)
 name).2 = (U.eF (U.fieldsOf b) name).2) else false then decide ((↑(List.filter (fun (x : Int) => decide (x = (10 : Int))) more).length : Int) = (↑(List.filter (fun (x : Int) => decide (x = (10 : Int))) more).length : Int)) else false) = true /\ True
end Go.Proofs.YtggccomebfpfpaaDoor
set_option linter.unusedSimpArgs false
set_option linter.unusedVariables false
set_option maxRecDepth 100000
namespace Go.Proofs.YtggccomebfpfpaaDoor
open Go.Vc
open Go.Vc.T
theorem yD (b : List Int) : ∀ (a c : List Field) (p : Int), U.sides b p (a ++ c) ↔ U.sides b p a /\ U.sides b (U.jM p a) c
 | [], c, p => by simp [U.sides, U.jM]
 | f :: a, c, p => by
   have ih := yD b a c f.2.2.2
   simp only [List.cons_append, U.sides, U.jM, ih, and_assoc]
theorem Io : ∀ (a c : List Field) (p : Int), U.jM p (a ++ c) = U.jM (U.jM p a) c
 | [], _, _ => rfl
 | _ :: a, c, _ => Io a c _
theorem J5 (b : List Int) : ∀ (fs : List Field) (p e : Int) (v : List Int), fs ≠ [] -> U.sides b p fs -> U.jM p fs <= e -> e <= b.length -> U.sides b p (U.setLast fs v e) /\ U.jM p (U.setLast fs v e) = e
 | [], _, _, _, h, _, _, _ => absurd rfl h
 | [f], p, e, v, _, ⟨h1, h2, h3, h4, h5, h6, _⟩, hE, hb => by
   have hE : f.2.2.2 <= e := hE
   exact ⟨⟨h1, h2, by show p + (f.1.length : Int) < e; omega, hb, h5, h6, trivial⟩, rfl⟩
 | f :: g :: r, p, e, v, _, ⟨h1, h2, h3, h4, h5, h6, h7⟩, hE, hb => by
   have ih := J5 b (g :: r) f.2.2.2 e v (by simp) h7 hE hb
   have hs : U.setLast (f :: g :: r) v e = f :: U.setLast (g :: r) v e := rfl
   rw [hs]
   exact ⟨⟨h1, h2, h3, h4, h5, h6, ih.1⟩, ih.2⟩
theorem SB (fs : List Field) (n v w : List Int) (p q e : Int) : U.setLast (fs ++ [(n, w, p, q)]) v e = fs ++ [(n, v, p, e)] := by
 unfold U.setLast
 have hl : (fs ++ [((n, w, p, q) : Field)]).length - 1 = fs.length := by simp
 rw [hl, getD_at (by simp), List.set_append_right _ _ (Nat.le_refl _)]
 simp
theorem G9 (m : List Int) (c : Int) : ∃ k, U.cu m [c] = m.take k := by
 rw [NW]; cases U.dh m [c]
 ·exact ⟨m.length, (List.take_length).symm⟩
 ·exact ⟨_, rfl⟩
theorem WJ (l : List Int) : U.says l = l.take (U.says l).length := by
 have key : ∃ k, U.says l = l.take k := by
  unfold U.says
  cases U.dh l [10]
  ·exact ⟨l.length, (List.take_length).symm⟩
  ·obtain ⟨k, hk⟩ := G9 l 10
   obtain ⟨j, hj⟩ := G9 (U.cu l [10]) 13
   show ∃ k, U.cu (U.cu l [10]) [13] = _
   rw [hj, hk, List.take_take]; exact ⟨_, rfl⟩
 obtain ⟨k, hk⟩ := key
 rw [hk, List.length_take]
 by_cases h : k <= l.length
 ·rw [Nat.min_eq_left h]
 ·rw [Nat.min_eq_right (by omega), List.take_length, List.take_of_length_le (by omega)]
theorem QD : ∀ (l : List Int) (c : Int), 0 <= aH l c -> l.getD (aH l c).toNat 0 = c
 | [], c, h => by simp [aH] at h
 | x :: l, c, h => by
   rw [qy] at h ⊢
   by_cases hx : x = c
   ·rw [if_pos hx]; exact hx
   ·rw [if_neg hx] at h ⊢
    have hb := bG l c
    by_cases hn : aH l c = -1
    ·rw [if_pos hn] at h; omega
    ·rw [if_neg hn] at h ⊢
     have ih := QD l c (by omega)
     rw [show (aH l c + 1).toNat = (aH l c).toNat + 1 by omega]
     exact ih
theorem getD_take {α : Type} {l : List α} {k n : Nat} {d : α} (h : k < n) : (l.take n).getD k d = l.getD k d := by
 simp [List.getD_eq_getElem?_getD, List.getElem?_take, h]
theorem getD_drop {α : Type} {l : List α} {k n : Nat} {d : α} : (l.drop n).getD k d = l.getD (n + k) d := by
 simp [List.getD_eq_getElem?_getD, List.getElem?_drop]
theorem Ip (b : List Int) : ∀ (n : Nat) (s : U.HS), 0 <= s.2.2 -> s.2.2 <= b.length -> b.length - s.2.2.toNat <= n -> U.sides b 0 s.1 -> U.jM 0 s.1 = s.2.2 -> ∀ R, R = U.dw s (U.ah 10 (b.drop s.2.2.toNat)) ->
 U.sides b 0 R.1.1 /\ U.jM 0 R.1.1 = R.1.2.2
 | 0, s, h0, h1, hn, hs, he, R, hR => by
   rw [zN s (by omega)] at hR
   subst hR
   exact ⟨hs, he⟩
 | n + 1, (fs, v, en), h0, h1, hn, hsd, he, R, hR => by
   dsimp only at h0 h1 hn hR hsd he
   by_cases hi : en < b.length
   ·obtain ⟨q1, q2, r, hr, hrr⟩ := yC h0 hi
    have hll : (List.take ((U.endOf b en).toNat.sub en.toNat) (List.drop en.toNat b)).length = (U.endOf b en).toNat - en.toNat := by rw [List.length_take, List.length_drop, bW]; omega
    rw [hr] at hR
    obtain ⟨l, hl⟩ : ∃ l, l = List.take ((U.endOf b en).toNat.sub en.toNat) (List.drop en.toNat b) := ⟨_, rfl⟩
    rw [<- hl] at hR hll
    have hq : U.endOf b en = en + l.length := by omega
    have hne : ¬ l = [] := by intro h; rw [h] at hll; simp at hll; omega
    by_cases hs : U.says l = []
    ·rw [Fe _ _ hne hs] at hR
     subst hR
     exact ⟨hsd, he⟩
    ·cases hm : U.more (fs, v, en) l with
     | true =>
       rw [Fg fs v en _ hne hs hm, hrr, hq] at hR
       have hfs : fs ≠ [] := by
        unfold U.more at hm
        simp only [Bool.and_eq_true, decide_eq_true_eq] at hm
        exact hm.2
       have hN := J5 b fs 0 (en + l.length) (U.trimB (v ++ U.says l)) hfs hsd (by omega) (by omega)
       exact Ip b n (_, _, en + l.length) (by show 0 <= en + (l.length : Int); omega) (by show en + (l.length : Int) <= _; omega) (by show b.length - (en + (l.length : Int)).toNat <= n; omega) hN.1 hN.2 R hR
     | false =>
       cases hbg : U.begins (U.says l) with
       | true =>
         rw [Bh fs v en _ hne hs hm hbg, hrr, hq, SB] at hR
         obtain ⟨_, c2, c3, c4, _⟩ := Mc hbg
         have hsl := Ik l
         have hpre : U.says l = (b.drop en.toNat).take (U.says l).length := by
          have h := WJ l
          rw [hl, List.take_take, <- hl] at h
          rwa [Nat.min_eq_left (by rw [bW]; omega)] at h
         have hA : (U.aC (U.says l) 58).length = (aH (U.says l) 58).toNat := by rw [c4, List.length_take]; omega
         have hN : U.sides b 0 (fs ++ [(U.aC (U.says l) 58, U.trimB (U.bK (U.says l) 58), en, en + l.length)]) /\ U.jM 0 (fs ++ [(U.aC (U.says l) 58, U.trimB (U.bK (U.says l) 58), en, en + l.length)]) = en + l.length := by
          rw [yD, Io, he]
          refine ⟨⟨hsd, rfl, ?_, ?_, ?_, ?_, ?_, trivial⟩, rfl⟩
          ·intro h
           have h := congrArg List.length (show U.aC (U.says l) 58 = [] from h)
           rw [hA] at h; simp at h; omega
          ·show en + ((U.aC (U.says l) 58).length : Int) < en + l.length; omega
          ·show en + (l.length : Int) <= _; omega
          ·show (b.drop en.toNat).take (U.aC (U.says l) 58).length = U.aC (U.says l) 58
           rw [hA, c4]
           generalize hI : (aH (U.says l) 58).toNat = I
           rw [hpre, List.take_take, Nat.min_eq_left (by omega)]
          ·show b.getD (en + ((U.aC (U.says l) 58).length : Int)).toNat 0 = 58
           have h := QD (U.says l) 58 (by omega)
           rw [hpre, getD_take (by rw [<- hpre]; omega), <- hpre, getD_drop] at h
           rw [hA, show (en + (((aH (U.says l) 58).toNat : Nat) : Int)).toNat = en.toNat + (aH (U.says l) 58).toNat by omega]; exact h
         exact Ip b n (_, _, en + l.length) (by show 0 <= en + (l.length : Int); omega) (by show en + (l.length : Int) <= _; omega) (by show b.length - (en + (l.length : Int)).toNat <= n; omega) hN.1 hN.2 R hR
       | false =>
         rw [Fh fs v en _ hne hs hm hbg] at hR
         subst hR
         exact ⟨hsd, he⟩
   ·rw [zN _ (by omega)] at hR
    subst hR
    exact ⟨hsd, he⟩
theorem Fj (b : List Int) : ∀ (fs : List Field) (p : Int), U.sides b p fs -> p <= U.jM p fs /\ (p <= b.length -> U.jM p fs <= b.length)
 | [], p, _ => ⟨Int.le_refl p, id⟩
 | f :: r, p, ⟨h1, h2, h3, h4, h5, h6, h7⟩ => by
   have ih := Fj b r f.2.2.2 h7
   exact ⟨by show p <= U.jM f.2.2.2 r; omega, fun _ => ih.2 h4⟩
theorem He (b : List Int) : U.sides b 0 (U.fieldsOf b) /\ 0 <= U.jM 0 (U.fieldsOf b) /\ U.jM 0 (U.fieldsOf b) <= U.textOf b /\ U.textOf b <= b.length := by
 have h := Ip b b.length ([], [], 0) (Int.le_refl 0) (by show (0 : Int) <= _; omega) (Nat.sub_le _ _) trivial rfl (U.hread b) rfl
 have ht := Ti b
 have hsp : (U.hread b).1.1 = U.fieldsOf b ++ (U.hread b).1.1.drop 40 := (List.take_append_drop 40 _).symm
 rw [hsp, yD, Io] at h
 have h1 := Fj b _ _ h.1.1
 have h2 := Fj b _ _ h.1.2
 exact ⟨h.1.1, h1.1, by omega, ht.2⟩
theorem Xw {b : List Int} {l : List Field} {i : Nat} (hi : i < l.length) (hs : U.sides b 0 l) : 0 <= l[i].2.2.1 /\ l[i].2.2.1 <= l[i].2.2.2 /\ l[i].2.2.2 <= b.length /\ (b.drop l[i].2.2.1.toNat).take l[i].1.length = l[i].1 := by
 have hsp : l = l.take i ++ l[i] :: l.drop (i + 1) := by rw [<- List.drop_eq_getElem_cons hi, List.take_append_drop]
 rw [hsp, yD] at hs
 have h1 := Fj b _ _ hs.1
 obtain ⟨h2, h3, h4, h5, h6, h7, h8⟩ := hs.2
 exact ⟨by omega, by omega, h5, by rw [h2]; exact h6⟩
theorem Xx {b : List Int} {names : List (List Int)} {no : Bool} {l : List Field} {i : Int} (h0 : 0 <= i) (hi : i < l.length) : U.qH b names no (l.drop i.toNat) = cond (U.picks names no l[i.toNat]) (U.jZ b l[i.toNat]) [] ++ U.qH b names no (l.drop (i + 1).toNat) := by
 rw [drop_at h0 hi]; rfl
theorem WL {b : List Int} {f : Field} (h0 : 0 <= f.2.2.1) (h1 : f.2.2.1 <= f.2.2.2) (h2 : f.2.2.2 <= b.length) : ((U.jZ b f).length : Int) = f.2.2.2 - f.2.2.1 := by
 unfold U.jZ; rw [List.length_take, List.length_drop]; omega
theorem QE (b : List Int) (names : List (List Int)) (no : Bool) : ∀ (fs : List Field) (p : Int), 0 <= p -> U.sides b p fs ->
 ((U.qH b names no fs).length : Int) + (U.qH b names (!no) fs).length = U.jM p fs - p
 | [], p, _, _ => by show (0 : Int) + 0 = p - p; omega
 | f :: r, p, h0, ⟨h1, h2, h3, h4, h5, h6, h7⟩ => by
   have ih := QE b names no r f.2.2.2 (by omega) h7
   have hp := WL (b := b) (f := f) (by omega) (by omega) h4
   have hA : ∀ no, U.qH b names no (f :: r) = cond (U.picks names no f) (U.jZ b f) [] ++ U.qH b names no r := fun _ => rfl
   have hq : U.picks names (!no) f = !(U.picks names no f) := by unfold U.picks; cases names.any (U.dF f.1) <;> cases no <;> rfl
   rw [hA, hA, hq]
   show _ = U.jM f.2.2.2 r - p
   cases U.picks names no f
   ·show (((([] : List Int) ++ _).length : Nat) : Int) + (((U.jZ b f ++ _).length : Nat) : Int) = _
    rw [List.nil_append, List.length_append]; push_cast; omega
   ·show (((U.jZ b f ++ _).length : Nat) : Int) + (((([] : List Int) ++ _).length : Nat) : Int) = _
    rw [List.nil_append, List.length_append]; push_cast; omega
theorem Xy (b : List Int) (names : List (List Int)) (no : Bool) : (U.qH b names no (U.fieldsOf b)).length <= b.length := by
 have h := He b
 have h1 := QE b names no _ 0 (Int.le_refl 0) h.1
 omega
theorem SC (b : List Int) (names : List (List Int)) (no : Bool) (hl : b.length <= maxLen) (hn : names.length <= maxLen) (h : b.length <= 4000) : zk b names no := by
 unfold zk
 rw [maxLen_eq] at hn
 have hsd := (He b).1
 have hbd := Xy b names no
 have hfl : (U.fieldsOf b).length <= 40 := List.length_take_le _ _
 refine ⟨by omega, ([], 0), ⟨rfl, ⟨Int.le_refl 0, by show (0 : Int) <= _; omega⟩, rfl⟩, ?_⟩
 rintro ⟨o, i⟩ ⟨⟨i0, i1⟩, hI⟩
 dsimp only at i0 i1 hI ⊢
 rw [cond_prop]
 refine ⟨fun hi => ?_, fun hi => ?_⟩
 ·have hi : i < (U.fieldsOf b).length := of_decide_eq_true hi
  rw [Xx i0 hi] at hI
  rw [getD_at (by omega : i.toNat < (U.fieldsOf b).length)]
  obtain ⟨s1, s2, s3, _⟩ := Xw (by omega : i.toNat < (U.fieldsOf b).length) hsd
  generalize (U.fieldsOf b)[i.toNat] = fd at hI s1 s2 s3 ⊢
  have hol : o.length + (cond (U.picks names no fd) (U.jZ b fd) []).length <= b.length := by
   have h := congrArg List.length hI
   rw [List.length_append, List.length_append] at h; omega
  have hcut : List.take (fd.2.2.2.toNat.sub fd.2.2.1.toNat) (List.drop fd.2.2.1.toNat b) = U.jZ b fd := rfl
  refine ⟨i0, hi, (o, fd, 0), ⟨rfl, rfl, rfl, ⟨Int.le_refl 0, by show (0 : Int) <= _; omega⟩, rfl⟩, ?_⟩
  rintro ⟨o', fd', j⟩ ⟨he1, he2, ⟨j0, j1⟩, hJ⟩
  dsimp only at he1 he2 j0 j1 hJ ⊢
  have he1 := he1.symm; have he2 := he2.symm
  subst he1 he2
  rw [hcut]
  have hend : ∀ (a : Bool), names.any (U.dF fd.1) = a -> bif !decide (a = no) then 0 <= fd.2.2.1 /\ fd.2.2.1 <= fd.2.2.2 /\ fd.2.2.2 <= (b.length : Int) /\ (o.length.add (U.jZ b fd).length).mul 1 <= 140737488355328 /\ o.length.add (U.jZ b fd).length <= maxLen /\ ∃ (y : List Int × Int), U.bH b names no (o.append (U.jZ b fd)) (IntKind.i64.wrap (i.add 1)) = U.bH b names no y.1 y.2 /\ U.eP b names no y.1 y.2 /\ (U.fieldsOf b).length.sub y.2.toNat < (U.fieldsOf b).length.sub i.toNat
   else ∃ (y : List Int × Int), U.bH b names no o (IntKind.i64.wrap (i.add 1)) = U.bH b names no y.1 y.2 /\ U.eP b names no y.1 y.2 /\ (U.fieldsOf b).length.sub y.2.toNat < (U.fieldsOf b).length.sub i.toNat := by
   intro a ha
   have hp : U.picks names no fd = !decide (a = no) := by unfold U.picks; rw [ha]
   rw [hp] at hI hol
   rw [dW (by omega) (by omega)]
   cases hc : !decide (a = no) with
   | true =>
     rw [hc] at hI hol
     have hol : o.length + (U.jZ b fd).length <= b.length := hol
     refine ⟨s1, s2, s3, by simp only [dV, nU]; omega, by simp only [dV, maxLen_eq]; omega, ⟨(o ++ U.jZ b fd, i + 1), rfl, ⟨⟨by show 0 <= i + 1; omega, by show i + 1 <= _; omega⟩, ?_⟩, by simp only [bW]; omega⟩⟩
     rw [List.append_assoc]; exact hI
   | false =>
     rw [hc] at hI
     exact ⟨(o, i + 1), rfl, ⟨⟨by show 0 <= i + 1; omega, by show i + 1 <= _; omega⟩, hI⟩, by simp only [bW]; omega⟩
  rw [cond_prop]
  refine ⟨fun hj => ?_, fun hj => ?_⟩
  ·have hj : j < names.length := of_decide_eq_true hj
   rw [VI j0 hj] at hJ
   rw [getD_at (by omega : j.toNat < names.length)]
   refine ⟨j0, hj, ?_⟩
   cases hs : U.dF fd.1 names[j.toNat] with
   | true =>
     rw [hs, Bool.true_or] at hJ
     have := hend true hJ.symm
     rw [decide_eq_true (by omega : j >= 0)]
     exact this
   | false =>
     rw [hs, Bool.false_or] at hJ
     exact ⟨(o, fd, j + 1), by rw [dW (by omega) (by omega)], ⟨rfl, rfl, ⟨by show 0 <= j + 1; omega, by show j + 1 <= _; omega⟩, hJ⟩, by simp only [bW]; omega⟩
  ·have hj : ¬ j < names.length := of_decide_eq_false hj
   rw [drop_end (by omega)] at hJ
   exact hend false hJ.symm
 ·have hi : ¬ i < (U.fieldsOf b).length := of_decide_eq_false hi
  rw [drop_end (by omega)] at hI
  have hI : o ++ [] = _ := hI
  rw [List.append_nil] at hI
  have := congrArg List.length hI
  refine ⟨by simp only [dV, nU]; omega, by simp only [dV, maxLen_eq]; omega, ?_, trivial⟩
  rw [hI]; rfl
theorem Nv : tu := by
 unfold tu
 refine ⟨by omega, by omega, fun _ => by omega, fun _ => by omega, ?_⟩
 rw [cond_prop]
 exact ⟨fun _ => ⟨by omega, by decide +kernel, trivial⟩, fun h => absurd h (by decide +kernel)⟩
theorem VU (l : List Int) : l.beq l = true := beq_self_eq_true l
theorem FP (b name more : List Int) (hv : b.length <= maxLen) : lS b name more := by
 unfold lS
 rw [cond_prop]
 refine ⟨fun _ => ⟨rfl, trivial⟩, fun h => ?_⟩
 rw [zM, zM] at h
 simp only [Bool.or_eq_false_iff, decide_eq_false_iff_not] at h
 have hb : b.length <= 1000000000 := by omega
 refine ⟨hb, hb, hb, hb, fun _ => hb, fun _ => hb, ?_, trivial⟩
 simp only [VU, decide_true, cond_true]
end Go.Proofs.YtggccomebfpfpaaDoor
set_option linter.unusedSimpArgs false
set_option maxRecDepth 100000
set_option linter.unusedVariables false
namespace Go.Proofs.YtggccomebfpfpaaDoor
open Go.Vc
theorem U9 (x : aJ [au, NT, .bool]) : bY Tryd.prog (aZ jg) (J4 x.1 x.2.1 x.2.2) 19 (bQ [au, NT, .bool] x) [] (uV x.1 x.2.1 x.2.2) = zk x.1 x.2.1 x.2.2 := by kernel_rfl
theorem Va : Pok 19 [au, NT, .bool] (fun x => uV x.1 x.2.1 x.2.2) := by
 refine pk (L := fun x => J4 x.1 x.2.1 x.2.2) (l := jg) rQ (fun _ => rfl) ?_
 intro x hv hp
 rw [U9]
 exact SC x.1 x.2.1 x.2.2 hv.1.2 hv.2.1.2 (hp (List.length x.1 <= 4000) (by simp [uV]))
theorem Vb : bI Tryd.prog gl 19 J3 := Va
theorem Hf : bf uX := .cons Vb rQ
theorem QF (x : aJ []) : bY Tryd.prog (aZ uX) (EG ) 7 (bQ [] x) [] (xK ) = tu  := by kernel_rfl
theorem QG : Pok 7 [] (fun x => xK ) := by
 refine pk (L := fun x => EG ) (l := uX) Hf (fun _ => rfl) ?_
 intro x hv hp
 rw [QF]
 exact Nv
theorem QH : bI Tryd.prog gl 7 EF := QG
theorem Nw : bf xM := .cons QH Hf
end Go.Proofs.YtggccomebfpfpaaDoor
