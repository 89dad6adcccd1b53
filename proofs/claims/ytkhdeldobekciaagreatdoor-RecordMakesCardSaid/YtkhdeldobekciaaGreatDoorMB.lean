/- What functions of this seat compute, in plain Lean. -/
import Derived.Test.YtkhdeldobekciaaGreatDoorMA
set_option linter.unusedVariables false
set_option linter.unusedSimpArgs false
set_option maxRecDepth 100000
namespace Go.Proofs.YtkhdeldobekciaaGreatDoor
open Go.Vc
namespace U
def iq (c : Int) : Bool := decide (c <= 32) || (decide (c > 126) || decide (aA [40, 41, 123, 37, 42, 34, 92] c >= 0))
def qV (p : Int -> Bool) : List Int -> Int -> Int
 | [], _ => -1
 | x :: r, i => if p x then i else qV p r (i + 1)
end U
namespace U
def eG (s : List Int) : Bool := decide (s.length <= 40) && (decide ((split 47 s).length <= 4) && (decide (yM [] (split 47 s) 0 < 0) && decide (qV iq s 0 < 0)))
end U
namespace U
def fK : List Int := [73, 78, 66, 79, 88]
def fM (s : List Int) : List Int := cond (decide (aA s 47 >= 0)) (s.take (aA s 47).toNat) s
def nT (s : List Int) : List Int := cond (decide (aA s 47 >= 0)) (47 :: s.drop ((aA s 47).toNat + 1)) []
def bU (s : List Int) : List Int × Int := cond (eG s) ((cond (decide ((fM s).map dJ = fK.map dJ)) fK (fM s)) ++ nT s, 0) ([], 3)
def l9 (s : List Int) : Bool := decide ((bU s).2 = 0) && decide ((bU s).1 = s)
end U
abbrev rSE (x : List Int × Int) : SV := .tup [one (.str x.1), one (.int .i64 x.2)]
namespace U
def sD (l : List Int) (i : Int) : St2 := ⟨⟨[own 0] ++ [sF 107 []] ++ U.n 5 ++ [sI l.length] ++ [sI i] ++ U.n 10, [], [(0, .row 5 (.int .u8) true false l)]⟩, 1, []⟩
def vN (l : List Int)  (i : Int) : Prop := at_ l i /\ qV iq (l.drop i.toNat) i = qV iq l 0
end U
def abY (l : List Int) : Vc.Loop := ⟨{ keep := [0, 1, 7, 8] }, Int, fun x => U.sD l x, fun x0 x => U.vN l  x, fun x => l.length - x.toNat⟩
def Pe (c : Int) : Done := rB (U.iq c)
def YR : Vc.Sum := .pure [.int .u8] false fun x => Pe x
def YS (c : Int) : Nat -> List V -> Nat -> Option Vc.Loop := bZ
def IJ : List (Nat × Ent) := (107, .sum YR) :: gB
def iL (l : List Int) : Done := ⟨[], .one (.bool (decide (U.qV U.iq l 0 >= 0))), [.dead], []⟩
def kV (l : List Int) : List V := [⟨false, [.own 0]⟩, ⟨false, [.fn 107 []]⟩]
def kW (l : List Int) : List Entry := [.row 5 (.int .u8) true false l]
def lG (l : List Int) : Nat -> List V -> Nat -> Option Vc.Loop := fun f v k => cond (Nat.beq f 113 && Nat.beq k 2) (some (abY l)) <| none
def iw : List V -> List Entry -> Option Done
 | [⟨false, [.own n1]⟩, ⟨false, [.fn n2 []]⟩], [.row n3 (.int .u8) true false l] => cond (Nat.beq n1 0 && Nat.beq n2 107 && Nat.beq n3 5) (some (iL l)) none
 | _, _ => none
theorem jH {args : List V} {es : List Entry} {d : Done} (h : iw args es = some d) : ∃ l, args = kV l /\ es = kW l /\ d = iL l := by
 unfold iw at h
 split at h
 ·obtain ⟨hb, hd⟩ := lZ h; simp only [Bool.and_eq_true, Nat.beq_eq] at hb; (try obtain ⟨⟨rfl, rfl⟩, rfl⟩ := hb); subst hd; (try subst_vars); exact ⟨_, rfl, rfl, rfl⟩
 ·cases h
def fD (args : List V) (es : List Entry) : Option Done := orE (iw args es) (none)
def mg : Vc.Sum := .gen fD
def fE : List (Nat × Ent) := (106, .sum mg) :: IJ
def yO (s : List Int) : Done := ⟨[s.length <= 1000000000000], .one (.bool (U.eG s)), [], []⟩
def Pg : Vc.Sum := .pure [.str] false fun x => yO x
def Ph (s : List Int) : Nat -> List V -> Nat -> Option Vc.Loop := bZ
def yP : List (Nat × Ent) := (99, .sum Pg) :: fE
def Bc (s : List Int) : Done := ⟨[s.length <= 1000000000000], rSE (U.bU s), [], []⟩
def Tj : Vc.Sum := .pure [.str] false fun x => Bc x
def Tm (s : List Int) : Nat -> List V -> Nat -> Option Vc.Loop := bZ
def Bd : List (Nat × Ent) := (92, .sum Tj) :: yP
def Bf (s : List Int) : Done := ⟨[s.length <= 1000000000000], .one (.bool (U.l9 s)), [], []⟩
def Tn : Vc.Sum := .pure [.str] false fun x => Bf x
def Tq (s : List Int) : Nat -> List V -> Nat -> Option Vc.Loop := bZ
def Bg : List (Nat × Ent) := (79, .sum Tn) :: Bd
end Go.Proofs.YtkhdeldobekciaaGreatDoor
set_option maxRecDepth 100000
set_option linter.unusedVariables false
namespace Go.Proofs.YtkhdeldobekciaaGreatDoor
open Go.Vc
def LK (c : Int) : Prop := (bif bif decide (c <= (32 : Int)) then true else decide (c > (126 : Int)) then true else decide (aA [(40 : Int), (41 : Int), (123 : Int), (37 : Int), (42 : Int), (34 : Int), (92 : Int)] c >= (0 : Int))) = U.iq c /\ True
def iy (l : List Int) : Prop := ∃ (x0 : Int), (U.sD l (0 : Int) = U.sD l x0 /\ U.vN l x0) /\ ∀ (x : Int), U.vN l x -> bif decide (x < (↑l.length : Int)) then (0 : Int) <= x /\ x < (↑l.length : Int) /\ x.toNat < l.length /\ bif U.iq (l.getD x.toNat (0 : Int)) then decide (x >= (0 : Int)) = decide (U.qV U.iq l (0 : Int) >= (0 : Int)) /\
 True else ∃ (y : Int), U.sD l (IntKind.i64.wrap (x.add (1 : Int))) = U.sD l y /\ U.vN l y /\ l.length.sub y.toNat < l.length.sub x.toNat else decide ((-1 : Int) >= (0 : Int)) = decide (U.qV U.iq l (0 : Int) >= (0 : Int)) /\ True
def Dx (s : List Int) : Prop := (1 : Nat) = (1 : Nat) /\ (0 : Int) = (0 : Int) /\ (-1 : Int) = (-1 : Int) /\ s.length <= (1000000000000 : Nat) /\ bif bif decide ((↑s.length : Int) <= (40 : Int)) then decide ((↑(U.split ([(47 : Int)].getD (0 : Nat) (0 : Int)) s).length : Int) <= (4 : Int)) else false then bif !decide (U.yM [] (U.split ([(47 : Int)].getD (0 : Nat) (0 : Int)) s) (0 : Int) >= (0 :
 Int)) then (!decide (U.qV U.iq s (0 : Int) >= (0 : Int))) = U.eG s /\ True else false = U.eG s /\ True else false = U.eG s /\ True
def Gz (s : List Int) : Prop := s.length <= (1000000000000 : Nat) /\ bif !U.eG s then [] = (U.bU s).1 /\ (3 : Int) = (U.bU s).2 /\ True else (1 : Nat) = (1 : Nat) /\ bif decide (aA s ([(47 : Int)].getD (0 : Nat) (0 : Int)) >= (0 : Int)) then (0 : Int) <= (0 : Int) /\ (0 : Int) <= aA s ([(47 : Int)].getD (0 : Nat) (0 : Int)) /\ aA s ([(47 : Int)].getD (0 : Nat) (0 : Int)) <=
 (↑s.length : Int) /\ (0 : Int) <= IntKind.i64.wrap ((aA s ([(47 : Int)].getD (0 : Nat) (0 : Int))).add (↑((1 : Nat)) : Int)) /\ IntKind.i64.wrap ((aA s ([(47 : Int)].getD (0 : Nat) (0 : Int))).add (↑((1 : Nat)) : Int)) <= (↑s.length : Int) /\ (↑s.length : Int) <= (↑s.length : Int) /\ ((∀ (x : Int), List.Mem x (List.take ((aA s ([(47 : Int)].getD (0 : Nat) (0 : Int))).toNat.sub (0 : Nat)) (List.drop
 (0 : Nat) s)) -> x < (128 : Int)) /\ (∀ (x : Int), List.Mem x [(73 : Int), (78 : Int), (66 : Int), (79 : Int), (88 : Int)] -> x < (128 : Int)) /\ (List.take ((aA s ([(47 : Int)].getD (0 : Nat) (0 : Int))).toNat.sub (0 : Nat)) (List.drop (0 : Nat) s)).length <= (4000000000 : Nat)) /\ bif decide (List.map (fun (x : Int) => if (65 : Int) <= x /\ x <= (90 : Int) then x.add (32 : Int) else x) (List.take ((aA
 s ([(47 : Int)].getD (0 : Nat) (0 : Int))).toNat.sub (0 : Nat)) (List.drop (0 : Nat) s)) = [(73 : Int).add (32 : Int), (78 : Int).add (32 : Int), (66 : Int).add (32 : Int), (79 : Int).add (32 : Int), (88 : Int).add (32 : Int)]) then Nat.add ((1 : Nat)) (List.take ((↑s.length : Int).toNat.sub (IntKind.i64.wrap ((aA s ([(47 : Int)].getD (0 : Nat) (0 : Int))).add (↑((1 : Nat)) : Int))).toNat)
 (List.drop (IntKind.i64.wrap ((aA s ([(47 : Int)].getD (0 : Nat) (0 : Int))).add (↑((1 : Nat)) : Int))).toNat s)).length <= (9223372036854775807 : Nat) /\ Nat.add ((5 : Nat)) ((List.take ((↑s.length : Int).toNat.sub (IntKind.i64.wrap ((aA s ([(47 : Int)].getD (0 : Nat) (0 : Int))).add (↑((1 : Nat)) : Int))).toNat) (List.drop (IntKind.i64.wrap ((aA s ([(47 : Int)].getD (0 : Nat) (0 : Int))).add
 (↑((1 : Nat)) : Int))).toNat s)).length.add (1 : Nat)) <= (9223372036854775807 : Nat) /\ (73 : Int) :: (78 : Int) :: (66 : Int) :: (79 : Int) :: (88 : Int) :: (47 : Int) :: List.take ((↑s.length : Int).toNat.sub (IntKind.i64.wrap ((aA s ([(47 : Int)].getD (0 : Nat) (0 : Int))).add (↑((1 : Nat)) : Int))).toNat) (List.drop (IntKind.i64.wrap ((aA s ([(47 : Int)].getD (0 : Nat) (0 : Int))).add (↑((1
 : Nat)) : Int))).toNat s) = (U.bU s).1 /\ (0 : Int) = (U.bU s).2 /\ True else Nat.add ((1 : Nat)) (List.take ((↑s.length : Int).toNat.sub (IntKind.i64.wrap ((aA s ([(47 : Int)].getD (0 : Nat) (0 : Int))).add (↑((1 : Nat)) : Int))).toNat) (List.drop (IntKind.i64.wrap ((aA s ([(47 : Int)].getD (0 : Nat) (0 : Int))).add (↑((1 : Nat)) : Int))).toNat s)).length <= (9223372036854775807 : Nat) /\
 (List.take ((aA s ([(47 : Int)].getD (0 : Nat) (0 : Int))).toNat.sub (0 : Nat)) (List.drop (0 : Nat) s)).length.add ((List.take ((↑s.length : Int).toNat.sub (IntKind.i64.wrap ((aA s ([(47 : Int)].getD (0 : Nat) (0 : Int))).add (↑((1 : Nat)) : Int))).toNat) (List.drop (IntKind.i64.wrap ((aA s ([(47 : Int)].getD (0 : Nat) (0 : Int))).add (↑((1 : Nat)) : Int))).toNat s)).length.add (1 : Nat)) <=
 (9223372036854775807 : Nat) /\ (List.take ((aA s ([(47 : Int)].getD (0 : Nat) (0 : Int))).toNat.sub (0 : Nat)) (List.drop (0 : Nat) s)).append ((47 : Int) :: List.take ((↑s.length : Int).toNat.sub (IntKind.i64.wrap ((aA s ([(47 : Int)].getD (0 : Nat) (0 : Int))).add (↑((1 : Nat)) : Int))).toNat) (List.drop (IntKind.i64.wrap ((aA s ([(47 : Int)].getD (0 : Nat) (0 : Int))).add (↑((1 : Nat)) :
 Int))).toNat s)) = (U.bU s).1 /\ (0 : Int) = (U.bU s).2 /\ True else ((∀ (x : Int), List.Mem x s -> x < (128 : Int)) /\ (∀ (x : Int), List.Mem x [(73 : Int), (78 : Int), (66 : Int), (79 : Int), (88 : Int)] -> x < (128 : Int)) /\ s.length <= (4000000000 : Nat)) /\ bif decide (List.map (fun (x : Int) => if (65 : Int) <= x /\ x <= (90 : Int) then x.add (32 : Int) else x) s = [(73 : Int).add (32 : Int),
 (78 : Int).add (32 : Int), (66 : Int).add (32 : Int), (79 : Int).add (32 : Int), (88 : Int).add (32 : Int)]) then [(73 : Int), (78 : Int), (66 : Int), (79 : Int), (88 : Int)] = (U.bU s).1 /\ (0 : Int) = (U.bU s).2 /\ True else s = (U.bU s).1 /\ (0 : Int) = (U.bU s).2 /\ True
def Pj (s : List Int) : Prop := s.length <= (1000000000000 : Nat) /\ (bif decide ((U.bU s).2 = (0 : Int)) then (U.bU s).1.beq s else false) = U.l9 s /\ True
end Go.Proofs.YtkhdeldobekciaaGreatDoor
set_option linter.unusedSimpArgs false
set_option linter.unusedVariables false
set_option maxRecDepth 100000
namespace Go.Proofs.YtkhdeldobekciaaGreatDoor
open Go.Vc
open Go.Vc.T
theorem ahJ (a : Int) : (!decide (a >= 0)) = decide (a < 0) := by
 rw [Bool.eq_iff_iff]; simp
theorem agk (c : Int) : LK c := by
 unfold LK U.iq
 simp only [dN]
 refine ⟨?_, trivial⟩
 rw [Bool.or_assoc]
theorem UE (p : Int -> Bool) : ∀ (l : List Int) (i : Int), 0 <= i -> (decide (U.qV p l i >= 0) = l.any p) /\ (U.qV p l i = -1 ∨ i <= U.qV p l i)
 | [], i, _ => ⟨rfl, .inl rfl⟩
 | x :: r, i, h => by
   have ih := UE p r (i + 1) (by omega)
   unfold U.qV
   cases hp : p x with
   | true => simp [hp]; omega
   | false =>
     rw [if_neg (by simp), List.any_cons, hp, Bool.false_or]
     refine ⟨ih.1, ?_⟩
     rcases ih.2 with h | h
     ·exact .inl h
     ·exact .inr (by omega)
theorem xw (l : List Int) (hl : l.length <= maxLen) : iy l := by
 unfold iy
 rw [maxLen_eq] at hl
 simp only [cond_prop, aX, jG, bP, U.vN, U.at_, wrap_i64, decide_eq_true_eq, decide_eq_false_iff_not]
 refine ⟨0, ⟨rfl, ⟨by omega, by omega⟩, rfl⟩, ?_⟩
 rintro i ⟨⟨h0, h1⟩, h2⟩
 refine ⟨fun hi => ⟨h0, hi, by omega, fun he => ?_, fun he => ⟨i + 1, ?_, ⟨⟨by omega, by omega⟩, ?_⟩, by omega⟩⟩, fun hi => ?_⟩
 ·rw [drop_at h0 hi] at h2
  rw [getD_at (by omega)] at he
  rw [<- h2, U.qV, if_pos he]; simp
 ·rw [show (i + 1 + 9223372036854775808) % 18446744073709551616 - 9223372036854775808 = i + 1 by omega]
 ·rw [drop_at h0 hi] at h2
  rw [getD_at (by omega)] at he
  rw [<- h2, U.qV, if_neg (by rw [he]; simp)]
 ·rw [drop_end (by omega)] at h2
  rw [<- h2]; simp [U.qV]
theorem abZ (s : List Int) (h : s.length <= 1000000000000) : Pj s := by
 refine ⟨h, ?_, trivial⟩
 unfold U.l9
 rw [dh, fJ]; congr 1
 rw [Bool.eq_iff_iff]; simp
theorem agl {s : List Int} (h : U.eG s = true) : s.length <= 40 := by
 unfold U.eG at h
 simp only [Bool.and_eq_true, decide_eq_true_eq] at h
 exact h.1
theorem Zm (s : List Int) (h : s.length <= 1000000000000) : Dx s := by
 unfold Dx U.eG
 have hg : [(47 : Int)].getD 0 0 = 47 := rfl
 rw [hg]
 simp only [dh, ahJ]
 refine ⟨trivial, trivial, trivial, h, ?_⟩
 rw [show decide ((s.length : Int) <= 40) = decide (s.length <= 40) by rw [decide_eq_decide]; omega, show decide (((U.split 47 s).length : Int) <= 4) = decide ((U.split 47 s).length <= 4) by rw [decide_eq_decide]; omega]
 cases decide (s.length <= 40) <;> cases decide ((U.split 47 s).length <= 4) <;> cases decide (U.yM [] (U.split 47 s) 0 < 0) <;> simp
theorem ab1 {s : List Int} (h : U.eG s = true) : ∀ x ∈ s, U.iq x = false := by
 unfold U.eG at h
 simp only [Bool.and_eq_true, decide_eq_true_eq] at h
 have h2 := (UE U.iq s 0 (by omega)).1
 rw [show decide (U.qV U.iq s 0 >= 0) = false by rw [decide_eq_false_iff_not]; omega] at h2
 intro x hx
 have := h2.symm
 rw [List.any_eq_false] at this
 simpa using this x hx
theorem akf {x : Int} (h : U.iq x = false) : x < 128 := by
 unfold U.iq at h
 simp only [Bool.or_eq_false_iff, decide_eq_false_iff_not] at h
 omega
theorem ab2 (s : List Int) (hb : ∀ x ∈ s, Byte x) (h : s.length <= 1000000000000) : Gz s := by
 unfold Gz
 have hg : [(47 : Int)].getD 0 0 = 47 := rfl
 rw [hg]
 have hi := kG s 47
 refine ⟨h, ?_⟩
 cases hf : U.eG s with
 | false => unfold U.bU; rw [hf]; exact ⟨rfl, rfl, trivial⟩
 | true =>
   have h40 := agl hf
   have hasc : ∀ x ∈ s, x < 128 := fun x hx => akf (ab1 hf x hx)
   have hin : ∀ x : Int, x ∈ [(73 : Int), 78, 66, 79, 88] -> x < 128 := by intro x hx; simp at hx; omega
   simp only [Bool.not_true, cond_false, cond_prop, decide_eq_true_eq, decide_eq_false_iff_not, bP, dG, bT]
   refine ⟨trivial, fun hpos => ?_, fun hneg => ?_⟩
   ·have w1 : IntKind.i64.wrap (Int.add (aA s 47) ((1 : Nat) : Int)) = aA s 47 + 1 := by rw [wrap_i64, aX]; omega
    have hdl : (s.drop (aA s 47 + 1).toNat).length = s.length - (aA s 47 + 1).toNat := List.length_drop
    have htl : (s.take (aA s 47).toNat).length = (aA s 47).toNat := by rw [List.length_take]; omega
    rw [w1, show ((s.length : Int)).toNat = s.length by omega, List.take_of_length_le (l := s.drop (aA s 47 + 1).toNat) (by omega), List.drop_zero, Nat.sub_zero]
    have ab3 : U.fM s = s.take (aA s 47).toNat := by unfold U.fM; rw [show decide (aA s 47 >= 0) = true by rw [decide_eq_true_eq]; omega]; rfl
    have hrest : U.nT s = 47 :: s.drop (aA s 47 + 1).toNat := by unfold U.nT; rw [show decide (aA s 47 >= 0) = true by rw [decide_eq_true_eq]; omega, show (aA s 47 + 1).toNat = (aA s 47).toNat + 1 by omega]; rfl
    refine ⟨by omega, by omega, by omega, by omega, by omega, by omega, ⟨fun x hx => hasc x (List.mem_of_mem_take hx), hin, by omega⟩, fun heq => ?_, fun heq => ?_⟩
    ·refine ⟨by omega, by omega, ?_, ?_, trivial⟩
     ·unfold U.bU; rw [hf, ab3, hrest, show decide ((s.take (aA s 47).toNat).map dJ = U.fK.map dJ) = true from decide_eq_true heq]; rfl
     ·unfold U.bU; rw [hf]; rfl
    ·refine ⟨by omega, by omega, ?_, ?_, trivial⟩
     ·unfold U.bU; rw [hf, ab3, hrest, show decide ((s.take (aA s 47).toNat).map dJ = U.fK.map dJ) = false from decide_eq_false heq]; rfl
     ·unfold U.bU; rw [hf]; rfl
   ·have ab3 : U.fM s = s := by unfold U.fM; rw [show decide (aA s 47 >= 0) = false by rw [decide_eq_false_iff_not]; omega]; rfl
    have hrest : U.nT s = [] := by unfold U.nT; rw [show decide (aA s 47 >= 0) = false by rw [decide_eq_false_iff_not]; omega]; rfl
    refine ⟨⟨fun x hx => hasc x hx, hin, by omega⟩, fun heq => ?_, fun heq => ?_⟩
    ·refine ⟨?_, ?_, trivial⟩
     ·unfold U.bU; rw [hf, ab3, hrest, show decide (s.map dJ = U.fK.map dJ) = true from decide_eq_true heq]; rfl
     ·unfold U.bU; rw [hf]; rfl
    ·refine ⟨?_, ?_, trivial⟩
     ·unfold U.bU; rw [hf, ab3, hrest, show decide (s.map dJ = U.fK.map dJ) = false from decide_eq_false heq]
      show s = s ++ []
      rw [List.append_nil]
     ·unfold U.bU; rw [hf]; rfl
end Go.Proofs.YtkhdeldobekciaaGreatDoor
set_option linter.unusedSimpArgs false
set_option maxRecDepth 100000
set_option linter.unusedVariables false
namespace Go.Proofs.YtkhdeldobekciaaGreatDoor
open Go.Vc
theorem ahK (x : aG [.int .u8]) : bf Tryz.prog (aK gB) (YS x) 107 (aY [.int .u8] x) [] (Pe x) = LK x := by kernel_rfl
theorem ahL : Pok 107 [.int .u8] (fun x => Pe x) := by
 refine pk (L := fun x => YS x) (l := gB) oD (fun _ => rfl) ?_
 intro x hv hp
 rw [ahK]
 exact agk x
theorem ahM : aP Tryz.prog gl 107 YR := ahL
theorem Wi : aI IJ := .cons ahM oD
theorem yw (l : List Int) : bf Tryz.prog (aK IJ) (lG l) 106 (kV l) (kW l) (iL l) = iy l := by kernel_rfl
theorem yQ : wB Tryz.prog gl 106 fD := by
 refine pkg (l := IJ) Wi (fun args es d h => ?_) (fun args es d h hv he hp => ?_)
 ·unfold fD at h
  rcases fC h with h | h
  ·obtain ⟨l, rfl, rfl, rfl⟩ := jH h
   rfl
  cases h
 ·unfold fD at h
  rcases fC h with h | h
  ·obtain ⟨l, rfl, rfl, rfl⟩ := jH h
   refine ⟨lG l, ?_⟩
   rw [yw]
   exact xw l (he _ (.head _)).2
  cases h
theorem yR : aP Tryz.prog gl 106 mg := yQ
theorem lH : aI fE := .cons yR Wi
theorem ab4 (x : aG [.str]) : bf Tryz.prog (aK fE) (Ph x) 99 (aY [.str] x) [] (yO x) = Dx x := by kernel_rfl
theorem ab5 : Pok 99 [.str] (fun x => yO x) := by
 refine pk (L := fun x => Ph x) (l := fE) lH (fun _ => rfl) ?_
 intro x hv hp
 rw [ab4]
 exact Zm x (hp (List.length x <= 1000000000000) (by simp [yO]))
theorem ab6 : aP Tryz.prog gl 99 Pg := ab5
theorem MN : aI yP := .cons ab6 lH
theorem aei (x : aG [.str]) : bf Tryz.prog (aK yP) (Tm x) 92 (aY [.str] x) [] (Bc x) = Gz x := by kernel_rfl
theorem aej : Pok 92 [.str] (fun x => Bc x) := by
 refine pk (L := fun x => Tm x) (l := yP) MN (fun _ => rfl) ?_
 intro x hv hp
 rw [aei]
 exact ab2 x hv.1 (hp (List.length x <= 1000000000000) (by simp [Bc]))
theorem aek : aP Tryz.prog gl 92 Tj := aej
theorem Pm : aI Bd := .cons aek MN
theorem ael (x : aG [.str]) : bf Tryz.prog (aK Bd) (Tq x) 79 (aY [.str] x) [] (Bf x) = Pj x := by kernel_rfl
theorem aem : Pok 79 [.str] (fun x => Bf x) := by
 refine pk (L := fun x => Tq x) (l := Bd) Pm (fun _ => rfl) ?_
 intro x hv hp
 rw [ael]
 exact abZ x (hp (List.length x <= 1000000000000) (by simp [Bf]))
theorem aen : aP Tryz.prog gl 79 Tn := aem
theorem Pn : aI Bg := .cons aen Pm
end Go.Proofs.YtkhdeldobekciaaGreatDoor
