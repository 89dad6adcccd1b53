/- What functions of this seat compute, in plain Lean. -/
import Derived.Test.YtlmkekoenfelcaaDoorCC
import Derived.Test.YtlmkekoenfelcaaDoorCD
set_option linter.unusedVariables false
set_option linter.unusedSimpArgs false
set_option maxRecDepth 100000
namespace Go.Proofs.YtlmkekoenfelcaaDoor
open Go.Vc
namespace U
def oQ (c : Int) : Bool := (decide (97 <= T.orK .u8 c 32) && decide (T.orK .u8 c 32 <= 122)) || (decide (48 <= c) && decide (c <= 57))
def uF (s : List Int) : Bool := s.all oQ && (decide (1 <= s.length) && decide (s.length <= 100))
end U
namespace U
def jc (s : List Int) (i : Int) : St2 := ⟨⟨[sS s] ++ U.n 2 ++ [sI i] ++ U.n 41, [], []⟩, 0, []⟩
def jC (s : List Int)  (i : Int) : Prop := at_ s i /\ i <= 101 /\ (s.take i.toNat).all oQ = true
end U
def FB (s : List Int) : Vc.Loop := ⟨{ keep := [0, 3] }, Int, fun x => U.jc s x, fun x0 x => U.jC s  x, fun x => s.length - x.toNat, fun p => ∀ x, p x, fun _ h => h⟩
def uX (s : List Int) : Done := rB (U.uF s)
def BF : Vc.Sum := .pure [.str] false fun x => uX x
def BG (s : List Int) : Nat -> List V -> Nat -> Option Vc.Loop := fun f v k => cond (Nat.beq f 17 && Nat.beq k 2) (some (FB s)) <| none
def oU : List (Nat × Ent) := (17, .sum BF) :: oP
def sW  : Done := ⟨[], .one (.bool true), [], []⟩
def zS : Vc.Sum := .pure [] false fun _ => sW
def zT  : Nat -> List V -> Nat -> Option Vc.Loop := C9
def sZ : List (Nat × Ent) := (7, .sum zS) :: oU
def nI (s : List Int) (comment : List Int) : Nat -> List V -> Nat -> Option Vc.Loop := C9
end Go.Proofs.YtlmkekoenfelcaaDoor
set_option maxRecDepth 100000
set_option linter.unusedVariables false
namespace Go.Proofs.YtlmkekoenfelcaaDoor
open Go.Vc
def tq (s : List Int) : Prop := ∃ (x0 : Int), (U.jc s (0 : Int) = U.jc s x0 /\ U.jC s x0) /\ ∀ (x : Int), U.jC s x -> bif bif decide (x < (↑s.length : Int)) then decide (x < (101 : Int)) else false then (0 : Int) <= x /\ x < (↑s.length : Int) /\ ((bif decide (IntKind.u8.wrap (↑((BitVec.ofInt IntKind.u8.bits (s.getD x.toNat (0 : Int))).or
 (BitVec.ofInt IntKind.u8.bits (32 : Int))).toNat : Int) < (97 : Int)) then true else decide (IntKind.u8.wrap (↑((BitVec.ofInt IntKind.u8.bits (s.getD x.toNat (0 : Int))).or (BitVec.ofInt IntKind.u8.bits (32 : Int))).toNat : Int) > (122 : Int))) = true -> (0 : Int) <= x) /\ ((bif decide (IntKind.u8.wrap (↑((BitVec.ofInt IntKind.u8.bits (s.getD x.toNat (0 : Int))).or (BitVec.ofInt IntKind.u8.bits (32 :
 Int))).toNat : Int) < (97 : Int)) then true else decide (IntKind.u8.wrap (↑((BitVec.ofInt IntKind.u8.bits (s.getD x.toNat (0 : Int))).or (BitVec.ofInt IntKind.u8.bits (32 : Int))).toNat : Int) > (122 : Int))) = true -> x < (↑s.length : Int)) /\ ((bif decide (IntKind.u8.wrap (↑((BitVec.ofInt IntKind.u8.bits (s.getD x.toNat (0 : Int))).or (BitVec.ofInt IntKind.u8.bits (32 : Int))).toNat : Int) < (97 :
 Int)) then true else decide (IntKind.u8.wrap (↑((BitVec.ofInt IntKind.u8.bits (s.getD x.toNat (0 : Int))).or (BitVec.ofInt IntKind.u8.bits (32 : Int))).toNat : Int) > (122 : Int))) = true -> decide (s.getD x.toNat (0 : Int) < (48 : Int)) = false -> (0 : Int) <= x) /\ ((bif decide (IntKind.u8.wrap (↑((BitVec.ofInt IntKind.u8.bits (s.getD x.toNat (0 : Int))).or (BitVec.ofInt IntKind.u8.bits (32 :
 Int))).toNat : Int) < (97 : Int)) then true else decide (IntKind.u8.wrap (↑((BitVec.ofInt IntKind.u8.bits (s.getD x.toNat (0 : Int))).or (BitVec.ofInt IntKind.u8.bits (32 : Int))).toNat : Int) > (122 : Int))) = true -> decide (s.getD x.toNat (0 : Int) < (48 : Int)) = false -> x < (↑s.length : Int)) /\ bif bif bif decide (IntKind.u8.wrap (↑((BitVec.ofInt IntKind.u8.bits (s.getD x.toNat (0 : Int))).or
 (BitVec.ofInt IntKind.u8.bits (32 : Int))).toNat : Int) < (97 : Int)) then true else decide (IntKind.u8.wrap (↑((BitVec.ofInt IntKind.u8.bits (s.getD x.toNat (0 : Int))).or (BitVec.ofInt IntKind.u8.bits (32 : Int))).toNat : Int) > (122 : Int)) then bif decide (s.getD x.toNat (0 : Int) < (48 : Int)) then true else decide (s.getD x.toNat (0 : Int) > (57 : Int)) else false then false = U.uF s /\
 True else ∃ (y : Int), U.jc s (IntKind.i64.wrap (x.add (1 : Int))) = U.jc s y /\ U.jC s y /\ s.length.sub y.toNat < s.length.sub x.toNat else (bif decide ((↑s.length : Int) >= (1 : Int)) then decide ((↑s.length : Int) <= (100 : Int)) else false) = U.uF s /\ True
def qp : Prop := (19 : Nat) <= (1000000000 : Nat) /\ (decide ((↑((2 : Nat)) : Int) = (2 : Int)) = true -> (0 : Int) <= (0 : Int)) /\ (decide ((↑((2 : Nat)) : Int) = (2 : Int)) = true -> (0 : Int) < (↑((2 : Nat)) : Int)) /\ ((bif decide ((↑((2 : Nat)) : Int) = (2 : Int)) then ((U.parse [(34 : Int), (65 : Int), (44 : Int), (32 : Int), (66 : Int), (34 : Int), (32 : Int), (60 : Int), (97 : Int),
 (64 : Int), (98 : Int), (62 : Int), (32 : Int), (40 : Int), (99 : Int), (41 : Int), (44 : Int), (32 : Int), (100 : Int)]).getD (0 : Nat) ([], [], [])).1.beq [(65 : Int), (44 : Int), (32 : Int), (66 : Int)] && (((U.parse [(34 : Int), (65 : Int), (44 : Int), (32 : Int), (66 : Int), (34 : Int), (32 : Int), (60 : Int), (97 : Int), (64 : Int), (98 : Int), (62 : Int), (32 : Int), (40 : Int), (99 : Int),
 (41 : Int), (44 : Int), (32 : Int), (100 : Int)]).getD (0 : Nat) ([], [], [])).2.1.beq [(97 : Int)] && (((U.parse [(34 : Int), (65 : Int), (44 : Int), (32 : Int), (66 : Int), (34 : Int), (32 : Int), (60 : Int), (97 : Int), (64 : Int), (98 : Int), (62 : Int), (32 : Int), (40 : Int), (99 : Int), (41 : Int), (44 : Int), (32 : Int), (100 : Int)]).getD (0 : Nat) ([], [], [])).2.2.beq [(98 : Int)] &&
 true)) else false) = true -> (0 : Int) <= (1 : Int)) /\ ((bif decide ((↑((2 : Nat)) : Int) = (2 : Int)) then ((U.parse [(34 : Int), (65 : Int), (44 : Int), (32 : Int), (66 : Int), (34 : Int), (32 : Int), (60 : Int), (97 : Int), (64 : Int), (98 : Int), (62 : Int), (32 : Int), (40 : Int), (99 : Int), (41 : Int), (44 : Int), (32 : Int), (100 : Int)]).getD (0 : Nat) ([], [], [])).1.beq [(65 : Int), (44 :
 Int), (32 : Int), (66 : Int)] && (((U.parse [(34 : Int), (65 : Int), (44 : Int), (32 : Int), (66 : Int), (34 : Int), (32 : Int), (60 : Int), (97 : Int), (64 : Int), (98 : Int), (62 : Int), (32 : Int), (40 : Int), (99 : Int), (41 : Int), (44 : Int), (32 : Int), (100 : Int)]).getD (0 : Nat) ([], [], [])).2.1.beq [(97 : Int)] && (((U.parse [(34 : Int), (65 : Int), (44 : Int), (32 : Int), (66 : Int),
 (34 : Int), (32 : Int), (60 : Int), (97 : Int), (64 : Int), (98 : Int), (62 : Int), (32 : Int), (40 : Int), (99 : Int), (41 : Int), (44 : Int), (32 : Int), (100 : Int)]).getD (0 : Nat) ([], [], [])).2.2.beq [(98 : Int)] && true)) else false) = true -> (1 : Int) < (↑((2 : Nat)) : Int)) /\ ((bif bif decide ((↑((2 : Nat)) : Int) = (2 : Int)) then ((U.parse [(34 : Int), (65 : Int), (44 : Int), (32 :
 Int), (66 : Int), (34 : Int), (32 : Int), (60 : Int), (97 : Int), (64 : Int), (98 : Int), (62 : Int), (32 : Int), (40 : Int), (99 : Int), (41 : Int), (44 : Int), (32 : Int), (100 : Int)]).getD (0 : Nat) ([], [], [])).1.beq [(65 : Int), (44 : Int), (32 : Int), (66 : Int)] && (((U.parse [(34 : Int), (65 : Int), (44 : Int), (32 : Int), (66 : Int), (34 : Int), (32 : Int), (60 : Int), (97 : Int), (64 :
 Int), (98 : Int), (62 : Int), (32 : Int), (40 : Int), (99 : Int), (41 : Int), (44 : Int), (32 : Int), (100 : Int)]).getD (0 : Nat) ([], [], [])).2.1.beq [(97 : Int)] && (((U.parse [(34 : Int), (65 : Int), (44 : Int), (32 : Int), (66 : Int), (34 : Int), (32 : Int), (60 : Int), (97 : Int), (64 : Int), (98 : Int), (62 : Int), (32 : Int), (40 : Int), (99 : Int), (41 : Int), (44 : Int), (32 : Int), (100
 : Int)]).getD (0 : Nat) ([], [], [])).2.2.beq [(98 : Int)] && true)) else false then ((U.parse [(34 : Int), (65 : Int), (44 : Int), (32 : Int), (66 : Int), (34 : Int), (32 : Int), (60 : Int), (97 : Int), (64 : Int), (98 : Int), (62 : Int), (32 : Int), (40 : Int), (99 : Int), (41 : Int), (44 : Int), (32 : Int), (100 : Int)]).getD (1 : Nat) ([], [], [])).1.beq [] && (((U.parse [(34 : Int), (65 :
 Int), (44 : Int), (32 : Int), (66 : Int), (34 : Int), (32 : Int), (60 : Int), (97 : Int), (64 : Int), (98 : Int), (62 : Int), (32 : Int), (40 : Int), (99 : Int), (41 : Int), (44 : Int), (32 : Int), (100 : Int)]).getD (1 : Nat) ([], [], [])).2.1.beq [(100 : Int)] && (((U.parse [(34 : Int), (65 : Int), (44 : Int), (32 : Int), (66 : Int), (34 : Int), (32 : Int), (60 : Int), (97 : Int), (64 : Int), (98
 : Int), (62 : Int), (32 : Int), (40 : Int), (99 : Int), (41 : Int), (44 : Int), (32 : Int), (100 : Int)]).getD (1 : Nat) ([], [], [])).2.2.beq [] && true)) else false) = true -> (11 : Nat) <= (1000000000 : Nat)) /\ (bif bif bif decide ((↑((2 : Nat)) : Int) = (2 : Int)) then ((U.parse [(34 : Int), (65 : Int), (44 : Int), (32 : Int), (66 : Int), (34 : Int), (32 : Int), (60 : Int), (97 : Int), (64 :
 Int), (98 : Int), (62 : Int), (32 : Int), (40 : Int), (99 : Int), (41 : Int), (44 : Int), (32 : Int), (100 : Int)]).getD (0 : Nat) ([], [], [])).1.beq [(65 : Int), (44 : Int), (32 : Int), (66 : Int)] && (((U.parse [(34 : Int), (65 : Int), (44 : Int), (32 : Int), (66 : Int), (34 : Int), (32 : Int), (60 : Int), (97 : Int), (64 : Int), (98 : Int), (62 : Int), (32 : Int), (40 : Int), (99 : Int), (41 :
 Int), (44 : Int), (32 : Int), (100 : Int)]).getD (0 : Nat) ([], [], [])).2.1.beq [(97 : Int)] && (((U.parse [(34 : Int), (65 : Int), (44 : Int), (32 : Int), (66 : Int), (34 : Int), (32 : Int), (60 : Int), (97 : Int), (64 : Int), (98 : Int), (62 : Int), (32 : Int), (40 : Int), (99 : Int), (41 : Int), (44 : Int), (32 : Int), (100 : Int)]).getD (0 : Nat) ([], [], [])).2.2.beq [(98 : Int)] && true))
 else false then ((U.parse [(34 : Int), (65 : Int), (44 : Int), (32 : Int), (66 : Int), (34 : Int), (32 : Int), (60 : Int), (97 : Int), (64 : Int), (98 : Int), (62 : Int), (32 : Int), (40 : Int), (99 : Int), (41 : Int), (44 : Int), (32 : Int), (100 : Int)]).getD (1 : Nat) ([], [], [])).1.beq [] && (((U.parse [(34 : Int), (65 : Int), (44 : Int), (32 : Int), (66 : Int), (34 : Int), (32 : Int), (60 :
 Int), (97 : Int), (64 : Int), (98 : Int), (62 : Int), (32 : Int), (40 : Int), (99 : Int), (41 : Int), (44 : Int), (32 : Int), (100 : Int)]).getD (1 : Nat) ([], [], [])).2.1.beq [(100 : Int)] && (((U.parse [(34 : Int), (65 : Int), (44 : Int), (32 : Int), (66 : Int), (34 : Int), (32 : Int), (60 : Int), (97 : Int), (64 : Int), (98 : Int), (62 : Int), (32 : Int), (40 : Int), (99 : Int), (41 : Int), (44
 : Int), (32 : Int), (100 : Int)]).getD (1 : Nat) ([], [], [])).2.2.beq [] && true)) else false then (U.bare [(32 : Int), (40 : Int), (97 : Int), (40 : Int), (98 : Int), (41 : Int), (99 : Int), (41 : Int), (32 : Int), (120 : Int), (32 : Int)]).beq [(120 : Int)] else false) = true /\ True
def jy (s : List Int) (comment : List Int) : Prop := bif bif decide ((↑s.length : Int) > (900 : Int)) then true else !U.uF comment then true = true /\ True else s.length.add ((1 : Nat)) <= (9223372036854775807 : Nat) /\ (s.append [(44 : Int)]).length <= (1000000000 : Nat) /\ s.length <= (1000000000 : Nat) /\ bif !(↑(U.items (s.append [(44 : Int)])).length : Int) != (↑(U.items
 s).length : Int) then true = true /\ True else s.length.add ((2 : Nat)) <= (9223372036854775807 : Nat) /\ (s.append [(32 : Int), (40 : Int)]).length.add comment.length <= (9223372036854775807 : Nat) /\ ((s.append [(32 : Int), (40 : Int)]).append comment).length.add ((1 : Nat)) <= (9223372036854775807 : Nat) /\ (((s.append [(32 : Int), (40 : Int)]).append comment).append [(41 : Int)]).length <= (1000000000
 : Nat) /\ s.length <= (1000000000 : Nat) /\ (((U.one (((s.append [(32 : Int), (40 : Int)]).append comment).append [(41 : Int)])).1.beq (U.one s).1 && ((U.one (((s.append [(32 : Int), (40 : Int)]).append comment).append [(41 : Int)])).2.1.beq (U.one s).2.1 && ((U.one (((s.append [(32 : Int), (40 : Int)]).append comment).append [(41 : Int)])).2.2.beq (U.one s).2.2 && true))) = true -> Nat.add ((1 : Nat))
 comment.length <= (9223372036854775807 : Nat)) /\ (((U.one (((s.append [(32 : Int), (40 : Int)]).append comment).append [(41 : Int)])).1.beq (U.one s).1 && ((U.one (((s.append [(32 : Int), (40 : Int)]).append comment).append [(41 : Int)])).2.1.beq (U.one s).2.1 && ((U.one (((s.append [(32 : Int), (40 : Int)]).append comment).append [(41 : Int)])).2.2.beq (U.one s).2.2 && true))) = true ->
 (comment.length.add (1 : Nat)).add ((2 : Nat)) <= (9223372036854775807 : Nat)) /\ (((U.one (((s.append [(32 : Int), (40 : Int)]).append comment).append [(41 : Int)])).1.beq (U.one s).1 && ((U.one (((s.append [(32 : Int), (40 : Int)]).append comment).append [(41 : Int)])).2.1.beq (U.one s).2.1 && ((U.one (((s.append [(32 : Int), (40 : Int)]).append comment).append [(41 : Int)])).2.2.beq (U.one s).2.2
 && true))) = true -> ((comment.append [(41 : Int), (32 : Int)]).length.add (1 : Nat)).add s.length <= (9223372036854775807 : Nat)) /\ (((U.one (((s.append [(32 : Int), (40 : Int)]).append comment).append [(41 : Int)])).1.beq (U.one s).1 && ((U.one (((s.append [(32 : Int), (40 : Int)]).append comment).append [(41 : Int)])).2.1.beq (U.one s).2.1 && ((U.one (((s.append [(32 : Int), (40 : Int)]).append
 comment).append [(41 : Int)])).2.2.beq (U.one s).2.2 && true))) = true -> ((comment.append [(41 : Int), (32 : Int)]).append s).length.add (1 : Nat) <= (1000000000 : Nat)) /\ (((U.one (((s.append [(32 : Int), (40 : Int)]).append comment).append [(41 : Int)])).1.beq (U.one s).1 && ((U.one (((s.append [(32 : Int), (40 : Int)]).append comment).append [(41 : Int)])).2.1.beq (U.one s).2.1 && ((U.one
 (((s.append [(32 : Int), (40 : Int)]).append comment).append [(41 : Int)])).2.2.beq (U.one s).2.2 && true))) = true -> s.length <= (1000000000 : Nat)) /\ (bif (U.one (((s.append [(32 : Int), (40 : Int)]).append comment).append [(41 : Int)])).1.beq (U.one s).1 && ((U.one (((s.append [(32 : Int), (40 : Int)]).append comment).append [(41 : Int)])).2.1.beq (U.one s).2.1 && ((U.one (((s.append [(32 : Int),
 (40 : Int)]).append comment).append [(41 : Int)])).2.2.beq (U.one s).2.2 && true)) then (U.bare ((40 : Int) :: (comment.append [(41 : Int), (32 : Int)]).append s)).beq (U.bare s) else false) = true /\ True
end Go.Proofs.YtlmkekoenfelcaaDoor
set_option linter.unusedSimpArgs false
set_option linter.unusedVariables false
set_option maxRecDepth 100000
namespace Go.Proofs.YtlmkekoenfelcaaDoor
open Go.Vc
open Go.Vc.T
theorem G9 : qp := by unfold qp; decide +kernel
theorem Ru (l : List Int) : l.beq l = true := beq_self_eq_true l
def U.fin : St -> List Int -> St
 | s, [] => s
 | s, c :: r => U.fin (U.scan s c).1 r
theorem lF : ∀ (a b : List Int) (s : St), U.runs s (a ++ b) = U.runs s a ++ U.runs (U.fin s a) b
 | [], b, s => rfl
 | c :: r, b, s => by
   show (U.scan s c).2 :: U.runs _ (r ++ b) = (U.scan s c).2 :: (U.runs _ r ++ _)
   rw [lF r b]; rfl
theorem LV : ∀ (a b : List Int) (s : St), U.fin s (a ++ b) = U.fin (U.fin s a) b
 | [], b, s => rfl
 | c :: r, b, s => LV r b (U.scan s c).1
theorem Qd : ∀ (a : List Int) (s : St), stW s -> stW (U.fin s a)
 | [], s, h => h
 | c :: r, s, h => Qd r _ (Rq c h).1
theorem wu : ∀ (a b ka kb : List Int), ka.length = a.length -> U.noC (a ++ b) (ka ++ kb) = U.noC a ka ++ U.noC b kb
 | [], b, [], kb, _ => by simp [U.noC]
 | [], b, _ :: _, kb, h => by simp at h
 | _ :: _, b, [], kb, h => by simp at h
 | c :: r, b, k :: ks, kb, h => by
   show cond (decide (k = 2)) (U.noC (r ++ b) (ks ++ kb)) (c :: U.noC (r ++ b) (ks ++ kb)) = cond (decide (k = 2)) (U.noC r ks) (c :: U.noC r ks) ++ _
   rw [wu r b ks kb (by simpa using h)]
   cases decide (k = 2) <;> rfl
theorem Gp : ∀ (a k : List Int), (∀ x ∈ k, x = 2) -> k.length = a.length -> U.noC a k = []
 | [], [], _, _ => rfl
 | [], _ :: _, _, h => by simp at h
 | _ :: _, [], _, h => by simp at h
 | c :: r, k :: ks, h, hl => by
   show cond (decide (k = 2)) (U.noC r ks) (c :: U.noC r ks) = _
   rw [decide_eq_true (h k (by simp)), cond_true, Gp r ks (fun x hx => h x (List.mem_cons_of_mem _ hx)) (by simpa using hl)]
theorem PL {c : Int} (h0 : 0 <= c) (h1 : c <= 255) (h : U.oQ c = true) : c ≠ 34 /\ c ≠ 40 /\ c ≠ 41 /\ c ≠ 44 /\ c ≠ 60 /\ c ≠ 62 /\ c ≠ 64 /\ c ≠ 92 /\ U.blank c = false := by
 have key : ∀ k : Fin 256, U.oQ (k.val : Int) = true -> ((k.val : Int) ≠ 34 /\ (k.val : Int) ≠ 40 /\ (k.val : Int) ≠ 41 /\ (k.val : Int) ≠ 44 /\ (k.val : Int) ≠ 60 /\ (k.val : Int) ≠ 62 /\ (k.val : Int) ≠ 64 /\ (k.val : Int) ≠ 92 /\ U.blank (k.val : Int) = false) := by decide +kernel
 have := key ⟨c.toNat, by omega⟩
 rw [show ((c.toNat : Nat) : Int) = c by omega] at this
 exact this h
def Word (w : List Int) : Prop := (1 <= w.length /\ w.length <= 100) /\ ∀ c ∈ w, c ≠ 34 /\ c ≠ 40 /\ c ≠ 41 /\ c ≠ 44 /\ c ≠ 60 /\ c ≠ 62 /\ c ≠ 64 /\ c ≠ 92 /\ U.blank c = false
theorem QH {w : List Int} (hv : Valid .str w) (h : U.uF w = true) : Word w := by
 unfold U.uF at h
 simp only [Bool.and_eq_true, decide_eq_true_eq, List.all_eq_true] at h
 refine ⟨⟨h.2.1, h.2.2⟩, fun c hc => ?_⟩
 have hb := hv.1 c hc
 exact PL hb.1 (by have := hb.2; omega) (h.1 c hc)
theorem BH : ∀ (w : List Int), (∀ c ∈ w, c ≠ 40 /\ c ≠ 41 /\ c ≠ 92) -> U.fin (2, 1, false) w = (2, 1, false) /\ U.runs (2, 1, false) w = w.map (fun _ => 2)
 | [], _ => ⟨rfl, rfl⟩
 | c :: r, h => by
   have hc := h c (by simp)
   have hs : U.scan (2, 1, false) c = ((2, 1, false), 2) := by
    unfold U.scan; dsimp only
    rw [decide_eq_false hc.1, decide_eq_false hc.2.1, decide_eq_false hc.2.2]; rfl
   have ih := BH r fun x hx => h x (List.mem_cons_of_mem _ hx)
   show U.fin (U.scan (2, 1, false) c).1 r = _ /\ (U.scan (2, 1, false) c).2 :: U.runs (U.scan (2, 1, false) c).1 r = _
   rw [hs, ih.1, ih.2]; exact ⟨rfl, rfl⟩
theorem NY (c : Int) (a : List Int) (h : U.blank c = true) : U.trimB (c :: a) = U.trimB a := by
 rw [<- JC, <- JC]
 unfold U.trimF
 rw [show U.aF (c :: a) = U.aF a + 1 by rw [U.aF, h]; rfl]; rfl
theorem OX (a : List Int) (c : Int) (h : U.blank c = true) : U.trimB (a ++ [c]) = U.trimB a := by
 unfold U.trimB
 rw [Ee, h, cond_true]
 have := Ci a
 rw [List.take_append_of_le_length this]
theorem JX (s : List Int) (hv : Valid .str s) : tq s := by
 have hle : s.length <= maxLen := hv.2
 rw [maxLen_eq] at hle
 unfold tq U.jC U.at_
 simp only [jU, Aq, Rj]
 refine ⟨0, ⟨rfl, ⟨Int.le_refl 0, by omega⟩, by omega, rfl⟩, ?_⟩
 rintro i ⟨⟨i0, i1⟩, i2, hI⟩
 rw [cond_prop]
 simp only [Bool.and_eq_true, decide_eq_true_eq, Bool.and_eq_false_iff, decide_eq_false_iff_not]
 refine ⟨fun hi => ?_, fun hi => ⟨?_, trivial⟩⟩
 ·have hlt : i < s.length := hi.1
  have hg : s.getD i.toNat 0 = s[i.toNat]'(by omega) := getD_at (by omega)
  have hb := hv.1 _ (List.getElem_mem (show i.toNat < s.length by omega))
  refine ⟨i0, hlt, fun _ => i0, fun _ => hlt, fun _ _ => i0, fun _ _ => hlt, ?_⟩
  rw [hg, cond_prop]
  have hx : ((decide (T.orK .u8 s[i.toNat] 32 < 97) || decide (T.orK .u8 s[i.toNat] 32 > 122)) && (decide (s[i.toNat] < 48) || decide (s[i.toNat] > 57))) = !(U.oQ s[i.toNat]) := by
   unfold U.oQ
   rw [Bool.eq_iff_iff]; simp only [Bool.and_eq_true, Bool.or_eq_true, Bool.not_eq_true', decide_eq_true_eq, Bool.or_eq_false_iff, Bool.and_eq_false_iff, decide_eq_false_iff_not]; omega
  have Tf : s = s.take i.toNat ++ (s[i.toNat] :: s.drop (i + 1).toNat) := by
   rw [<- drop_at i0 hlt, List.take_append_drop]
  refine ⟨fun h => ⟨?_, trivial⟩, fun h => ?_⟩
  ·have h : (!(U.oQ s[i.toNat])) = true := by rw [<- hx]; exact h
   have ha : s.all U.oQ = false := by
    rw [Bool.eq_false_iff]; intro hc
    rw [List.all_eq_true.1 hc _ (List.getElem_mem (show i.toNat < s.length by omega))] at h; cases h
   unfold U.uF; rw [ha]; rfl
  ·have h : (!(U.oQ s[i.toNat])) = false := by rw [<- hx]; exact h
   rw [fJ (by omega) (by omega)]
   refine ⟨i + 1, rfl, ⟨⟨by omega, by omega⟩, by omega, ?_⟩, by simp only [bU]; omega⟩
   rw [take_at i0 hlt, List.all_append, hI]
   simp only [Bool.not_eq_false'] at h
   simp [h]
 ·unfold U.uF
  by_cases hl : s.length <= 100
  ·have hall : s.all U.oQ = true := by
    rw [sH (by omega)] at hI; exact hI
   rw [hall, Bool.true_and, decide_eq_true hl, decide_eq_true (by omega : (s.length : Int) <= 100), Bool.and_true, Bool.and_true, Bool.eq_iff_iff, decide_eq_true_eq, decide_eq_true_eq]; omega
  ·rw [decide_eq_false hl, Bool.and_false, Bool.and_false, decide_eq_false (by omega : ¬ (s.length : Int) <= 100), Bool.and_false]
theorem xP (s comment : List Int) (hv : pF [.str, .str] (s, comment)) : jy s comment := by
 unfold jy
 simp only [jU, Aq]
 rw [cond_prop]
 refine ⟨fun _ => ⟨trivial, trivial⟩, fun h => ?_⟩
 simp only [Bool.or_eq_false_iff, Bool.not_eq_false', decide_eq_false_iff_not] at h
 have hl : s.length <= 900 := by omega
 have hw : Word comment := QH hv.2 h.2
 clear h hv
 generalize comment = w at *
 have hw1 := hw.1
 simp only [KO, dO]
 refine ⟨by omega, by simp only [List.length_append, List.length_cons, List.length_nil]; omega, by omega, ?_⟩
 rw [cond_prop]
 refine ⟨fun _ => ⟨trivial, trivial⟩, fun h => ?_⟩
 have hW : stW (U.fin (0, 0, false) s) := Qd s _ ⟨.inl rfl, fun _ => rfl, fun _ => rfl⟩
 have hz : U.fin (0, 0, false) s = (0, 0, false) := by
  refine PI hW ?_
  refine Classical.byContradiction fun hne => ?_
  have key : ∀ (c k cur : List Int) (j : Int), k.length = c.length -> j ≠ 0 -> (U.bP (c ++ [44]) (k ++ [j]) cur).length = (U.bP c k cur).length := by
   intro c
   induction c with
   | nil =>
     intro k cur j hk hj
     have : k = [] := List.length_eq_zero_iff.1 hk
     subst this
     show (cond (decide (j = 0) && decide ((44 : Int) = 44)) (cur :: U.bP [] [] []) (U.bP [] [] (cur ++ [44]))).length = _
     rw [decide_eq_false hj]; rfl
   | cons x r ih =>
     intro k cur j hk hj
     match k, hk with
     | y :: ks, hk =>
       show (cond (decide (y = 0) && decide (x = 44)) (cur :: U.bP (r ++ [44]) (ks ++ [j]) []) (U.bP (r ++ [44]) (ks ++ [j]) (cur ++ [x]))).length = (cond (decide (y = 0) && decide (x = 44)) (cur :: U.bP r ks []) (U.bP r ks (cur ++ [x]))).length
       have h1 := ih ks [] j (by simpa using hk) hj
       have h2 := ih ks (cur ++ [x]) j (by simpa using hk) hj
       cases (decide (y = 0) && decide (x = 44))
       ·exact h2
       ·simp [h1]
  have hj : (U.scan (U.fin (0, 0, false) s) 44).2 ≠ 0 := by
   obtain ⟨⟨k, d, q⟩, hf⟩ : ∃ x, U.fin (0, 0, false) s = x := ⟨_, rfl⟩
   rw [hf] at hW hne ⊢
   obtain ⟨hk, _, _⟩ := hW
   dsimp only at hk hne
   unfold U.scan; dsimp only
   rcases hk with rfl | rfl | rfl | rfl
   ·exact absurd rfl hne
   ·cases q <;> simp [cond]
   ·cases q <;> simp [cond]
   ·simp [cond]
  have := key s (U.sorts s) [] _ (aS s) hj
  have hs : U.sorts (s ++ [44]) = U.sorts s ++ [(U.scan (U.fin (0, 0, false) s) 44).2] := by unfold U.sorts; rw [lF]; rfl
  have he : (U.items (s ++ [44])).length = (U.items s).length := by unfold U.items; rw [hs]; exact this
  rw [he, bne_self_eq_false] at h; cases h
 have hc := BH w fun c hc => by have := hw.2 c hc; exact ⟨this.2.1, this.2.2.1, this.2.2.2.2.2.2.2.1⟩
 have hcm : U.fin (0, 0, false) (40 :: w ++ [41]) = (0, 0, false) /\ U.noC (40 :: w ++ [41]) (U.runs (0, 0, false) (40 :: w ++ [41])) = [] := by
  have hr : U.runs (0, 0, false) (40 :: w ++ [41]) = 2 :: (w.map (fun _ => 2) ++ [2]) := by
   show 2 :: U.runs (2, 1, false) (w ++ [41]) = _
   rw [lF, hc.1, hc.2]; rfl
  refine ⟨?_, ?_⟩
  ·show U.fin (2, 1, false) (w ++ [41]) = _
   rw [LV, hc.1]; rfl
  ·rw [hr]
   refine Gp _ _ ?_ (by simp)
   intro x hx
   rcases List.mem_cons.1 hx with rfl | hx
   ·rfl
   rcases List.mem_append.1 hx with hx | hx
   ·obtain ⟨_, _, rfl⟩ := List.mem_map.1 hx; rfl
   ·exact List.mem_singleton.1 hx
 have hA : U.bare (s ++ [32, 40] ++ w ++ [41]) = U.bare s := by
  have e : s ++ [32, 40] ++ w ++ [41] = s ++ ([32] ++ (40 :: w ++ [41])) := by simp
  rw [e]
  unfold U.bare U.sorts
  rw [lF, hz, wu _ _ _ _ (oz _ _), lF, wu _ _ _ _ (oz _ _)]
  have h1 : U.noC [32] (U.runs (0, 0, false) [32]) = [32] := by decide
  have h2 : U.fin (0, 0, false) [32] = (0, 0, false) := by decide
  rw [h1, h2, hcm.2, List.append_nil, OX _ _ rfl]
 have hB : U.bare (40 :: (w ++ [41, 32] ++ s)) = U.bare s := by
  have e : 40 :: (w ++ [41, 32] ++ s) = (40 :: w ++ [41]) ++ ([32] ++ s) := by simp
  rw [e]
  unfold U.bare U.sorts
  rw [lF, hcm.1, wu _ _ _ _ (oz _ _), hcm.2, List.nil_append, lF, wu _ _ _ _ (oz _ _)]
  have h1 : U.noC [32] (U.runs (0, 0, false) [32]) = [32] := by decide
  have h2 : U.fin (0, 0, false) [32] = (0, 0, false) := by decide
  rw [h1, h2]
  show U.trimB (32 :: U.noC s (U.runs (0, 0, false) s)) = _
  rw [NY _ _ rfl]
 have hO : U.one (s ++ [32, 40] ++ w ++ [41]) = U.one s := by unfold U.one; rw [hA]
 rw [hO, hB]
 simp only [List.length_append, List.length_cons, List.length_nil, Ru, Bool.and_true]
 refine ⟨by omega, by omega, by omega, by omega, by omega, fun _ => by omega, fun _ => by omega, fun _ => by omega, fun _ => by omega, fun _ => by omega, trivial, trivial⟩
end Go.Proofs.YtlmkekoenfelcaaDoor
set_option linter.unusedSimpArgs false
set_option maxRecDepth 100000
set_option linter.unusedVariables false
namespace Go.Proofs.YtlmkekoenfelcaaDoor
open Go.Vc
theorem Le (x : aU [.str]) : iL Tryd.prog (dS oP) (BG x) 17 (fC [.str] x) [] (uX x) = tq x := by kernel_rfl
theorem Lh : Pok 17 [.str] (fun x => uX x) := by
 refine pk (L := fun x => BG x) (l := oP) zQ (fun _ => rfl) ?_
 intro x hv hp
 rw [Le]
 exact JX x hv
theorem Lj : dZ Tryd.prog gl 17 BF := Lh
theorem zU : dh oU := .cons Lj zQ
theorem JY (x : aU []) : iL Tryd.prog (dS oU) (zT ) 7 (fC [] x) [] (sW ) = qp  := by kernel_rfl
theorem JZ : Pok 7 [] (fun x => sW ) := by
 refine pk (L := fun x => zT ) (l := oU) zU (fun _ => rfl) ?_
 intro x hv hp
 rw [JY]
 exact G9
theorem J3 : dZ Tryd.prog gl 7 zS := JZ
theorem He : dh sZ := .cons J3 zU
end Go.Proofs.YtlmkekoenfelcaaDoor
