/- What functions of this seat compute, in plain Lean. -/
import Derived.Test.YtkhdeldobekciaaDoorKC
set_option linter.unusedVariables false
set_option linter.unusedSimpArgs false
set_option maxRecDepth 100000
namespace Go.Proofs.YtkhdeldobekciaaDoor
open Go.Vc
abbrev aN : Ty := .slice (.int .u8)
abbrev kY : Ty := .slice (.int .i64)
abbrev tU8 : Ty := .int .u8
namespace U
@[irreducible] def beN (k : Nat) (n : Int) : List Int := (List.range k).map fun j => n / 2 ^ (8 * (k - 1 - j)) % 256
def clamp (n : Int) : Int := bG (Bq n 0) 4611686018427387904
def num1 (n : Int) : List Int := beN 8 (clamp n)
def nums (l : List Int) : List Int := l.flatMap num1
def text1 (s : List Int) : List Int := beN 4 (bG s.length 4096) ++ s.take 4096
def texts (l : List (List Int)) : List Int := l.flatMap text1
def aO (l : List Int) : Int := l.foldl (fun a x => a * 256 + x) 0
abbrev RS := List Int × Int
def aj (r : RS) : Int × RS := cond (decide (r.2 = 0)) (cond (decide (r.1.length < 8)) (0, r.1, 2) (cond (decide (aO (r.1.take 8) > 4611686018427387904)) (0, r.1.drop 8, 3) (aO (r.1.take 8), r.1.drop 8, 0))) (0, r)
def aI (r : RS) : List Int × RS := cond (decide (r.2 = 0)) (cond (decide (r.1.length < 4)) ([], r.1, 2) (cond (decide (aO (r.1.take 4) > 4096)) ([], r.1.drop 4, 4) (cond (decide ((r.1.drop 4).length < (aO (r.1.take 4)).toNat)) ([], r.1.drop 4, 2) ((r.1.drop 4).take (aO (r.1.take 4)).toNat, (r.1.drop 4).drop (aO (r.1.take 4)).toNat, 0)))) ([], r)
def fH (bad : Bool) (r : RS) : RS := cond (decide (r.2 = 0) && bad) (r.1, 3) r
def aC (m : Int) (r : RS) : Int × RS := cond (decide ((aj r).2.2 = 0) && decide ((aj r).1 > m)) (0, (aj r).2.1, 4) (aj r)
def kZ (r : RS) : Int := (fH (decide (r.1.length > 0)) r).2
end U
namespace U
def nP (b : List Int) (n size : Int) (o : List Int) (i : Int) : St2 := ⟨⟨[own 1] ++ [sK .u64 n] ++ U.n 5 ++ [sI i] ++ U.n 15, [], [(0, .dead), (1, .row 5 (.int .u8) true true o)]⟩, 2, []⟩
def pK (b : List Int) (n size : Int)  (o : List Int) (i : Int) : Prop := -1 <= i /\ i < size /\ o = b ++ (beN size.toNat n).take (size - 1 - i).toNat
def fG (b l : List Int) (o : List Int) (i : Int) : St2 := ⟨⟨[own 0] ++ U.n 8 ++ [sL false (.int .i64) l] ++ [sI l.length] ++ [sI i] ++ U.n 11, [], [(0, .row 5 (.int .u8) true true o)]⟩, 1, []⟩
def iq (b l : List Int)  (o : List Int) (i : Int) : Prop := at_ l i /\ o = b ++ nums (l.take i.toNat)
def eH (b : List Int) (l : List (List Int)) (o : List Int) (i : Int) : St2 := ⟨⟨[own 0] ++ U.n 8 ++ [sL false .str l] ++ [sI l.length] ++ [sI i] ++ U.n 17, [], [(0, .row 5 (.int .u8) true true o)]⟩, 1, []⟩
def jg (b : List Int) (l : List (List Int))  (o : List Int) (i : Int) : Prop := at_ l i /\ o = b ++ texts (l.take i.toNat)
def lg (b : List Int) (n : Int) (i : Int) : St2 := ⟨⟨U.n 2 ++ [sK .u64 n] ++ U.n 2 ++ [sL false (.int .u8) b] ++ [sI b.length] ++ [sI i] ++ U.n 10, [], []⟩, 0, []⟩
def mF (b : List Int)  (n : Int) (i : Int) : Prop := at_ b i /\ n = aO (b.take i.toNat)
end U
def TP (b : List Int) (n size : Int) : Vc.Loop := ⟨{ keep := [0, 1, 7], wake := [(0, 5)] }, List Int × Int, fun x => U.nP b n size x.1 x.2, fun x0 x => U.pK b n size  x.1 x.2, fun x => (x.2 + 1).toNat⟩
def WB (b l : List Int) : Vc.Loop := ⟨{ keep := [0, 9, 10, 11], wake := [(0, 5)] }, List Int × Int, fun x => U.fG b l x.1 x.2, fun x0 x => U.iq b l  x.1 x.2, fun x => l.length - x.2.toNat⟩
def TQ (b : List Int) (l : List (List Int)) : Vc.Loop := ⟨{ keep := [0, 9, 10, 11], wake := [(0, 5)] }, List Int × Int, fun x => U.eH b l x.1 x.2, fun x0 x => U.jg b l  x.1 x.2, fun x => l.length - x.2.toNat⟩
def Qb (b : List Int) : Vc.Loop := ⟨{ keep := [2, 5, 6, 7] }, Int × Int, fun x => U.lg b x.1 x.2, fun x0 x => U.mF b  x.1 x.2, fun x => b.length - x.2.toNat⟩
def Ey (b : List Int) (n : Int) (size : Int) : Done := ⟨[1 <= size /\ size <= 8, b.length <= 2000000000000, 0 <= n], .one (.own 1), [.dead], [.row 5 (.int .u8) true true (b ++ U.beN size.toNat n)]⟩
def JQ (b : List Int) (n : Int) (size : Int) : List V := [⟨false, [.own 0]⟩, ⟨false, [.int .u64 n]⟩, ⟨false, [.int .i64 size]⟩]
def JR (b : List Int) (n : Int) (size : Int) : List Entry := [.row 5 (.int .u8) true true b]
def Ns (b : List Int) (n : Int) (size : Int) : Nat -> List V -> Nat -> Option Vc.Loop := fun f v k => cond (Nat.beq f 30 && Nat.beq k 2) (some (TP b n size)) <| none
def CQ : List V -> List Entry -> Option Done
 | [⟨false, [.own n1]⟩, ⟨false, [.int .u64 n]⟩, ⟨false, [.int .i64 size]⟩], [.row n2 (.int .u8) true true b] => cond (Nat.beq n1 0 && Nat.beq n2 5) (some (Ey b n size)) none
 | _, _ => none
theorem D6 {args : List V} {es : List Entry} {d : Done} (h : CQ args es = some d) : ∃ b n size, args = JQ b n size /\ es = JR b n size /\ d = Ey b n size := by
 unfold CQ at h
 split at h
 ·obtain ⟨hb, hd⟩ := mQ h; simp only [Bool.and_eq_true, Nat.beq_eq] at hb; (try obtain ⟨rfl, rfl⟩ := hb); subst hd; (try subst_vars); exact ⟨_, _, _, rfl, rfl, rfl⟩
 ·cases h
def AA (args : List V) (es : List Entry) : Option Done := orE (CQ args es) (none)
def Qc : Vc.Sum := .gen AA
def AB : List (Nat × Ent) := (30, .sum Qc) :: x9
def yX (b : List Int) (l : List Int) : Done := ⟨[b.length <= 1000000000000, l.length <= 100000000000], .one (.psl true (.int .u8) (b ++ U.nums l)), [], []⟩
def SK : Vc.Sum := .pure [aN, kY] false fun x => yX x.1 x.2
def SL (b : List Int) (l : List Int) : Nat -> List V -> Nat -> Option Vc.Loop := fun f v k => cond (Nat.beq f 15 && Nat.beq k 3) (some (WB b l)) <| none
def D7 : List (Nat × Ent) := (15, .sum SK) :: AB
def vU (b : List Int) (l : List (List Int)) : Done := ⟨[b.length <= 1000000000000, l.length <= 100000000], .one (.psl true (.int .u8) (b ++ U.texts l)), [], []⟩
def Qd : Vc.Sum := .pure [aN, DZ] false fun x => vU x.1 x.2
def Qe (b : List Int) (l : List (List Int)) : Nat -> List V -> Nat -> Option Vc.Loop := fun f v k => cond (Nat.beq f 46 && Nat.beq k 3) (some (TQ b l)) <| none
def AL : List (Nat × Ent) := (46, .sum Qd) :: D7
def vV (b : List Int) : Done := ⟨[b.length <= 8], .one (.int .u64 (U.aO b)), [], []⟩
def JU : Vc.Sum := .pure [aN] false fun x => vV x
def JV (b : List Int) : Nat -> List V -> Nat -> Option Vc.Loop := fun f v k => cond (Nat.beq f 51 && Nat.beq k 2) (some (Qb b)) <| none
def vW : List (Nat × Ent) := (51, .sum JU) :: AL
def qZ (l : List Int) (e : Int) : Done := ⟨[], .one (.int .i64 (U.aj (l, e)).1), [.obj [.psl false tU8 ((U.aj (l, e)).2).1, .int .i64 ((U.aj (l, e)).2).2]], []⟩
def yY (l : List Int) (e : Int) : List V := [⟨false, [.ptr 0 0]⟩]
def yZ (l : List Int) (e : Int) : List Entry := [.obj [.psl false tU8 l, .int .i64 e]]
def zZ (l : List Int) (e : Int) : Nat -> List V -> Nat -> Option Vc.Loop := dO
def pO : List V -> List Entry -> Option Done
 | [⟨false, [.ptr n1 n2]⟩], [.obj [.psl false t3 l3, .int .i64 e]] => if h3 : t3 = tU8 then cond (Nat.beq n1 0 && Nat.beq n2 0) (some (qZ (h3 ▸ l3 : List (Ty.den tU8)) e)) none else none
 | _, _ => none
theorem uQ {args : List V} {es : List Entry} {d : Done} (h : pO args es = some d) : ∃ l e, args = yY l e /\ es = yZ l e /\ d = qZ l e := by
 unfold pO at h
 split at h
 ·split at h <;> first | (cases h; done) | skip
  rename_i ht; subst ht
  obtain ⟨hb, hd⟩ := mQ h; simp only [Bool.and_eq_true, Nat.beq_eq] at hb; (try obtain ⟨rfl, rfl⟩ := hb); subst hd; (try subst_vars); exact ⟨_, _, rfl, rfl, rfl⟩
 ·cases h
def nG (args : List V) (es : List Entry) : Option Done := orE (pO args es) (none)
def CS : Vc.Sum := .gen nG
def nH : List (Nat × Ent) := (33, .sum CS) :: vW
def pR (l : List Int) (e : Int) : Done := ⟨[], .one (.str (U.aI (l, e)).1), [.obj [.psl false tU8 ((U.aI (l, e)).2).1, .int .i64 ((U.aI (l, e)).2).2]], []⟩
def wM (l : List Int) (e : Int) : List V := [⟨false, [.ptr 0 0]⟩]
def wO (l : List Int) (e : Int) : List Entry := [.obj [.psl false tU8 l, .int .i64 e]]
def y7 (l : List Int) (e : Int) : Nat -> List V -> Nat -> Option Vc.Loop := dO
def oD : List V -> List Entry -> Option Done
 | [⟨false, [.ptr n1 n2]⟩], [.obj [.psl false t3 l3, .int .i64 e]] => if h3 : t3 = tU8 then cond (Nat.beq n1 0 && Nat.beq n2 0) (some (pR (h3 ▸ l3 : List (Ty.den tU8)) e)) none else none
 | _, _ => none
theorem rJ {args : List V} {es : List Entry} {d : Done} (h : oD args es = some d) : ∃ l e, args = wM l e /\ es = wO l e /\ d = pR l e := by
 unfold oD at h
 split at h
 ·split at h <;> first | (cases h; done) | skip
  rename_i ht; subst ht
  obtain ⟨hb, hd⟩ := mQ h; simp only [Bool.and_eq_true, Nat.beq_eq] at hb; (try obtain ⟨rfl, rfl⟩ := hb); subst hd; (try subst_vars); exact ⟨_, _, rfl, rfl, rfl⟩
 ·cases h
def lT (args : List V) (es : List Entry) : Option Done := orE (oD args es) (none)
def Aa : Vc.Sum := .gen lT
def lU : List (Nat × Ent) := (65, .sum Aa) :: nH
def oG (l : List Int) (e : Int) (m : Int) : Done := ⟨[], .one (.int .i64 (U.aC m (l, e)).1), [.obj [.psl false tU8 ((U.aC m (l, e)).2).1, .int .i64 ((U.aC m (l, e)).2).2]], []⟩
def vX (l : List Int) (e : Int) (m : Int) : List V := [⟨false, [.ptr 0 0]⟩, ⟨false, [.int .i64 m]⟩]
def vY (l : List Int) (e : Int) (m : Int) : List Entry := [.obj [.psl false tU8 l, .int .i64 e]]
def wP (l : List Int) (e : Int) (m : Int) : Nat -> List V -> Nat -> Option Vc.Loop := dO
def nI : List V -> List Entry -> Option Done
 | [⟨false, [.ptr n1 n2]⟩, ⟨false, [.int .i64 m]⟩], [.obj [.psl false t3 l3, .int .i64 e]] => if h3 : t3 = tU8 then cond (Nat.beq n1 0 && Nat.beq n2 0) (some (oG (h3 ▸ l3 : List (Ty.den tU8)) e m)) none else none
 | _, _ => none
theorem qQ {args : List V} {es : List Entry} {d : Done} (h : nI args es = some d) : ∃ l e m, args = vX l e m /\ es = vY l e m /\ d = oG l e m := by
 unfold nI at h
 split at h
 ·split at h <;> first | (cases h; done) | skip
  rename_i ht; subst ht
  obtain ⟨hb, hd⟩ := mQ h; simp only [Bool.and_eq_true, Nat.beq_eq] at hb; (try obtain ⟨rfl, rfl⟩ := hb); subst hd; (try subst_vars); exact ⟨_, _, _, rfl, rfl, rfl⟩
 ·cases h
def lq (args : List V) (es : List Entry) : Option Done := orE (nI args es) (none)
def y8 : Vc.Sum := .gen lq
def lu : List (Nat × Ent) := (66, .sum y8) :: lU
def pU (l : List Int) (e : Int) (x : Bool) : Done := ⟨[], .tup [], [.obj [.psl false tU8 (U.fH x (l, e)).1, .int .i64 (U.fH x (l, e)).2]], []⟩
def wQ (l : List Int) (e : Int) (x : Bool) : List V := [⟨false, [.ptr 0 0]⟩, ⟨false, [.bool x]⟩]
def wR (l : List Int) (e : Int) (x : Bool) : List Entry := [.obj [.psl false tU8 l, .int .i64 e]]
def y9 (l : List Int) (e : Int) (x : Bool) : Nat -> List V -> Nat -> Option Vc.Loop := dO
def oH : List V -> List Entry -> Option Done
 | [⟨false, [.ptr n1 n2]⟩, ⟨false, [.bool x]⟩], [.obj [.psl false t3 l3, .int .i64 e]] => if h3 : t3 = tU8 then cond (Nat.beq n1 0 && Nat.beq n2 0) (some (pU (h3 ▸ l3 : List (Ty.den tU8)) e x)) none else none
 | _, _ => none
theorem rM {args : List V} {es : List Entry} {d : Done} (h : oH args es = some d) : ∃ l e x, args = wQ l e x /\ es = wR l e x /\ d = pU l e x := by
 unfold oH at h
 split at h
 ·split at h <;> first | (cases h; done) | skip
  rename_i ht; subst ht
  obtain ⟨hb, hd⟩ := mQ h; simp only [Bool.and_eq_true, Nat.beq_eq] at hb; (try obtain ⟨rfl, rfl⟩ := hb); subst hd; (try subst_vars); exact ⟨_, _, _, rfl, rfl, rfl⟩
 ·cases h
def lV (args : List V) (es : List Entry) : Option Done := orE (oH args es) (none)
def Ac : Vc.Sum := .gen lV
def lW : List (Nat × Ent) := (34, .sum Ac) :: lu
def ru (l : List Int) (e : Int) : Done := ⟨[], .one (.int .i64 e), [.obj [.psl false tU8 ((l, e)).1, .int .i64 ((l, e)).2]], []⟩
def zf (l : List Int) (e : Int) : List V := [⟨false, [.ptr 0 0]⟩]
def zh (l : List Int) (e : Int) : List Entry := [.obj [.psl false tU8 l, .int .i64 e]]
def Ad (l : List Int) (e : Int) : Nat -> List V -> Nat -> Option Vc.Loop := dO
def pV : List V -> List Entry -> Option Done
 | [⟨false, [.ptr n1 n2]⟩], [.obj [.psl false t3 l3, .int .i64 e]] => if h3 : t3 = tU8 then cond (Nat.beq n1 0 && Nat.beq n2 0) (some (ru (h3 ▸ l3 : List (Ty.den tU8)) e)) none else none
 | _, _ => none
theorem uS {args : List V} {es : List Entry} {d : Done} (h : pV args es = some d) : ∃ l e, args = zf l e /\ es = zh l e /\ d = ru l e := by
 unfold pV at h
 split at h
 ·split at h <;> first | (cases h; done) | skip
  rename_i ht; subst ht
  obtain ⟨hb, hd⟩ := mQ h; simp only [Bool.and_eq_true, Nat.beq_eq] at hb; (try obtain ⟨rfl, rfl⟩ := hb); subst hd; (try subst_vars); exact ⟨_, _, rfl, rfl, rfl⟩
 ·cases h
def nJ (args : List V) (es : List Entry) : Option Done := orE (pV args es) (none)
def CU : Vc.Sum := .gen nJ
def nK : List (Nat × Ent) := (35, .sum CU) :: lW
def pW (l : List Int) (e : Int) : Done := ⟨[], .one (.int .i64 (U.kZ (l, e))), [.obj [.psl false tU8 (U.fH (decide (l.length > 0)) (l, e)).1, .int .i64 (U.fH (decide (l.length > 0)) (l, e)).2]], []⟩
def wS (l : List Int) (e : Int) : List V := [⟨false, [.ptr 0 0]⟩]
def wU (l : List Int) (e : Int) : List Entry := [.obj [.psl false tU8 l, .int .i64 e]]
def zi (l : List Int) (e : Int) : Nat -> List V -> Nat -> Option Vc.Loop := dO
def oI : List V -> List Entry -> Option Done
 | [⟨false, [.ptr n1 n2]⟩], [.obj [.psl false t3 l3, .int .i64 e]] => if h3 : t3 = tU8 then cond (Nat.beq n1 0 && Nat.beq n2 0) (some (pW (h3 ▸ l3 : List (Ty.den tU8)) e)) none else none
 | _, _ => none
theorem rO {args : List V} {es : List Entry} {d : Done} (h : oI args es = some d) : ∃ l e, args = wS l e /\ es = wU l e /\ d = pW l e := by
 unfold oI at h
 split at h
 ·split at h <;> first | (cases h; done) | skip
  rename_i ht; subst ht
  obtain ⟨hb, hd⟩ := mQ h; simp only [Bool.and_eq_true, Nat.beq_eq] at hb; (try obtain ⟨rfl, rfl⟩ := hb); subst hd; (try subst_vars); exact ⟨_, _, rfl, rfl, rfl⟩
 ·cases h
def lX (args : List V) (es : List Entry) : Option Done := orE (oI args es) (none)
def Ae : Vc.Sum := .gen lX
def lY : List (Nat × Ent) := (54, .sum Ae) :: nK
def Ez (a : List Int) (b : List Int) : Done := ⟨[], .one (.bool (decide (a = b))), [], []⟩
def Nu : Vc.Sum := .pure [aN, aN] false fun x => Ez x.1 x.2
def Nv (a : List Int) (b : List Int) : Nat -> List V -> Nat -> Option Vc.Loop := dO
def yg : List (Nat × Ent) := (11, .sum Nu) :: lY
end Go.Proofs.YtkhdeldobekciaaDoor
set_option maxRecDepth 100000
set_option linter.unusedVariables false
namespace Go.Proofs.YtkhdeldobekciaaDoor
open Go.Vc
def CV (b : List Int) (n : Int) (size : Int) : Prop := ∃ (x0 : List Int × Int), (U.nP b n size b (IntKind.i64.wrap (size.sub (1 : Int))) = U.nP b n size x0.1 x0.2 /\ U.pK b n size x0.1 x0.2) /\ ∀ (x : List Int × Int), U.pK b n size x.1 x.2 -> bif decide (x.2 >= (0 : Int)) then (0 : Int) <= IntKind.i64.wrap (Int.mul (8 : Int) x.2) /\ (x.1.length.add ((1
 : Nat))).mul (1 : Nat) <= (140737488355328 : Nat) /\ x.1.length.add ((1 : Nat)) <= maxLen /\ ∃ (y : List Int × Int), U.nP b n size (x.1.append ([(0 : Int)].set (0 : Nat) (IntKind.u8.wrap (n.fdiv (Int.pow (2 : Int) (if (IntKind.i64.wrap (Int.mul (8 : Int) x.2)).toNat <= IntKind.u64.bits then (IntKind.i64.wrap (Int.mul (8 : Int) x.2)).toNat else IntKind.u64.bits)))))) (IntKind.i64.wrap (x.2.sub
 (1 : Int))) = U.nP b n size y.1 y.2 /\ U.pK b n size y.1 y.2 /\ (y.2.add (1 : Int)).toNat < (x.2.add (1 : Int)).toNat else x.1 = b.append (U.beN size.toNat n) /\ True
def G8 (b : List Int) (l : List Int) : Prop := ∀ (nb : Bool), (nb = true -> b.length = (0 : Nat)) -> (false = true -> nb = true) -> bif nb then ∃ (x0 : List Int × Int), (U.fG b l [] (0 : Int) = U.fG b l x0.1 x0.2 /\ U.iq b l x0.1 x0.2) /\ ∀ (x : List Int × Int), U.iq b l x.1 x.2 -> bif decide (x.2 < (↑l.length : Int)) then (0 : Int) <= x.2 /\ x.2 < (↑l.length :
 Int) /\ ((1 : Int) <= (8 : Int) /\ (8 : Int) <= (8 : Int)) /\ x.1.length <= (2000000000000 : Nat) /\ (0 : Int) <= IntKind.u64.wrap (bG (Bq (l.getD x.2.toNat (0 : Int)) (0 : Int)) (4611686018427387904 : Int)) /\ ∃ (y : List Int × Int), U.fG b l (x.1.append (U.beN (8 : Nat) (IntKind.u64.wrap (bG (Bq (l.getD x.2.toNat (0 : Int)) (0 : Int)) (4611686018427387904 : Int))))) (IntKind.i64.wrap
 (x.2.add (1 : Int))) = U.fG b l y.1 y.2 /\ U.iq b l y.1 y.2 /\ l.length.sub y.2.toNat < l.length.sub x.2.toNat else x.1 = b.append (U.nums l) /\ True else (Nat.add (0 : Nat) b.length).mul (1 : Nat) <= (140737488355328 : Nat) /\ Nat.add (0 : Nat) b.length <= maxLen /\ ∃ (x0 : List Int × Int), (U.fG b l b (0 : Int) = U.fG b l x0.1 x0.2 /\ U.iq b l x0.1 x0.2) /\
 ∀ (x : List Int × Int), U.iq b l x.1 x.2 -> bif decide (x.2 < (↑l.length : Int)) then (0 : Int) <= x.2 /\ x.2 < (↑l.length : Int) /\ ((1 : Int) <= (8 : Int) /\ (8 : Int) <= (8 : Int)) /\ x.1.length <= (2000000000000 : Nat) /\ (0 : Int) <= IntKind.u64.wrap (bG (Bq (l.getD x.2.toNat (0 : Int)) (0 : Int)) (4611686018427387904 : Int)) /\ ∃ (y : List Int × Int), U.fG b l (x.1.append (U.beN (8
 : Nat) (IntKind.u64.wrap (bG (Bq (l.getD x.2.toNat (0 : Int)) (0 : Int)) (4611686018427387904 : Int))))) (IntKind.i64.wrap (x.2.add (1 : Int))) = U.fG b l y.1 y.2 /\ U.iq b l y.1 y.2 /\ l.length.sub y.2.toNat < l.length.sub x.2.toNat else x.1 = b.append (U.nums l) /\ True
def EC (b : List Int) (l : List (List Int)) : Prop := ∀ (nb : Bool), (nb = true -> b.length = (0 : Nat)) -> (false = true -> nb = true) -> bif nb then ∃ (x0 : List Int × Int), (U.eH b l [] (0 : Int) = U.eH b l x0.1 x0.2 /\ U.jg b l x0.1 x0.2) /\ ∀ (x : List Int × Int), U.jg b l x.1 x.2 -> bif decide (x.2 < (↑l.length : Int)) then (0 : Int) <= x.2 /\ x.2 <
 (↑l.length : Int) /\ (0 : Int) <= (0 : Int) /\ (0 : Int) <= bG (↑(l.getD x.2.toNat []).length : Int) (4096 : Int) /\ bG (↑(l.getD x.2.toNat []).length : Int) (4096 : Int) <= (↑(l.getD x.2.toNat []).length : Int) /\ ((1 : Int) <= (4 : Int) /\ (4 : Int) <= (8 : Int)) /\ x.1.length <= (2000000000000 : Nat) /\ (0 : Int) <= IntKind.u64.wrap (↑(List.take ((bG (↑(l.getD x.2.toNat []).length : Int) (4096 :
 Int)).toNat.sub (0 : Nat)) (List.drop (0 : Nat) (l.getD x.2.toNat []))).length : Int) /\ ((x.1.append (U.beN (4 : Nat) (IntKind.u64.wrap (↑(List.take ((bG (↑(l.getD x.2.toNat []).length : Int) (4096 : Int)).toNat.sub (0 : Nat)) (List.drop (0 : Nat) (l.getD x.2.toNat []))).length : Int)))).length.add (List.take ((bG (↑(l.getD x.2.toNat []).length : Int) (4096 : Int)).toNat.sub (0 : Nat))
 (List.drop (0 : Nat) (l.getD x.2.toNat []))).length).mul (1 : Nat) <= (140737488355328 : Nat) /\ (x.1.append (U.beN (4 : Nat) (IntKind.u64.wrap (↑(List.take ((bG (↑(l.getD x.2.toNat []).length : Int) (4096 : Int)).toNat.sub (0 : Nat)) (List.drop (0 : Nat) (l.getD x.2.toNat []))).length : Int)))).length.add (List.take ((bG (↑(l.getD x.2.toNat []).length : Int) (4096 : Int)).toNat.sub (0 : Nat))
 (List.drop (0 : Nat) (l.getD x.2.toNat []))).length <= maxLen /\ ∃ (y : List Int × Int), U.eH b l ((x.1.append (U.beN (4 : Nat) (IntKind.u64.wrap (↑(List.take ((bG (↑(l.getD x.2.toNat []).length : Int) (4096 : Int)).toNat.sub (0 : Nat)) (List.drop (0 : Nat) (l.getD x.2.toNat []))).length : Int)))).append (List.take ((bG (↑(l.getD x.2.toNat []).length : Int) (4096 : Int)).toNat.sub (0 :
 Nat)) (List.drop (0 : Nat) (l.getD x.2.toNat [])))) (IntKind.i64.wrap (x.2.add (1 : Int))) = U.eH b l y.1 y.2 /\ U.jg b l y.1 y.2 /\ l.length.sub y.2.toNat < l.length.sub x.2.toNat else x.1 = b.append (U.texts l) /\ True else (Nat.add (0 : Nat) b.length).mul (1 : Nat) <= (140737488355328 : Nat) /\ Nat.add (0 : Nat) b.length <= maxLen /\ ∃ (x0 : List Int × Int), (U.eH b l b
 (0 : Int) = U.eH b l x0.1 x0.2 /\ U.jg b l x0.1 x0.2) /\ ∀ (x : List Int × Int), U.jg b l x.1 x.2 -> bif decide (x.2 < (↑l.length : Int)) then (0 : Int) <= x.2 /\ x.2 < (↑l.length : Int) /\ (0 : Int) <= (0 : Int) /\ (0 : Int) <= bG (↑(l.getD x.2.toNat []).length : Int) (4096 : Int) /\ bG (↑(l.getD x.2.toNat []).length : Int) (4096 : Int) <= (↑(l.getD x.2.toNat []).length :
 Int) /\ ((1 : Int) <= (4 : Int) /\ (4 : Int) <= (8 : Int)) /\ x.1.length <= (2000000000000 : Nat) /\ (0 : Int) <= IntKind.u64.wrap (↑(List.take ((bG (↑(l.getD x.2.toNat []).length : Int) (4096 : Int)).toNat.sub (0 : Nat)) (List.drop (0 : Nat) (l.getD x.2.toNat []))).length : Int) /\ ((x.1.append (U.beN (4 : Nat) (IntKind.u64.wrap (↑(List.take ((bG (↑(l.getD x.2.toNat []).length : Int) (4096 :
 Int)).toNat.sub (0 : Nat)) (List.drop (0 : Nat) (l.getD x.2.toNat []))).length : Int)))).length.add (List.take ((bG (↑(l.getD x.2.toNat []).length : Int) (4096 : Int)).toNat.sub (0 : Nat)) (List.drop (0 : Nat) (l.getD x.2.toNat []))).length).mul (1 : Nat) <= (140737488355328 : Nat) /\ (x.1.append (U.beN (4 : Nat) (IntKind.u64.wrap (↑(List.take ((bG (↑(l.getD x.2.toNat []).length : Int) (4096 :
 Int)).toNat.sub (0 : Nat)) (List.drop (0 : Nat) (l.getD x.2.toNat []))).length : Int)))).length.add (List.take ((bG (↑(l.getD x.2.toNat []).length : Int) (4096 : Int)).toNat.sub (0 : Nat)) (List.drop (0 : Nat) (l.getD x.2.toNat []))).length <= maxLen /\ ∃ (y : List Int × Int), U.eH b l ((x.1.append (U.beN (4 : Nat) (IntKind.u64.wrap (↑(List.take ((bG (↑(l.getD x.2.toNat []).length :
 Int) (4096 : Int)).toNat.sub (0 : Nat)) (List.drop (0 : Nat) (l.getD x.2.toNat []))).length : Int)))).append (List.take ((bG (↑(l.getD x.2.toNat []).length : Int) (4096 : Int)).toNat.sub (0 : Nat)) (List.drop (0 : Nat) (l.getD x.2.toNat [])))) (IntKind.i64.wrap (x.2.add (1 : Int))) = U.eH b l y.1 y.2 /\ U.jg b l y.1 y.2 /\ l.length.sub y.2.toNat < l.length.sub x.2.toNat else
 x.1 = b.append (U.texts l) /\ True
def zI (b : List Int) : Prop := ∃ (x0 : Int × Int), (U.lg b (0 : Int) (0 : Int) = U.lg b x0.1 x0.2 /\ U.mF b x0.1 x0.2) /\ ∀ (x : Int × Int), U.mF b x.1 x.2 -> bif decide (x.2 < (↑b.length : Int)) then (0 : Int) <= x.2 /\ x.2 < (↑b.length : Int) /\ (0 : Int) <= (8 : Int) /\ ∃ (y : Int × Int), U.lg b (IntKind.u64.wrap (↑((BitVec.ofInt
 IntKind.u64.bits (IntKind.u64.wrap (x.1.mul (Int.pow (2 : Int) (if (8 : Nat) <= IntKind.u64.bits then (8 : Nat) else IntKind.u64.bits))))).or (BitVec.ofInt IntKind.u64.bits (IntKind.u64.wrap (b.getD x.2.toNat (0 : Int))))).toNat : Int)) (IntKind.i64.wrap (x.2.add (1 : Int))) = U.lg b y.1 y.2 /\ U.mF b y.1 y.2 /\ b.length.sub y.2.toNat < b.length.sub x.2.toNat else x.1 = U.aO
 b /\ True
def pX (l : List Int) (e : Int) : Prop := bif bif decide ((↑l.length : Int) < (8 : Int)) then decide (e = (0 : Int)) else false then bif (2 : Int) != (0 : Int) then (0 : Int) = (U.aj (l, e)).1 /\ l = (U.aj (l, e)).2.1 /\ (2 : Int) = (U.aj (l, e)).2.2 /\ True else (0 : Int) <= (0 : Int) /\ (0 : Int) <= (8 : Int) /\ (8 : Int) <= (↑l.length : Int) /\ (0 : Int) <= (8 : Int) /\ (8 : Int) <=
 (↑l.length : Int) /\ (↑l.length : Int) <= (↑l.length : Int) /\ (List.take ((8 : Nat).sub (0 : Nat)) (List.drop (0 : Nat) l)).length <= (8 : Nat) /\ bif bif decide (U.aO (List.take ((8 : Nat).sub (0 : Nat)) (List.drop (0 : Nat) l)) > (4611686018427387904 : Int)) then decide ((2 : Int) = (0 : Int)) else false then bif (3 : Int) != (0 : Int) then (0 : Int) = (U.aj (l, e)).1 /\ List.take ((↑l.length :
 Int).toNat.sub (8 : Nat)) (List.drop (8 : Nat) l) = (U.aj (l, e)).2.1 /\ (3 : Int) = (U.aj (l, e)).2.2 /\ True else IntKind.i64.wrap (U.aO (List.take ((8 : Nat).sub (0 : Nat)) (List.drop (0 : Nat) l))) = (U.aj (l, e)).1 /\ List.take ((↑l.length : Int).toNat.sub (8 : Nat)) (List.drop (8 : Nat) l) = (U.aj (l, e)).2.1 /\ (3 : Int) = (U.aj (l, e)).2.2 /\ True else bif (2 : Int) != (0 : Int) then
 (0 : Int) = (U.aj (l, e)).1 /\ List.take ((↑l.length : Int).toNat.sub (8 : Nat)) (List.drop (8 : Nat) l) = (U.aj (l, e)).2.1 /\ (2 : Int) = (U.aj (l, e)).2.2 /\ True else IntKind.i64.wrap (U.aO (List.take ((8 : Nat).sub (0 : Nat)) (List.drop (0 : Nat) l))) = (U.aj (l, e)).1 /\ List.take ((↑l.length : Int).toNat.sub (8 : Nat)) (List.drop (8 : Nat) l) = (U.aj (l, e)).2.1 /\ (2 : Int) = (U.aj
 (l, e)).2.2 /\ True else bif e != (0 : Int) then (0 : Int) = (U.aj (l, e)).1 /\ l = (U.aj (l, e)).2.1 /\ e = (U.aj (l, e)).2.2 /\ True else (0 : Int) <= (0 : Int) /\ (0 : Int) <= (8 : Int) /\ (8 : Int) <= (↑l.length : Int) /\ (0 : Int) <= (8 : Int) /\ (8 : Int) <= (↑l.length : Int) /\ (↑l.length : Int) <= (↑l.length : Int) /\ (List.take ((8 : Nat).sub (0 : Nat)) (List.drop (0 : Nat) l)).length <= (8 : Nat) /\
 bif bif decide (U.aO (List.take ((8 : Nat).sub (0 : Nat)) (List.drop (0 : Nat) l)) > (4611686018427387904 : Int)) then decide (e = (0 : Int)) else false then bif (3 : Int) != (0 : Int) then (0 : Int) = (U.aj (l, e)).1 /\ List.take ((↑l.length : Int).toNat.sub (8 : Nat)) (List.drop (8 : Nat) l) = (U.aj (l, e)).2.1 /\ (3 : Int) = (U.aj (l, e)).2.2 /\ True else IntKind.i64.wrap (U.aO (List.take
 ((8 : Nat).sub (0 : Nat)) (List.drop (0 : Nat) l))) = (U.aj (l, e)).1 /\ List.take ((↑l.length : Int).toNat.sub (8 : Nat)) (List.drop (8 : Nat) l) = (U.aj (l, e)).2.1 /\ (3 : Int) = (U.aj (l, e)).2.2 /\ True else bif e != (0 : Int) then (0 : Int) = (U.aj (l, e)).1 /\ List.take ((↑l.length : Int).toNat.sub (8 : Nat)) (List.drop (8 : Nat) l) = (U.aj (l, e)).2.1 /\ e = (U.aj (l, e)).2.2 /\ True
 else IntKind.i64.wrap (U.aO (List.take ((8 : Nat).sub (0 : Nat)) (List.drop (0 : Nat) l))) = (U.aj (l, e)).1 /\ List.take ((↑l.length : Int).toNat.sub (8 : Nat)) (List.drop (8 : Nat) l) = (U.aj (l, e)).2.1 /\ e = (U.aj (l, e)).2.2 /\ True
def oJ (l : List Int) (e : Int) : Prop := bif bif decide ((↑l.length : Int) < (4 : Int)) then decide (e = (0 : Int)) else false then bif (2 : Int) != (0 : Int) then [] = (U.aI (l, e)).1 /\ l = (U.aI (l, e)).2.1 /\ (2 : Int) = (U.aI (l, e)).2.2 /\ True else (0 : Int) <= (0 : Int) /\ (0 : Int) <= (4 : Int) /\ (4 : Int) <= (↑l.length : Int) /\ (0 : Int) <= (4 : Int) /\ (4 : Int) <=
 (↑l.length : Int) /\ (↑l.length : Int) <= (↑l.length : Int) /\ (List.take ((4 : Nat).sub (0 : Nat)) (List.drop (0 : Nat) l)).length <= (8 : Nat) /\ bif bif decide (IntKind.i64.wrap (U.aO (List.take ((4 : Nat).sub (0 : Nat)) (List.drop (0 : Nat) l))) > (4096 : Int)) then decide ((2 : Int) = (0 : Int)) else false then bif bif decide ((↑(List.take ((↑l.length : Int).toNat.sub (4 : Nat)) (List.drop (4 :
 Nat) l)).length : Int) < IntKind.i64.wrap (U.aO (List.take ((4 : Nat).sub (0 : Nat)) (List.drop (0 : Nat) l)))) then decide ((4 : Int) = (0 : Int)) else false then bif (2 : Int) != (0 : Int) then [] = (U.aI (l, e)).1 /\ List.take ((↑l.length : Int).toNat.sub (4 : Nat)) (List.drop (4 : Nat) l) = (U.aI (l, e)).2.1 /\ (2 : Int) = (U.aI (l, e)).2.2 /\ True else (0 : Int) <= (0 : Int) /\ (0 : Int)
 <= IntKind.i64.wrap (U.aO (List.take ((4 : Nat).sub (0 : Nat)) (List.drop (0 : Nat) l))) /\ IntKind.i64.wrap (U.aO (List.take ((4 : Nat).sub (0 : Nat)) (List.drop (0 : Nat) l))) <= (↑(List.take ((↑l.length : Int).toNat.sub (4 : Nat)) (List.drop (4 : Nat) l)).length : Int) /\ (0 : Int) <= IntKind.i64.wrap (U.aO (List.take ((4 : Nat).sub (0 : Nat)) (List.drop (0 : Nat) l))) /\ IntKind.i64.wrap
 (U.aO (List.take ((4 : Nat).sub (0 : Nat)) (List.drop (0 : Nat) l))) <= (↑(List.take ((↑l.length : Int).toNat.sub (4 : Nat)) (List.drop (4 : Nat) l)).length : Int) /\ (↑(List.take ((↑l.length : Int).toNat.sub (4 : Nat)) (List.drop (4 : Nat) l)).length : Int) <= (↑(List.take ((↑l.length : Int).toNat.sub (4 : Nat)) (List.drop (4 : Nat) l)).length : Int) /\ List.take ((IntKind.i64.wrap (U.aO
 (List.take ((4 : Nat).sub (0 : Nat)) (List.drop (0 : Nat) l)))).toNat.sub (0 : Nat)) (List.drop (0 : Nat) (List.take ((↑l.length : Int).toNat.sub (4 : Nat)) (List.drop (4 : Nat) l))) = (U.aI (l, e)).1 /\ List.take ((↑(List.take ((↑l.length : Int).toNat.sub (4 : Nat)) (List.drop (4 : Nat) l)).length : Int).toNat.sub (IntKind.i64.wrap (U.aO (List.take ((4 : Nat).sub (0 : Nat)) (List.drop (0 :
 Nat) l)))).toNat) (List.drop (IntKind.i64.wrap (U.aO (List.take ((4 : Nat).sub (0 : Nat)) (List.drop (0 : Nat) l)))).toNat (List.take ((↑l.length : Int).toNat.sub (4 : Nat)) (List.drop (4 : Nat) l))) = (U.aI (l, e)).2.1 /\ (2 : Int) = (U.aI (l, e)).2.2 /\ True else bif (4 : Int) != (0 : Int) then [] = (U.aI (l, e)).1 /\ List.take ((↑l.length : Int).toNat.sub (4 : Nat)) (List.drop (4 : Nat)
 l) = (U.aI (l, e)).2.1 /\ (4 : Int) = (U.aI (l, e)).2.2 /\ True else (0 : Int) <= (0 : Int) /\ (0 : Int) <= IntKind.i64.wrap (U.aO (List.take ((4 : Nat).sub (0 : Nat)) (List.drop (0 : Nat) l))) /\ IntKind.i64.wrap (U.aO (List.take ((4 : Nat).sub (0 : Nat)) (List.drop (0 : Nat) l))) <= (↑(List.take ((↑l.length : Int).toNat.sub (4 : Nat)) (List.drop (4 : Nat) l)).length : Int) /\ (0 : Int) <=
 IntKind.i64.wrap (U.aO (List.take ((4 : Nat).sub (0 : Nat)) (List.drop (0 : Nat) l))) /\ IntKind.i64.wrap (U.aO (List.take ((4 : Nat).sub (0 : Nat)) (List.drop (0 : Nat) l))) <= (↑(List.take ((↑l.length : Int).toNat.sub (4 : Nat)) (List.drop (4 : Nat) l)).length : Int) /\ (↑(List.take ((↑l.length : Int).toNat.sub (4 : Nat)) (List.drop (4 : Nat) l)).length : Int) <= (↑(List.take ((↑l.length :
 Int).toNat.sub (4 : Nat)) (List.drop (4 : Nat) l)).length : Int) /\ List.take ((IntKind.i64.wrap (U.aO (List.take ((4 : Nat).sub (0 : Nat)) (List.drop (0 : Nat) l)))).toNat.sub (0 : Nat)) (List.drop (0 : Nat) (List.take ((↑l.length : Int).toNat.sub (4 : Nat)) (List.drop (4 : Nat) l))) = (U.aI (l, e)).1 /\ List.take ((↑(List.take ((↑l.length : Int).toNat.sub (4 : Nat)) (List.drop (4 : Nat)
 l)).length : Int).toNat.sub (IntKind.i64.wrap (U.aO (List.take ((4 : Nat).sub (0 : Nat)) (List.drop (0 : Nat) l)))).toNat) (List.drop (IntKind.i64.wrap (U.aO (List.take ((4 : Nat).sub (0 : Nat)) (List.drop (0 : Nat) l)))).toNat (List.take ((↑l.length : Int).toNat.sub (4 : Nat)) (List.drop (4 : Nat) l))) = (U.aI (l, e)).2.1 /\ (4 : Int) = (U.aI (l, e)).2.2 /\ True else bif bif decide
 ((↑(List.take ((↑l.length : Int).toNat.sub (4 : Nat)) (List.drop (4 : Nat) l)).length : Int) < IntKind.i64.wrap (U.aO (List.take ((4 : Nat).sub (0 : Nat)) (List.drop (0 : Nat) l)))) then decide ((2 : Int) = (0 : Int)) else false then bif (2 : Int) != (0 : Int) then [] = (U.aI (l, e)).1 /\ List.take ((↑l.length : Int).toNat.sub (4 : Nat)) (List.drop (4 : Nat) l) = (U.aI (l, e)).2.1 /\ (2 :
 Int) = (U.aI (l, e)).2.2 /\ True else (0 : Int) <= (0 : Int) /\ (0 : Int) <= IntKind.i64.wrap (U.aO (List.take ((4 : Nat).sub (0 : Nat)) (List.drop (0 : Nat) l))) /\ IntKind.i64.wrap (U.aO (List.take ((4 : Nat).sub (0 : Nat)) (List.drop (0 : Nat) l))) <= (↑(List.take ((↑l.length : Int).toNat.sub (4 : Nat)) (List.drop (4 : Nat) l)).length : Int) /\ (0 : Int) <= IntKind.i64.wrap (U.aO (List.take ((4
 : Nat).sub (0 : Nat)) (List.drop (0 : Nat) l))) /\ IntKind.i64.wrap (U.aO (List.take ((4 : Nat).sub (0 : Nat)) (List.drop (0 : Nat) l))) <= (↑(List.take ((↑l.length : Int).toNat.sub (4 : Nat)) (List.drop (4 : Nat) l)).length : Int) /\ (↑(List.take ((↑l.length : Int).toNat.sub (4 : Nat)) (List.drop (4 : Nat) l)).length : Int) <= (↑(List.take ((↑l.length : Int).toNat.sub (4 : Nat)) (List.drop (4 : Nat)
 l)).length : Int) /\ List.take ((IntKind.i64.wrap (U.aO (List.take ((4 : Nat).sub (0 : Nat)) (List.drop (0 : Nat) l)))).toNat.sub (0 : Nat)) (List.drop (0 : Nat) (List.take ((↑l.length : Int).toNat.sub (4 : Nat)) (List.drop (4 : Nat) l))) = (U.aI (l, e)).1 /\ List.take ((↑(List.take ((↑l.length : Int).toNat.sub (4 : Nat)) (List.drop (4 : Nat) l)).length : Int).toNat.sub (IntKind.i64.wrap (U.aO
 (List.take ((4 : Nat).sub (0 : Nat)) (List.drop (0 : Nat) l)))).toNat) (List.drop (IntKind.i64.wrap (U.aO (List.take ((4 : Nat).sub (0 : Nat)) (List.drop (0 : Nat) l)))).toNat (List.take ((↑l.length : Int).toNat.sub (4 : Nat)) (List.drop (4 : Nat) l))) = (U.aI (l, e)).2.1 /\ (2 : Int) = (U.aI (l, e)).2.2 /\ True else bif (2 : Int) != (0 : Int) then [] = (U.aI (l, e)).1 /\ List.take
 ((↑l.length : Int).toNat.sub (4 : Nat)) (List.drop (4 : Nat) l) = (U.aI (l, e)).2.1 /\ (2 : Int) = (U.aI (l, e)).2.2 /\ True else (0 : Int) <= (0 : Int) /\ (0 : Int) <= IntKind.i64.wrap (U.aO (List.take ((4 : Nat).sub (0 : Nat)) (List.drop (0 : Nat) l))) /\ IntKind.i64.wrap (U.aO (List.take ((4 : Nat).sub (0 : Nat)) (List.drop (0 : Nat) l))) <= (↑(List.take ((↑l.length : Int).toNat.sub (4 :
 Nat)) (List.drop (4 : Nat) l)).length : Int) /\ (0 : Int) <= IntKind.i64.wrap (U.aO (List.take ((4 : Nat).sub (0 : Nat)) (List.drop (0 : Nat) l))) /\ IntKind.i64.wrap (U.aO (List.take ((4 : Nat).sub (0 : Nat)) (List.drop (0 : Nat) l))) <= (↑(List.take ((↑l.length : Int).toNat.sub (4 : Nat)) (List.drop (4 : Nat) l)).length : Int) /\ (↑(List.take ((↑l.length : Int).toNat.sub (4 : Nat)) (List.drop (4 :
 Nat) l)).length : Int) <= (↑(List.take ((↑l.length : Int).toNat.sub (4 : Nat)) (List.drop (4 : Nat) l)).length : Int) /\ List.take ((IntKind.i64.wrap (U.aO (List.take ((4 : Nat).sub (0 : Nat)) (List.drop (0 : Nat) l)))).toNat.sub (0 : Nat)) (List.drop (0 : Nat) (List.take ((↑l.length : Int).toNat.sub (4 : Nat)) (List.drop (4 : Nat) l))) = (U.aI (l, e)).1 /\ List.take ((↑(List.take ((↑l.length :
 Int).toNat.sub (4 : Nat)) (List.drop (4 : Nat) l)).length : Int).toNat.sub (IntKind.i64.wrap (U.aO (List.take ((4 : Nat).sub (0 : Nat)) (List.drop (0 : Nat) l)))).toNat) (List.drop (IntKind.i64.wrap (U.aO (List.take ((4 : Nat).sub (0 : Nat)) (List.drop (0 : Nat) l)))).toNat (List.take ((↑l.length : Int).toNat.sub (4 : Nat)) (List.drop (4 : Nat) l))) = (U.aI (l, e)).2.1 /\ (2 : Int) = (U.aI
 (l, e)).2.2 /\ True else bif e != (0 : Int) then [] = (U.aI (l, e)).1 /\ l = (U.aI (l, e)).2.1 /\ e = (U.aI (l, e)).2.2 /\ True else (0 : Int) <= (0 : Int) /\ (0 : Int) <= (4 : Int) /\ (4 : Int) <= (↑l.length : Int) /\ (0 : Int) <= (4 : Int) /\ (4 : Int) <= (↑l.length : Int) /\ (↑l.length : Int) <= (↑l.length : Int) /\ (List.take ((4 : Nat).sub (0 : Nat)) (List.drop (0 : Nat) l)).length <= (8 : Nat) /\ bif
 bif decide (IntKind.i64.wrap (U.aO (List.take ((4 : Nat).sub (0 : Nat)) (List.drop (0 : Nat) l))) > (4096 : Int)) then decide (e = (0 : Int)) else false then bif bif decide ((↑(List.take ((↑l.length : Int).toNat.sub (4 : Nat)) (List.drop (4 : Nat) l)).length : Int) < IntKind.i64.wrap (U.aO (List.take ((4 : Nat).sub (0 : Nat)) (List.drop (0 : Nat) l)))) then decide ((4 : Int) = (0 : Int)) else
 false then bif (2 : Int) != (0 : Int) then [] = (U.aI (l, e)).1 /\ List.take ((↑l.length : Int).toNat.sub (4 : Nat)) (List.drop (4 : Nat) l) = (U.aI (l, e)).2.1 /\ (2 : Int) = (U.aI (l, e)).2.2 /\ True else (0 : Int) <= (0 : Int) /\ (0 : Int) <= IntKind.i64.wrap (U.aO (List.take ((4 : Nat).sub (0 : Nat)) (List.drop (0 : Nat) l))) /\ IntKind.i64.wrap (U.aO (List.take ((4 : Nat).sub (0 : Nat))
 (List.drop (0 : Nat) l))) <= (↑(List.take ((↑l.length : Int).toNat.sub (4 : Nat)) (List.drop (4 : Nat) l)).length : Int) /\ (0 : Int) <= IntKind.i64.wrap (U.aO (List.take ((4 : Nat).sub (0 : Nat)) (List.drop (0 : Nat) l))) /\ IntKind.i64.wrap (U.aO (List.take ((4 : Nat).sub (0 : Nat)) (List.drop (0 : Nat) l))) <= (↑(List.take ((↑l.length : Int).toNat.sub (4 : Nat)) (List.drop (4 : Nat) l)).length :
 Int) /\ (↑(List.take ((↑l.length : Int).toNat.sub (4 : Nat)) (List.drop (4 : Nat) l)).length : Int) <= (↑(List.take ((↑l.length : Int).toNat.sub (4 : Nat)) (List.drop (4 : Nat) l)).length : Int) /\ List.take ((IntKind.i64.wrap (U.aO (List.take ((4 : Nat).sub (0 : Nat)) (List.drop (0 : Nat) l)))).toNat.sub (0 : Nat)) (List.drop (0 : Nat) (List.take ((↑l.length : Int).toNat.sub (4 : Nat)) (List.drop
 (4 : Nat) l))) = (U.aI (l, e)).1 /\ List.take ((↑(List.take ((↑l.length : Int).toNat.sub (4 : Nat)) (List.drop (4 : Nat) l)).length : Int).toNat.sub (IntKind.i64.wrap (U.aO (List.take ((4 : Nat).sub (0 : Nat)) (List.drop (0 : Nat) l)))).toNat) (List.drop (IntKind.i64.wrap (U.aO (List.take ((4 : Nat).sub (0 : Nat)) (List.drop (0 : Nat) l)))).toNat (List.take ((↑l.length : Int).toNat.sub (4 :
 Nat)) (List.drop (4 : Nat) l))) = (U.aI (l, e)).2.1 /\ (2 : Int) = (U.aI (l, e)).2.2 /\ True else bif (4 : Int) != (0 : Int) then [] = (U.aI (l, e)).1 /\ List.take ((↑l.length : Int).toNat.sub (4 : Nat)) (List.drop (4 : Nat) l) = (U.aI (l, e)).2.1 /\ (4 : Int) = (U.aI (l, e)).2.2 /\ True else (0 : Int) <= (0 : Int) /\ (0 : Int) <= IntKind.i64.wrap (U.aO (List.take ((4 : Nat).sub (0 : Nat))
 (List.drop (0 : Nat) l))) /\ IntKind.i64.wrap (U.aO (List.take ((4 : Nat).sub (0 : Nat)) (List.drop (0 : Nat) l))) <= (↑(List.take ((↑l.length : Int).toNat.sub (4 : Nat)) (List.drop (4 : Nat) l)).length : Int) /\ (0 : Int) <= IntKind.i64.wrap (U.aO (List.take ((4 : Nat).sub (0 : Nat)) (List.drop (0 : Nat) l))) /\ IntKind.i64.wrap (U.aO (List.take ((4 : Nat).sub (0 : Nat)) (List.drop (0 : Nat) l)))
 <= (↑(List.take ((↑l.length : Int).toNat.sub (4 : Nat)) (List.drop (4 : Nat) l)).length : Int) /\ (↑(List.take ((↑l.length : Int).toNat.sub (4 : Nat)) (List.drop (4 : Nat) l)).length : Int) <= (↑(List.take ((↑l.length : Int).toNat.sub (4 : Nat)) (List.drop (4 : Nat) l)).length : Int) /\ List.take ((IntKind.i64.wrap (U.aO (List.take ((4 : Nat).sub (0 : Nat)) (List.drop (0 : Nat) l)))).toNat.sub (0 :
 Nat)) (List.drop (0 : Nat) (List.take ((↑l.length : Int).toNat.sub (4 : Nat)) (List.drop (4 : Nat) l))) = (U.aI (l, e)).1 /\ List.take ((↑(List.take ((↑l.length : Int).toNat.sub (4 : Nat)) (List.drop (4 : Nat) l)).length : Int).toNat.sub (IntKind.i64.wrap (U.aO (List.take ((4 : Nat).sub (0 : Nat)) (List.drop (0 : Nat) l)))).toNat) (List.drop (IntKind.i64.wrap (U.aO (List.take ((4 : Nat).sub
 (0 : Nat)) (List.drop (0 : Nat) l)))).toNat (List.take ((↑l.length : Int).toNat.sub (4 : Nat)) (List.drop (4 : Nat) l))) = (U.aI (l, e)).2.1 /\ (4 : Int) = (U.aI (l, e)).2.2 /\ True else bif bif decide ((↑(List.take ((↑l.length : Int).toNat.sub (4 : Nat)) (List.drop (4 : Nat) l)).length : Int) < IntKind.i64.wrap (U.aO (List.take ((4 : Nat).sub (0 : Nat)) (List.drop (0 : Nat) l)))) then decide
 (e = (0 : Int)) else false then bif (2 : Int) != (0 : Int) then [] = (U.aI (l, e)).1 /\ List.take ((↑l.length : Int).toNat.sub (4 : Nat)) (List.drop (4 : Nat) l) = (U.aI (l, e)).2.1 /\ (2 : Int) = (U.aI (l, e)).2.2 /\ True else (0 : Int) <= (0 : Int) /\ (0 : Int) <= IntKind.i64.wrap (U.aO (List.take ((4 : Nat).sub (0 : Nat)) (List.drop (0 : Nat) l))) /\ IntKind.i64.wrap (U.aO (List.take ((4 :
 Nat).sub (0 : Nat)) (List.drop (0 : Nat) l))) <= (↑(List.take ((↑l.length : Int).toNat.sub (4 : Nat)) (List.drop (4 : Nat) l)).length : Int) /\ (0 : Int) <= IntKind.i64.wrap (U.aO (List.take ((4 : Nat).sub (0 : Nat)) (List.drop (0 : Nat) l))) /\ IntKind.i64.wrap (U.aO (List.take ((4 : Nat).sub (0 : Nat)) (List.drop (0 : Nat) l))) <= (↑(List.take ((↑l.length : Int).toNat.sub (4 : Nat)) (List.drop (4
 : Nat) l)).length : Int) /\ (↑(List.take ((↑l.length : Int).toNat.sub (4 : Nat)) (List.drop (4 : Nat) l)).length : Int) <= (↑(List.take ((↑l.length : Int).toNat.sub (4 : Nat)) (List.drop (4 : Nat) l)).length : Int) /\ List.take ((IntKind.i64.wrap (U.aO (List.take ((4 : Nat).sub (0 : Nat)) (List.drop (0 : Nat) l)))).toNat.sub (0 : Nat)) (List.drop (0 : Nat) (List.take ((↑l.length : Int).toNat.sub (4
 : Nat)) (List.drop (4 : Nat) l))) = (U.aI (l, e)).1 /\ List.take ((↑(List.take ((↑l.length : Int).toNat.sub (4 : Nat)) (List.drop (4 : Nat) l)).length : Int).toNat.sub (IntKind.i64.wrap (U.aO (List.take ((4 : Nat).sub (0 : Nat)) (List.drop (0 : Nat) l)))).toNat) (List.drop (IntKind.i64.wrap (U.aO (List.take ((4 : Nat).sub (0 : Nat)) (List.drop (0 : Nat) l)))).toNat (List.take ((↑l.length :
 Int).toNat.sub (4 : Nat)) (List.drop (4 : Nat) l))) = (U.aI (l, e)).2.1 /\ (2 : Int) = (U.aI (l, e)).2.2 /\ True else bif e != (0 : Int) then [] = (U.aI (l, e)).1 /\ List.take ((↑l.length : Int).toNat.sub (4 : Nat)) (List.drop (4 : Nat) l) = (U.aI (l, e)).2.1 /\ e = (U.aI (l, e)).2.2 /\ True else (0 : Int) <= (0 : Int) /\ (0 : Int) <= IntKind.i64.wrap (U.aO (List.take ((4 : Nat).sub (0 :
 Nat)) (List.drop (0 : Nat) l))) /\ IntKind.i64.wrap (U.aO (List.take ((4 : Nat).sub (0 : Nat)) (List.drop (0 : Nat) l))) <= (↑(List.take ((↑l.length : Int).toNat.sub (4 : Nat)) (List.drop (4 : Nat) l)).length : Int) /\ (0 : Int) <= IntKind.i64.wrap (U.aO (List.take ((4 : Nat).sub (0 : Nat)) (List.drop (0 : Nat) l))) /\ IntKind.i64.wrap (U.aO (List.take ((4 : Nat).sub (0 : Nat)) (List.drop (0 :
 Nat) l))) <= (↑(List.take ((↑l.length : Int).toNat.sub (4 : Nat)) (List.drop (4 : Nat) l)).length : Int) /\ (↑(List.take ((↑l.length : Int).toNat.sub (4 : Nat)) (List.drop (4 : Nat) l)).length : Int) <= (↑(List.take ((↑l.length : Int).toNat.sub (4 : Nat)) (List.drop (4 : Nat) l)).length : Int) /\ List.take ((IntKind.i64.wrap (U.aO (List.take ((4 : Nat).sub (0 : Nat)) (List.drop (0 : Nat)
 l)))).toNat.sub (0 : Nat)) (List.drop (0 : Nat) (List.take ((↑l.length : Int).toNat.sub (4 : Nat)) (List.drop (4 : Nat) l))) = (U.aI (l, e)).1 /\ List.take ((↑(List.take ((↑l.length : Int).toNat.sub (4 : Nat)) (List.drop (4 : Nat) l)).length : Int).toNat.sub (IntKind.i64.wrap (U.aO (List.take ((4 : Nat).sub (0 : Nat)) (List.drop (0 : Nat) l)))).toNat) (List.drop (IntKind.i64.wrap (U.aO
 (List.take ((4 : Nat).sub (0 : Nat)) (List.drop (0 : Nat) l)))).toNat (List.take ((↑l.length : Int).toNat.sub (4 : Nat)) (List.drop (4 : Nat) l))) = (U.aI (l, e)).2.1 /\ e = (U.aI (l, e)).2.2 /\ True
def nM (l : List Int) (e : Int) (m : Int) : Prop := bif bif decide ((U.aj (l, e)).1 > m) then decide ((U.aj (l, e)).2.2 = (0 : Int)) else false then bif (4 : Int) != (0 : Int) then (0 : Int) = (U.aC m (l, e)).1 /\ (U.aj (l, e)).2.1 = (U.aC m (l, e)).2.1 /\ (4 : Int) = (U.aC m (l, e)).2.2 /\ True else (U.aj (l, e)).1 = (U.aC m (l, e)).1 /\ (U.aj (l, e)).2.1 =
 (U.aC m (l, e)).2.1 /\ (4 : Int) = (U.aC m (l, e)).2.2 /\ True else bif (U.aj (l, e)).2.2 != (0 : Int) then (0 : Int) = (U.aC m (l, e)).1 /\ (U.aj (l, e)).2.1 = (U.aC m (l, e)).2.1 /\ (U.aj (l, e)).2.2 = (U.aC m (l, e)).2.2 /\ True else (U.aj (l, e)).1 = (U.aC m (l, e)).1 /\ (U.aj (l, e)).2.1 = (U.aC m (l, e)).2.1 /\ (U.aj (l, e)).2.2 = (U.aC m (l, e)).2.2 /\
 True
def oK (l : List Int) (e : Int) (x : Bool) : Prop := bif bif x then decide (e = (0 : Int)) else false then l = (U.fH x (l, e)).1 /\ (3 : Int) = (U.fH x (l, e)).2 /\ True else l = (U.fH x (l, e)).1 /\ e = (U.fH x (l, e)).2 /\ True
def pY (l : List Int) (e : Int) : Prop := e = e /\ l = l /\ e = e /\ True
def oL (l : List Int) (e : Int) : Prop := (U.fH (decide ((↑l.length : Int) > (0 : Int))) (l, e)).2 = U.kZ (l, e) /\ (U.fH (decide ((↑l.length : Int) > (0 : Int))) (l, e)).1 = (U.fH (decide (l.length > (0 : Nat))) (l, e)).1 /\ (U.fH (decide ((↑l.length : Int) > (0 : Int))) (l, e)).2 = (U.fH (decide (l.length > (0 : Nat))) (l, e)).2 /\ True
def CW (a : List Int) (b : List Int) : Prop := a.beq b = decide (a = b) /\ True
end Go.Proofs.YtkhdeldobekciaaDoor
set_option linter.unusedSimpArgs false
set_option linter.unusedVariables false
set_option maxRecDepth 100000
namespace Go.Proofs.YtkhdeldobekciaaDoor
open Go.Vc
open Go.Vc.T
theorem qK (k : Nat) (n : Int) : (U.beN k n).length = k := by simp [U.beN]
theorem ac1 (k : Nat) (n : Int) (j : Nat) (h : j < (U.beN k n).length) : (U.beN k n)[j] = n / 2 ^ (8 * (k - 1 - j)) % 256 := by simp [U.beN]
theorem hp1 {a : Prop} {l : List Prop} (h : ∀ p ∈ a :: l, p) : a /\ ∀ p ∈ l, p := ⟨h _ (.head _), fun p hp => h p (List.mem_cons_of_mem _ hp)⟩
theorem dS (n : Int) : (U.num1 n).length = 8 := qK 8 _
theorem aa7 (x : Int) (l : List Int) : U.nums (x :: l) = U.num1 x ++ U.nums l := by simp [U.nums]
theorem Oo : ∀ l : List Int, (U.nums l).length = 8 * l.length
 | [] => rfl
 | x :: l => by rw [aa7, List.length_append, dS, Oo l, List.length_cons]; omega
theorem aa8 (l : List Int) (x : Int) : U.nums (l ++ [x]) = U.nums l ++ U.num1 x := by simp [U.nums]
theorem D8 (s : List Int) : (U.text1 s).length <= 4100 := by
 unfold U.text1; rw [List.length_append, qK, List.length_take]; omega
theorem ZX (l : List (List Int)) (x : List Int) : U.texts (l ++ [x]) = U.texts l ++ U.text1 x := by simp [U.texts]
theorem SN : ∀ l : List (List Int), (U.texts l).length <= 4100 * l.length
 | [] => Nat.le_refl _
 | x :: l => by
   have := D8 x
   have := SN l
   have : U.texts (x :: l) = U.text1 x ++ U.texts l := by simp [U.texts]
   rw [this, List.length_append, List.length_cons]; omega
theorem abY (n : Int) : 0 <= U.clamp n /\ U.clamp n <= 4611686018427387904 := by unfold U.clamp bG Bq; split <;> split <;> omega
theorem Oq (a : List Int) (x : Int) : U.aO (a ++ [x]) = U.aO a * 256 + x := by simp [U.aO, List.foldl_append]
theorem ac2 {l : List Int} {n : Nat} (h : l.length = n + 1) : ∃ a x, l = a ++ [x] /\ a.length = n := by
 refine ⟨l.take n, l[n], ?_, by rw [List.length_take]; omega⟩
 rw [<- List.take_succ_eq_append_getElem (by omega), List.take_of_length_le (by omega)]
theorem CX : ∀ (n : Nat) (l : List Int), l.length = n -> (∀ x ∈ l, Byte x) -> 0 <= U.aO l /\ U.aO l < 256 ^ n
 | 0, l, h, _ => by
   obtain rfl := List.length_eq_zero_iff.1 h
   exact ⟨Int.le_refl _, by decide⟩
 | n + 1, l, h, hb => by
   obtain ⟨a, x, rfl, ha⟩ := ac2 h
   have ih := CX n a ha fun y hy => hb y (List.mem_append_left _ hy)
   have hx := hb x (by simp)
   have hx0 : 0 <= x := hx.1
   have hx1 : x <= 255 := by have := hx.2; omega
   rw [Oq, Int.pow_succ]; omega
theorem sJ {l : List Int} (h : ∀ x ∈ l, Valid (.int .u8) x) : ∀ x ∈ l, Byte x := fun x hx => byte_of (h x hx)
theorem adD {a b : Nat} (h : a <= b) : (256 : Int) ^ a <= 256 ^ b := by
 have h2 : (256 : Nat) ^ a <= 256 ^ b := Nat.pow_le_pow_right (by decide) h
 exact_mod_cast h2
theorem WC (b : List Int) (n size : Int) (hp : ∀ p ∈ [1 <= size /\ size <= 8, b.length <= 2000000000000, 0 <= n], p) : CV b n size := by
 obtain ⟨h1, hp⟩ := hp1 hp
 obtain ⟨h2, hp⟩ := hp1 hp
 obtain ⟨h3, _⟩ := hp1 hp
 unfold CV
 simp only [cond_prop, gQ, iI, bU, iJ, ji, l9, fC, dB, jk, dW, iT, U.at_, maxLen_eq, decide_eq_true_eq, decide_eq_false_iff_not, bne_iff_ne, bne_eq_false_iff_eq, Bool.not_eq_true', Bool.not_eq_false', Bool.not_eq_eq_eq_not, Bool.not_true, Bool.not_false, beq_eq_false_iff_ne, beq_iff_eq, and_true, true_and, Bool.and_eq_true, Bool.or_eq_true, Bool.and_eq_false_iff, Bool.or_eq_false_iff, U.pK]
 refine ⟨(b, size - 1), ⟨by rw [dI (by omega) (by omega)], by show -1 <= size - 1; omega, by show size - 1 < size; omega, by simp⟩, ?_⟩
 rintro ⟨o, i⟩ ⟨i0, i1, ho⟩
 simp only [] at *
 have hl : (U.beN size.toNat n).length = size.toNat := qK _ _
 have hol : o.length <= b.length + 8 := by rw [ho, List.length_append, List.length_take]; omega
 refine ⟨fun hi => ?_, fun hi => ?_⟩
 ·have w1 : IntKind.i64.wrap (8 * i) = 8 * i := by rw [dI] <;> omega
  refine ⟨by rw [w1]; omega, by omega, by omega, (_, i - 1), by rw [dI (x := i - 1) (by omega) (by omega)], ⟨by show -1 <= i - 1; omega, by show i - 1 < size; omega, ?_⟩, by show (i - 1 + 1).toNat < _; omega⟩
  show o ++ [IntKind.u8.wrap _] = _
  rw [w1, wrap_u8]
  have hif : (if (8 * i).toNat <= IntKind.u64.bits then (8 * i).toNat else IntKind.u64.bits) = 8 * i.toNat := by
   have : IntKind.u64.bits = 64 := rfl
   rw [this, if_pos (by omega)]; omega
  rw [hif]
  have hf : n.fdiv (Int.pow 2 (8 * i.toNat)) = n / 2 ^ (8 * i.toNat) := Int.fdiv_eq_ediv_of_nonneg _ (Int.le_of_lt (Int.pow_pos (by decide)))
  rw [hf, ho, List.append_assoc, show (size - 1 - (i - 1)).toNat = (size - 1 - i).toNat + 1 by omega, List.take_succ_eq_append_getElem (by omega), ac1, show size.toNat - 1 - (size - 1 - i).toNat = i.toNat by omega]
 ·rw [ho, List.take_of_length_le (by omega)]
theorem ZY (b l : List Int) (h1 : b.length <= 1000000000000) (h2 : l.length <= 100000000000) : G8 b l := by
 unfold G8
 have key : ∀ x : List Int × Int, U.iq b l x.1 x.2 -> bif decide (x.snd < (↑l.length : Int)) then
  (0 : Int) <= x.snd /\ x.snd < (↑l.length : Int) /\ ((1 : Int) <= 8 /\ (8 : Int) <= 8) /\ x.fst.length <= 2000000000000 /\ (0 : Int) <= IntKind.u64.wrap (bG (Bq (l.getD x.snd.toNat 0) 0) 4611686018427387904) /\
    ∃ (y : List Int × Int), U.fG b l (x.fst.append (U.beN 8 (IntKind.u64.wrap (bG (Bq (l.getD x.snd.toNat 0) 0) 4611686018427387904)))) (IntKind.i64.wrap (x.snd.add 1)) = U.fG b l y.fst y.snd /\ U.iq b l y.fst y.snd /\ l.length.sub y.snd.toNat < l.length.sub x.snd.toNat
  else x.fst = b.append (U.nums l) /\ True := by
  rintro ⟨o, i⟩ ⟨⟨i0, i1⟩, ho⟩
  simp only [cond_prop, gQ, iI, bU, iJ, ji, l9, fC, dB, jk, dW, iT, U.at_, maxLen_eq, decide_eq_true_eq, decide_eq_false_iff_not, bne_iff_ne, bne_eq_false_iff_eq, Bool.not_eq_true', Bool.not_eq_false', Bool.not_eq_eq_eq_not, Bool.not_true, Bool.not_false, beq_eq_false_iff_ne, beq_iff_eq, and_true, true_and, Bool.and_eq_true, Bool.or_eq_true, Bool.and_eq_false_iff, Bool.or_eq_false_iff, U.iq] at *
  have hol : o.length = b.length + 8 * i.toNat := by rw [ho, List.length_append, Oo, List.length_take]; omega
  have hc := abY (l.getD i.toNat 0)
  have hw : IntKind.u64.wrap (bG (Bq (l.getD i.toNat 0) 0) 4611686018427387904) = U.clamp (l.getD i.toNat 0) := by
   show IntKind.u64.wrap (U.clamp _) = _
   rw [wrap_u64]; omega
  refine ⟨fun hi => ⟨i0, hi, by omega, by omega, by rw [hw]; omega, (_, i + 1), by rw [dI (x := i + 1) (by omega) (by omega)], ⟨⟨by show 0 <= i + 1; omega, by show i + 1 <= _; omega⟩, ?_⟩, by show l.length - (i + 1).toNat < _; omega⟩, fun hi => ?_⟩
  ·show o ++ U.beN 8 _ = _
   rw [hw, ho, take_at i0 hi, aa8, List.append_assoc, getD_at (by omega)]; rfl
  ·rw [ho, jV (by omega)]
 intro nb hnb _
 simp only [cond_prop, gQ, iI, bU, iJ, ji, l9, fC, dB, jk, dW, iT, U.at_, maxLen_eq, decide_eq_true_eq, decide_eq_false_iff_not, bne_iff_ne, bne_eq_false_iff_eq, Bool.not_eq_true', Bool.not_eq_false', Bool.not_eq_eq_eq_not, Bool.not_true, Bool.not_false, beq_eq_false_iff_ne, beq_iff_eq, and_true, true_and, Bool.and_eq_true, Bool.or_eq_true, Bool.and_eq_false_iff, Bool.or_eq_false_iff] at key ⊢
 refine ⟨fun hb => ⟨([], 0), ⟨rfl, ⟨by show (0 : Int) <= 0; omega, by show (0 : Int) <= _; omega⟩, ?_⟩, key⟩, fun hb => ⟨by omega, by omega, (b, 0), ⟨rfl, ⟨by show (0 : Int) <= 0; omega, by show (0 : Int) <= _; omega⟩, by simp [U.nums]⟩, key⟩⟩
 rw [List.length_eq_zero_iff.1 (hnb hb)]; rfl
theorem Yd (b : List Int) (l : List (List Int)) (h1 : b.length <= 1000000000000) (h2 : l.length <= 100000000) : EC b l := by
 unfold EC
 have hmin : ∀ s : List Int, (bG (s.length : Int) 4096).toNat = min s.length 4096 := fun s => by unfold bG; split <;> omega
 have hcut : ∀ s : List Int, List.take ((bG (s.length : Int) 4096).toNat.sub 0) (List.drop 0 s) = s.take 4096 := fun s => by
  rw [dB, hmin, Nat.sub_zero, List.drop_zero]
  by_cases h : s.length <= 4096
  ·rw [Nat.min_eq_left h, List.take_length, List.take_of_length_le h]
  ·rw [Nat.min_eq_right (by omega)]
 have hlen : ∀ s : List Int, IntKind.u64.wrap (((s.take 4096).length : Nat) : Int) = bG (s.length : Int) 4096 := fun s => by
  rw [wrap_u64, List.length_take]; unfold bG; split <;> omega
 have hb0 : ∀ s : List Int, 0 <= bG (s.length : Int) 4096 /\ bG (s.length : Int) 4096 <= s.length := fun s => by unfold bG; split <;> omega
 intro nb hnb _
 simp only [hcut, hlen]
 simp only [cond_prop, gQ, iI, bU, iJ, ji, l9, fC, dB, jk, dW, iT, U.at_, maxLen_eq, decide_eq_true_eq, decide_eq_false_iff_not, bne_iff_ne, bne_eq_false_iff_eq, Bool.not_eq_true', Bool.not_eq_false', Bool.not_eq_eq_eq_not, Bool.not_true, Bool.not_false, beq_eq_false_iff_ne, beq_iff_eq, and_true, true_and, Bool.and_eq_true, Bool.or_eq_true, Bool.and_eq_false_iff, Bool.or_eq_false_iff, U.jg]
 have key : ∀ x : List Int × Int, (0 <= x.2 /\ x.2 <= (l.length : Int)) /\ x.1 = b ++ U.texts (l.take x.2.toNat) -> x.1.length <= b.length + 4100 * l.length /\ (x.2 < (l.length : Int) -> x.1 ++ U.beN 4 (bG ((l.getD x.2.toNat []).length : Int) 4096) ++ (l.getD x.2.toNat []).take 4096 = b ++ U.texts (l.take (x.2 + 1).toNat)) := by
  rintro ⟨o, i⟩ ⟨⟨i0, i1⟩, ho⟩
  simp only [] at *
  have ht := SN (l.take i.toNat)
  rw [List.length_take] at ht
  have h4 : 4100 * min i.toNat l.length <= 4100 * l.length := Nat.mul_le_mul_left _ (by omega)
  refine ⟨by rw [ho, List.length_append]; omega, fun hi => ?_⟩
  rw [ho, take_at i0 hi, ZX, getD_at (by omega), List.append_assoc, List.append_assoc]; rfl
 have rnd : ∀ x : List Int × Int, (0 <= x.2 /\ x.2 <= (l.length : Int)) /\ x.1 = b ++ U.texts (l.take x.2.toNat) -> (x.2 < (l.length : Int) -> 0 <= x.2 /\ x.2 < (l.length : Int) /\ (0 : Int) <= 0 /\ 0 <= bG ((l.getD x.2.toNat []).length : Int) 4096 /\ bG ((l.getD x.2.toNat []).length : Int) 4096 <= ((l.getD x.2.toNat []).length : Int) /\ ((1 : Int) <= 4 /\ (4 : Int) <= 8) /\ x.1.length <= 2000000000000 /\ 0 <= bG ((l.getD x.2.toNat []).length : Int) 4096 /\ ((x.1 ++ U.beN 4 (bG ((l.getD x.2.toNat []).length : Int) 4096)).length + ((l.getD x.2.toNat []).take 4096).length) * 1 <= 140737488355328 /\ (x.1 ++ U.beN 4 (bG ((l.getD x.2.toNat []).length : Int) 4096)).length + ((l.getD x.2.toNat []).take 4096).length <= 9223372036854775807 /\
  ∃ y : List Int × Int, U.eH b l (x.1 ++ U.beN 4 (bG ((l.getD x.2.toNat []).length : Int) 4096) ++ (l.getD x.2.toNat []).take 4096) (IntKind.i64.wrap (x.2 + 1)) = U.eH b l y.1 y.2 /\ ((0 <= y.2 /\ y.2 <= (l.length : Int)) /\ y.1 = b ++ U.texts (l.take y.2.toNat)) /\ l.length - y.2.toNat < l.length - x.2.toNat) /\ (¬ x.2 < (l.length : Int) -> x.1 = b ++ U.texts l) := by
  rintro ⟨o, i⟩ ⟨⟨i0, i1⟩, ho⟩
  obtain ⟨k1, k2⟩ := key (o, i) ⟨⟨i0, i1⟩, ho⟩
  simp only [] at *
  have hm := hb0 (l.getD i.toNat [])
  refine ⟨fun hi => ⟨i0, hi, by omega, hm.1, hm.2, by omega, by omega, hm.1, ?_, ?_, (_, i + 1), by rw [dI (x := i + 1) (by omega) (by omega)], ⟨⟨by show 0 <= i + 1; omega, by show i + 1 <= _; omega⟩, k2 hi⟩, by show l.length - (i + 1).toNat < _; omega⟩, fun hi => ?_⟩
  ·rw [List.length_append, qK, List.length_take]; omega
  ·rw [List.length_append, qK, List.length_take]; omega
  ·rw [ho, jV (by omega)]
 refine ⟨fun hb => ⟨([], 0), ⟨rfl, ⟨by show (0 : Int) <= 0; omega, by show (0 : Int) <= _; omega⟩, ?_⟩, rnd⟩, fun hb => ⟨by omega, by omega, (b, 0), ⟨rfl, ⟨by show (0 : Int) <= 0; omega, by show (0 : Int) <= _; omega⟩, by simp [U.texts]⟩, rnd⟩⟩
 rw [List.length_eq_zero_iff.1 (hnb hb)]; rfl
theorem ac3 {a c : Int} (ha0 : 0 <= a) (ha1 : a < 72057594037927936) (hc0 : 0 <= c) (hc1 : c <= 255) : orK .u64 (a * 256) c = a * 256 + c := by
 obtain ⟨m, rfl⟩ := Int.eq_ofNat_of_zero_le ha0
 obtain ⟨d, rfl⟩ := Int.eq_ofNat_of_zero_le hc0
 unfold orK
 have e1 : BitVec.ofInt IntKind.u64.bits ((m : Int) * 256) = BitVec.ofNat 64 (m * 256) := by
  show BitVec.ofInt 64 _ = _
  rw [show (m : Int) * 256 = ((m * 256 : Nat) : Int) by push_cast; rfl, BitVec.ofInt_natCast]
 have e2 : BitVec.ofInt IntKind.u64.bits (d : Int) = BitVec.ofNat 64 d := BitVec.ofInt_natCast ..
 rw [e1, e2]
 have e3 : ((BitVec.ofNat 64 (m * 256)) ||| (BitVec.ofNat 64 d)).toNat = m * 256 + d := by
  rw [BitVec.toNat_or, BitVec.toNat_ofNat, BitVec.toNat_ofNat, Nat.mod_eq_of_lt (by omega), Nat.mod_eq_of_lt (by omega)]
  have := Nat.two_pow_add_eq_or_of_lt (i := 8) (b := d) (by omega) m
  rw [show m * 256 = 2 ^ 8 * m by omega, <- this]
 show IntKind.u64.wrap (((BitVec.ofNat 64 (m * 256)) ||| (BitVec.ofNat 64 d)).toNat : Int) = _
 rw [e3, wrap_u64]; omega
theorem TS (b : List Int) (hb : ∀ x ∈ b, Valid (.int .u8) x) (h8 : b.length <= 8) : zI b := by
 unfold zI
 simp only [aa0]
 simp only [cond_prop, gQ, iI, bU, iJ, ji, l9, fC, dB, jk, dW, iT, U.at_, maxLen_eq, decide_eq_true_eq, decide_eq_false_iff_not, bne_iff_ne, bne_eq_false_iff_eq, Bool.not_eq_true', Bool.not_eq_false', Bool.not_eq_eq_eq_not, Bool.not_true, Bool.not_false, beq_eq_false_iff_ne, beq_iff_eq, and_true, true_and, Bool.and_eq_true, Bool.or_eq_true, Bool.and_eq_false_iff, Bool.or_eq_false_iff, U.mF]
 refine ⟨(0, 0), ⟨rfl, ⟨by show (0 : Int) <= 0; omega, by show (0 : Int) <= _; omega⟩, rfl⟩, ?_⟩
 rintro ⟨n, i⟩ ⟨⟨i0, i1⟩, hn⟩
 simp only [] at *
 refine ⟨fun hi => ⟨i0, hi, by omega, (_, i + 1), by rw [dI (x := i + 1) (by omega) (by omega)], ⟨⟨by show 0 <= i + 1; omega, by show i + 1 <= _; omega⟩, ?_⟩, by show b.length - (i + 1).toNat < _; omega⟩, fun hi => ?_⟩
 ·have hv := CX i.toNat (b.take i.toNat) (by rw [List.length_take]; omega) (fun x hx => sJ hb x (List.mem_of_mem_take hx))
  rw [<- hn] at hv
  have h7 := adD (show i.toNat <= 7 by omega)
  have hx := vU8 (hb b[i.toNat] (List.getElem_mem (by omega)))
  show orK .u64 (IntKind.u64.wrap (n * Int.pow 2 (if 8 <= IntKind.u64.bits then 8 else IntKind.u64.bits))) (IntKind.u64.wrap (b.getD i.toNat 0)) = _
  have hp : (Int.pow 2 (if 8 <= IntKind.u64.bits then 8 else IntKind.u64.bits)) = 256 := rfl
  have h72 : (256 : Int) ^ 7 = 72057594037927936 := by decide
  rw [hp, getD_at (by omega), wrap_u64, wrap_u64, show n * 256 % 18446744073709551616 = n * 256 by omega, show b[i.toNat] % 18446744073709551616 = b[i.toNat] by omega, ac3 hv.1 (by omega) hx.1 hx.2, take_at i0 hi, Oq, hn]
 ·rw [hn, jV (by omega)]
theorem aa9 {l : List Int} {e : Int} (he : En (.obj [.psl false tU8 l, .int .i64 e])) : (∀ x ∈ l, Valid (.int .u8) x) /\ l.length <= maxLen := by
 have := he _ (.head _); exact this
theorem abZ (l : List Int) (k : Nat) : List.take (k - 0) (List.drop 0 l) = l.take k := by rw [List.drop_zero, Nat.sub_zero]
theorem UU (l : List Int) (k : Nat) : List.take ((l.length : Int).toNat - k) (List.drop k l) = l.drop k := List.take_of_length_le (by rw [List.length_drop]; omega)
theorem JW (l : List Int) (e : Int) (he : En (.obj [.psl false tU8 l, .int .i64 e])) : pX l e := by
 obtain ⟨hb, hl⟩ := aa9 he
 have hbb := sJ hb
 unfold pX U.aj
 simp only [dB, abZ, UU, gQ]
 by_cases h8 : l.length < 8
 ·have h8' : ((l.length : Int) < 8) := by omega
  by_cases h0 : e = 0
  ·simp [h8, h8', h0]
  ·simp [h8, h8', h0]
 ·have h8' : ¬ ((l.length : Int) < 8) := by omega
  have hv := CX 8 (l.take 8) (by rw [List.length_take]; omega) (fun x hx => hbb x (List.mem_of_mem_take hx))
  by_cases h0 : e = 0
  ·by_cases hg : U.aO (l.take 8) > 4611686018427387904
   ·simp [h8, h8', h0, hg]; omega
   ·rw [dI (x := U.aO (l.take 8)) (by omega) (by omega)]
    simp [h8, h8', h0, hg]; omega
  ·simp [h8, h8', h0]
theorem IL (l : List Int) (e : Int) (he : En (.obj [.psl false tU8 l, .int .i64 e])) : oJ l e := by
 obtain ⟨hb, hl⟩ := aa9 he
 have hbb := sJ hb
 unfold oJ U.aI
 simp only [dB, abZ, UU, gQ]
 by_cases h4 : l.length < 4
 ·have h4' : ((l.length : Int) < 4) := by omega
  by_cases h0 : e = 0
  ·simp [h4, h4', h0]
  ·simp [h4, h4', h0]
 ·have h4' : ¬ ((l.length : Int) < 4) := by omega
  have hv := CX 4 (l.take 4) (by rw [List.length_take]; omega) (fun x hx => hbb x (List.mem_of_mem_take hx))
  have h44 : (256 : Int) ^ 4 = 4294967296 := by decide
  by_cases h0 : e = 0
  ·rw [dI (x := U.aO (l.take 4)) (by omega) (by omega)]
   have hdl : (l.drop 4).length = l.length - 4 := List.length_drop
   generalize hD : l.drop 4 = D at *
   generalize hV : U.aO (l.take 4) = v at *
   by_cases hg : v > 4096
   ·simp [h4, h4', h0, hg]; omega
   ·by_cases hs : D.length < v.toNat
    ·have hs' : ((D.length : Int) < v) := by omega
     simp [h4, h4', h0, hg, hs, hs']; omega
    ·have hs' : ¬ ((D.length : Int) < v) := by omega
     have e1 : List.take (v.toNat - 0) (List.drop 0 D) = D.take v.toNat := abZ D _
     have e2 : List.take ((D.length : Int).toNat - v.toNat) (D.drop v.toNat) = D.drop v.toNat := UU D _
     simp [h4, h4', h0, hg, hs, hs']; omega
  ·simp [h4, h4', h0]
theorem abb {l : List Int} {e m : Int} (h : (U.aj (l, e)).2.2 ≠ 0) : (U.aj (l, e)).1 = 0 := by
 unfold U.aj at *
 by_cases h0 : e = 0
 ·by_cases h8 : l.length < 8
  ·simp [h0, h8]
  ·by_cases hg : U.aO (l.take 8) > 4611686018427387904
   ·simp [h0, h8, hg]
   ·simp [h0, h8, hg] at h
 ·simp [h0]
theorem G9 (l : List Int) (e m : Int) (he : En (.obj [.psl false tU8 l, .int .i64 e])) : nM l e m := by
 unfold nM U.aC
 have hn := abb (l := l) (e := e) (m := m)
 generalize U.aj (l, e) = r at *
 obtain ⟨v, l', e'⟩ := r
 simp only [] at *
 by_cases h0 : e' = 0 <;> by_cases hg : v > m <;> simp [h0, hg] <;> first | (exact (hn h0).symm) | skip
theorem IQ (l : List Int) (e : Int) (x : Bool) (he : En (.obj [.psl false tU8 l, .int .i64 e])) : oK l e x := by
 unfold oK U.fH
 by_cases h0 : e = 0 <;> cases x <;> simp [h0]
theorem JX (l : List Int) (e : Int) (he : En (.obj [.psl false tU8 l, .int .i64 e])) : pY l e := by
 unfold pY; simp
theorem IU (l : List Int) (e : Int) (he : En (.obj [.psl false tU8 l, .int .i64 e])) : oL l e := by
 unfold oL U.kZ
 have : decide ((l.length : Int) > 0) = decide (l.length > 0) := by rw [decide_eq_decide]; omega
 rw [this]; exact ⟨rfl, rfl, rfl, trivial⟩
theorem WE (a b : List Int) : CW a b := by unfold CW; simp only [iT, and_true]; rw [Bool.eq_iff_iff]; simp
end Go.Proofs.YtkhdeldobekciaaDoor
set_option linter.unusedSimpArgs false
set_option maxRecDepth 100000
set_option linter.unusedVariables false
namespace Go.Proofs.YtkhdeldobekciaaDoor
open Go.Vc
theorem Ye (b : List Int) (n : Int) (size : Int) : bY Tryd.prog (bC x9) (Ns b n size) 30 (JQ b n size) (JR b n size) (Ey b n size) = CV b n size := by kernel_rfl
theorem Z4 : vH Tryd.prog gl 30 AA := by
 refine pkg (l := x9) JO (fun args es d h => ?_) (fun args es d h hv he hp => ?_)
 ·unfold AA at h
  rcases fK h with h | h
  ·obtain ⟨b, n, size, rfl, rfl, rfl⟩ := D6 h
   rfl
  cases h
 ·unfold AA at h
  rcases fK h with h | h
  ·obtain ⟨b, n, size, rfl, rfl, rfl⟩ := D6 h
   refine ⟨Ns b n size, ?_⟩
   rw [Ye]
   exact WC b n size hp
  cases h
theorem Z5 : bH Tryd.prog gl 30 Qc := Z4
theorem Nw : bn AB := .cons Z5 JO
theorem abd (x : aQ [aN, kY]) : bY Tryd.prog (bC AB) (SL x.1 x.2) 15 (bV [aN, kY] x) [] (yX x.1 x.2) = G8 x.1 x.2 := by kernel_rfl
theorem abe : Pok 15 [aN, kY] (fun x => yX x.1 x.2) := by
 refine pk (L := fun x => SL x.1 x.2) (l := AB) Nw (fun _ => rfl) ?_
 intro x hv hp
 rw [abd]
 exact ZY x.1 x.2 (hp (List.length x.1 <= 1000000000000) (by simp [yX])) (hp (List.length x.2 <= 100000000000) (by simp [yX]))
theorem abf : bH Tryd.prog gl 15 SK := abe
theorem Qg : bn D7 := .cons abf Nw
theorem Z7 (x : aQ [aN, DZ]) : bY Tryd.prog (bC D7) (Qe x.1 x.2) 46 (bV [aN, DZ] x) [] (vU x.1 x.2) = EC x.1 x.2 := by kernel_rfl
theorem Z8 : Pok 46 [aN, DZ] (fun x => vU x.1 x.2) := by
 refine pk (L := fun x => Qe x.1 x.2) (l := D7) Qg (fun _ => rfl) ?_
 intro x hv hp
 rw [Z7]
 exact Yd x.1 x.2 (hp (List.length x.1 <= 1000000000000) (by simp [vU])) (hp (List.length x.2 <= 100000000) (by simp [vU]))
theorem Z9 : bH Tryd.prog gl 46 Qd := Z8
theorem Ny : bn AL := .cons Z9 Qg
theorem WG (x : aQ [aN]) : bY Tryd.prog (bC AL) (JV x) 51 (bV [aN] x) [] (vV x) = zI x := by kernel_rfl
theorem WH : Pok 51 [aN] (fun x => vV x) := by
 refine pk (L := fun x => JV x) (l := AL) Ny (fun _ => rfl) ?_
 intro x hv hp
 rw [WG]
 exact TS x hv.1 (hp (List.length x <= 8) (by simp [vV]))
theorem WI : bH Tryd.prog gl 51 JU := WH
theorem Ic : bn vW := .cons WI Ny
theorem Me (l : List Int) (e : Int) : bY Tryd.prog (bC vW) (zZ l e) 33 (yY l e) (yZ l e) (qZ l e) = pX l e := by kernel_rfl
theorem Ot : vH Tryd.prog gl 33 nG := by
 refine pkg (l := vW) Ic (fun args es d h => ?_) (fun args es d h hv he hp => ?_)
 ·unfold nG at h
  rcases fK h with h | h
  ·obtain ⟨l, e, rfl, rfl, rfl⟩ := uQ h
   rfl
  cases h
 ·unfold nG at h
  rcases fK h with h | h
  ·obtain ⟨l, e, rfl, rfl, rfl⟩ := uQ h
   refine ⟨zZ l e, ?_⟩
   rw [Me]
   exact JW l e (he _ (.head _))
  cases h
theorem Ou : bH Tryd.prog gl 33 CS := Ot
theorem Af : bn nH := .cons Ou Ic
theorem JY (l : List Int) (e : Int) : bY Tryd.prog (bC nH) (y7 l e) 65 (wM l e) (wO l e) (pR l e) = oJ l e := by kernel_rfl
theorem MB : vH Tryd.prog gl 65 lT := by
 refine pkg (l := nH) Af (fun args es d h => ?_) (fun args es d h hv he hp => ?_)
 ·unfold lT at h
  rcases fK h with h | h
  ·obtain ⟨l, e, rfl, rfl, rfl⟩ := rJ h
   rfl
  cases h
 ·unfold lT at h
  rcases fK h with h | h
  ·obtain ⟨l, e, rfl, rfl, rfl⟩ := rJ h
   refine ⟨y7 l e, ?_⟩
   rw [JY]
   exact IL l e (he _ (.head _))
  cases h
theorem MC : bH Tryd.prog gl 65 Aa := MB
theorem zk : bn lU := .cons MC Af
theorem IV (l : List Int) (e : Int) (m : Int) : bY Tryd.prog (bC lU) (wP l e m) 66 (vX l e m) (vY l e m) (oG l e m) = nM l e m := by kernel_rfl
theorem JZ : vH Tryd.prog gl 66 lq := by
 refine pkg (l := lU) zk (fun args es d h => ?_) (fun args es d h hv he hp => ?_)
 ·unfold lq at h
  rcases fK h with h | h
  ·obtain ⟨l, e, m, rfl, rfl, rfl⟩ := qQ h
   rfl
  cases h
 ·unfold lq at h
  rcases fK h with h | h
  ·obtain ⟨l, e, m, rfl, rfl, rfl⟩ := qQ h
   refine ⟨wP l e m, ?_⟩
   rw [IV]
   exact G9 l e m (he _ (.head _))
  cases h
theorem J3 : bH Tryd.prog gl 66 y8 := JZ
theorem wV : bn lu := .cons J3 zk
theorem J4 (l : List Int) (e : Int) (x : Bool) : bY Tryd.prog (bC lu) (y9 l e x) 34 (wQ l e x) (wR l e x) (pU l e x) = oK l e x := by kernel_rfl
theorem MF : vH Tryd.prog gl 34 lV := by
 refine pkg (l := lu) wV (fun args es d h => ?_) (fun args es d h hv he hp => ?_)
 ·unfold lV at h
  rcases fK h with h | h
  ·obtain ⟨l, e, x, rfl, rfl, rfl⟩ := rM h
   rfl
  cases h
 ·unfold lV at h
  rcases fK h with h | h
  ·obtain ⟨l, e, x, rfl, rfl, rfl⟩ := rM h
   refine ⟨y9 l e x, ?_⟩
   rw [J4]
   exact IQ l e x (he _ (.head _))
  cases h
theorem MG : bH Tryd.prog gl 34 Ac := MF
theorem zl : bn lW := .cons MG wV
theorem MH (l : List Int) (e : Int) : bY Tryd.prog (bC lW) (Ad l e) 35 (zf l e) (zh l e) (ru l e) = pY l e := by kernel_rfl
theorem Ov : vH Tryd.prog gl 35 nJ := by
 refine pkg (l := lW) zl (fun args es d h => ?_) (fun args es d h hv he hp => ?_)
 ·unfold nJ at h
  rcases fK h with h | h
  ·obtain ⟨l, e, rfl, rfl, rfl⟩ := uS h
   rfl
  cases h
 ·unfold nJ at h
  rcases fK h with h | h
  ·obtain ⟨l, e, rfl, rfl, rfl⟩ := uS h
   refine ⟨Ad l e, ?_⟩
   rw [MH]
   exact JX l e (he _ (.head _))
  cases h
theorem Ox : bH Tryd.prog gl 35 CU := Ov
theorem Ag : bn nK := .cons Ox zl
theorem J5 (l : List Int) (e : Int) : bY Tryd.prog (bC nK) (zi l e) 54 (wS l e) (wU l e) (pW l e) = oL l e := by kernel_rfl
theorem MI : vH Tryd.prog gl 54 lX := by
 refine pkg (l := nK) Ag (fun args es d h => ?_) (fun args es d h hv he hp => ?_)
 ·unfold lX at h
  rcases fK h with h | h
  ·obtain ⟨l, e, rfl, rfl, rfl⟩ := rO h
   rfl
  cases h
 ·unfold lX at h
  rcases fK h with h | h
  ·obtain ⟨l, e, rfl, rfl, rfl⟩ := rO h
   refine ⟨zi l e, ?_⟩
   rw [J5]
   exact IU l e (he _ (.head _))
  cases h
theorem MJ : bH Tryd.prog gl 54 Ae := MI
theorem zn : bn lY := .cons MJ Ag
theorem Yf (x : aQ [aN, aN]) : bY Tryd.prog (bC lY) (Nv x.1 x.2) 11 (bV [aN, aN] x) [] (Ez x.1 x.2) = CW x.1 x.2 := by kernel_rfl
theorem Yg : Pok 11 [aN, aN] (fun x => Ez x.1 x.2) := by
 refine pk (L := fun x => Nv x.1 x.2) (l := lY) zn (fun _ => rfl) ?_
 intro x hv hp
 rw [Yf]
 exact WE x.1 x.2
theorem Yh : bH Tryd.prog gl 11 Nu := Yg
theorem J6 : bn yg := .cons Yh zn
end Go.Proofs.YtkhdeldobekciaaDoor
