/- What functions of this seat compute, in plain Lean. -/
import Derived.Test.YtkhdeldobekciaaDoorPC
set_option linter.unusedVariables false
set_option linter.unusedSimpArgs false
set_option maxRecDepth 100000
namespace Go.Proofs.YtkhdeldobekciaaDoor
open Go.Vc
abbrev aG : Ty := .slice (.int .u8)
abbrev rY : Ty := .slice (.int .i64)
abbrev tU8 : Ty := .int .u8
namespace U
@[irreducible] def beN (k : Nat) (n : Int) : List Int := (List.range k).map fun j => n / 2 ^ (8 * (k - 1 - j)) % 256
def clamp (n : Int) : Int := bJ (uU n 0) 4611686018427387904
def num1 (n : Int) : List Int := beN 8 (clamp n)
def nums (l : List Int) : List Int := l.flatMap num1
def text1 (s : List Int) : List Int := beN 4 (bJ s.length 4096) ++ s.take 4096
def texts (l : List (List Int)) : List Int := l.flatMap text1
def aN (l : List Int) : Int := l.foldl (fun a x => a * 256 + x) 0
abbrev RS := List Int × Int
def ak (r : RS) : Int × RS := cond (decide (r.2 = 0)) (cond (decide (r.1.length < 8)) (0, r.1, 2) (cond (decide (aN (r.1.take 8) > 4611686018427387904)) (0, r.1.drop 8, 3) (aN (r.1.take 8), r.1.drop 8, 0))) (0, r)
def aO (r : RS) : List Int × RS := cond (decide (r.2 = 0)) (cond (decide (r.1.length < 4)) ([], r.1, 2) (cond (decide (aN (r.1.take 4) > 4096)) ([], r.1.drop 4, 4) (cond (decide ((r.1.drop 4).length < (aN (r.1.take 4)).toNat)) ([], r.1.drop 4, 2) ((r.1.drop 4).take (aN (r.1.take 4)).toNat, (r.1.drop 4).drop (aN (r.1.take 4)).toNat, 0)))) ([], r)
def gu (bad : Bool) (r : RS) : RS := cond (decide (r.2 = 0) && bad) (r.1, 3) r
def aH (m : Int) (r : RS) : Int × RS := cond (decide ((ak r).2.2 = 0) && decide ((ak r).1 > m)) (0, (ak r).2.1, 4) (ak r)
def lU (r : RS) : Int := (gu (decide (r.1.length > 0)) r).2
end U
namespace U
def oQ (b : List Int) (n size : Int) (o : List Int) (i : Int) : St2 := ⟨⟨[own 1] ++ [sK .u64 n] ++ U.n 5 ++ [sI i] ++ U.n 15, [], [(0, .dead), (1, .row 5 (.int .u8) true true o)]⟩, 2, []⟩
def qG (b : List Int) (n size : Int)  (o : List Int) (i : Int) : Prop := -1 <= i /\ i < size /\ o = b ++ (beN size.toNat n).take (size - 1 - i).toNat
def fH (b l : List Int) (o : List Int) (i : Int) : St2 := ⟨⟨[own 0] ++ U.n 8 ++ [sL false (.int .i64) l] ++ [sI l.length] ++ [sI i] ++ U.n 11, [], [(0, .row 5 (.int .u8) true true o)]⟩, 1, []⟩
def iJ (b l : List Int)  (o : List Int) (i : Int) : Prop := at_ l i /\ o = b ++ nums (l.take i.toNat)
def eX (b : List Int) (l : List (List Int)) (o : List Int) (i : Int) : St2 := ⟨⟨[own 0] ++ U.n 8 ++ [sL false .str l] ++ [sI l.length] ++ [sI i] ++ U.n 17, [], [(0, .row 5 (.int .u8) true true o)]⟩, 1, []⟩
def jv (b : List Int) (l : List (List Int))  (o : List Int) (i : Int) : Prop := at_ l i /\ o = b ++ texts (l.take i.toNat)
def lV (b : List Int) (n : Int) (i : Int) : St2 := ⟨⟨U.n 2 ++ [sK .u64 n] ++ U.n 2 ++ [sL false (.int .u8) b] ++ [sI b.length] ++ [sI i] ++ U.n 10, [], []⟩, 0, []⟩
def nM (b : List Int)  (n : Int) (i : Int) : Prop := at_ b i /\ n = aN (b.take i.toNat)
def lW (n size : Int) (o : List Int) (m : Int) (i : Int) : St2 := ⟨⟨[sI m] ++ U.n 4 ++ [own 0] ++ [sI i] ++ U.n 17, [], [(0, .row 5 (.int .u8) true true o)]⟩, 1, []⟩
def nN (n size : Int)  (o : List Int) (m : Int) (i : Int) : Prop := -1 <= i /\ i < size /\ m = n / 2 ^ (8 * (size - 1 - i).toNat) /\ o = List.replicate (i + 1).toNat 0 ++ (beN size.toNat n).drop (i + 1).toNat
end U
def Wx (b : List Int) (n size : Int) : Vc.Loop := ⟨{ keep := [0, 1, 7], wake := [(0, 5)] }, List Int × Int, fun x => U.oQ b n size x.1 x.2, fun x0 x => U.qG b n size  x.1 x.2, fun x => (x.2 + 1).toNat, fun p => ∀ x, p x, fun _ h => h⟩
def Zj (b l : List Int) : Vc.Loop := ⟨{ keep := [0, 9, 10, 11], wake := [(0, 5)] }, List Int × Int, fun x => U.fH b l x.1 x.2, fun x0 x => U.iJ b l  x.1 x.2, fun x => l.length - x.2.toNat, fun p => ∀ x, p x, fun _ h => h⟩
def WA (b : List Int) (l : List (List Int)) : Vc.Loop := ⟨{ keep := [0, 9, 10, 11], wake := [(0, 5)] }, List Int × Int, fun x => U.eX b l x.1 x.2, fun x0 x => U.jv b l  x.1 x.2, fun x => l.length - x.2.toNat, fun p => ∀ x, p x, fun _ h => h⟩
def SQ (b : List Int) : Vc.Loop := ⟨{ keep := [2, 5, 6, 7] }, Int × Int, fun x => U.lV b x.1 x.2, fun x0 x => U.nM b  x.1 x.2, fun x => b.length - x.2.toNat, fun p => ∀ x, p x, fun _ h => h⟩
def SS (n size : Int) : Vc.Loop := ⟨{ keep := [0, 5, 6] }, List Int × Int × Int, fun x => U.lW n size x.1 x.2.1 x.2.2, fun x0 x => U.nN n size  x.1 x.2.1 x.2.2, fun x => (x.2.2 + 1).toNat, fun p => ∀ x, p x, fun _ h => h⟩
def Gi (b : List Int) (n : Int) (size : Int) : Done := ⟨[1 <= size /\ size <= 8, b.length <= 2000000000000, 0 <= n], .one (.own 1), [.dead], [.row 5 (.int .u8) true true (b ++ U.beN size.toNat n)]⟩
def MN (b : List Int) (n : Int) (size : Int) : List V := [⟨false, [.own 0]⟩, ⟨false, [.int .u64 n]⟩, ⟨false, [.int .i64 size]⟩]
def MO (b : List Int) (n : Int) (size : Int) : List Entry := [.row 5 (.int .u8) true true b]
def PW (b : List Int) (n : Int) (size : Int) : Nat -> List V -> Nat -> Option Vc.Loop := fun f v k => cond (Nat.beq f 30 && Nat.beq k 2) (some (Wx b n size)) <| none
def En : List V -> List Entry -> Option Done
 | [⟨false, [.own n1]⟩, ⟨false, [.int .u64 n]⟩, ⟨false, [.int .i64 size]⟩], [.row n2 (.int .u8) true true b] => cond (Nat.beq n1 0 && Nat.beq n2 5) (some (Gi b n size)) none
 | _, _ => none
theorem FC {args : List V} {es : List Entry} {d : Done} (h : En args es = some d) : ∃ b n size, args = MN b n size /\ es = MO b n size /\ d = Gi b n size := by
 unfold En at h
 split at h
 ·obtain ⟨hb, hd⟩ := nU h; simp only [Bool.and_eq_true, Nat.beq_eq] at hb; (try obtain ⟨rfl, rfl⟩ := hb); subst hd; (try subst_vars); exact ⟨_, _, _, rfl, rfl, rfl⟩
 ·cases h
def CP (args : List V) (es : List Entry) : Option Done := orE (En args es) (none)
def SX : Vc.Sum := .gen CP
def CQ : List (Nat × Ent) := (30, .sum SX) :: xA
def Ag (b : List Int) (l : List Int) : Done := ⟨[b.length <= 1000000000000, l.length <= 100000000000], .one (.psl true (.int .u8) (b ++ U.nums l)), [], []⟩
def VA : Vc.Sum := .pure [aG, rY] false fun x => Ag x.1 x.2
def VB (b : List Int) (l : List Int) : Nat -> List V -> Nat -> Option Vc.Loop := fun f v k => cond (Nat.beq f 15 && Nat.beq k 3) (some (Zj b l)) <| none
def FD : List (Nat × Ent) := (15, .sum VA) :: CQ
def xB (b : List Int) (l : List (List Int)) : Done := ⟨[b.length <= 1000000000000, l.length <= 100000000], .one (.psl true (.int .u8) (b ++ U.texts l)), [], []⟩
def SY : Vc.Sum := .pure [aG, Fz] false fun x => xB x.1 x.2
def S9 (b : List Int) (l : List (List Int)) : Nat -> List V -> Nat -> Option Vc.Loop := fun f v k => cond (Nat.beq f 46 && Nat.beq k 3) (some (WA b l)) <| none
def CS : List (Nat × Ent) := (46, .sum SY) :: FD
def xC (b : List Int) : Done := ⟨[b.length <= 8], .one (.int .u64 (U.aN b)), [], []⟩
def MP : Vc.Sum := .pure [aG] false fun x => xC x
def MQ (b : List Int) : Nat -> List V -> Nat -> Option Vc.Loop := fun f v k => cond (Nat.beq f 51 && Nat.beq k 2) (some (SQ b)) <| none
def xE : List (Nat × Ent) := (51, .sum MP) :: CS
def sW (l : List Int) (e : Int) : Done := ⟨[], .one (.int .i64 (U.ak (l, e)).1), [.obj [.psl false tU8 ((U.ak (l, e)).2).1, .int .i64 ((U.ak (l, e)).2).2]], []⟩
def Ah (l : List Int) (e : Int) : List V := [⟨false, [.ptr 0 0]⟩]
def Ai (l : List Int) (e : Int) : List Entry := [.obj [.psl false tU8 l, .int .i64 e]]
def BN (l : List Int) (e : Int) : Nat -> List V -> Nat -> Option Vc.Loop := dw
def qH : List V -> List Entry -> Option Done
 | [⟨false, [.ptr n1 n2]⟩], [.obj [.psl false t3 l3, .int .i64 e]] => if h3 : t3 = tU8 then cond (Nat.beq n1 0 && Nat.beq n2 0) (some (sW (h3 ▸ l3 : List (Ty.den tU8)) e)) none else none
 | _, _ => none
theorem wo {args : List V} {es : List Entry} {d : Done} (h : qH args es = some d) : ∃ l e, args = Ah l e /\ es = Ai l e /\ d = sW l e := by
 unfold qH at h
 split at h
 ·split at h <;> first | (cases h; done) | skip
  rename_i ht; subst ht
  obtain ⟨hb, hd⟩ := nU h; simp only [Bool.and_eq_true, Nat.beq_eq] at hb; (try obtain ⟨rfl, rfl⟩ := hb); subst hd; (try subst_vars); exact ⟨_, _, rfl, rfl, rfl⟩
 ·cases h
def oH (args : List V) (es : List Entry) : Option Done := orE (qH args es) (none)
def Eo : Vc.Sum := .gen oH
def oI : List (Nat × Ent) := (33, .sum Eo) :: xE
def qI (l : List Int) (e : Int) : Done := ⟨[], .one (.str (U.aO (l, e)).1), [.obj [.psl false tU8 ((U.aO (l, e)).2).1, .int .i64 ((U.aO (l, e)).2).2]], []⟩
def yt (l : List Int) (e : Int) : List V := [⟨false, [.ptr 0 0]⟩]
def yu (l : List Int) (e : Int) : List Entry := [.obj [.psl false tU8 l, .int .i64 e]]
def Aj (l : List Int) (e : Int) : Nat -> List V -> Nat -> Option Vc.Loop := dw
def pJ : List V -> List Entry -> Option Done
 | [⟨false, [.ptr n1 n2]⟩], [.obj [.psl false t3 l3, .int .i64 e]] => if h3 : t3 = tU8 then cond (Nat.beq n1 0 && Nat.beq n2 0) (some (qI (h3 ▸ l3 : List (Ty.den tU8)) e)) none else none
 | _, _ => none
theorem tK {args : List V} {es : List Entry} {d : Done} (h : pJ args es = some d) : ∃ l e, args = yt l e /\ es = yu l e /\ d = qI l e := by
 unfold pJ at h
 split at h
 ·split at h <;> first | (cases h; done) | skip
  rename_i ht; subst ht
  obtain ⟨hb, hd⟩ := nU h; simp only [Bool.and_eq_true, Nat.beq_eq] at hb; (try obtain ⟨rfl, rfl⟩ := hb); subst hd; (try subst_vars); exact ⟨_, _, rfl, rfl, rfl⟩
 ·cases h
def ng (args : List V) (es : List Entry) : Option Done := orE (pJ args es) (none)
def BO : Vc.Sum := .gen ng
def ni : List (Nat × Ent) := (65, .sum BO) :: oI
def pK (l : List Int) (e : Int) (m : Int) : Done := ⟨[], .one (.int .i64 (U.aH m (l, e)).1), [.obj [.psl false tU8 ((U.aH m (l, e)).2).1, .int .i64 ((U.aH m (l, e)).2).2]], []⟩
def xG (l : List Int) (e : Int) (m : Int) : List V := [⟨false, [.ptr 0 0]⟩, ⟨false, [.int .i64 m]⟩]
def xH (l : List Int) (e : Int) (m : Int) : List Entry := [.obj [.psl false tU8 l, .int .i64 e]]
def yw (l : List Int) (e : Int) (m : Int) : Nat -> List V -> Nat -> Option Vc.Loop := dw
def oJ : List V -> List Entry -> Option Done
 | [⟨false, [.ptr n1 n2]⟩, ⟨false, [.int .i64 m]⟩], [.obj [.psl false t3 l3, .int .i64 e]] => if h3 : t3 = tU8 then cond (Nat.beq n1 0 && Nat.beq n2 0) (some (pK (h3 ▸ l3 : List (Ty.den tU8)) e m)) none else none
 | _, _ => none
theorem sN {args : List V} {es : List Entry} {d : Done} (h : oJ args es = some d) : ∃ l e m, args = xG l e m /\ es = xH l e m /\ d = pK l e m := by
 unfold oJ at h
 split at h
 ·split at h <;> first | (cases h; done) | skip
  rename_i ht; subst ht
  obtain ⟨hb, hd⟩ := nU h; simp only [Bool.and_eq_true, Nat.beq_eq] at hb; (try obtain ⟨rfl, rfl⟩ := hb); subst hd; (try subst_vars); exact ⟨_, _, _, rfl, rfl, rfl⟩
 ·cases h
def lX (args : List V) (es : List Entry) : Option Done := orE (oJ args es) (none)
def Ak : Vc.Sum := .gen lX
def lY : List (Nat × Ent) := (66, .sum Ak) :: ni
def qJ (l : List Int) (e : Int) (x : Bool) : Done := ⟨[], .tup [], [.obj [.psl false tU8 (U.gu x (l, e)).1, .int .i64 (U.gu x (l, e)).2]], []⟩
def yx (l : List Int) (e : Int) (x : Bool) : List V := [⟨false, [.ptr 0 0]⟩, ⟨false, [.bool x]⟩]
def yA (l : List Int) (e : Int) (x : Bool) : List Entry := [.obj [.psl false tU8 l, .int .i64 e]]
def Am (l : List Int) (e : Int) (x : Bool) : Nat -> List V -> Nat -> Option Vc.Loop := dw
def pO : List V -> List Entry -> Option Done
 | [⟨false, [.ptr n1 n2]⟩, ⟨false, [.bool x]⟩], [.obj [.psl false t3 l3, .int .i64 e]] => if h3 : t3 = tU8 then cond (Nat.beq n1 0 && Nat.beq n2 0) (some (qJ (h3 ▸ l3 : List (Ty.den tU8)) e x)) none else none
 | _, _ => none
theorem tN {args : List V} {es : List Entry} {d : Done} (h : pO args es = some d) : ∃ l e x, args = yx l e x /\ es = yA l e x /\ d = qJ l e x := by
 unfold pO at h
 split at h
 ·split at h <;> first | (cases h; done) | skip
  rename_i ht; subst ht
  obtain ⟨hb, hd⟩ := nU h; simp only [Bool.and_eq_true, Nat.beq_eq] at hb; (try obtain ⟨rfl, rfl⟩ := hb); subst hd; (try subst_vars); exact ⟨_, _, _, rfl, rfl, rfl⟩
 ·cases h
def ny (args : List V) (es : List Entry) : Option Done := orE (pO args es) (none)
def BP : Vc.Sum := .gen ny
def nC : List (Nat × Ent) := (34, .sum BP) :: lY
def sZ (l : List Int) (e : Int) : Done := ⟨[], .one (.int .i64 e), [.obj [.psl false tU8 ((l, e)).1, .int .i64 ((l, e)).2]], []⟩
def Ap (l : List Int) (e : Int) : List V := [⟨false, [.ptr 0 0]⟩]
def Aq (l : List Int) (e : Int) : List Entry := [.obj [.psl false tU8 l, .int .i64 e]]
def BQ (l : List Int) (e : Int) : Nat -> List V -> Nat -> Option Vc.Loop := dw
def qK : List V -> List Entry -> Option Done
 | [⟨false, [.ptr n1 n2]⟩], [.obj [.psl false t3 l3, .int .i64 e]] => if h3 : t3 = tU8 then cond (Nat.beq n1 0 && Nat.beq n2 0) (some (sZ (h3 ▸ l3 : List (Ty.den tU8)) e)) none else none
 | _, _ => none
theorem wu {args : List V} {es : List Entry} {d : Done} (h : qK args es = some d) : ∃ l e, args = Ap l e /\ es = Aq l e /\ d = sZ l e := by
 unfold qK at h
 split at h
 ·split at h <;> first | (cases h; done) | skip
  rename_i ht; subst ht
  obtain ⟨hb, hd⟩ := nU h; simp only [Bool.and_eq_true, Nat.beq_eq] at hb; (try obtain ⟨rfl, rfl⟩ := hb); subst hd; (try subst_vars); exact ⟨_, _, rfl, rfl, rfl⟩
 ·cases h
def oK (args : List V) (es : List Entry) : Option Done := orE (qK args es) (none)
def Ep : Vc.Sum := .gen oK
def oL : List (Nat × Ent) := (35, .sum Ep) :: nC
def qL (l : List Int) (e : Int) : Done := ⟨[], .one (.int .i64 (U.lU (l, e))), [.obj [.psl false tU8 (U.gu (decide (l.length > 0)) (l, e)).1, .int .i64 (U.gu (decide (l.length > 0)) (l, e)).2]], []⟩
def yB (l : List Int) (e : Int) : List V := [⟨false, [.ptr 0 0]⟩]
def yC (l : List Int) (e : Int) : List Entry := [.obj [.psl false tU8 l, .int .i64 e]]
def Ar (l : List Int) (e : Int) : Nat -> List V -> Nat -> Option Vc.Loop := dw
def pR : List V -> List Entry -> Option Done
 | [⟨false, [.ptr n1 n2]⟩], [.obj [.psl false t3 l3, .int .i64 e]] => if h3 : t3 = tU8 then cond (Nat.beq n1 0 && Nat.beq n2 0) (some (qL (h3 ▸ l3 : List (Ty.den tU8)) e)) none else none
 | _, _ => none
theorem tV {args : List V} {es : List Entry} {d : Done} (h : pR args es = some d) : ∃ l e, args = yB l e /\ es = yC l e /\ d = qL l e := by
 unfold pR at h
 split at h
 ·split at h <;> first | (cases h; done) | skip
  rename_i ht; subst ht
  obtain ⟨hb, hd⟩ := nU h; simp only [Bool.and_eq_true, Nat.beq_eq] at hb; (try obtain ⟨rfl, rfl⟩ := hb); subst hd; (try subst_vars); exact ⟨_, _, rfl, rfl, rfl⟩
 ·cases h
def nD (args : List V) (es : List Entry) : Option Done := orE (pR args es) (none)
def BR : Vc.Sum := .gen nD
def nG : List (Nat × Ent) := (54, .sum BR) :: oL
def qM (n : Int) (size : Int) : Done := ⟨[1 <= size /\ size <= 8, 0 <= n], .one (.psl true (.int .u8) (U.beN size.toNat n)), [], []⟩
def MR : Vc.Sum := .pure [.int .i64, .int .i64] false fun x => qM x.1 x.2
def MS (n : Int) (size : Int) : Nat -> List V -> Nat -> Option Vc.Loop := fun f v k => cond (Nat.beq f 42 && Nat.beq k 3) (some (SS n size)) <| none
def xI : List (Nat × Ent) := (42, .sum MR) :: nG
def CU (b : List Int) (n : Int) : Done := ⟨[b.length <= 1000000000000], .one (.psl true (.int .u8) (b ++ U.num1 n)), [], []⟩
def Tc : Vc.Sum := .pure [aG, .int .i64] false fun x => CU x.1 x.2
def Td (b : List Int) (n : Int) : Nat -> List V -> Nat -> Option Vc.Loop := dw
def CV : List (Nat × Ent) := (22, .sum Tc) :: xI
def zx (b : List Int) (s : List Int) : Done := ⟨[b.length <= 1000000000000], .one (.psl true (.int .u8) (b ++ U.text1 s)), [], []⟩
def PX : Vc.Sum := .pure [aG, .str] false fun x => zx x.1 x.2
def PY (b : List Int) (s : List Int) : Nat -> List V -> Nat -> Option Vc.Loop := dw
def zy : List (Nat × Ent) := (24, .sum PX) :: CV
def Gj (a : List Int) (b : List Int) : Done := ⟨[], .one (.bool (decide (a = b))), [], []⟩
def PZ : Vc.Sum := .pure [aG, aG] false fun x => Gj x.1 x.2
def P5 (a : List Int) (b : List Int) : Nat -> List V -> Nat -> Option Vc.Loop := dw
def zA : List (Nat × Ent) := (11, .sum PZ) :: zy
end Go.Proofs.YtkhdeldobekciaaDoor
set_option maxRecDepth 100000
set_option linter.unusedVariables false
namespace Go.Proofs.YtkhdeldobekciaaDoor
open Go.Vc
def Es (b : List Int) (n : Int) (size : Int) : Prop := ∃ (x0 : List Int × Int), (U.oQ b n size b (IntKind.i64.wrap (size.sub (1 : Int))) = U.oQ b n size x0.1 x0.2 /\ U.qG b n size x0.1 x0.2) /\ ∀ (x : List Int × Int), U.qG b n size x.1 x.2 -> bif decide (x.2 >= (0 : Int)) then (0 : Int) <= IntKind.i64.wrap (Int.mul (8 : Int) x.2) /\ (x.1.length.add ((1
 : Nat))).mul (1 : Nat) <= (140737488355328 : Nat) /\ x.1.length.add ((1 : Nat)) <= maxLen /\ ∃ (y : List Int × Int), U.oQ b n size (x.1.append ([(0 : Int)].set (0 : Nat) (IntKind.u8.wrap (n.fdiv (Int.pow (2 : Int) (if (IntKind.i64.wrap (Int.mul (8 : Int) x.2)).toNat <= IntKind.u64.bits then (IntKind.i64.wrap (Int.mul (8 : Int) x.2)).toNat else IntKind.u64.bits)))))) (IntKind.i64.wrap (x.2.sub
 (1 : Int))) = U.oQ b n size y.1 y.2 /\ U.qG b n size y.1 y.2 /\ (y.2.add (1 : Int)).toNat < (x.2.add (1 : Int)).toNat else x.1 = b.append (U.beN size.toNat n) /\ True
def Je (b : List Int) (l : List Int) : Prop := ∀ (nb : Bool), (nb = true -> b.length = (0 : Nat)) -> (false = true -> nb = true) -> bif nb then ∃ (x0 : List Int × Int), (U.fH b l [] (0 : Int) = U.fH b l x0.1 x0.2 /\ U.iJ b l x0.1 x0.2) /\ ∀ (x : List Int × Int), U.iJ b l x.1 x.2 -> bif decide (x.2 < (↑l.length : Int)) then (0 : Int) <= x.2 /\ x.2 < (↑l.length :
 Int) /\ ((1 : Int) <= (8 : Int) /\ (8 : Int) <= (8 : Int)) /\ x.1.length <= (2000000000000 : Nat) /\ (0 : Int) <= IntKind.u64.wrap (bJ (uU (l.getD x.2.toNat (0 : Int)) (0 : Int)) (4611686018427387904 : Int)) /\ ∃ (y : List Int × Int), U.fH b l (x.1.append (U.beN (8 : Nat) (IntKind.u64.wrap (bJ (uU (l.getD x.2.toNat (0 : Int)) (0 : Int)) (4611686018427387904 : Int))))) (IntKind.i64.wrap
 (x.2.add (1 : Int))) = U.fH b l y.1 y.2 /\ U.iJ b l y.1 y.2 /\ l.length.sub y.2.toNat < l.length.sub x.2.toNat else x.1 = b.append (U.nums l) /\ True else (Nat.add (0 : Nat) b.length).mul (1 : Nat) <= (140737488355328 : Nat) /\ Nat.add (0 : Nat) b.length <= maxLen /\ ∃ (x0 : List Int × Int), (U.fH b l b (0 : Int) = U.fH b l x0.1 x0.2 /\ U.iJ b l x0.1 x0.2) /\
 ∀ (x : List Int × Int), U.iJ b l x.1 x.2 -> bif decide (x.2 < (↑l.length : Int)) then (0 : Int) <= x.2 /\ x.2 < (↑l.length : Int) /\ ((1 : Int) <= (8 : Int) /\ (8 : Int) <= (8 : Int)) /\ x.1.length <= (2000000000000 : Nat) /\ (0 : Int) <= IntKind.u64.wrap (bJ (uU (l.getD x.2.toNat (0 : Int)) (0 : Int)) (4611686018427387904 : Int)) /\ ∃ (y : List Int × Int), U.fH b l (x.1.append (U.beN (8
 : Nat) (IntKind.u64.wrap (bJ (uU (l.getD x.2.toNat (0 : Int)) (0 : Int)) (4611686018427387904 : Int))))) (IntKind.i64.wrap (x.2.add (1 : Int))) = U.fH b l y.1 y.2 /\ U.iJ b l y.1 y.2 /\ l.length.sub y.2.toNat < l.length.sub x.2.toNat else x.1 = b.append (U.nums l) /\ True
def Gl (b : List Int) (l : List (List Int)) : Prop := ∀ (nb : Bool), (nb = true -> b.length = (0 : Nat)) -> (false = true -> nb = true) -> bif nb then ∃ (x0 : List Int × Int), (U.eX b l [] (0 : Int) = U.eX b l x0.1 x0.2 /\ U.jv b l x0.1 x0.2) /\ ∀ (x : List Int × Int), U.jv b l x.1 x.2 -> bif decide (x.2 < (↑l.length : Int)) then (0 : Int) <= x.2 /\ x.2 <
 (↑l.length : Int) /\ (0 : Int) <= (0 : Int) /\ (0 : Int) <= bJ (↑(l.getD x.2.toNat []).length : Int) (4096 : Int) /\ bJ (↑(l.getD x.2.toNat []).length : Int) (4096 : Int) <= (↑(l.getD x.2.toNat []).length : Int) /\ ((1 : Int) <= (4 : Int) /\ (4 : Int) <= (8 : Int)) /\ x.1.length <= (2000000000000 : Nat) /\ (0 : Int) <= IntKind.u64.wrap (↑(List.take ((bJ (↑(l.getD x.2.toNat []).length : Int) (4096 :
 Int)).toNat.sub (0 : Nat)) (List.drop (0 : Nat) (l.getD x.2.toNat []))).length : Int) /\ ((x.1.append (U.beN (4 : Nat) (IntKind.u64.wrap (↑(List.take ((bJ (↑(l.getD x.2.toNat []).length : Int) (4096 : Int)).toNat.sub (0 : Nat)) (List.drop (0 : Nat) (l.getD x.2.toNat []))).length : Int)))).length.add (List.take ((bJ (↑(l.getD x.2.toNat []).length : Int) (4096 : Int)).toNat.sub (0 : Nat))
 (List.drop (0 : Nat) (l.getD x.2.toNat []))).length).mul (1 : Nat) <= (140737488355328 : Nat) /\ (x.1.append (U.beN (4 : Nat) (IntKind.u64.wrap (↑(List.take ((bJ (↑(l.getD x.2.toNat []).length : Int) (4096 : Int)).toNat.sub (0 : Nat)) (List.drop (0 : Nat) (l.getD x.2.toNat []))).length : Int)))).length.add (List.take ((bJ (↑(l.getD x.2.toNat []).length : Int) (4096 : Int)).toNat.sub (0 : Nat))
 (List.drop (0 : Nat) (l.getD x.2.toNat []))).length <= maxLen /\ ∃ (y : List Int × Int), U.eX b l ((x.1.append (U.beN (4 : Nat) (IntKind.u64.wrap (↑(List.take ((bJ (↑(l.getD x.2.toNat []).length : Int) (4096 : Int)).toNat.sub (0 : Nat)) (List.drop (0 : Nat) (l.getD x.2.toNat []))).length : Int)))).append (List.take ((bJ (↑(l.getD x.2.toNat []).length : Int) (4096 : Int)).toNat.sub (0 :
 Nat)) (List.drop (0 : Nat) (l.getD x.2.toNat [])))) (IntKind.i64.wrap (x.2.add (1 : Int))) = U.eX b l y.1 y.2 /\ U.jv b l y.1 y.2 /\ l.length.sub y.2.toNat < l.length.sub x.2.toNat else x.1 = b.append (U.texts l) /\ True else (Nat.add (0 : Nat) b.length).mul (1 : Nat) <= (140737488355328 : Nat) /\ Nat.add (0 : Nat) b.length <= maxLen /\ ∃ (x0 : List Int × Int), (U.eX b l b
 (0 : Int) = U.eX b l x0.1 x0.2 /\ U.jv b l x0.1 x0.2) /\ ∀ (x : List Int × Int), U.jv b l x.1 x.2 -> bif decide (x.2 < (↑l.length : Int)) then (0 : Int) <= x.2 /\ x.2 < (↑l.length : Int) /\ (0 : Int) <= (0 : Int) /\ (0 : Int) <= bJ (↑(l.getD x.2.toNat []).length : Int) (4096 : Int) /\ bJ (↑(l.getD x.2.toNat []).length : Int) (4096 : Int) <= (↑(l.getD x.2.toNat []).length :
 Int) /\ ((1 : Int) <= (4 : Int) /\ (4 : Int) <= (8 : Int)) /\ x.1.length <= (2000000000000 : Nat) /\ (0 : Int) <= IntKind.u64.wrap (↑(List.take ((bJ (↑(l.getD x.2.toNat []).length : Int) (4096 : Int)).toNat.sub (0 : Nat)) (List.drop (0 : Nat) (l.getD x.2.toNat []))).length : Int) /\ ((x.1.append (U.beN (4 : Nat) (IntKind.u64.wrap (↑(List.take ((bJ (↑(l.getD x.2.toNat []).length : Int) (4096 :
 Int)).toNat.sub (0 : Nat)) (List.drop (0 : Nat) (l.getD x.2.toNat []))).length : Int)))).length.add (List.take ((bJ (↑(l.getD x.2.toNat []).length : Int) (4096 : Int)).toNat.sub (0 : Nat)) (List.drop (0 : Nat) (l.getD x.2.toNat []))).length).mul (1 : Nat) <= (140737488355328 : Nat) /\ (x.1.append (U.beN (4 : Nat) (IntKind.u64.wrap (↑(List.take ((bJ (↑(l.getD x.2.toNat []).length : Int) (4096 :
 Int)).toNat.sub (0 : Nat)) (List.drop (0 : Nat) (l.getD x.2.toNat []))).length : Int)))).length.add (List.take ((bJ (↑(l.getD x.2.toNat []).length : Int) (4096 : Int)).toNat.sub (0 : Nat)) (List.drop (0 : Nat) (l.getD x.2.toNat []))).length <= maxLen /\ ∃ (y : List Int × Int), U.eX b l ((x.1.append (U.beN (4 : Nat) (IntKind.u64.wrap (↑(List.take ((bJ (↑(l.getD x.2.toNat []).length :
 Int) (4096 : Int)).toNat.sub (0 : Nat)) (List.drop (0 : Nat) (l.getD x.2.toNat []))).length : Int)))).append (List.take ((bJ (↑(l.getD x.2.toNat []).length : Int) (4096 : Int)).toNat.sub (0 : Nat)) (List.drop (0 : Nat) (l.getD x.2.toNat [])))) (IntKind.i64.wrap (x.2.add (1 : Int))) = U.eX b l y.1 y.2 /\ U.jv b l y.1 y.2 /\ l.length.sub y.2.toNat < l.length.sub x.2.toNat else
 x.1 = b.append (U.texts l) /\ True
def Bc (b : List Int) : Prop := ∃ (x0 : Int × Int), (U.lV b (0 : Int) (0 : Int) = U.lV b x0.1 x0.2 /\ U.nM b x0.1 x0.2) /\ ∀ (x : Int × Int), U.nM b x.1 x.2 -> bif decide (x.2 < (↑b.length : Int)) then (0 : Int) <= x.2 /\ x.2 < (↑b.length : Int) /\ (0 : Int) <= (8 : Int) /\ ∃ (y : Int × Int), U.lV b (IntKind.u64.wrap (↑((BitVec.ofInt
 IntKind.u64.bits (IntKind.u64.wrap (x.1.mul (Int.pow (2 : Int) (if (8 : Nat) <= IntKind.u64.bits then (8 : Nat) else IntKind.u64.bits))))).or (BitVec.ofInt IntKind.u64.bits (IntKind.u64.wrap (b.getD x.2.toNat (0 : Int))))).toNat : Int)) (IntKind.i64.wrap (x.2.add (1 : Int))) = U.lV b y.1 y.2 /\ U.nM b y.1 y.2 /\ b.length.sub y.2.toNat < b.length.sub x.2.toNat else x.1 = U.aN
 b /\ True
def qN (l : List Int) (e : Int) : Prop := bif bif decide ((↑l.length : Int) < (8 : Int)) then decide (e = (0 : Int)) else false then bif (2 : Int) != (0 : Int) then (0 : Int) = (U.ak (l, e)).1 /\ l = (U.ak (l, e)).2.1 /\ (2 : Int) = (U.ak (l, e)).2.2 /\ True else (0 : Int) <= (0 : Int) /\ (0 : Int) <= (8 : Int) /\ (8 : Int) <= (↑l.length : Int) /\ (0 : Int) <= (8 : Int) /\ (8 : Int) <=
 (↑l.length : Int) /\ (↑l.length : Int) <= (↑l.length : Int) /\ (List.take ((8 : Nat).sub (0 : Nat)) (List.drop (0 : Nat) l)).length <= (8 : Nat) /\ bif bif decide (U.aN (List.take ((8 : Nat).sub (0 : Nat)) (List.drop (0 : Nat) l)) > (4611686018427387904 : Int)) then decide ((2 : Int) = (0 : Int)) else false then bif (3 : Int) != (0 : Int) then (0 : Int) = (U.ak (l, e)).1 /\ List.take ((↑l.length :
 Int).toNat.sub (8 : Nat)) (List.drop (8 : Nat) l) = (U.ak (l, e)).2.1 /\ (3 : Int) = (U.ak (l, e)).2.2 /\ True else IntKind.i64.wrap (U.aN (List.take ((8 : Nat).sub (0 : Nat)) (List.drop (0 : Nat) l))) = (U.ak (l, e)).1 /\ List.take ((↑l.length : Int).toNat.sub (8 : Nat)) (List.drop (8 : Nat) l) = (U.ak (l, e)).2.1 /\ (3 : Int) = (U.ak (l, e)).2.2 /\ True else bif (2 : Int) != (0 : Int) then
 (0 : Int) = (U.ak (l, e)).1 /\ List.take ((↑l.length : Int).toNat.sub (8 : Nat)) (List.drop (8 : Nat) l) = (U.ak (l, e)).2.1 /\ (2 : Int) = (U.ak (l, e)).2.2 /\ True else IntKind.i64.wrap (U.aN (List.take ((8 : Nat).sub (0 : Nat)) (List.drop (0 : Nat) l))) = (U.ak (l, e)).1 /\ List.take ((↑l.length : Int).toNat.sub (8 : Nat)) (List.drop (8 : Nat) l) = (U.ak (l, e)).2.1 /\ (2 : Int) = (U.ak
 (l, e)).2.2 /\ True else bif e != (0 : Int) then (0 : Int) = (U.ak (l, e)).1 /\ l = (U.ak (l, e)).2.1 /\ e = (U.ak (l, e)).2.2 /\ True else (0 : Int) <= (0 : Int) /\ (0 : Int) <= (8 : Int) /\ (8 : Int) <= (↑l.length : Int) /\ (0 : Int) <= (8 : Int) /\ (8 : Int) <= (↑l.length : Int) /\ (↑l.length : Int) <= (↑l.length : Int) /\ (List.take ((8 : Nat).sub (0 : Nat)) (List.drop (0 : Nat) l)).length <= (8 : Nat) /\
 bif bif decide (U.aN (List.take ((8 : Nat).sub (0 : Nat)) (List.drop (0 : Nat) l)) > (4611686018427387904 : Int)) then decide (e = (0 : Int)) else false then bif (3 : Int) != (0 : Int) then (0 : Int) = (U.ak (l, e)).1 /\ List.take ((↑l.length : Int).toNat.sub (8 : Nat)) (List.drop (8 : Nat) l) = (U.ak (l, e)).2.1 /\ (3 : Int) = (U.ak (l, e)).2.2 /\ True else IntKind.i64.wrap (U.aN (List.take
 ((8 : Nat).sub (0 : Nat)) (List.drop (0 : Nat) l))) = (U.ak (l, e)).1 /\ List.take ((↑l.length : Int).toNat.sub (8 : Nat)) (List.drop (8 : Nat) l) = (U.ak (l, e)).2.1 /\ (3 : Int) = (U.ak (l, e)).2.2 /\ True else bif e != (0 : Int) then (0 : Int) = (U.ak (l, e)).1 /\ List.take ((↑l.length : Int).toNat.sub (8 : Nat)) (List.drop (8 : Nat) l) = (U.ak (l, e)).2.1 /\ e = (U.ak (l, e)).2.2 /\ True
 else IntKind.i64.wrap (U.aN (List.take ((8 : Nat).sub (0 : Nat)) (List.drop (0 : Nat) l))) = (U.ak (l, e)).1 /\ List.take ((↑l.length : Int).toNat.sub (8 : Nat)) (List.drop (8 : Nat) l) = (U.ak (l, e)).2.1 /\ e = (U.ak (l, e)).2.2 /\ True
def pU (l : List Int) (e : Int) : Prop := bif bif decide ((↑l.length : Int) < (4 : Int)) then decide (e = (0 : Int)) else false then bif (2 : Int) != (0 : Int) then [] = (U.aO (l, e)).1 /\ l = (U.aO (l, e)).2.1 /\ (2 : Int) = (U.aO (l, e)).2.2 /\ True else (0 : Int) <= (0 : Int) /\ (0 : Int) <= (4 : Int) /\ (4 : Int) <= (↑l.length : Int) /\ (0 : Int) <= (4 : Int) /\ (4 : Int) <=
 (↑l.length : Int) /\ (↑l.length : Int) <= (↑l.length : Int) /\ (List.take ((4 : Nat).sub (0 : Nat)) (List.drop (0 : Nat) l)).length <= (8 : Nat) /\ bif bif decide (IntKind.i64.wrap (U.aN (List.take ((4 : Nat).sub (0 : Nat)) (List.drop (0 : Nat) l))) > (4096 : Int)) then decide ((2 : Int) = (0 : Int)) else false then bif bif decide ((↑(List.take ((↑l.length : Int).toNat.sub (4 : Nat)) (List.drop (4 :
 Nat) l)).length : Int) < IntKind.i64.wrap (U.aN (List.take ((4 : Nat).sub (0 : Nat)) (List.drop (0 : Nat) l)))) then decide ((4 : Int) = (0 : Int)) else false then bif (2 : Int) != (0 : Int) then [] = (U.aO (l, e)).1 /\ List.take ((↑l.length : Int).toNat.sub (4 : Nat)) (List.drop (4 : Nat) l) = (U.aO (l, e)).2.1 /\ (2 : Int) = (U.aO (l, e)).2.2 /\ True else (0 : Int) <= (0 : Int) /\ (0 : Int)
 <= IntKind.i64.wrap (U.aN (List.take ((4 : Nat).sub (0 : Nat)) (List.drop (0 : Nat) l))) /\ IntKind.i64.wrap (U.aN (List.take ((4 : Nat).sub (0 : Nat)) (List.drop (0 : Nat) l))) <= (↑(List.take ((↑l.length : Int).toNat.sub (4 : Nat)) (List.drop (4 : Nat) l)).length : Int) /\ (0 : Int) <= IntKind.i64.wrap (U.aN (List.take ((4 : Nat).sub (0 : Nat)) (List.drop (0 : Nat) l))) /\ IntKind.i64.wrap
 (U.aN (List.take ((4 : Nat).sub (0 : Nat)) (List.drop (0 : Nat) l))) <= (↑(List.take ((↑l.length : Int).toNat.sub (4 : Nat)) (List.drop (4 : Nat) l)).length : Int) /\ (↑(List.take ((↑l.length : Int).toNat.sub (4 : Nat)) (List.drop (4 : Nat) l)).length : Int) <= (↑(List.take ((↑l.length : Int).toNat.sub (4 : Nat)) (List.drop (4 : Nat) l)).length : Int) /\ List.take ((IntKind.i64.wrap (U.aN
 (List.take ((4 : Nat).sub (0 : Nat)) (List.drop (0 : Nat) l)))).toNat.sub (0 : Nat)) (List.drop (0 : Nat) (List.take ((↑l.length : Int).toNat.sub (4 : Nat)) (List.drop (4 : Nat) l))) = (U.aO (l, e)).1 /\ List.take ((↑(List.take ((↑l.length : Int).toNat.sub (4 : Nat)) (List.drop (4 : Nat) l)).length : Int).toNat.sub (IntKind.i64.wrap (U.aN (List.take ((4 : Nat).sub (0 : Nat)) (List.drop (0 :
 Nat) l)))).toNat) (List.drop (IntKind.i64.wrap (U.aN (List.take ((4 : Nat).sub (0 : Nat)) (List.drop (0 : Nat) l)))).toNat (List.take ((↑l.length : Int).toNat.sub (4 : Nat)) (List.drop (4 : Nat) l))) = (U.aO (l, e)).2.1 /\ (2 : Int) = (U.aO (l, e)).2.2 /\ True else bif (4 : Int) != (0 : Int) then [] = (U.aO (l, e)).1 /\ List.take ((↑l.length : Int).toNat.sub (4 : Nat)) (List.drop (4 : Nat)
 l) = (U.aO (l, e)).2.1 /\ (4 : Int) = (U.aO (l, e)).2.2 /\ True else (0 : Int) <= (0 : Int) /\ (0 : Int) <= IntKind.i64.wrap (U.aN (List.take ((4 : Nat).sub (0 : Nat)) (List.drop (0 : Nat) l))) /\ IntKind.i64.wrap (U.aN (List.take ((4 : Nat).sub (0 : Nat)) (List.drop (0 : Nat) l))) <= (↑(List.take ((↑l.length : Int).toNat.sub (4 : Nat)) (List.drop (4 : Nat) l)).length : Int) /\ (0 : Int) <=
 IntKind.i64.wrap (U.aN (List.take ((4 : Nat).sub (0 : Nat)) (List.drop (0 : Nat) l))) /\ IntKind.i64.wrap (U.aN (List.take ((4 : Nat).sub (0 : Nat)) (List.drop (0 : Nat) l))) <= (↑(List.take ((↑l.length : Int).toNat.sub (4 : Nat)) (List.drop (4 : Nat) l)).length : Int) /\ (↑(List.take ((↑l.length : Int).toNat.sub (4 : Nat)) (List.drop (4 : Nat) l)).length : Int) <= (↑(List.take ((↑l.length :
 Int).toNat.sub (4 : Nat)) (List.drop (4 : Nat) l)).length : Int) /\ List.take ((IntKind.i64.wrap (U.aN (List.take ((4 : Nat).sub (0 : Nat)) (List.drop (0 : Nat) l)))).toNat.sub (0 : Nat)) (List.drop (0 : Nat) (List.take ((↑l.length : Int).toNat.sub (4 : Nat)) (List.drop (4 : Nat) l))) = (U.aO (l, e)).1 /\ List.take ((↑(List.take ((↑l.length : Int).toNat.sub (4 : Nat)) (List.drop (4 : Nat)
 l)).length : Int).toNat.sub (IntKind.i64.wrap (U.aN (List.take ((4 : Nat).sub (0 : Nat)) (List.drop (0 : Nat) l)))).toNat) (List.drop (IntKind.i64.wrap (U.aN (List.take ((4 : Nat).sub (0 : Nat)) (List.drop (0 : Nat) l)))).toNat (List.take ((↑l.length : Int).toNat.sub (4 : Nat)) (List.drop (4 : Nat) l))) = (U.aO (l, e)).2.1 /\ (4 : Int) = (U.aO (l, e)).2.2 /\ True else bif bif decide
 ((↑(List.take ((↑l.length : Int).toNat.sub (4 : Nat)) (List.drop (4 : Nat) l)).length : Int) < IntKind.i64.wrap (U.aN (List.take ((4 : Nat).sub (0 : Nat)) (List.drop (0 : Nat) l)))) then decide ((2 : Int) = (0 : Int)) else false then bif (2 : Int) != (0 : Int) then [] = (U.aO (l, e)).1 /\ List.take ((↑l.length : Int).toNat.sub (4 : Nat)) (List.drop (4 : Nat) l) = (U.aO (l, e)).2.1 /\ (2 :
 Int) = (U.aO (l, e)).2.2 /\ True else (0 : Int) <= (0 : Int) /\ (0 : Int) <= IntKind.i64.wrap (U.aN (List.take ((4 : Nat).sub (0 : Nat)) (List.drop (0 : Nat) l))) /\ IntKind.i64.wrap (U.aN (List.take ((4 : Nat).sub (0 : Nat)) (List.drop (0 : Nat) l))) <= (↑(List.take ((↑l.length : Int).toNat.sub (4 : Nat)) (List.drop (4 : Nat) l)).length : Int) /\ (0 : Int) <= IntKind.i64.wrap (U.aN (List.take ((4
 : Nat).sub (0 : Nat)) (List.drop (0 : Nat) l))) /\ IntKind.i64.wrap (U.aN (List.take ((4 : Nat).sub (0 : Nat)) (List.drop (0 : Nat) l))) <= (↑(List.take ((↑l.length : Int).toNat.sub (4 : Nat)) (List.drop (4 : Nat) l)).length : Int) /\ (↑(List.take ((↑l.length : Int).toNat.sub (4 : Nat)) (List.drop (4 : Nat) l)).length : Int) <= (↑(List.take ((↑l.length : Int).toNat.sub (4 : Nat)) (List.drop (4 : Nat)
 l)).length : Int) /\ List.take ((IntKind.i64.wrap (U.aN (List.take ((4 : Nat).sub (0 : Nat)) (List.drop (0 : Nat) l)))).toNat.sub (0 : Nat)) (List.drop (0 : Nat) (List.take ((↑l.length : Int).toNat.sub (4 : Nat)) (List.drop (4 : Nat) l))) = (U.aO (l, e)).1 /\ List.take ((↑(List.take ((↑l.length : Int).toNat.sub (4 : Nat)) (List.drop (4 : Nat) l)).length : Int).toNat.sub (IntKind.i64.wrap (U.aN
 (List.take ((4 : Nat).sub (0 : Nat)) (List.drop (0 : Nat) l)))).toNat) (List.drop (IntKind.i64.wrap (U.aN (List.take ((4 : Nat).sub (0 : Nat)) (List.drop (0 : Nat) l)))).toNat (List.take ((↑l.length : Int).toNat.sub (4 : Nat)) (List.drop (4 : Nat) l))) = (U.aO (l, e)).2.1 /\ (2 : Int) = (U.aO (l, e)).2.2 /\ True else bif (2 : Int) != (0 : Int) then [] = (U.aO (l, e)).1 /\ List.take
 ((↑l.length : Int).toNat.sub (4 : Nat)) (List.drop (4 : Nat) l) = (U.aO (l, e)).2.1 /\ (2 : Int) = (U.aO (l, e)).2.2 /\ True else (0 : Int) <= (0 : Int) /\ (0 : Int) <= IntKind.i64.wrap (U.aN (List.take ((4 : Nat).sub (0 : Nat)) (List.drop (0 : Nat) l))) /\ IntKind.i64.wrap (U.aN (List.take ((4 : Nat).sub (0 : Nat)) (List.drop (0 : Nat) l))) <= (↑(List.take ((↑l.length : Int).toNat.sub (4 :
 Nat)) (List.drop (4 : Nat) l)).length : Int) /\ (0 : Int) <= IntKind.i64.wrap (U.aN (List.take ((4 : Nat).sub (0 : Nat)) (List.drop (0 : Nat) l))) /\ IntKind.i64.wrap (U.aN (List.take ((4 : Nat).sub (0 : Nat)) (List.drop (0 : Nat) l))) <= (↑(List.take ((↑l.length : Int).toNat.sub (4 : Nat)) (List.drop (4 : Nat) l)).length : Int) /\ (↑(List.take ((↑l.length : Int).toNat.sub (4 : Nat)) (List.drop (4 :
 Nat) l)).length : Int) <= (↑(List.take ((↑l.length : Int).toNat.sub (4 : Nat)) (List.drop (4 : Nat) l)).length : Int) /\ List.take ((IntKind.i64.wrap (U.aN (List.take ((4 : Nat).sub (0 : Nat)) (List.drop (0 : Nat) l)))).toNat.sub (0 : Nat)) (List.drop (0 : Nat) (List.take ((↑l.length : Int).toNat.sub (4 : Nat)) (List.drop (4 : Nat) l))) = (U.aO (l, e)).1 /\ List.take ((↑(List.take ((↑l.length :
 Int).toNat.sub (4 : Nat)) (List.drop (4 : Nat) l)).length : Int).toNat.sub (IntKind.i64.wrap (U.aN (List.take ((4 : Nat).sub (0 : Nat)) (List.drop (0 : Nat) l)))).toNat) (List.drop (IntKind.i64.wrap (U.aN (List.take ((4 : Nat).sub (0 : Nat)) (List.drop (0 : Nat) l)))).toNat (List.take ((↑l.length : Int).toNat.sub (4 : Nat)) (List.drop (4 : Nat) l))) = (U.aO (l, e)).2.1 /\ (2 : Int) = (U.aO
 (l, e)).2.2 /\ True else bif e != (0 : Int) then [] = (U.aO (l, e)).1 /\ l = (U.aO (l, e)).2.1 /\ e = (U.aO (l, e)).2.2 /\ True else (0 : Int) <= (0 : Int) /\ (0 : Int) <= (4 : Int) /\ (4 : Int) <= (↑l.length : Int) /\ (0 : Int) <= (4 : Int) /\ (4 : Int) <= (↑l.length : Int) /\ (↑l.length : Int) <= (↑l.length : Int) /\ (List.take ((4 : Nat).sub (0 : Nat)) (List.drop (0 : Nat) l)).length <= (8 : Nat) /\ bif
 bif decide (IntKind.i64.wrap (U.aN (List.take ((4 : Nat).sub (0 : Nat)) (List.drop (0 : Nat) l))) > (4096 : Int)) then decide (e = (0 : Int)) else false then bif bif decide ((↑(List.take ((↑l.length : Int).toNat.sub (4 : Nat)) (List.drop (4 : Nat) l)).length : Int) < IntKind.i64.wrap (U.aN (List.take ((4 : Nat).sub (0 : Nat)) (List.drop (0 : Nat) l)))) then decide ((4 : Int) = (0 : Int)) else
 false then bif (2 : Int) != (0 : Int) then [] = (U.aO (l, e)).1 /\ List.take ((↑l.length : Int).toNat.sub (4 : Nat)) (List.drop (4 : Nat) l) = (U.aO (l, e)).2.1 /\ (2 : Int) = (U.aO (l, e)).2.2 /\ True else (0 : Int) <= (0 : Int) /\ (0 : Int) <= IntKind.i64.wrap (U.aN (List.take ((4 : Nat).sub (0 : Nat)) (List.drop (0 : Nat) l))) /\ IntKind.i64.wrap (U.aN (List.take ((4 : Nat).sub (0 : Nat))
 (List.drop (0 : Nat) l))) <= (↑(List.take ((↑l.length : Int).toNat.sub (4 : Nat)) (List.drop (4 : Nat) l)).length : Int) /\ (0 : Int) <= IntKind.i64.wrap (U.aN (List.take ((4 : Nat).sub (0 : Nat)) (List.drop (0 : Nat) l))) /\ IntKind.i64.wrap (U.aN (List.take ((4 : Nat).sub (0 : Nat)) (List.drop (0 : Nat) l))) <= (↑(List.take ((↑l.length : Int).toNat.sub (4 : Nat)) (List.drop (4 : Nat) l)).length :
 Int) /\ (↑(List.take ((↑l.length : Int).toNat.sub (4 : Nat)) (List.drop (4 : Nat) l)).length : Int) <= (↑(List.take ((↑l.length : Int).toNat.sub (4 : Nat)) (List.drop (4 : Nat) l)).length : Int) /\ List.take ((IntKind.i64.wrap (U.aN (List.take ((4 : Nat).sub (0 : Nat)) (List.drop (0 : Nat) l)))).toNat.sub (0 : Nat)) (List.drop (0 : Nat) (List.take ((↑l.length : Int).toNat.sub (4 : Nat)) (List.drop
 (4 : Nat) l))) = (U.aO (l, e)).1 /\ List.take ((↑(List.take ((↑l.length : Int).toNat.sub (4 : Nat)) (List.drop (4 : Nat) l)).length : Int).toNat.sub (IntKind.i64.wrap (U.aN (List.take ((4 : Nat).sub (0 : Nat)) (List.drop (0 : Nat) l)))).toNat) (List.drop (IntKind.i64.wrap (U.aN (List.take ((4 : Nat).sub (0 : Nat)) (List.drop (0 : Nat) l)))).toNat (List.take ((↑l.length : Int).toNat.sub (4 :
 Nat)) (List.drop (4 : Nat) l))) = (U.aO (l, e)).2.1 /\ (2 : Int) = (U.aO (l, e)).2.2 /\ True else bif (4 : Int) != (0 : Int) then [] = (U.aO (l, e)).1 /\ List.take ((↑l.length : Int).toNat.sub (4 : Nat)) (List.drop (4 : Nat) l) = (U.aO (l, e)).2.1 /\ (4 : Int) = (U.aO (l, e)).2.2 /\ True else (0 : Int) <= (0 : Int) /\ (0 : Int) <= IntKind.i64.wrap (U.aN (List.take ((4 : Nat).sub (0 : Nat))
 (List.drop (0 : Nat) l))) /\ IntKind.i64.wrap (U.aN (List.take ((4 : Nat).sub (0 : Nat)) (List.drop (0 : Nat) l))) <= (↑(List.take ((↑l.length : Int).toNat.sub (4 : Nat)) (List.drop (4 : Nat) l)).length : Int) /\ (0 : Int) <= IntKind.i64.wrap (U.aN (List.take ((4 : Nat).sub (0 : Nat)) (List.drop (0 : Nat) l))) /\ IntKind.i64.wrap (U.aN (List.take ((4 : Nat).sub (0 : Nat)) (List.drop (0 : Nat) l)))
 <= (↑(List.take ((↑l.length : Int).toNat.sub (4 : Nat)) (List.drop (4 : Nat) l)).length : Int) /\ (↑(List.take ((↑l.length : Int).toNat.sub (4 : Nat)) (List.drop (4 : Nat) l)).length : Int) <= (↑(List.take ((↑l.length : Int).toNat.sub (4 : Nat)) (List.drop (4 : Nat) l)).length : Int) /\ List.take ((IntKind.i64.wrap (U.aN (List.take ((4 : Nat).sub (0 : Nat)) (List.drop (0 : Nat) l)))).toNat.sub (0 :
 Nat)) (List.drop (0 : Nat) (List.take ((↑l.length : Int).toNat.sub (4 : Nat)) (List.drop (4 : Nat) l))) = (U.aO (l, e)).1 /\ List.take ((↑(List.take ((↑l.length : Int).toNat.sub (4 : Nat)) (List.drop (4 : Nat) l)).length : Int).toNat.sub (IntKind.i64.wrap (U.aN (List.take ((4 : Nat).sub (0 : Nat)) (List.drop (0 : Nat) l)))).toNat) (List.drop (IntKind.i64.wrap (U.aN (List.take ((4 : Nat).sub
 (0 : Nat)) (List.drop (0 : Nat) l)))).toNat (List.take ((↑l.length : Int).toNat.sub (4 : Nat)) (List.drop (4 : Nat) l))) = (U.aO (l, e)).2.1 /\ (4 : Int) = (U.aO (l, e)).2.2 /\ True else bif bif decide ((↑(List.take ((↑l.length : Int).toNat.sub (4 : Nat)) (List.drop (4 : Nat) l)).length : Int) < IntKind.i64.wrap (U.aN (List.take ((4 : Nat).sub (0 : Nat)) (List.drop (0 : Nat) l)))) then decide
 (e = (0 : Int)) else false then bif (2 : Int) != (0 : Int) then [] = (U.aO (l, e)).1 /\ List.take ((↑l.length : Int).toNat.sub (4 : Nat)) (List.drop (4 : Nat) l) = (U.aO (l, e)).2.1 /\ (2 : Int) = (U.aO (l, e)).2.2 /\ True else (0 : Int) <= (0 : Int) /\ (0 : Int) <= IntKind.i64.wrap (U.aN (List.take ((4 : Nat).sub (0 : Nat)) (List.drop (0 : Nat) l))) /\ IntKind.i64.wrap (U.aN (List.take ((4 :
 Nat).sub (0 : Nat)) (List.drop (0 : Nat) l))) <= (↑(List.take ((↑l.length : Int).toNat.sub (4 : Nat)) (List.drop (4 : Nat) l)).length : Int) /\ (0 : Int) <= IntKind.i64.wrap (U.aN (List.take ((4 : Nat).sub (0 : Nat)) (List.drop (0 : Nat) l))) /\ IntKind.i64.wrap (U.aN (List.take ((4 : Nat).sub (0 : Nat)) (List.drop (0 : Nat) l))) <= (↑(List.take ((↑l.length : Int).toNat.sub (4 : Nat)) (List.drop (4
 : Nat) l)).length : Int) /\ (↑(List.take ((↑l.length : Int).toNat.sub (4 : Nat)) (List.drop (4 : Nat) l)).length : Int) <= (↑(List.take ((↑l.length : Int).toNat.sub (4 : Nat)) (List.drop (4 : Nat) l)).length : Int) /\ List.take ((IntKind.i64.wrap (U.aN (List.take ((4 : Nat).sub (0 : Nat)) (List.drop (0 : Nat) l)))).toNat.sub (0 : Nat)) (List.drop (0 : Nat) (List.take ((↑l.length : Int).toNat.sub (4
 : Nat)) (List.drop (4 : Nat) l))) = (U.aO (l, e)).1 /\ List.take ((↑(List.take ((↑l.length : Int).toNat.sub (4 : Nat)) (List.drop (4 : Nat) l)).length : Int).toNat.sub (IntKind.i64.wrap (U.aN (List.take ((4 : Nat).sub (0 : Nat)) (List.drop (0 : Nat) l)))).toNat) (List.drop (IntKind.i64.wrap (U.aN (List.take ((4 : Nat).sub (0 : Nat)) (List.drop (0 : Nat) l)))).toNat (List.take ((↑l.length :
 Int).toNat.sub (4 : Nat)) (List.drop (4 : Nat) l))) = (U.aO (l, e)).2.1 /\ (2 : Int) = (U.aO (l, e)).2.2 /\ True else bif e != (0 : Int) then [] = (U.aO (l, e)).1 /\ List.take ((↑l.length : Int).toNat.sub (4 : Nat)) (List.drop (4 : Nat) l) = (U.aO (l, e)).2.1 /\ e = (U.aO (l, e)).2.2 /\ True else (0 : Int) <= (0 : Int) /\ (0 : Int) <= IntKind.i64.wrap (U.aN (List.take ((4 : Nat).sub (0 :
 Nat)) (List.drop (0 : Nat) l))) /\ IntKind.i64.wrap (U.aN (List.take ((4 : Nat).sub (0 : Nat)) (List.drop (0 : Nat) l))) <= (↑(List.take ((↑l.length : Int).toNat.sub (4 : Nat)) (List.drop (4 : Nat) l)).length : Int) /\ (0 : Int) <= IntKind.i64.wrap (U.aN (List.take ((4 : Nat).sub (0 : Nat)) (List.drop (0 : Nat) l))) /\ IntKind.i64.wrap (U.aN (List.take ((4 : Nat).sub (0 : Nat)) (List.drop (0 :
 Nat) l))) <= (↑(List.take ((↑l.length : Int).toNat.sub (4 : Nat)) (List.drop (4 : Nat) l)).length : Int) /\ (↑(List.take ((↑l.length : Int).toNat.sub (4 : Nat)) (List.drop (4 : Nat) l)).length : Int) <= (↑(List.take ((↑l.length : Int).toNat.sub (4 : Nat)) (List.drop (4 : Nat) l)).length : Int) /\ List.take ((IntKind.i64.wrap (U.aN (List.take ((4 : Nat).sub (0 : Nat)) (List.drop (0 : Nat)
 l)))).toNat.sub (0 : Nat)) (List.drop (0 : Nat) (List.take ((↑l.length : Int).toNat.sub (4 : Nat)) (List.drop (4 : Nat) l))) = (U.aO (l, e)).1 /\ List.take ((↑(List.take ((↑l.length : Int).toNat.sub (4 : Nat)) (List.drop (4 : Nat) l)).length : Int).toNat.sub (IntKind.i64.wrap (U.aN (List.take ((4 : Nat).sub (0 : Nat)) (List.drop (0 : Nat) l)))).toNat) (List.drop (IntKind.i64.wrap (U.aN
 (List.take ((4 : Nat).sub (0 : Nat)) (List.drop (0 : Nat) l)))).toNat (List.take ((↑l.length : Int).toNat.sub (4 : Nat)) (List.drop (4 : Nat) l))) = (U.aO (l, e)).2.1 /\ e = (U.aO (l, e)).2.2 /\ True
def oM (l : List Int) (e : Int) (m : Int) : Prop := bif bif decide ((U.ak (l, e)).1 > m) then decide ((U.ak (l, e)).2.2 = (0 : Int)) else false then bif (4 : Int) != (0 : Int) then (0 : Int) = (U.aH m (l, e)).1 /\ (U.ak (l, e)).2.1 = (U.aH m (l, e)).2.1 /\ (4 : Int) = (U.aH m (l, e)).2.2 /\ True else (U.ak (l, e)).1 = (U.aH m (l, e)).1 /\ (U.ak (l, e)).2.1 =
 (U.aH m (l, e)).2.1 /\ (4 : Int) = (U.aH m (l, e)).2.2 /\ True else bif (U.ak (l, e)).2.2 != (0 : Int) then (0 : Int) = (U.aH m (l, e)).1 /\ (U.ak (l, e)).2.1 = (U.aH m (l, e)).2.1 /\ (U.ak (l, e)).2.2 = (U.aH m (l, e)).2.2 /\ True else (U.ak (l, e)).1 = (U.aH m (l, e)).1 /\ (U.ak (l, e)).2.1 = (U.aH m (l, e)).2.1 /\ (U.ak (l, e)).2.2 = (U.aH m (l, e)).2.2 /\
 True
def pV (l : List Int) (e : Int) (x : Bool) : Prop := bif bif x then decide (e = (0 : Int)) else false then l = (U.gu x (l, e)).1 /\ (3 : Int) = (U.gu x (l, e)).2 /\ True else l = (U.gu x (l, e)).1 /\ e = (U.gu x (l, e)).2 /\ True
def qO (l : List Int) (e : Int) : Prop := e = e /\ l = l /\ e = e /\ True
def pW (l : List Int) (e : Int) : Prop := (U.gu (decide ((↑l.length : Int) > (0 : Int))) (l, e)).2 = U.lU (l, e) /\ (U.gu (decide ((↑l.length : Int) > (0 : Int))) (l, e)).1 = (U.gu (decide (l.length > (0 : Nat))) (l, e)).1 /\ (U.gu (decide ((↑l.length : Int) > (0 : Int))) (l, e)).2 = (U.gu (decide (l.length > (0 : Nat))) (l, e)).2 /\ True
def Bd (n : Int) (size : Int) : Prop := (0 : Int) <= size /\ size <= size /\ size.mul (↑(1 : Nat) : Int) <= (140737488355328 : Int) /\ size <= (9223372036854775807 : Int) /\ ∃ (x0 : List Int × Int × Int), (U.lW n size (List.replicate size.toNat (0 : Int)) n (IntKind.i64.wrap (size.sub (1 : Int))) = U.lW n size x0.1 x0.2.1 x0.2.2 /\ U.nN n size x0.1 x0.2.1
 x0.2.2) /\ ∀ (x : List Int × Int × Int), U.nN n size x.1 x.2.1 x.2.2 -> bif decide (x.2.2 >= (0 : Int)) then (256 : Int) ≠ (0 : Int) /\ (0 : Int) <= x.2.2 /\ x.2.2 < (↑x.1.length : Int) /\ x.2.2.toNat < x.1.length /\ (256 : Int) ≠ (0 : Int) /\ ∃ (y : List Int × Int × Int), U.lW n size (x.1.set x.2.2.toNat (IntKind.u8.wrap (x.2.1.tmod (256 : Int)))) (IntKind.i64.wrap (x.2.1.tdiv (256
 : Int))) (IntKind.i64.wrap (x.2.2.sub (1 : Int))) = U.lW n size y.1 y.2.1 y.2.2 /\ U.nN n size y.1 y.2.1 y.2.2 /\ (y.2.2.add (1 : Int)).toNat < (x.2.2.add (1 : Int)).toNat else x.1 = U.beN size.toNat n /\ True
def Gm (b : List Int) (n : Int) : Prop := (Nat.add (0 : Nat) b.length).mul (1 : Nat) <= (140737488355328 : Nat) /\ Nat.add (0 : Nat) b.length <= maxLen /\ ((1 : Int) <= (8 : Int) /\ (8 : Int) <= (8 : Int)) /\ (0 : Int) <= bJ (uU n (0 : Int)) (4611686018427387904 : Int) /\ (b.length.add (U.beN (8 : Nat) (bJ (uU n (0 : Int)) (4611686018427387904 : Int))).length).mul (1 : Nat) <=
 (140737488355328 : Nat) /\ b.length.add (U.beN (8 : Nat) (bJ (uU n (0 : Int)) (4611686018427387904 : Int))).length <= maxLen /\ b.append (U.beN (8 : Nat) (bJ (uU n (0 : Int)) (4611686018427387904 : Int))) = b.append (U.num1 n) /\ True
def Et (b : List Int) (s : List Int) : Prop := bif decide ((↑s.length : Int) > (4096 : Int)) then (0 : Int) <= (0 : Int) /\ (0 : Int) <= (4096 : Int) /\ (4096 : Int) <= (↑s.length : Int) /\ (Nat.add (0 : Nat) b.length).mul (1 : Nat) <= (140737488355328 : Nat) /\ Nat.add (0 : Nat) b.length <= maxLen /\ ((1 : Int) <= (4 : Int) /\ (4 : Int) <= (8 : Int)) /\ (0 : Int) <= (↑(List.take ((4096 : Nat).sub (0 :
 Nat)) (List.drop (0 : Nat) s)).length : Int) /\ (b.length.add (U.beN (4 : Nat) (↑(List.take ((4096 : Nat).sub (0 : Nat)) (List.drop (0 : Nat) s)).length : Int)).length).mul (1 : Nat) <= (140737488355328 : Nat) /\ b.length.add (U.beN (4 : Nat) (↑(List.take ((4096 : Nat).sub (0 : Nat)) (List.drop (0 : Nat) s)).length : Int)).length <= maxLen /\ ((b.append (U.beN (4 : Nat) (↑(List.take ((4096 : Nat).sub (0
 : Nat)) (List.drop (0 : Nat) s)).length : Int))).length.add (List.take ((4096 : Nat).sub (0 : Nat)) (List.drop (0 : Nat) s)).length).mul (1 : Nat) <= (140737488355328 : Nat) /\ (b.append (U.beN (4 : Nat) (↑(List.take ((4096 : Nat).sub (0 : Nat)) (List.drop (0 : Nat) s)).length : Int))).length.add (List.take ((4096 : Nat).sub (0 : Nat)) (List.drop (0 : Nat) s)).length <= maxLen /\ (b.append (U.beN (4 :
 Nat) (↑(List.take ((4096 : Nat).sub (0 : Nat)) (List.drop (0 : Nat) s)).length : Int))).append (List.take ((4096 : Nat).sub (0 : Nat)) (List.drop (0 : Nat) s)) = b.append (U.text1 s) /\ True else (Nat.add (0 : Nat) b.length).mul (1 : Nat) <= (140737488355328 : Nat) /\ Nat.add (0 : Nat) b.length <= maxLen /\ ((1 : Int) <= (4 : Int) /\ (4 : Int) <= (8 : Int)) /\ (0 : Int) <= (↑s.length : Int) /\ (b.length.add
 (U.beN (4 : Nat) (↑s.length : Int)).length).mul (1 : Nat) <= (140737488355328 : Nat) /\ b.length.add (U.beN (4 : Nat) (↑s.length : Int)).length <= maxLen /\ ((b.append (U.beN (4 : Nat) (↑s.length : Int))).length.add s.length).mul (1 : Nat) <= (140737488355328 : Nat) /\ (b.append (U.beN (4 : Nat) (↑s.length : Int))).length.add s.length <= maxLen /\ (b.append (U.beN (4 : Nat) (↑s.length : Int))).append s =
 b.append (U.text1 s) /\ True
def Eu (a : List Int) (b : List Int) : Prop := a.beq b = decide (a = b) /\ True
end Go.Proofs.YtkhdeldobekciaaDoor
set_option linter.unusedSimpArgs false
set_option linter.unusedVariables false
set_option maxRecDepth 100000
namespace Go.Proofs.YtkhdeldobekciaaDoor
open Go.Vc
open Go.Vc.T
theorem iE (k : Nat) (n : Int) : (U.beN k n).length = k := by simp [U.beN]
theorem UN (k : Nat) (n : Int) (j : Nat) (h : j < (U.beN k n).length) : (U.beN k n)[j] = n / 2 ^ (8 * (k - 1 - j)) % 256 := by simp [U.beN]
theorem hp1 {a : Prop} {l : List Prop} (h : ∀ p ∈ a :: l, p) : a /\ ∀ p ∈ l, p := ⟨h _ (.head _), fun p hp => h p (List.mem_cons_of_mem _ hp)⟩
theorem dM (n : Int) : (U.num1 n).length = 8 := iE 8 _
theorem agp (x : Int) (l : List Int) : U.nums (x :: l) = U.num1 x ++ U.nums l := by simp [U.nums]
theorem Jf : ∀ l : List Int, (U.nums l).length = 8 * l.length
 | [] => rfl
 | x :: l => by rw [agp, List.length_append, dM, Jf l, List.length_cons]; omega
theorem VD (l : List Int) (x : Int) : U.nums (l ++ [x]) = U.nums l ++ U.num1 x := by simp [U.nums]
theorem FH (s : List Int) : (U.text1 s).length <= 4100 := by
 unfold U.text1; rw [List.length_append, iE, List.length_take]; omega
theorem acT (l : List (List Int)) (x : List Int) : U.texts (l ++ [x]) = U.texts l ++ U.text1 x := by simp [U.texts]
theorem VE : ∀ l : List (List Int), (U.texts l).length <= 4100 * l.length
 | [] => Nat.le_refl _
 | x :: l => by
   have := FH x
   have := VE l
   have : U.texts (x :: l) = U.text1 x ++ U.texts l := by simp [U.texts]
   rw [this, List.length_append, List.length_cons]; omega
theorem Zk (n : Int) : 0 <= U.clamp n /\ U.clamp n <= 4611686018427387904 := by unfold U.clamp bJ uU; split <;> split <;> omega
theorem Ew (a : List Int) (x : Int) : U.aN (a ++ [x]) = U.aN a * 256 + x := by simp [U.aN, List.foldl_append]
theorem afF {l : List Int} {n : Nat} (h : l.length = n + 1) : ∃ a x, l = a ++ [x] /\ a.length = n := by
 refine ⟨l.take n, l[n], ?_, by rw [List.length_take]; omega⟩
 rw [<- List.take_succ_eq_append_getElem (by omega), List.take_of_length_le (by omega)]
theorem vC : ∀ (n : Nat) (l : List Int), l.length = n -> (∀ x ∈ l, Byte x) -> 0 <= U.aN l /\ U.aN l < 256 ^ n
 | 0, l, h, _ => by
   obtain rfl := List.length_eq_zero_iff.1 h
   exact ⟨Int.le_refl _, by decide⟩
 | n + 1, l, h, hb => by
   obtain ⟨a, x, rfl, ha⟩ := afF h
   have ih := vC n a ha fun y hy => hb y (List.mem_append_left _ hy)
   have hx := hb x (by simp)
   have hx0 : 0 <= x := hx.1
   have hx1 : x <= 255 := by have := hx.2; omega
   rw [Ew, Int.pow_succ]; omega
theorem lI {l : List Int} (h : ∀ x ∈ l, Valid (.int .u8) x) : ∀ x ∈ l, Byte x := fun x hx => byte_of (h x hx)
theorem agq {a b : Nat} (h : a <= b) : (256 : Int) ^ a <= 256 ^ b := by
 have h2 : (256 : Nat) ^ a <= 256 ^ b := Nat.pow_le_pow_right (by decide) h
 exact_mod_cast h2
theorem Zl (b : List Int) (n size : Int) (hp : ∀ p ∈ [1 <= size /\ size <= 8, b.length <= 2000000000000, 0 <= n], p) : Es b n size := by
 obtain ⟨h1, hp⟩ := hp1 hp
 obtain ⟨h2, hp⟩ := hp1 hp
 obtain ⟨h3, _⟩ := hp1 hp
 unfold Es
 simp only [cond_prop, dA, dW, bG, eF, gB, jy, dR, bW, iD, dn, fE, U.at_, maxLen_eq, decide_eq_true_eq, decide_eq_false_iff_not, bne_iff_ne, bne_eq_false_iff_eq, Bool.not_eq_true', Bool.not_eq_false', Bool.not_eq_eq_eq_not, Bool.not_true, Bool.not_false, beq_eq_false_iff_ne, beq_iff_eq, and_true, true_and, Bool.and_eq_true, Bool.or_eq_true, Bool.and_eq_false_iff, Bool.or_eq_false_iff, U.qG]
 refine ⟨(b, size - 1), ⟨by rw [bQ (by omega) (by omega)], by show -1 <= size - 1; omega, by show size - 1 < size; omega, by simp⟩, ?_⟩
 rintro ⟨o, i⟩ ⟨i0, i1, ho⟩
 simp only [] at *
 have hl : (U.beN size.toNat n).length = size.toNat := iE _ _
 have hol : o.length <= b.length + 8 := by rw [ho, List.length_append, List.length_take]; omega
 refine ⟨fun hi => ?_, fun hi => ?_⟩
 ·have w1 : IntKind.i64.wrap (8 * i) = 8 * i := by rw [bQ] <;> omega
  refine ⟨by rw [w1]; omega, by omega, by omega, (_, i - 1), by rw [bQ (x := i - 1) (by omega) (by omega)], ⟨by show -1 <= i - 1; omega, by show i - 1 < size; omega, ?_⟩, by show (i - 1 + 1).toNat < _; omega⟩
  show o ++ [IntKind.u8.wrap _] = _
  rw [w1, wrap_u8]
  have hif : (if (8 * i).toNat <= IntKind.u64.bits then (8 * i).toNat else IntKind.u64.bits) = 8 * i.toNat := by
   have : IntKind.u64.bits = 64 := rfl
   rw [this, if_pos (by omega)]; omega
  rw [hif]
  have hf : n.fdiv (Int.pow 2 (8 * i.toNat)) = n / 2 ^ (8 * i.toNat) := Int.fdiv_eq_ediv_of_nonneg _ (Int.le_of_lt (Int.pow_pos (by decide)))
  rw [hf, ho, List.append_assoc, show (size - 1 - (i - 1)).toNat = (size - 1 - i).toNat + 1 by omega, List.take_succ_eq_append_getElem (by omega), UN, show size.toNat - 1 - (size - 1 - i).toNat = i.toNat by omega]
 ·rw [ho, List.take_of_length_le (by omega)]
theorem acU (b l : List Int) (h1 : b.length <= 1000000000000) (h2 : l.length <= 100000000000) : Je b l := by
 unfold Je
 have key : ∀ x : List Int × Int, U.iJ b l x.1 x.2 -> bif decide (x.snd < (↑l.length : Int)) then
  (0 : Int) <= x.snd /\ x.snd < (↑l.length : Int) /\ ((1 : Int) <= 8 /\ (8 : Int) <= 8) /\ x.fst.length <= 2000000000000 /\ (0 : Int) <= IntKind.u64.wrap (bJ (uU (l.getD x.snd.toNat 0) 0) 4611686018427387904) /\
    ∃ (y : List Int × Int), U.fH b l (x.fst.append (U.beN 8 (IntKind.u64.wrap (bJ (uU (l.getD x.snd.toNat 0) 0) 4611686018427387904)))) (IntKind.i64.wrap (x.snd.add 1)) = U.fH b l y.fst y.snd /\ U.iJ b l y.fst y.snd /\ l.length.sub y.snd.toNat < l.length.sub x.snd.toNat
  else x.fst = b.append (U.nums l) /\ True := by
  rintro ⟨o, i⟩ ⟨⟨i0, i1⟩, ho⟩
  simp only [cond_prop, dA, dW, bG, eF, gB, jy, dR, bW, iD, dn, fE, U.at_, maxLen_eq, decide_eq_true_eq, decide_eq_false_iff_not, bne_iff_ne, bne_eq_false_iff_eq, Bool.not_eq_true', Bool.not_eq_false', Bool.not_eq_eq_eq_not, Bool.not_true, Bool.not_false, beq_eq_false_iff_ne, beq_iff_eq, and_true, true_and, Bool.and_eq_true, Bool.or_eq_true, Bool.and_eq_false_iff, Bool.or_eq_false_iff, U.iJ] at *
  have hol : o.length = b.length + 8 * i.toNat := by rw [ho, List.length_append, Jf, List.length_take]; omega
  have hc := Zk (l.getD i.toNat 0)
  have hw : IntKind.u64.wrap (bJ (uU (l.getD i.toNat 0) 0) 4611686018427387904) = U.clamp (l.getD i.toNat 0) := by
   show IntKind.u64.wrap (U.clamp _) = _
   rw [wrap_u64]; omega
  refine ⟨fun hi => ⟨i0, hi, by omega, by omega, by rw [hw]; omega, (_, i + 1), by rw [bQ (x := i + 1) (by omega) (by omega)], ⟨⟨by show 0 <= i + 1; omega, by show i + 1 <= _; omega⟩, ?_⟩, by show l.length - (i + 1).toNat < _; omega⟩, fun hi => ?_⟩
  ·show o ++ U.beN 8 _ = _
   rw [hw, ho, take_at i0 hi, VD, List.append_assoc, getD_at (by omega)]; rfl
  ·rw [ho, oG (by omega)]
 intro nb hnb _
 simp only [cond_prop, dA, dW, bG, eF, gB, jy, dR, bW, iD, dn, fE, U.at_, maxLen_eq, decide_eq_true_eq, decide_eq_false_iff_not, bne_iff_ne, bne_eq_false_iff_eq, Bool.not_eq_true', Bool.not_eq_false', Bool.not_eq_eq_eq_not, Bool.not_true, Bool.not_false, beq_eq_false_iff_ne, beq_iff_eq, and_true, true_and, Bool.and_eq_true, Bool.or_eq_true, Bool.and_eq_false_iff, Bool.or_eq_false_iff] at key ⊢
 refine ⟨fun hb => ⟨([], 0), ⟨rfl, ⟨by show (0 : Int) <= 0; omega, by show (0 : Int) <= _; omega⟩, ?_⟩, key⟩, fun hb => ⟨by omega, by omega, (b, 0), ⟨rfl, ⟨by show (0 : Int) <= 0; omega, by show (0 : Int) <= _; omega⟩, by simp [U.nums]⟩, key⟩⟩
 rw [List.length_eq_zero_iff.1 (hnb hb)]; rfl
theorem aa5 (b : List Int) (l : List (List Int)) (h1 : b.length <= 1000000000000) (h2 : l.length <= 100000000) : Gl b l := by
 unfold Gl
 have hmin : ∀ s : List Int, (bJ (s.length : Int) 4096).toNat = min s.length 4096 := fun s => by unfold bJ; split <;> omega
 have hcut : ∀ s : List Int, List.take ((bJ (s.length : Int) 4096).toNat.sub 0) (List.drop 0 s) = s.take 4096 := fun s => by
  rw [bW, hmin, Nat.sub_zero, List.drop_zero]
  by_cases h : s.length <= 4096
  ·rw [Nat.min_eq_left h, List.take_length, List.take_of_length_le h]
  ·rw [Nat.min_eq_right (by omega)]
 have hlen : ∀ s : List Int, IntKind.u64.wrap (((s.take 4096).length : Nat) : Int) = bJ (s.length : Int) 4096 := fun s => by
  rw [wrap_u64, List.length_take]; unfold bJ; split <;> omega
 have hb0 : ∀ s : List Int, 0 <= bJ (s.length : Int) 4096 /\ bJ (s.length : Int) 4096 <= s.length := fun s => by unfold bJ; split <;> omega
 intro nb hnb _
 simp only [hcut, hlen]
 simp only [cond_prop, dA, dW, bG, eF, gB, jy, dR, bW, iD, dn, fE, U.at_, maxLen_eq, decide_eq_true_eq, decide_eq_false_iff_not, bne_iff_ne, bne_eq_false_iff_eq, Bool.not_eq_true', Bool.not_eq_false', Bool.not_eq_eq_eq_not, Bool.not_true, Bool.not_false, beq_eq_false_iff_ne, beq_iff_eq, and_true, true_and, Bool.and_eq_true, Bool.or_eq_true, Bool.and_eq_false_iff, Bool.or_eq_false_iff, U.jv]
 have key : ∀ x : List Int × Int, (0 <= x.2 /\ x.2 <= (l.length : Int)) /\ x.1 = b ++ U.texts (l.take x.2.toNat) -> x.1.length <= b.length + 4100 * l.length /\ (x.2 < (l.length : Int) -> x.1 ++ U.beN 4 (bJ ((l.getD x.2.toNat []).length : Int) 4096) ++ (l.getD x.2.toNat []).take 4096 = b ++ U.texts (l.take (x.2 + 1).toNat)) := by
  rintro ⟨o, i⟩ ⟨⟨i0, i1⟩, ho⟩
  simp only [] at *
  have ht := VE (l.take i.toNat)
  rw [List.length_take] at ht
  have h4 : 4100 * min i.toNat l.length <= 4100 * l.length := Nat.mul_le_mul_left _ (by omega)
  refine ⟨by rw [ho, List.length_append]; omega, fun hi => ?_⟩
  rw [ho, take_at i0 hi, acT, getD_at (by omega), List.append_assoc, List.append_assoc]; rfl
 have rnd : ∀ x : List Int × Int, (0 <= x.2 /\ x.2 <= (l.length : Int)) /\ x.1 = b ++ U.texts (l.take x.2.toNat) -> (x.2 < (l.length : Int) -> 0 <= x.2 /\ x.2 < (l.length : Int) /\ (0 : Int) <= 0 /\ 0 <= bJ ((l.getD x.2.toNat []).length : Int) 4096 /\ bJ ((l.getD x.2.toNat []).length : Int) 4096 <= ((l.getD x.2.toNat []).length : Int) /\ ((1 : Int) <= 4 /\ (4 : Int) <= 8) /\ x.1.length <= 2000000000000 /\ 0 <= bJ ((l.getD x.2.toNat []).length : Int) 4096 /\ ((x.1 ++ U.beN 4 (bJ ((l.getD x.2.toNat []).length : Int) 4096)).length + ((l.getD x.2.toNat []).take 4096).length) * 1 <= 140737488355328 /\ (x.1 ++ U.beN 4 (bJ ((l.getD x.2.toNat []).length : Int) 4096)).length + ((l.getD x.2.toNat []).take 4096).length <= 9223372036854775807 /\
  ∃ y : List Int × Int, U.eX b l (x.1 ++ U.beN 4 (bJ ((l.getD x.2.toNat []).length : Int) 4096) ++ (l.getD x.2.toNat []).take 4096) (IntKind.i64.wrap (x.2 + 1)) = U.eX b l y.1 y.2 /\ ((0 <= y.2 /\ y.2 <= (l.length : Int)) /\ y.1 = b ++ U.texts (l.take y.2.toNat)) /\ l.length - y.2.toNat < l.length - x.2.toNat) /\ (¬ x.2 < (l.length : Int) -> x.1 = b ++ U.texts l) := by
  rintro ⟨o, i⟩ ⟨⟨i0, i1⟩, ho⟩
  obtain ⟨k1, k2⟩ := key (o, i) ⟨⟨i0, i1⟩, ho⟩
  simp only [] at *
  have hm := hb0 (l.getD i.toNat [])
  refine ⟨fun hi => ⟨i0, hi, by omega, hm.1, hm.2, by omega, by omega, hm.1, ?_, ?_, (_, i + 1), by rw [bQ (x := i + 1) (by omega) (by omega)], ⟨⟨by show 0 <= i + 1; omega, by show i + 1 <= _; omega⟩, k2 hi⟩, by show l.length - (i + 1).toNat < _; omega⟩, fun hi => ?_⟩
  ·rw [List.length_append, iE, List.length_take]; omega
  ·rw [List.length_append, iE, List.length_take]; omega
  ·rw [ho, oG (by omega)]
 refine ⟨fun hb => ⟨([], 0), ⟨rfl, ⟨by show (0 : Int) <= 0; omega, by show (0 : Int) <= _; omega⟩, ?_⟩, rnd⟩, fun hb => ⟨by omega, by omega, (b, 0), ⟨rfl, ⟨by show (0 : Int) <= 0; omega, by show (0 : Int) <= _; omega⟩, by simp [U.texts]⟩, rnd⟩⟩
 rw [List.length_eq_zero_iff.1 (hnb hb)]; rfl
theorem afG {a c : Int} (ha0 : 0 <= a) (ha1 : a < 72057594037927936) (hc0 : 0 <= c) (hc1 : c <= 255) : orK .u64 (a * 256) c = a * 256 + c := by
 obtain ⟨m, rfl⟩ := Int.eq_ofNat_of_zero_le ha0
 obtain ⟨d, rfl⟩ := Int.eq_ofNat_of_zero_le hc0
 unfold orK
 have e1 : BitVec.ofInt IntKind.u64.bits ((m : Int) * 256) = BitVec.ofNat 64 (m * 256) := by
  show BitVec.ofInt 64 _ = _
  rw [show (m : Int) * 256 = ((m * 256 : Nat) : Int) by push_cast; rfl, BitVec.ofInt_natCast]
 have e2 : BitVec.ofInt IntKind.u64.bits (d : Int) = BitVec.ofNat 64 d := BitVec.ofInt_natCast ..
 rw [e1, e2]
 have e3 : ((BitVec.ofNat 64 (m * 256)) ||| (BitVec.ofNat 64 d)).toNat = m * 256 + d := by
  rw [BitVec.toNat_or, BitVec.toNat_ofNat, BitVec.toNat_ofNat, Nat.mod_eq_of_lt (by omega), Nat.mod_eq_of_lt (by omega)]
  have := Nat.two_pow_add_eq_or_of_lt (i := 8) (b := d) (by omega) m
  rw [show m * 256 = 2 ^ 8 * m by omega, <- this]
 show IntKind.u64.wrap (((BitVec.ofNat 64 (m * 256)) ||| (BitVec.ofNat 64 d)).toNat : Int) = _
 rw [e3, wrap_u64]; omega
theorem WB (b : List Int) (hb : ∀ x ∈ b, Valid (.int .u8) x) (h8 : b.length <= 8) : Bc b := by
 unfold Bc
 simp only [ad2]
 simp only [cond_prop, dA, dW, bG, eF, gB, jy, dR, bW, iD, dn, fE, U.at_, maxLen_eq, decide_eq_true_eq, decide_eq_false_iff_not, bne_iff_ne, bne_eq_false_iff_eq, Bool.not_eq_true', Bool.not_eq_false', Bool.not_eq_eq_eq_not, Bool.not_true, Bool.not_false, beq_eq_false_iff_ne, beq_iff_eq, and_true, true_and, Bool.and_eq_true, Bool.or_eq_true, Bool.and_eq_false_iff, Bool.or_eq_false_iff, U.nM]
 refine ⟨(0, 0), ⟨rfl, ⟨by show (0 : Int) <= 0; omega, by show (0 : Int) <= _; omega⟩, rfl⟩, ?_⟩
 rintro ⟨n, i⟩ ⟨⟨i0, i1⟩, hn⟩
 simp only [] at *
 refine ⟨fun hi => ⟨i0, hi, by omega, (_, i + 1), by rw [bQ (x := i + 1) (by omega) (by omega)], ⟨⟨by show 0 <= i + 1; omega, by show i + 1 <= _; omega⟩, ?_⟩, by show b.length - (i + 1).toNat < _; omega⟩, fun hi => ?_⟩
 ·have hv := vC i.toNat (b.take i.toNat) (by rw [List.length_take]; omega) (fun x hx => lI hb x (List.mem_of_mem_take hx))
  rw [<- hn] at hv
  have h7 := agq (show i.toNat <= 7 by omega)
  have hx := vU8 (hb b[i.toNat] (List.getElem_mem (by omega)))
  show orK .u64 (IntKind.u64.wrap (n * Int.pow 2 (if 8 <= IntKind.u64.bits then 8 else IntKind.u64.bits))) (IntKind.u64.wrap (b.getD i.toNat 0)) = _
  have hp : (Int.pow 2 (if 8 <= IntKind.u64.bits then 8 else IntKind.u64.bits)) = 256 := rfl
  have h72 : (256 : Int) ^ 7 = 72057594037927936 := by decide
  rw [hp, getD_at (by omega), wrap_u64, wrap_u64, show n * 256 % 18446744073709551616 = n * 256 by omega, show b[i.toNat] % 18446744073709551616 = b[i.toNat] by omega, afG hv.1 (by omega) hx.1 hx.2, take_at i0 hi, Ew, hn]
 ·rw [hn, oG (by omega)]
theorem aea {l : List Int} {e : Int} (he : FZ (.obj [.psl false tU8 l, .int .i64 e])) : (∀ x ∈ l, Valid (.int .u8) x) /\ l.length <= maxLen := by
 have := he _ (.head _); exact this
theorem acV (l : List Int) (k : Nat) : List.take (k - 0) (List.drop 0 l) = l.take k := by rw [List.drop_zero, Nat.sub_zero]
theorem XK (l : List Int) (k : Nat) : List.take ((l.length : Int).toNat - k) (List.drop k l) = l.drop k := List.take_of_length_le (by rw [List.length_drop]; omega)
theorem MV (l : List Int) (e : Int) (he : FZ (.obj [.psl false tU8 l, .int .i64 e])) : qN l e := by
 obtain ⟨hb, hl⟩ := aea he
 have hbb := lI hb
 unfold qN U.ak
 simp only [bW, acV, XK, dA]
 by_cases h8 : l.length < 8
 ·have h8' : ((l.length : Int) < 8) := by omega
  by_cases h0 : e = 0
  ·simp [h8, h8', h0]
  ·simp [h8, h8', h0]
 ·have h8' : ¬ ((l.length : Int) < 8) := by omega
  have hv := vC 8 (l.take 8) (by rw [List.length_take]; omega) (fun x hx => hbb x (List.mem_of_mem_take hx))
  by_cases h0 : e = 0
  ·by_cases hg : U.aN (l.take 8) > 4611686018427387904
   ·simp [h8, h8', h0, hg]; omega
   ·rw [bQ (x := U.aN (l.take 8)) (by omega) (by omega)]
    simp [h8, h8', h0, hg]; omega
  ·simp [h8, h8', h0]
theorem KG (l : List Int) (e : Int) (he : FZ (.obj [.psl false tU8 l, .int .i64 e])) : pU l e := by
 obtain ⟨hb, hl⟩ := aea he
 have hbb := lI hb
 unfold pU U.aO
 simp only [bW, acV, XK, dA]
 by_cases h4 : l.length < 4
 ·have h4' : ((l.length : Int) < 4) := by omega
  by_cases h0 : e = 0
  ·simp [h4, h4', h0]
  ·simp [h4, h4', h0]
 ·have h4' : ¬ ((l.length : Int) < 4) := by omega
  have hv := vC 4 (l.take 4) (by rw [List.length_take]; omega) (fun x hx => hbb x (List.mem_of_mem_take hx))
  have h44 : (256 : Int) ^ 4 = 4294967296 := by decide
  by_cases h0 : e = 0
  ·rw [bQ (x := U.aN (l.take 4)) (by omega) (by omega)]
   have hdl : (l.drop 4).length = l.length - 4 := List.length_drop
   generalize hD : l.drop 4 = D at *
   generalize hV : U.aN (l.take 4) = v at *
   by_cases hg : v > 4096
   ·simp [h4, h4', h0, hg]; omega
   ·by_cases hs : D.length < v.toNat
    ·have hs' : ((D.length : Int) < v) := by omega
     simp [h4, h4', h0, hg, hs, hs']; omega
    ·have hs' : ¬ ((D.length : Int) < v) := by omega
     have e1 : List.take (v.toNat - 0) (List.drop 0 D) = D.take v.toNat := acV D _
     have e2 : List.take ((D.length : Int).toNat - v.toNat) (D.drop v.toNat) = D.drop v.toNat := XK D _
     simp [h4, h4', h0, hg, hs, hs']; omega
  ·simp [h4, h4', h0]
theorem aeb {l : List Int} {e m : Int} (h : (U.ak (l, e)).2.2 ≠ 0) : (U.ak (l, e)).1 = 0 := by
 unfold U.ak at *
 by_cases h0 : e = 0
 ·by_cases h8 : l.length < 8
  ·simp [h0, h8]
  ·by_cases hg : U.aN (l.take 8) > 4611686018427387904
   ·simp [h0, h8, hg]
   ·simp [h0, h8, hg] at h
 ·simp [h0]
theorem Jg (l : List Int) (e m : Int) (he : FZ (.obj [.psl false tU8 l, .int .i64 e])) : oM l e m := by
 unfold oM U.aH
 have hn := aeb (l := l) (e := e) (m := m)
 generalize U.ak (l, e) = r at *
 obtain ⟨v, l', e'⟩ := r
 simp only [] at *
 by_cases h0 : e' = 0 <;> by_cases hg : v > m <;> simp [h0, hg] <;> first | (exact (hn h0).symm) | skip
theorem KH (l : List Int) (e : Int) (x : Bool) (he : FZ (.obj [.psl false tU8 l, .int .i64 e])) : pV l e x := by
 unfold pV U.gu
 by_cases h0 : e = 0 <;> cases x <;> simp [h0]
theorem MW (l : List Int) (e : Int) (he : FZ (.obj [.psl false tU8 l, .int .i64 e])) : qO l e := by
 unfold qO; simp
theorem KI (l : List Int) (e : Int) (he : FZ (.obj [.psl false tU8 l, .int .i64 e])) : pW l e := by
 unfold pW U.lU
 have : decide ((l.length : Int) > 0) = decide (l.length > 0) := by rw [decide_eq_decide]; omega
 rw [this]; exact ⟨rfl, rfl, rfl, trivial⟩
theorem WC (n size : Int) (hN : n <= 9223372036854775807) (h1 : 1 <= size /\ size <= 8) (h0 : 0 <= n) : Bd n size := by
 unfold Bd
 simp only [cond_prop, dA, dW, bG, eF, gB, jy, dR, bW, iD, dn, fE, U.at_, maxLen_eq, decide_eq_true_eq, decide_eq_false_iff_not, bne_iff_ne, bne_eq_false_iff_eq, Bool.not_eq_true', Bool.not_eq_false', Bool.not_eq_eq_eq_not, Bool.not_true, Bool.not_false, beq_eq_false_iff_ne, beq_iff_eq, and_true, true_and, Bool.and_eq_true, Bool.or_eq_true, Bool.and_eq_false_iff, Bool.or_eq_false_iff, U.nN]
 have hbl : (U.beN size.toNat n).length = size.toNat := iE _ _
 have hw : IntKind.i64.wrap (size - 1) = size - 1 := by rw [bQ] <;> omega
 rw [hw]
 refine ⟨by omega, by omega, by omega, by omega, (List.replicate size.toNat 0, n, size - 1), ⟨rfl, by show -1 <= size - 1; omega, by show size - 1 < size; omega, ?_, ?_⟩, ?_⟩
 ·show n = n / 2 ^ (8 * (size - 1 - (size - 1)).toNat)
  rw [show (size - 1 - (size - 1)).toNat = 0 by omega]; simp
 ·show List.replicate size.toNat 0 = List.replicate (size - 1 + 1).toNat 0 ++ (U.beN size.toNat n).drop (size - 1 + 1).toNat
  rw [show size - 1 + 1 = size by omega, List.drop_eq_nil_of_le (by omega), List.append_nil]
 rintro ⟨o, m, i⟩ ⟨i0, i1, hm, ho⟩
 simp only [] at *
 have hol : o.length = size.toNat := by rw [ho, List.length_append, List.length_replicate, List.length_drop]; omega
 have hm0 : 0 <= m := by rw [hm]; exact Int.ediv_nonneg h0 (Int.le_of_lt (Int.pow_pos (by decide)))
 refine ⟨fun hi => ⟨by omega, hi, by omega, by omega, by omega, (_, _, i - 1), by rw [bQ (x := i - 1) (by omega) (by omega)], ⟨by show -1 <= i - 1; omega, by show i - 1 < size; omega, ?_, ?_⟩, by show (i - 1 + 1).toNat < _; omega⟩, fun hi => ?_⟩
 ·have hml : m <= n := by rw [hm]; exact Int.ediv_le_self _ h0
  show IntKind.i64.wrap (m.tdiv 256) = n / 2 ^ (8 * (size - 1 - (i - 1)).toNat)
  rw [Int.tdiv_eq_ediv_of_nonneg hm0]
  have hn := hN
  rw [bQ (by omega) (by omega), hm, show 8 * (size - 1 - (i - 1)).toNat = 8 * (size - 1 - i).toNat + 8 by omega, Int.pow_add, Int.ediv_ediv_of_nonneg (Int.le_of_lt (Int.pow_pos (by decide)))]; rfl
 ·show o.set i.toNat (IntKind.u8.wrap (m.tmod 256)) = List.replicate (i - 1 + 1).toNat 0 ++ (U.beN size.toNat n).drop (i - 1 + 1).toNat
  rw [Int.tmod_eq_emod_of_nonneg hm0, wrap_u8, show m % 256 % 256 = m % 256 by omega, ho, show (i + 1).toNat = i.toNat + 1 by omega, show i - 1 + 1 = i by omega, List.drop_eq_getElem_cons (l := U.beN size.toNat n) (i := i.toNat) (by omega), UN, show size.toNat - 1 - i.toNat = (size - 1 - i).toNat by omega, <- hm, List.replicate_succ', List.append_assoc, List.set_append_right _ _ (by simp)]
  simp
 ·rw [ho, show (i + 1).toNat = 0 by omega]; rfl
theorem aa6 (b : List Int) (n : Int) (h : b.length <= 1000000000000) : Gm b n := by
 unfold Gm
 have hc := Zk n
 refine ⟨by simp only [dR, iD, iE]; omega, by simp only [dR, maxLen_eq, iE]; omega, by omega, hc.1, by simp only [dR, iD, iE]; omega, by simp only [dR, maxLen_eq, iE]; omega, rfl, trivial⟩
theorem Zm (b s : List Int) (h : b.length <= 1000000000000) : Et b s := by
 unfold Et
 simp only [bW, acV]
 simp only [cond_prop, dA, dW, bG, eF, gB, jy, dR, bW, iD, dn, fE, U.at_, maxLen_eq, decide_eq_true_eq, decide_eq_false_iff_not, bne_iff_ne, bne_eq_false_iff_eq, Bool.not_eq_true', Bool.not_eq_false', Bool.not_eq_eq_eq_not, Bool.not_true, Bool.not_false, beq_eq_false_iff_ne, beq_iff_eq, and_true, true_and, Bool.and_eq_true, Bool.or_eq_true, Bool.and_eq_false_iff, Bool.or_eq_false_iff]
 refine ⟨fun hs => ?_, fun hs => ?_⟩
 ·have hl : (s.take 4096).length = 4096 := by rw [List.length_take]; omega
  rw [hl]
  simp only [iE]
  refine ⟨by omega, by omega, by omega, by omega, by omega, by omega, by omega, by omega, by omega, by rw [List.length_append, iE]; omega, by rw [List.length_append, iE]; omega, ?_⟩
  unfold U.text1 bJ
  rw [if_pos (by omega), List.append_assoc]; rfl
 ·simp only [iE]
  refine ⟨by omega, by omega, by omega, by omega, by omega, by omega, by rw [List.length_append, iE]; omega, by rw [List.length_append, iE]; omega, ?_⟩
  unfold U.text1 bJ
  rw [if_neg (by omega), List.append_assoc, List.take_of_length_le (by omega)]
theorem Zn (a b : List Int) : Eu a b := by unfold Eu; simp only [fE, and_true]; rw [Bool.eq_iff_iff]; simp
end Go.Proofs.YtkhdeldobekciaaDoor
set_option linter.unusedSimpArgs false
set_option maxRecDepth 100000
set_option linter.unusedVariables false
namespace Go.Proofs.YtkhdeldobekciaaDoor
open Go.Vc
theorem aa7 (b : List Int) (n : Int) (size : Int) : bM Tryd.prog (aU xA) (PW b n size) 30 (MN b n size) (MO b n size) (Gi b n size) = Es b n size := by kernel_rfl
theorem acW : wO Tryd.prog gl 30 CP := by
 refine pkg (l := xA) JL (fun args es d h => ?_) (fun args es d h hv he hp => ?_)
 ·unfold CP at h
  rcases fM h with h | h
  ·obtain ⟨b, n, size, rfl, rfl, rfl⟩ := FC h
   rfl
  cases h
 ·unfold CP at h
  rcases fM h with h | h
  ·obtain ⟨b, n, size, rfl, rfl, rfl⟩ := FC h
   refine ⟨PW b n size, ?_⟩
   rw [aa7]
   exact Zl b n size hp
  cases h
theorem acX : aY Tryd.prog gl 30 SX := acW
theorem P6 : aS CQ := .cons acX JL
theorem aec (x : aI [aG, rY]) : bM Tryd.prog (aU CQ) (VB x.1 x.2) 15 (bK [aG, rY] x) [] (Ag x.1 x.2) = Je x.1 x.2 := by kernel_rfl
theorem aed : Pok 15 [aG, rY] (fun x => Ag x.1 x.2) := by
 refine pk (L := fun x => VB x.1 x.2) (l := CQ) P6 (fun _ => rfl) ?_
 intro x hv hp
 rw [aec]
 exact acU x.1 x.2 (hp (List.length x.1 <= 1000000000000) (by simp [Ag])) (hp (List.length x.2 <= 100000000000) (by simp [Ag]))
theorem aee : aY Tryd.prog gl 15 VA := aed
theorem Tf : aS FD := .cons aee P6
theorem acY (x : aI [aG, Fz]) : bM Tryd.prog (aU FD) (S9 x.1 x.2) 46 (bK [aG, Fz] x) [] (xB x.1 x.2) = Gl x.1 x.2 := by kernel_rfl
theorem acZ : Pok 46 [aG, Fz] (fun x => xB x.1 x.2) := by
 refine pk (L := fun x => S9 x.1 x.2) (l := FD) Tf (fun _ => rfl) ?_
 intro x hv hp
 rw [acY]
 exact aa5 x.1 x.2 (hp (List.length x.1 <= 1000000000000) (by simp [xB])) (hp (List.length x.2 <= 100000000) (by simp [xB]))
theorem ac0 : aY Tryd.prog gl 46 SY := acZ
theorem P7 : aS CS := .cons ac0 Tf
theorem Zo (x : aI [aG]) : bM Tryd.prog (aU CS) (MQ x) 51 (bK [aG] x) [] (xC x) = Bc x := by kernel_rfl
theorem Zp : Pok 51 [aG] (fun x => xC x) := by
 refine pk (L := fun x => MQ x) (l := CS) P7 (fun _ => rfl) ?_
 intro x hv hp
 rw [Zo]
 exact WB x hv.1 (hp (List.length x <= 8) (by simp [xC]))
theorem Zq : aY Tryd.prog gl 51 MP := Zp
theorem JM : aS xE := .cons Zq P7
theorem OX (l : List Int) (e : Int) : bM Tryd.prog (aU xE) (BN l e) 33 (Ah l e) (Ai l e) (sW l e) = qN l e := by kernel_rfl
theorem QF : wO Tryd.prog gl 33 oH := by
 refine pkg (l := xE) JM (fun args es d h => ?_) (fun args es d h hv he hp => ?_)
 ·unfold oH at h
  rcases fM h with h | h
  ·obtain ⟨l, e, rfl, rfl, rfl⟩ := wo h
   rfl
  cases h
 ·unfold oH at h
  rcases fM h with h | h
  ·obtain ⟨l, e, rfl, rfl, rfl⟩ := wo h
   refine ⟨BN l e, ?_⟩
   rw [OX]
   exact MV l e (he _ (.head _))
  cases h
theorem QG : aY Tryd.prog gl 33 Eo := QF
theorem BU : aS oI := .cons QG JM
theorem MX (l : List Int) (e : Int) : bM Tryd.prog (aU oI) (Aj l e) 65 (yt l e) (yu l e) (qI l e) = pU l e := by kernel_rfl
theorem OY : wO Tryd.prog gl 65 ng := by
 refine pkg (l := oI) BU (fun args es d h => ?_) (fun args es d h hv he hp => ?_)
 ·unfold ng at h
  rcases fM h with h | h
  ·obtain ⟨l, e, rfl, rfl, rfl⟩ := tK h
   rfl
  cases h
 ·unfold ng at h
  rcases fM h with h | h
  ·obtain ⟨l, e, rfl, rfl, rfl⟩ := tK h
   refine ⟨Aj l e, ?_⟩
   rw [MX]
   exact KG l e (he _ (.head _))
  cases h
theorem OZ : aY Tryd.prog gl 65 BO := OY
theorem Au : aS ni := .cons OZ BU
theorem KJ (l : List Int) (e : Int) (m : Int) : bM Tryd.prog (aU ni) (yw l e m) 66 (xG l e m) (xH l e m) (pK l e m) = oM l e m := by kernel_rfl
theorem MZ : wO Tryd.prog gl 66 lX := by
 refine pkg (l := ni) Au (fun args es d h => ?_) (fun args es d h hv he hp => ?_)
 ·unfold lX at h
  rcases fM h with h | h
  ·obtain ⟨l, e, m, rfl, rfl, rfl⟩ := sN h
   rfl
  cases h
 ·unfold lX at h
  rcases fM h with h | h
  ·obtain ⟨l, e, m, rfl, rfl, rfl⟩ := sN h
   refine ⟨yw l e m, ?_⟩
   rw [KJ]
   exact Jg l e m (he _ (.head _))
  cases h
theorem Na : aY Tryd.prog gl 66 Ak := MZ
theorem yD : aS lY := .cons Na Au
theorem Nb (l : List Int) (e : Int) (x : Bool) : bM Tryd.prog (aU lY) (Am l e x) 34 (yx l e x) (yA l e x) (qJ l e x) = pV l e x := by kernel_rfl
theorem O1 : wO Tryd.prog gl 34 ny := by
 refine pkg (l := lY) yD (fun args es d h => ?_) (fun args es d h hv he hp => ?_)
 ·unfold ny at h
  rcases fM h with h | h
  ·obtain ⟨l, e, x, rfl, rfl, rfl⟩ := tN h
   rfl
  cases h
 ·unfold ny at h
  rcases fM h with h | h
  ·obtain ⟨l, e, x, rfl, rfl, rfl⟩ := tN h
   refine ⟨Am l e x, ?_⟩
   rw [Nb]
   exact KH l e x (he _ (.head _))
  cases h
theorem O4 : aY Tryd.prog gl 34 BP := O1
theorem Aw : aS nC := .cons O4 yD
theorem O5 (l : List Int) (e : Int) : bM Tryd.prog (aU nC) (BQ l e) 35 (Ap l e) (Aq l e) (sZ l e) = qO l e := by kernel_rfl
theorem QH : wO Tryd.prog gl 35 oK := by
 refine pkg (l := nC) Aw (fun args es d h => ?_) (fun args es d h hv he hp => ?_)
 ·unfold oK at h
  rcases fM h with h | h
  ·obtain ⟨l, e, rfl, rfl, rfl⟩ := wu h
   rfl
  cases h
 ·unfold oK at h
  rcases fM h with h | h
  ·obtain ⟨l, e, rfl, rfl, rfl⟩ := wu h
   refine ⟨BQ l e, ?_⟩
   rw [O5]
   exact MW l e (he _ (.head _))
  cases h
theorem QI : aY Tryd.prog gl 35 Ep := QH
theorem BX : aS oL := .cons QI Aw
theorem Nc (l : List Int) (e : Int) : bM Tryd.prog (aU oL) (Ar l e) 54 (yB l e) (yC l e) (qL l e) = pW l e := by kernel_rfl
theorem O6 : wO Tryd.prog gl 54 nD := by
 refine pkg (l := oL) BX (fun args es d h => ?_) (fun args es d h hv he hp => ?_)
 ·unfold nD at h
  rcases fM h with h | h
  ·obtain ⟨l, e, rfl, rfl, rfl⟩ := tV h
   rfl
  cases h
 ·unfold nD at h
  rcases fM h with h | h
  ·obtain ⟨l, e, rfl, rfl, rfl⟩ := tV h
   refine ⟨Ar l e, ?_⟩
   rw [Nc]
   exact KI l e (he _ (.head _))
  cases h
theorem O7 : aY Tryd.prog gl 54 BR := O6
theorem Az : aS nG := .cons O7 BX
theorem Zr (x : aI [.int .i64, .int .i64]) : bM Tryd.prog (aU nG) (MS x.1 x.2) 42 (bK [.int .i64, .int .i64] x) [] (qM x.1 x.2) = Bd x.1 x.2 := by kernel_rfl
theorem Zt : Pok 42 [.int .i64, .int .i64] (fun x => qM x.1 x.2) := by
 refine pk (L := fun x => MS x.1 x.2) (l := nG) Az (fun _ => rfl) ?_
 intro x hv hp
 rw [Zr]
 exact WC x.1 x.2 (T.agh hv.1).2 (hp (1 <= x.2 /\ x.2 <= 8) (by simp [qM])) (hp (0 <= x.1) (by simp [qM]))
theorem Zu : aY Tryd.prog gl 42 MR := Zt
theorem JO : aS xI := .cons Zu Az
theorem ac1 (x : aI [aG, .int .i64]) : bM Tryd.prog (aU xI) (Td x.1 x.2) 22 (bK [aG, .int .i64] x) [] (CU x.1 x.2) = Gm x.1 x.2 := by kernel_rfl
theorem ac2 : Pok 22 [aG, .int .i64] (fun x => CU x.1 x.2) := by
 refine pk (L := fun x => Td x.1 x.2) (l := xI) JO (fun _ => rfl) ?_
 intro x hv hp
 rw [ac1]
 exact aa6 x.1 x.2 (hp (List.length x.1 <= 1000000000000) (by simp [CU]))
theorem ac3 : aY Tryd.prog gl 22 Tc := ac2
theorem P8 : aS CV := .cons ac3 JO
theorem aa8 (x : aI [aG, .str]) : bM Tryd.prog (aU CV) (PY x.1 x.2) 24 (bK [aG, .str] x) [] (zx x.1 x.2) = Et x.1 x.2 := by kernel_rfl
theorem aa9 : Pok 24 [aG, .str] (fun x => zx x.1 x.2) := by
 refine pk (L := fun x => PY x.1 x.2) (l := CV) P8 (fun _ => rfl) ?_
 intro x hv hp
 rw [aa8]
 exact Zm x.1 x.2 (hp (List.length x.1 <= 1000000000000) (by simp [zx]))
theorem abb : aY Tryd.prog gl 24 PX := aa9
theorem Nh : aS zy := .cons abb P8
theorem abd (x : aI [aG, aG]) : bM Tryd.prog (aU zy) (P5 x.1 x.2) 11 (bK [aG, aG] x) [] (Gj x.1 x.2) = Eu x.1 x.2 := by kernel_rfl
theorem abe : Pok 11 [aG, aG] (fun x => Gj x.1 x.2) := by
 refine pk (L := fun x => P5 x.1 x.2) (l := zy) Nh (fun _ => rfl) ?_
 intro x hv hp
 rw [abd]
 exact Zn x.1 x.2
theorem abf : aY Tryd.prog gl 11 PZ := abe
theorem Nj : aS zA := .cons abf Nh
end Go.Proofs.YtkhdeldobekciaaDoor
