/- What functions of this seat compute, in plain Lean. -/
import Derived.Test.YtkhdeldobekciaaGreatDoorMC
set_option linter.unusedVariables false
set_option linter.unusedSimpArgs false
set_option maxRecDepth 100000
namespace Go.Proofs.YtkhdeldobekciaaGreatDoor
open Go.Vc
abbrev aF : Ty := .slice (.int .u8)
abbrev uO : Ty := .slice (.int .i64)
abbrev tU8 : Ty := .int .u8
namespace U
@[irreducible] def beN (k : Nat) (n : Int) : List Int := (List.range k).map fun j => n / 2 ^ (8 * (k - 1 - j)) % 256
def clamp (n : Int) : Int := bJ (pz n 0) 4611686018427387904
def num1 (n : Int) : List Int := beN 8 (clamp n)
def nums (l : List Int) : List Int := l.flatMap num1
def text1 (s : List Int) : List Int := beN 4 (bJ s.length 4096) ++ s.take 4096
def texts (l : List (List Int)) : List Int := l.flatMap text1
def aT (l : List Int) : Int := l.foldl (fun a x => a * 256 + x) 0
abbrev RS := List Int × Int
def ak (r : RS) : Int × RS := cond (decide (r.2 = 0)) (cond (decide (r.1.length < 8)) (0, r.1, 2) (cond (decide (aT (r.1.take 8) > 4611686018427387904)) (0, r.1.drop 8, 3) (aT (r.1.take 8), r.1.drop 8, 0))) (0, r)
def aS (r : RS) : List Int × RS := cond (decide (r.2 = 0)) (cond (decide (r.1.length < 4)) ([], r.1, 2) (cond (decide (aT (r.1.take 4) > 4096)) ([], r.1.drop 4, 4) (cond (decide ((r.1.drop 4).length < (aT (r.1.take 4)).toNat)) ([], r.1.drop 4, 2) ((r.1.drop 4).take (aT (r.1.take 4)).toNat, (r.1.drop 4).drop (aT (r.1.take 4)).toNat, 0)))) ([], r)
def gG (bad : Bool) (r : RS) : RS := cond (decide (r.2 = 0) && bad) (r.1, 3) r
def aH (m : Int) (r : RS) : Int × RS := cond (decide ((ak r).2.2 = 0) && decide ((ak r).1 > m)) (0, (ak r).2.1, 4) (ak r)
def mD (r : RS) : Int := (gG (decide (r.1.length > 0)) r).2
end U
namespace U
def qy (b : List Int) (n size : Int) (o : List Int) (i : Int) : St2 := ⟨⟨[own 1] ++ [sK .u64 n] ++ U.n 5 ++ [sI i] ++ U.n 15, [], [(0, .dead), (1, .row 5 (.int .u8) true true o)]⟩, 2, []⟩
def sG (b : List Int) (n size : Int)  (o : List Int) (i : Int) : Prop := -1 <= i /\ i < size /\ o = b ++ (beN size.toNat n).take (size - 1 - i).toNat
def fO (b l : List Int) (o : List Int) (i : Int) : St2 := ⟨⟨[own 0] ++ U.n 8 ++ [sL false (.int .i64) l] ++ [sI l.length] ++ [sI i] ++ U.n 11, [], [(0, .row 5 (.int .u8) true true o)]⟩, 1, []⟩
def iM (b l : List Int)  (o : List Int) (i : Int) : Prop := at_ l i /\ o = b ++ nums (l.take i.toNat)
def eU (b : List Int) (l : List (List Int)) (o : List Int) (i : Int) : St2 := ⟨⟨[own 0] ++ U.n 8 ++ [sL false .str l] ++ [sI l.length] ++ [sI i] ++ U.n 17, [], [(0, .row 5 (.int .u8) true true o)]⟩, 1, []⟩
def jC (b : List Int) (l : List (List Int))  (o : List Int) (i : Int) : Prop := at_ l i /\ o = b ++ texts (l.take i.toNat)
def mF (b : List Int) (n : Int) (i : Int) : St2 := ⟨⟨U.n 2 ++ [sK .u64 n] ++ U.n 2 ++ [sL false (.int .u8) b] ++ [sI b.length] ++ [sI i] ++ U.n 10, [], []⟩, 0, []⟩
def oG (b : List Int)  (n : Int) (i : Int) : Prop := at_ b i /\ n = aT (b.take i.toNat)
def mG (n size : Int) (o : List Int) (m : Int) (i : Int) : St2 := ⟨⟨[sI m] ++ U.n 4 ++ [own 0] ++ [sI i] ++ U.n 17, [], [(0, .row 5 (.int .u8) true true o)]⟩, 1, []⟩
def oH (n size : Int)  (o : List Int) (m : Int) (i : Int) : Prop := -1 <= i /\ i < size /\ m = n / 2 ^ (8 * (size - 1 - i).toNat) /\ o = List.replicate (i + 1).toNat 0 ++ (beN size.toNat n).drop (i + 1).toNat
end U
def Zu (b : List Int) (n size : Int) : Vc.Loop := ⟨{ keep := [0, 1, 7], wake := [(0, 5)] }, List Int × Int, fun x => U.qy b n size x.1 x.2, fun x0 x => U.sG b n size  x.1 x.2, fun x => (x.2 + 1).toNat⟩
def acp (b l : List Int) : Vc.Loop := ⟨{ keep := [0, 9, 10, 11], wake := [(0, 5)] }, List Int × Int, fun x => U.fO b l x.1 x.2, fun x0 x => U.iM b l  x.1 x.2, fun x => l.length - x.2.toNat⟩
def Zv (b : List Int) (l : List (List Int)) : Vc.Loop := ⟨{ keep := [0, 9, 10, 11], wake := [(0, 5)] }, List Int × Int, fun x => U.eU b l x.1 x.2, fun x0 x => U.jC b l  x.1 x.2, fun x => l.length - x.2.toNat⟩
def Wq (b : List Int) : Vc.Loop := ⟨{ keep := [2, 5, 6, 7] }, Int × Int, fun x => U.mF b x.1 x.2, fun x0 x => U.oG b  x.1 x.2, fun x => b.length - x.2.toNat⟩
def Ws (n size : Int) : Vc.Loop := ⟨{ keep := [0, 5, 6] }, List Int × Int × Int, fun x => U.mG n size x.1 x.2.1 x.2.2, fun x0 x => U.oH n size  x.1 x.2.1 x.2.2, fun x => (x.2.2 + 1).toNat⟩
def Ji (b : List Int) (n : Int) (size : Int) : Done := ⟨[1 <= size /\ size <= 8, b.length <= 2000000000000, 0 <= n], .one (.own 1), [.dead], [.row 5 (.int .u8) true true (b ++ U.beN size.toNat n)]⟩
def PE (b : List Int) (n : Int) (size : Int) : List V := [⟨false, [.own 0]⟩, ⟨false, [.int .u64 n]⟩, ⟨false, [.int .i64 size]⟩]
def PG (b : List Int) (n : Int) (size : Int) : List Entry := [.row 5 (.int .u8) true true b]
def Tt (b : List Int) (n : Int) (size : Int) : Nat -> List V -> Nat -> Option Vc.Loop := fun f v k => cond (Nat.beq f 39 && Nat.beq k 2) (some (Zu b n size)) <| none
def GI : List V -> List Entry -> Option Done
 | [⟨false, [.own n1]⟩, ⟨false, [.int .u64 n]⟩, ⟨false, [.int .i64 size]⟩], [.row n2 (.int .u8) true true b] => cond (Nat.beq n1 0 && Nat.beq n2 5) (some (Ji b n size)) none
 | _, _ => none
theorem IK {args : List V} {es : List Entry} {d : Done} (h : GI args es = some d) : ∃ b n size, args = PE b n size /\ es = PG b n size /\ d = Ji b n size := by
 unfold GI at h
 split at h
 ·obtain ⟨hb, hd⟩ := lZ h; simp only [Bool.and_eq_true, Nat.beq_eq] at hb; (try obtain ⟨rfl, rfl⟩ := hb); subst hd; (try subst_vars); exact ⟨_, _, _, rfl, rfl, rfl⟩
 ·cases h
def EO (args : List V) (es : List Entry) : Option Done := orE (GI args es) (none)
def Wu : Vc.Sum := .gen EO
def EP : List (Nat × Ent) := (39, .sum Wu) :: yY
def CO (b : List Int) (l : List Int) : Done := ⟨[b.length <= 1000000000000, l.length <= 100000000000], .one (.psl true (.int .u8) (b ++ U.nums l)), [], []⟩
def YU : Vc.Sum := .pure [aF, uO] false fun x => CO x.1 x.2
def YV (b : List Int) (l : List Int) : Nat -> List V -> Nat -> Option Vc.Loop := fun f v k => cond (Nat.beq f 19 && Nat.beq k 3) (some (acp b l)) <| none
def IL : List (Nat × Ent) := (19, .sum YU) :: EP
def yZ (b : List Int) (l : List (List Int)) : Done := ⟨[b.length <= 1000000000000, l.length <= 100000000], .one (.psl true (.int .u8) (b ++ U.texts l)), [], []⟩
def Wv : Vc.Sum := .pure [aF, II] false fun x => yZ x.1 x.2
def Wx (b : List Int) (l : List (List Int)) : Nat -> List V -> Nat -> Option Vc.Loop := fun f v k => cond (Nat.beq f 62 && Nat.beq k 3) (some (Zv b l)) <| none
def ER : List (Nat × Ent) := (62, .sum Wv) :: IL
def y7 (b : List Int) : Done := ⟨[b.length <= 8], .one (.int .u64 (U.aT b)), [], []⟩
def PI : Vc.Sum := .pure [aF] false fun x => y7 x
def PK (b : List Int) : Nat -> List V -> Nat -> Option Vc.Loop := fun f v k => cond (Nat.beq f 51 && Nat.beq k 2) (some (Wq b)) <| none
def y8 : List (Nat × Ent) := (51, .sum PI) :: ER
def vC (l : List Int) (e : Int) : Done := ⟨[], .one (.int .i64 (U.ak (l, e)).1), [.obj [.psl false tU8 ((U.ak (l, e)).2).1, .int .i64 ((U.ak (l, e)).2).2]], []⟩
def CP (l : List Int) (e : Int) : List V := [⟨false, [.ptr 0 0]⟩]
def CQ (l : List Int) (e : Int) : List Entry := [.obj [.psl false tU8 l, .int .i64 e]]
def Ej (l : List Int) (e : Int) : Nat -> List V -> Nat -> Option Vc.Loop := bZ
def sH : List V -> List Entry -> Option Done
 | [⟨false, [.ptr n1 n2]⟩], [.obj [.psl false t3 l3, .int .i64 e]] => if h3 : t3 = tU8 then cond (Nat.beq n1 0 && Nat.beq n2 0) (some (vC (h3 ▸ l3 : List (Ty.den tU8)) e)) none else none
 | _, _ => none
theorem yh {args : List V} {es : List Entry} {d : Done} (h : sH args es = some d) : ∃ l e, args = CP l e /\ es = CQ l e /\ d = vC l e := by
 unfold sH at h
 split at h
 ·split at h <;> first | (cases h; done) | skip
  rename_i ht; subst ht
  obtain ⟨hb, hd⟩ := lZ h; simp only [Bool.and_eq_true, Nat.beq_eq] at hb; (try obtain ⟨rfl, rfl⟩ := hb); subst hd; (try subst_vars); exact ⟨_, _, rfl, rfl, rfl⟩
 ·cases h
def pR (args : List V) (es : List Entry) : Option Done := orE (sH args es) (none)
def GK : Vc.Sum := .gen pR
def pU : List (Nat × Ent) := (25, .sum GK) :: y8
def sJ (l : List Int) (e : Int) : Done := ⟨[], .one (.str (U.aS (l, e)).1), [.obj [.psl false tU8 ((U.aS (l, e)).2).1, .int .i64 ((U.aS (l, e)).2).2]], []⟩
def zM (l : List Int) (e : Int) : List V := [⟨false, [.ptr 0 0]⟩]
def zN (l : List Int) (e : Int) : List Entry := [.obj [.psl false tU8 l, .int .i64 e]]
def CS (l : List Int) (e : Int) : Nat -> List V -> Nat -> Option Vc.Loop := bZ
def qW : List V -> List Entry -> Option Done
 | [⟨false, [.ptr n1 n2]⟩], [.obj [.psl false t3 l3, .int .i64 e]] => if h3 : t3 = tU8 then cond (Nat.beq n1 0 && Nat.beq n2 0) (some (sJ (h3 ▸ l3 : List (Ty.den tU8)) e)) none else none
 | _, _ => none
theorem vO {args : List V} {es : List Entry} {d : Done} (h : qW args es = some d) : ∃ l e, args = zM l e /\ es = zN l e /\ d = sJ l e := by
 unfold qW at h
 split at h
 ·split at h <;> first | (cases h; done) | skip
  rename_i ht; subst ht
  obtain ⟨hb, hd⟩ := lZ h; simp only [Bool.and_eq_true, Nat.beq_eq] at hb; (try obtain ⟨rfl, rfl⟩ := hb); subst hd; (try subst_vars); exact ⟨_, _, rfl, rfl, rfl⟩
 ·cases h
def nU (args : List V) (es : List Entry) : Option Done := orE (qW args es) (none)
def Em : Vc.Sum := .gen nU
def nV : List (Nat × Ent) := (75, .sum Em) :: pU
def qX (l : List Int) (e : Int) (m : Int) : Done := ⟨[], .one (.int .i64 (U.aH m (l, e)).1), [.obj [.psl false tU8 ((U.aH m (l, e)).2).1, .int .i64 ((U.aH m (l, e)).2).2]], []⟩
def y9 (l : List Int) (e : Int) (m : Int) : List V := [⟨false, [.ptr 0 0]⟩, ⟨false, [.int .i64 m]⟩]
def zf (l : List Int) (e : Int) (m : Int) : List Entry := [.obj [.psl false tU8 l, .int .i64 e]]
def zO (l : List Int) (e : Int) (m : Int) : Nat -> List V -> Nat -> Option Vc.Loop := bZ
def pV : List V -> List Entry -> Option Done
 | [⟨false, [.ptr n1 n2]⟩, ⟨false, [.int .i64 m]⟩], [.obj [.psl false t3 l3, .int .i64 e]] => if h3 : t3 = tU8 then cond (Nat.beq n1 0 && Nat.beq n2 0) (some (qX (h3 ▸ l3 : List (Ty.den tU8)) e m)) none else none
 | _, _ => none
theorem uY {args : List V} {es : List Entry} {d : Done} (h : pV args es = some d) : ∃ l e m, args = y9 l e m /\ es = zf l e m /\ d = qX l e m := by
 unfold pV at h
 split at h
 ·split at h <;> first | (cases h; done) | skip
  rename_i ht; subst ht
  obtain ⟨hb, hd⟩ := lZ h; simp only [Bool.and_eq_true, Nat.beq_eq] at hb; (try obtain ⟨rfl, rfl⟩ := hb); subst hd; (try subst_vars); exact ⟨_, _, _, rfl, rfl, rfl⟩
 ·cases h
def mJ (args : List V) (es : List Entry) : Option Done := orE (pV args es) (none)
def CU : Vc.Sum := .gen mJ
def mM : List (Nat × Ent) := (76, .sum CU) :: nV
def sN (l : List Int) (e : Int) (x : Bool) : Done := ⟨[], .tup [], [.obj [.psl false tU8 (U.gG x (l, e)).1, .int .i64 (U.gG x (l, e)).2]], []⟩
def zQ (l : List Int) (e : Int) (x : Bool) : List V := [⟨false, [.ptr 0 0]⟩, ⟨false, [.bool x]⟩]
def zS (l : List Int) (e : Int) (x : Bool) : List Entry := [.obj [.psl false tU8 l, .int .i64 e]]
def CV (l : List Int) (e : Int) (x : Bool) : Nat -> List V -> Nat -> Option Vc.Loop := bZ
def qY : List V -> List Entry -> Option Done
 | [⟨false, [.ptr n1 n2]⟩, ⟨false, [.bool x]⟩], [.obj [.psl false t3 l3, .int .i64 e]] => if h3 : t3 = tU8 then cond (Nat.beq n1 0 && Nat.beq n2 0) (some (sN (h3 ▸ l3 : List (Ty.den tU8)) e x)) none else none
 | _, _ => none
theorem vP {args : List V} {es : List Entry} {d : Done} (h : qY args es = some d) : ∃ l e x, args = zQ l e x /\ es = zS l e x /\ d = sN l e x := by
 unfold qY at h
 split at h
 ·split at h <;> first | (cases h; done) | skip
  rename_i ht; subst ht
  obtain ⟨hb, hd⟩ := lZ h; simp only [Bool.and_eq_true, Nat.beq_eq] at hb; (try obtain ⟨rfl, rfl⟩ := hb); subst hd; (try subst_vars); exact ⟨_, _, _, rfl, rfl, rfl⟩
 ·cases h
def nX (args : List V) (es : List Entry) : Option Done := orE (qY args es) (none)
def En : Vc.Sum := .gen nX
def nY : List (Nat × Ent) := (26, .sum En) :: mM
def vF (l : List Int) (e : Int) : Done := ⟨[], .one (.int .i64 e), [.obj [.psl false tU8 ((l, e)).1, .int .i64 ((l, e)).2]], []⟩
def CW (l : List Int) (e : Int) : List V := [⟨false, [.ptr 0 0]⟩]
def CX (l : List Int) (e : Int) : List Entry := [.obj [.psl false tU8 l, .int .i64 e]]
def Eo (l : List Int) (e : Int) : Nat -> List V -> Nat -> Option Vc.Loop := bZ
def sO : List V -> List Entry -> Option Done
 | [⟨false, [.ptr n1 n2]⟩], [.obj [.psl false t3 l3, .int .i64 e]] => if h3 : t3 = tU8 then cond (Nat.beq n1 0 && Nat.beq n2 0) (some (vF (h3 ▸ l3 : List (Ty.den tU8)) e)) none else none
 | _, _ => none
theorem yj {args : List V} {es : List Entry} {d : Done} (h : sO args es = some d) : ∃ l e, args = CW l e /\ es = CX l e /\ d = vF l e := by
 unfold sO at h
 split at h
 ·split at h <;> first | (cases h; done) | skip
  rename_i ht; subst ht
  obtain ⟨hb, hd⟩ := lZ h; simp only [Bool.and_eq_true, Nat.beq_eq] at hb; (try obtain ⟨rfl, rfl⟩ := hb); subst hd; (try subst_vars); exact ⟨_, _, rfl, rfl, rfl⟩
 ·cases h
def pW (args : List V) (es : List Entry) : Option Done := orE (sO args es) (none)
def GL : Vc.Sum := .gen pW
def pX : List (Nat × Ent) := (27, .sum GL) :: nY
def sQ (l : List Int) (e : Int) : Done := ⟨[], .one (.int .i64 (U.mD (l, e))), [.obj [.psl false tU8 (U.gG (decide (l.length > 0)) (l, e)).1, .int .i64 (U.gG (decide (l.length > 0)) (l, e)).2]], []⟩
def zT (l : List Int) (e : Int) : List V := [⟨false, [.ptr 0 0]⟩]
def zU (l : List Int) (e : Int) : List Entry := [.obj [.psl false tU8 l, .int .i64 e]]
def CY (l : List Int) (e : Int) : Nat -> List V -> Nat -> Option Vc.Loop := bZ
def qZ : List V -> List Entry -> Option Done
 | [⟨false, [.ptr n1 n2]⟩], [.obj [.psl false t3 l3, .int .i64 e]] => if h3 : t3 = tU8 then cond (Nat.beq n1 0 && Nat.beq n2 0) (some (sQ (h3 ▸ l3 : List (Ty.den tU8)) e)) none else none
 | _, _ => none
theorem vS {args : List V} {es : List Entry} {d : Done} (h : qZ args es = some d) : ∃ l e, args = zT l e /\ es = zU l e /\ d = sQ l e := by
 unfold qZ at h
 split at h
 ·split at h <;> first | (cases h; done) | skip
  rename_i ht; subst ht
  obtain ⟨hb, hd⟩ := lZ h; simp only [Bool.and_eq_true, Nat.beq_eq] at hb; (try obtain ⟨rfl, rfl⟩ := hb); subst hd; (try subst_vars); exact ⟨_, _, rfl, rfl, rfl⟩
 ·cases h
def nZ (args : List V) (es : List Entry) : Option Done := orE (qZ args es) (none)
def Ep : Vc.Sum := .gen nZ
def og : List (Nat × Ent) := (54, .sum Ep) :: pX
def sU (n : Int) (size : Int) : Done := ⟨[1 <= size /\ size <= 8, 0 <= n], .one (.psl true (.int .u8) (U.beN size.toNat n)), [], []⟩
def PL : Vc.Sum := .pure [.int .i64, .int .i64] false fun x => sU x.1 x.2
def PN (n : Int) (size : Int) : Nat -> List V -> Nat -> Option Vc.Loop := fun f v k => cond (Nat.beq f 45 && Nat.beq k 3) (some (Ws n size)) <| none
def zh : List (Nat × Ent) := (45, .sum PL) :: og
def ES (b : List Int) (n : Int) : Done := ⟨[b.length <= 1000000000000], .one (.psl true (.int .u8) (b ++ U.num1 n)), [], []⟩
def WA : Vc.Sum := .pure [aF, .int .i64] false fun x => ES x.1 x.2
def WB (b : List Int) (n : Int) : Nat -> List V -> Nat -> Option Vc.Loop := bZ
def ET : List (Nat × Ent) := (22, .sum WA) :: zh
def Bh (b : List Int) (s : List Int) : Done := ⟨[b.length <= 1000000000000], .one (.psl true (.int .u8) (b ++ U.text1 s)), [], []⟩
def Tv : Vc.Sum := .pure [aF, .str] false fun x => Bh x.1 x.2
def Tz (b : List Int) (s : List Int) : Nat -> List V -> Nat -> Option Vc.Loop := bZ
def Bj : List (Nat × Ent) := (44, .sum Tv) :: ET
def Jj (a : List Int) (b : List Int) : Done := ⟨[], .one (.bool (decide (a = b))), [], []⟩
def TA : Vc.Sum := .pure [aF, aF] false fun x => Jj x.1 x.2
def TB (a : List Int) (b : List Int) : Nat -> List V -> Nat -> Option Vc.Loop := bZ
def Bl : List (Nat × Ent) := (9, .sum TA) :: Bj
end Go.Proofs.YtkhdeldobekciaaGreatDoor
set_option maxRecDepth 100000
set_option linter.unusedVariables false
namespace Go.Proofs.YtkhdeldobekciaaGreatDoor
open Go.Vc
def GN (b : List Int) (n : Int) (size : Int) : Prop := ∃ (x0 : List Int × Int), (U.qy b n size b (IntKind.i64.wrap (size.sub (1 : Int))) = U.qy b n size x0.1 x0.2 /\ U.sG b n size x0.1 x0.2) /\ ∀ (x : List Int × Int), U.sG b n size x.1 x.2 -> bif decide (x.2 >= (0 : Int)) then (0 : Int) <= IntKind.i64.wrap (Int.mul (8 : Int) x.2) /\ (x.1.length.add ((1
 : Nat))).mul (1 : Nat) <= (140737488355328 : Nat) /\ x.1.length.add ((1 : Nat)) <= maxLen /\ ∃ (y : List Int × Int), U.qy b n size (x.1.append ([(0 : Int)].set (0 : Nat) (IntKind.u8.wrap (n.fdiv (Int.pow (2 : Int) (if (IntKind.i64.wrap (Int.mul (8 : Int) x.2)).toNat <= IntKind.u64.bits then (IntKind.i64.wrap (Int.mul (8 : Int) x.2)).toNat else IntKind.u64.bits)))))) (IntKind.i64.wrap (x.2.sub
 (1 : Int))) = U.qy b n size y.1 y.2 /\ U.sG b n size y.1 y.2 /\ (y.2.add (1 : Int)).toNat < (x.2.add (1 : Int)).toNat else x.1 = b.append (U.beN size.toNat n) /\ True
def LP (b : List Int) (l : List Int) : Prop := ∀ (nb : Bool), (nb = true -> b.length = (0 : Nat)) -> (false = true -> nb = true) -> bif nb then ∃ (x0 : List Int × Int), (U.fO b l [] (0 : Int) = U.fO b l x0.1 x0.2 /\ U.iM b l x0.1 x0.2) /\ ∀ (x : List Int × Int), U.iM b l x.1 x.2 -> bif decide (x.2 < (↑l.length : Int)) then (0 : Int) <= x.2 /\ x.2 < (↑l.length :
 Int) /\ ((1 : Int) <= (8 : Int) /\ (8 : Int) <= (8 : Int)) /\ x.1.length <= (2000000000000 : Nat) /\ (0 : Int) <= IntKind.u64.wrap (bJ (pz (l.getD x.2.toNat (0 : Int)) (0 : Int)) (4611686018427387904 : Int)) /\ ∃ (y : List Int × Int), U.fO b l (x.1.append (U.beN (8 : Nat) (IntKind.u64.wrap (bJ (pz (l.getD x.2.toNat (0 : Int)) (0 : Int)) (4611686018427387904 : Int))))) (IntKind.i64.wrap
 (x.2.add (1 : Int))) = U.fO b l y.1 y.2 /\ U.iM b l y.1 y.2 /\ l.length.sub y.2.toNat < l.length.sub x.2.toNat else x.1 = b.append (U.nums l) /\ True else (Nat.add (0 : Nat) b.length).mul (1 : Nat) <= (140737488355328 : Nat) /\ Nat.add (0 : Nat) b.length <= maxLen /\ ∃ (x0 : List Int × Int), (U.fO b l b (0 : Int) = U.fO b l x0.1 x0.2 /\ U.iM b l x0.1 x0.2) /\
 ∀ (x : List Int × Int), U.iM b l x.1 x.2 -> bif decide (x.2 < (↑l.length : Int)) then (0 : Int) <= x.2 /\ x.2 < (↑l.length : Int) /\ ((1 : Int) <= (8 : Int) /\ (8 : Int) <= (8 : Int)) /\ x.1.length <= (2000000000000 : Nat) /\ (0 : Int) <= IntKind.u64.wrap (bJ (pz (l.getD x.2.toNat (0 : Int)) (0 : Int)) (4611686018427387904 : Int)) /\ ∃ (y : List Int × Int), U.fO b l (x.1.append (U.beN (8
 : Nat) (IntKind.u64.wrap (bJ (pz (l.getD x.2.toNat (0 : Int)) (0 : Int)) (4611686018427387904 : Int))))) (IntKind.i64.wrap (x.2.add (1 : Int))) = U.fO b l y.1 y.2 /\ U.iM b l y.1 y.2 /\ l.length.sub y.2.toNat < l.length.sub x.2.toNat else x.1 = b.append (U.nums l) /\ True
def Jk (b : List Int) (l : List (List Int)) : Prop := ∀ (nb : Bool), (nb = true -> b.length = (0 : Nat)) -> (false = true -> nb = true) -> bif nb then ∃ (x0 : List Int × Int), (U.eU b l [] (0 : Int) = U.eU b l x0.1 x0.2 /\ U.jC b l x0.1 x0.2) /\ ∀ (x : List Int × Int), U.jC b l x.1 x.2 -> bif decide (x.2 < (↑l.length : Int)) then (0 : Int) <= x.2 /\ x.2 <
 (↑l.length : Int) /\ (0 : Int) <= (0 : Int) /\ (0 : Int) <= bJ (↑(l.getD x.2.toNat []).length : Int) (4096 : Int) /\ bJ (↑(l.getD x.2.toNat []).length : Int) (4096 : Int) <= (↑(l.getD x.2.toNat []).length : Int) /\ ((1 : Int) <= (4 : Int) /\ (4 : Int) <= (8 : Int)) /\ x.1.length <= (2000000000000 : Nat) /\ (0 : Int) <= IntKind.u64.wrap (↑(List.take ((bJ (↑(l.getD x.2.toNat []).length : Int) (4096 :
 Int)).toNat.sub (0 : Nat)) (List.drop (0 : Nat) (l.getD x.2.toNat []))).length : Int) /\ ((x.1.append (U.beN (4 : Nat) (IntKind.u64.wrap (↑(List.take ((bJ (↑(l.getD x.2.toNat []).length : Int) (4096 : Int)).toNat.sub (0 : Nat)) (List.drop (0 : Nat) (l.getD x.2.toNat []))).length : Int)))).length.add (List.take ((bJ (↑(l.getD x.2.toNat []).length : Int) (4096 : Int)).toNat.sub (0 : Nat))
 (List.drop (0 : Nat) (l.getD x.2.toNat []))).length).mul (1 : Nat) <= (140737488355328 : Nat) /\ (x.1.append (U.beN (4 : Nat) (IntKind.u64.wrap (↑(List.take ((bJ (↑(l.getD x.2.toNat []).length : Int) (4096 : Int)).toNat.sub (0 : Nat)) (List.drop (0 : Nat) (l.getD x.2.toNat []))).length : Int)))).length.add (List.take ((bJ (↑(l.getD x.2.toNat []).length : Int) (4096 : Int)).toNat.sub (0 : Nat))
 (List.drop (0 : Nat) (l.getD x.2.toNat []))).length <= maxLen /\ ∃ (y : List Int × Int), U.eU b l ((x.1.append (U.beN (4 : Nat) (IntKind.u64.wrap (↑(List.take ((bJ (↑(l.getD x.2.toNat []).length : Int) (4096 : Int)).toNat.sub (0 : Nat)) (List.drop (0 : Nat) (l.getD x.2.toNat []))).length : Int)))).append (List.take ((bJ (↑(l.getD x.2.toNat []).length : Int) (4096 : Int)).toNat.sub (0 :
 Nat)) (List.drop (0 : Nat) (l.getD x.2.toNat [])))) (IntKind.i64.wrap (x.2.add (1 : Int))) = U.eU b l y.1 y.2 /\ U.jC b l y.1 y.2 /\ l.length.sub y.2.toNat < l.length.sub x.2.toNat else x.1 = b.append (U.texts l) /\ True else (Nat.add (0 : Nat) b.length).mul (1 : Nat) <= (140737488355328 : Nat) /\ Nat.add (0 : Nat) b.length <= maxLen /\ ∃ (x0 : List Int × Int), (U.eU b l b
 (0 : Int) = U.eU b l x0.1 x0.2 /\ U.jC b l x0.1 x0.2) /\ ∀ (x : List Int × Int), U.jC b l x.1 x.2 -> bif decide (x.2 < (↑l.length : Int)) then (0 : Int) <= x.2 /\ x.2 < (↑l.length : Int) /\ (0 : Int) <= (0 : Int) /\ (0 : Int) <= bJ (↑(l.getD x.2.toNat []).length : Int) (4096 : Int) /\ bJ (↑(l.getD x.2.toNat []).length : Int) (4096 : Int) <= (↑(l.getD x.2.toNat []).length :
 Int) /\ ((1 : Int) <= (4 : Int) /\ (4 : Int) <= (8 : Int)) /\ x.1.length <= (2000000000000 : Nat) /\ (0 : Int) <= IntKind.u64.wrap (↑(List.take ((bJ (↑(l.getD x.2.toNat []).length : Int) (4096 : Int)).toNat.sub (0 : Nat)) (List.drop (0 : Nat) (l.getD x.2.toNat []))).length : Int) /\ ((x.1.append (U.beN (4 : Nat) (IntKind.u64.wrap (↑(List.take ((bJ (↑(l.getD x.2.toNat []).length : Int) (4096 :
 Int)).toNat.sub (0 : Nat)) (List.drop (0 : Nat) (l.getD x.2.toNat []))).length : Int)))).length.add (List.take ((bJ (↑(l.getD x.2.toNat []).length : Int) (4096 : Int)).toNat.sub (0 : Nat)) (List.drop (0 : Nat) (l.getD x.2.toNat []))).length).mul (1 : Nat) <= (140737488355328 : Nat) /\ (x.1.append (U.beN (4 : Nat) (IntKind.u64.wrap (↑(List.take ((bJ (↑(l.getD x.2.toNat []).length : Int) (4096 :
 Int)).toNat.sub (0 : Nat)) (List.drop (0 : Nat) (l.getD x.2.toNat []))).length : Int)))).length.add (List.take ((bJ (↑(l.getD x.2.toNat []).length : Int) (4096 : Int)).toNat.sub (0 : Nat)) (List.drop (0 : Nat) (l.getD x.2.toNat []))).length <= maxLen /\ ∃ (y : List Int × Int), U.eU b l ((x.1.append (U.beN (4 : Nat) (IntKind.u64.wrap (↑(List.take ((bJ (↑(l.getD x.2.toNat []).length :
 Int) (4096 : Int)).toNat.sub (0 : Nat)) (List.drop (0 : Nat) (l.getD x.2.toNat []))).length : Int)))).append (List.take ((bJ (↑(l.getD x.2.toNat []).length : Int) (4096 : Int)).toNat.sub (0 : Nat)) (List.drop (0 : Nat) (l.getD x.2.toNat [])))) (IntKind.i64.wrap (x.2.add (1 : Int))) = U.eU b l y.1 y.2 /\ U.jC b l y.1 y.2 /\ l.length.sub y.2.toNat < l.length.sub x.2.toNat else
 x.1 = b.append (U.texts l) /\ True
def DC (b : List Int) : Prop := ∃ (x0 : Int × Int), (U.mF b (0 : Int) (0 : Int) = U.mF b x0.1 x0.2 /\ U.oG b x0.1 x0.2) /\ ∀ (x : Int × Int), U.oG b x.1 x.2 -> bif decide (x.2 < (↑b.length : Int)) then (0 : Int) <= x.2 /\ x.2 < (↑b.length : Int) /\ (0 : Int) <= (8 : Int) /\ ∃ (y : Int × Int), U.mF b (IntKind.u64.wrap (↑((BitVec.ofInt
 IntKind.u64.bits (IntKind.u64.wrap (x.1.mul (Int.pow (2 : Int) (if (8 : Nat) <= IntKind.u64.bits then (8 : Nat) else IntKind.u64.bits))))).or (BitVec.ofInt IntKind.u64.bits (IntKind.u64.wrap (b.getD x.2.toNat (0 : Int))))).toNat : Int)) (IntKind.i64.wrap (x.2.add (1 : Int))) = U.mF b y.1 y.2 /\ U.oG b y.1 y.2 /\ b.length.sub y.2.toNat < b.length.sub x.2.toNat else x.1 = U.aT
 b /\ True
def sV (l : List Int) (e : Int) : Prop := bif bif decide ((↑l.length : Int) < (8 : Int)) then decide (e = (0 : Int)) else false then bif (2 : Int) != (0 : Int) then (0 : Int) = (U.ak (l, e)).1 /\ l = (U.ak (l, e)).2.1 /\ (2 : Int) = (U.ak (l, e)).2.2 /\ True else (0 : Int) <= (0 : Int) /\ (0 : Int) <= (8 : Int) /\ (8 : Int) <= (↑l.length : Int) /\ (0 : Int) <= (8 : Int) /\ (8 : Int) <=
 (↑l.length : Int) /\ (↑l.length : Int) <= (↑l.length : Int) /\ (List.take ((8 : Nat).sub (0 : Nat)) (List.drop (0 : Nat) l)).length <= (8 : Nat) /\ bif bif decide (U.aT (List.take ((8 : Nat).sub (0 : Nat)) (List.drop (0 : Nat) l)) > (4611686018427387904 : Int)) then decide ((2 : Int) = (0 : Int)) else false then bif (3 : Int) != (0 : Int) then (0 : Int) = (U.ak (l, e)).1 /\ List.take ((↑l.length :
 Int).toNat.sub (8 : Nat)) (List.drop (8 : Nat) l) = (U.ak (l, e)).2.1 /\ (3 : Int) = (U.ak (l, e)).2.2 /\ True else IntKind.i64.wrap (U.aT (List.take ((8 : Nat).sub (0 : Nat)) (List.drop (0 : Nat) l))) = (U.ak (l, e)).1 /\ List.take ((↑l.length : Int).toNat.sub (8 : Nat)) (List.drop (8 : Nat) l) = (U.ak (l, e)).2.1 /\ (3 : Int) = (U.ak (l, e)).2.2 /\ True else bif (2 : Int) != (0 : Int) then
 (0 : Int) = (U.ak (l, e)).1 /\ List.take ((↑l.length : Int).toNat.sub (8 : Nat)) (List.drop (8 : Nat) l) = (U.ak (l, e)).2.1 /\ (2 : Int) = (U.ak (l, e)).2.2 /\ True else IntKind.i64.wrap (U.aT (List.take ((8 : Nat).sub (0 : Nat)) (List.drop (0 : Nat) l))) = (U.ak (l, e)).1 /\ List.take ((↑l.length : Int).toNat.sub (8 : Nat)) (List.drop (8 : Nat) l) = (U.ak (l, e)).2.1 /\ (2 : Int) = (U.ak
 (l, e)).2.2 /\ True else bif e != (0 : Int) then (0 : Int) = (U.ak (l, e)).1 /\ l = (U.ak (l, e)).2.1 /\ e = (U.ak (l, e)).2.2 /\ True else (0 : Int) <= (0 : Int) /\ (0 : Int) <= (8 : Int) /\ (8 : Int) <= (↑l.length : Int) /\ (0 : Int) <= (8 : Int) /\ (8 : Int) <= (↑l.length : Int) /\ (↑l.length : Int) <= (↑l.length : Int) /\ (List.take ((8 : Nat).sub (0 : Nat)) (List.drop (0 : Nat) l)).length <= (8 : Nat) /\
 bif bif decide (U.aT (List.take ((8 : Nat).sub (0 : Nat)) (List.drop (0 : Nat) l)) > (4611686018427387904 : Int)) then decide (e = (0 : Int)) else false then bif (3 : Int) != (0 : Int) then (0 : Int) = (U.ak (l, e)).1 /\ List.take ((↑l.length : Int).toNat.sub (8 : Nat)) (List.drop (8 : Nat) l) = (U.ak (l, e)).2.1 /\ (3 : Int) = (U.ak (l, e)).2.2 /\ True else IntKind.i64.wrap (U.aT (List.take
 ((8 : Nat).sub (0 : Nat)) (List.drop (0 : Nat) l))) = (U.ak (l, e)).1 /\ List.take ((↑l.length : Int).toNat.sub (8 : Nat)) (List.drop (8 : Nat) l) = (U.ak (l, e)).2.1 /\ (3 : Int) = (U.ak (l, e)).2.2 /\ True else bif e != (0 : Int) then (0 : Int) = (U.ak (l, e)).1 /\ List.take ((↑l.length : Int).toNat.sub (8 : Nat)) (List.drop (8 : Nat) l) = (U.ak (l, e)).2.1 /\ e = (U.ak (l, e)).2.2 /\ True
 else IntKind.i64.wrap (U.aT (List.take ((8 : Nat).sub (0 : Nat)) (List.drop (0 : Nat) l))) = (U.ak (l, e)).1 /\ List.take ((↑l.length : Int).toNat.sub (8 : Nat)) (List.drop (8 : Nat) l) = (U.ak (l, e)).2.1 /\ e = (U.ak (l, e)).2.2 /\ True
def ru (l : List Int) (e : Int) : Prop := bif bif decide ((↑l.length : Int) < (4 : Int)) then decide (e = (0 : Int)) else false then bif (2 : Int) != (0 : Int) then [] = (U.aS (l, e)).1 /\ l = (U.aS (l, e)).2.1 /\ (2 : Int) = (U.aS (l, e)).2.2 /\ True else (0 : Int) <= (0 : Int) /\ (0 : Int) <= (4 : Int) /\ (4 : Int) <= (↑l.length : Int) /\ (0 : Int) <= (4 : Int) /\ (4 : Int) <=
 (↑l.length : Int) /\ (↑l.length : Int) <= (↑l.length : Int) /\ (List.take ((4 : Nat).sub (0 : Nat)) (List.drop (0 : Nat) l)).length <= (8 : Nat) /\ bif bif decide (IntKind.i64.wrap (U.aT (List.take ((4 : Nat).sub (0 : Nat)) (List.drop (0 : Nat) l))) > (4096 : Int)) then decide ((2 : Int) = (0 : Int)) else false then bif bif decide ((↑(List.take ((↑l.length : Int).toNat.sub (4 : Nat)) (List.drop (4 :
 Nat) l)).length : Int) < IntKind.i64.wrap (U.aT (List.take ((4 : Nat).sub (0 : Nat)) (List.drop (0 : Nat) l)))) then decide ((4 : Int) = (0 : Int)) else false then bif (2 : Int) != (0 : Int) then [] = (U.aS (l, e)).1 /\ List.take ((↑l.length : Int).toNat.sub (4 : Nat)) (List.drop (4 : Nat) l) = (U.aS (l, e)).2.1 /\ (2 : Int) = (U.aS (l, e)).2.2 /\ True else (0 : Int) <= (0 : Int) /\ (0 : Int)
 <= IntKind.i64.wrap (U.aT (List.take ((4 : Nat).sub (0 : Nat)) (List.drop (0 : Nat) l))) /\ IntKind.i64.wrap (U.aT (List.take ((4 : Nat).sub (0 : Nat)) (List.drop (0 : Nat) l))) <= (↑(List.take ((↑l.length : Int).toNat.sub (4 : Nat)) (List.drop (4 : Nat) l)).length : Int) /\ (0 : Int) <= IntKind.i64.wrap (U.aT (List.take ((4 : Nat).sub (0 : Nat)) (List.drop (0 : Nat) l))) /\ IntKind.i64.wrap
 (U.aT (List.take ((4 : Nat).sub (0 : Nat)) (List.drop (0 : Nat) l))) <= (↑(List.take ((↑l.length : Int).toNat.sub (4 : Nat)) (List.drop (4 : Nat) l)).length : Int) /\ (↑(List.take ((↑l.length : Int).toNat.sub (4 : Nat)) (List.drop (4 : Nat) l)).length : Int) <= (↑(List.take ((↑l.length : Int).toNat.sub (4 : Nat)) (List.drop (4 : Nat) l)).length : Int) /\ List.take ((IntKind.i64.wrap (U.aT
 (List.take ((4 : Nat).sub (0 : Nat)) (List.drop (0 : Nat) l)))).toNat.sub (0 : Nat)) (List.drop (0 : Nat) (List.take ((↑l.length : Int).toNat.sub (4 : Nat)) (List.drop (4 : Nat) l))) = (U.aS (l, e)).1 /\ List.take ((↑(List.take ((↑l.length : Int).toNat.sub (4 : Nat)) (List.drop (4 : Nat) l)).length : Int).toNat.sub (IntKind.i64.wrap (U.aT (List.take ((4 : Nat).sub (0 : Nat)) (List.drop (0 :
 Nat) l)))).toNat) (List.drop (IntKind.i64.wrap (U.aT (List.take ((4 : Nat).sub (0 : Nat)) (List.drop (0 : Nat) l)))).toNat (List.take ((↑l.length : Int).toNat.sub (4 : Nat)) (List.drop (4 : Nat) l))) = (U.aS (l, e)).2.1 /\ (2 : Int) = (U.aS (l, e)).2.2 /\ True else bif (4 : Int) != (0 : Int) then [] = (U.aS (l, e)).1 /\ List.take ((↑l.length : Int).toNat.sub (4 : Nat)) (List.drop (4 : Nat)
 l) = (U.aS (l, e)).2.1 /\ (4 : Int) = (U.aS (l, e)).2.2 /\ True else (0 : Int) <= (0 : Int) /\ (0 : Int) <= IntKind.i64.wrap (U.aT (List.take ((4 : Nat).sub (0 : Nat)) (List.drop (0 : Nat) l))) /\ IntKind.i64.wrap (U.aT (List.take ((4 : Nat).sub (0 : Nat)) (List.drop (0 : Nat) l))) <= (↑(List.take ((↑l.length : Int).toNat.sub (4 : Nat)) (List.drop (4 : Nat) l)).length : Int) /\ (0 : Int) <=
 IntKind.i64.wrap (U.aT (List.take ((4 : Nat).sub (0 : Nat)) (List.drop (0 : Nat) l))) /\ IntKind.i64.wrap (U.aT (List.take ((4 : Nat).sub (0 : Nat)) (List.drop (0 : Nat) l))) <= (↑(List.take ((↑l.length : Int).toNat.sub (4 : Nat)) (List.drop (4 : Nat) l)).length : Int) /\ (↑(List.take ((↑l.length : Int).toNat.sub (4 : Nat)) (List.drop (4 : Nat) l)).length : Int) <= (↑(List.take ((↑l.length :
 Int).toNat.sub (4 : Nat)) (List.drop (4 : Nat) l)).length : Int) /\ List.take ((IntKind.i64.wrap (U.aT (List.take ((4 : Nat).sub (0 : Nat)) (List.drop (0 : Nat) l)))).toNat.sub (0 : Nat)) (List.drop (0 : Nat) (List.take ((↑l.length : Int).toNat.sub (4 : Nat)) (List.drop (4 : Nat) l))) = (U.aS (l, e)).1 /\ List.take ((↑(List.take ((↑l.length : Int).toNat.sub (4 : Nat)) (List.drop (4 : Nat)
 l)).length : Int).toNat.sub (IntKind.i64.wrap (U.aT (List.take ((4 : Nat).sub (0 : Nat)) (List.drop (0 : Nat) l)))).toNat) (List.drop (IntKind.i64.wrap (U.aT (List.take ((4 : Nat).sub (0 : Nat)) (List.drop (0 : Nat) l)))).toNat (List.take ((↑l.length : Int).toNat.sub (4 : Nat)) (List.drop (4 : Nat) l))) = (U.aS (l, e)).2.1 /\ (4 : Int) = (U.aS (l, e)).2.2 /\ True else bif bif decide
 ((↑(List.take ((↑l.length : Int).toNat.sub (4 : Nat)) (List.drop (4 : Nat) l)).length : Int) < IntKind.i64.wrap (U.aT (List.take ((4 : Nat).sub (0 : Nat)) (List.drop (0 : Nat) l)))) then decide ((2 : Int) = (0 : Int)) else false then bif (2 : Int) != (0 : Int) then [] = (U.aS (l, e)).1 /\ List.take ((↑l.length : Int).toNat.sub (4 : Nat)) (List.drop (4 : Nat) l) = (U.aS (l, e)).2.1 /\ (2 :
 Int) = (U.aS (l, e)).2.2 /\ True else (0 : Int) <= (0 : Int) /\ (0 : Int) <= IntKind.i64.wrap (U.aT (List.take ((4 : Nat).sub (0 : Nat)) (List.drop (0 : Nat) l))) /\ IntKind.i64.wrap (U.aT (List.take ((4 : Nat).sub (0 : Nat)) (List.drop (0 : Nat) l))) <= (↑(List.take ((↑l.length : Int).toNat.sub (4 : Nat)) (List.drop (4 : Nat) l)).length : Int) /\ (0 : Int) <= IntKind.i64.wrap (U.aT (List.take ((4
 : Nat).sub (0 : Nat)) (List.drop (0 : Nat) l))) /\ IntKind.i64.wrap (U.aT (List.take ((4 : Nat).sub (0 : Nat)) (List.drop (0 : Nat) l))) <= (↑(List.take ((↑l.length : Int).toNat.sub (4 : Nat)) (List.drop (4 : Nat) l)).length : Int) /\ (↑(List.take ((↑l.length : Int).toNat.sub (4 : Nat)) (List.drop (4 : Nat) l)).length : Int) <= (↑(List.take ((↑l.length : Int).toNat.sub (4 : Nat)) (List.drop (4 : Nat)
 l)).length : Int) /\ List.take ((IntKind.i64.wrap (U.aT (List.take ((4 : Nat).sub (0 : Nat)) (List.drop (0 : Nat) l)))).toNat.sub (0 : Nat)) (List.drop (0 : Nat) (List.take ((↑l.length : Int).toNat.sub (4 : Nat)) (List.drop (4 : Nat) l))) = (U.aS (l, e)).1 /\ List.take ((↑(List.take ((↑l.length : Int).toNat.sub (4 : Nat)) (List.drop (4 : Nat) l)).length : Int).toNat.sub (IntKind.i64.wrap (U.aT
 (List.take ((4 : Nat).sub (0 : Nat)) (List.drop (0 : Nat) l)))).toNat) (List.drop (IntKind.i64.wrap (U.aT (List.take ((4 : Nat).sub (0 : Nat)) (List.drop (0 : Nat) l)))).toNat (List.take ((↑l.length : Int).toNat.sub (4 : Nat)) (List.drop (4 : Nat) l))) = (U.aS (l, e)).2.1 /\ (2 : Int) = (U.aS (l, e)).2.2 /\ True else bif (2 : Int) != (0 : Int) then [] = (U.aS (l, e)).1 /\ List.take
 ((↑l.length : Int).toNat.sub (4 : Nat)) (List.drop (4 : Nat) l) = (U.aS (l, e)).2.1 /\ (2 : Int) = (U.aS (l, e)).2.2 /\ True else (0 : Int) <= (0 : Int) /\ (0 : Int) <= IntKind.i64.wrap (U.aT (List.take ((4 : Nat).sub (0 : Nat)) (List.drop (0 : Nat) l))) /\ IntKind.i64.wrap (U.aT (List.take ((4 : Nat).sub (0 : Nat)) (List.drop (0 : Nat) l))) <= (↑(List.take ((↑l.length : Int).toNat.sub (4 :
 Nat)) (List.drop (4 : Nat) l)).length : Int) /\ (0 : Int) <= IntKind.i64.wrap (U.aT (List.take ((4 : Nat).sub (0 : Nat)) (List.drop (0 : Nat) l))) /\ IntKind.i64.wrap (U.aT (List.take ((4 : Nat).sub (0 : Nat)) (List.drop (0 : Nat) l))) <= (↑(List.take ((↑l.length : Int).toNat.sub (4 : Nat)) (List.drop (4 : Nat) l)).length : Int) /\ (↑(List.take ((↑l.length : Int).toNat.sub (4 : Nat)) (List.drop (4 :
 Nat) l)).length : Int) <= (↑(List.take ((↑l.length : Int).toNat.sub (4 : Nat)) (List.drop (4 : Nat) l)).length : Int) /\ List.take ((IntKind.i64.wrap (U.aT (List.take ((4 : Nat).sub (0 : Nat)) (List.drop (0 : Nat) l)))).toNat.sub (0 : Nat)) (List.drop (0 : Nat) (List.take ((↑l.length : Int).toNat.sub (4 : Nat)) (List.drop (4 : Nat) l))) = (U.aS (l, e)).1 /\ List.take ((↑(List.take ((↑l.length :
 Int).toNat.sub (4 : Nat)) (List.drop (4 : Nat) l)).length : Int).toNat.sub (IntKind.i64.wrap (U.aT (List.take ((4 : Nat).sub (0 : Nat)) (List.drop (0 : Nat) l)))).toNat) (List.drop (IntKind.i64.wrap (U.aT (List.take ((4 : Nat).sub (0 : Nat)) (List.drop (0 : Nat) l)))).toNat (List.take ((↑l.length : Int).toNat.sub (4 : Nat)) (List.drop (4 : Nat) l))) = (U.aS (l, e)).2.1 /\ (2 : Int) = (U.aS
 (l, e)).2.2 /\ True else bif e != (0 : Int) then [] = (U.aS (l, e)).1 /\ l = (U.aS (l, e)).2.1 /\ e = (U.aS (l, e)).2.2 /\ True else (0 : Int) <= (0 : Int) /\ (0 : Int) <= (4 : Int) /\ (4 : Int) <= (↑l.length : Int) /\ (0 : Int) <= (4 : Int) /\ (4 : Int) <= (↑l.length : Int) /\ (↑l.length : Int) <= (↑l.length : Int) /\ (List.take ((4 : Nat).sub (0 : Nat)) (List.drop (0 : Nat) l)).length <= (8 : Nat) /\ bif
 bif decide (IntKind.i64.wrap (U.aT (List.take ((4 : Nat).sub (0 : Nat)) (List.drop (0 : Nat) l))) > (4096 : Int)) then decide (e = (0 : Int)) else false then bif bif decide ((↑(List.take ((↑l.length : Int).toNat.sub (4 : Nat)) (List.drop (4 : Nat) l)).length : Int) < IntKind.i64.wrap (U.aT (List.take ((4 : Nat).sub (0 : Nat)) (List.drop (0 : Nat) l)))) then decide ((4 : Int) = (0 : Int)) else
 false then bif (2 : Int) != (0 : Int) then [] = (U.aS (l, e)).1 /\ List.take ((↑l.length : Int).toNat.sub (4 : Nat)) (List.drop (4 : Nat) l) = (U.aS (l, e)).2.1 /\ (2 : Int) = (U.aS (l, e)).2.2 /\ True else (0 : Int) <= (0 : Int) /\ (0 : Int) <= IntKind.i64.wrap (U.aT (List.take ((4 : Nat).sub (0 : Nat)) (List.drop (0 : Nat) l))) /\ IntKind.i64.wrap (U.aT (List.take ((4 : Nat).sub (0 : Nat))
 (List.drop (0 : Nat) l))) <= (↑(List.take ((↑l.length : Int).toNat.sub (4 : Nat)) (List.drop (4 : Nat) l)).length : Int) /\ (0 : Int) <= IntKind.i64.wrap (U.aT (List.take ((4 : Nat).sub (0 : Nat)) (List.drop (0 : Nat) l))) /\ IntKind.i64.wrap (U.aT (List.take ((4 : Nat).sub (0 : Nat)) (List.drop (0 : Nat) l))) <= (↑(List.take ((↑l.length : Int).toNat.sub (4 : Nat)) (List.drop (4 : Nat) l)).length :
 Int) /\ (↑(List.take ((↑l.length : Int).toNat.sub (4 : Nat)) (List.drop (4 : Nat) l)).length : Int) <= (↑(List.take ((↑l.length : Int).toNat.sub (4 : Nat)) (List.drop (4 : Nat) l)).length : Int) /\ List.take ((IntKind.i64.wrap (U.aT (List.take ((4 : Nat).sub (0 : Nat)) (List.drop (0 : Nat) l)))).toNat.sub (0 : Nat)) (List.drop (0 : Nat) (List.take ((↑l.length : Int).toNat.sub (4 : Nat)) (List.drop
 (4 : Nat) l))) = (U.aS (l, e)).1 /\ List.take ((↑(List.take ((↑l.length : Int).toNat.sub (4 : Nat)) (List.drop (4 : Nat) l)).length : Int).toNat.sub (IntKind.i64.wrap (U.aT (List.take ((4 : Nat).sub (0 : Nat)) (List.drop (0 : Nat) l)))).toNat) (List.drop (IntKind.i64.wrap (U.aT (List.take ((4 : Nat).sub (0 : Nat)) (List.drop (0 : Nat) l)))).toNat (List.take ((↑l.length : Int).toNat.sub (4 :
 Nat)) (List.drop (4 : Nat) l))) = (U.aS (l, e)).2.1 /\ (2 : Int) = (U.aS (l, e)).2.2 /\ True else bif (4 : Int) != (0 : Int) then [] = (U.aS (l, e)).1 /\ List.take ((↑l.length : Int).toNat.sub (4 : Nat)) (List.drop (4 : Nat) l) = (U.aS (l, e)).2.1 /\ (4 : Int) = (U.aS (l, e)).2.2 /\ True else (0 : Int) <= (0 : Int) /\ (0 : Int) <= IntKind.i64.wrap (U.aT (List.take ((4 : Nat).sub (0 : Nat))
 (List.drop (0 : Nat) l))) /\ IntKind.i64.wrap (U.aT (List.take ((4 : Nat).sub (0 : Nat)) (List.drop (0 : Nat) l))) <= (↑(List.take ((↑l.length : Int).toNat.sub (4 : Nat)) (List.drop (4 : Nat) l)).length : Int) /\ (0 : Int) <= IntKind.i64.wrap (U.aT (List.take ((4 : Nat).sub (0 : Nat)) (List.drop (0 : Nat) l))) /\ IntKind.i64.wrap (U.aT (List.take ((4 : Nat).sub (0 : Nat)) (List.drop (0 : Nat) l)))
 <= (↑(List.take ((↑l.length : Int).toNat.sub (4 : Nat)) (List.drop (4 : Nat) l)).length : Int) /\ (↑(List.take ((↑l.length : Int).toNat.sub (4 : Nat)) (List.drop (4 : Nat) l)).length : Int) <= (↑(List.take ((↑l.length : Int).toNat.sub (4 : Nat)) (List.drop (4 : Nat) l)).length : Int) /\ List.take ((IntKind.i64.wrap (U.aT (List.take ((4 : Nat).sub (0 : Nat)) (List.drop (0 : Nat) l)))).toNat.sub (0 :
 Nat)) (List.drop (0 : Nat) (List.take ((↑l.length : Int).toNat.sub (4 : Nat)) (List.drop (4 : Nat) l))) = (U.aS (l, e)).1 /\ List.take ((↑(List.take ((↑l.length : Int).toNat.sub (4 : Nat)) (List.drop (4 : Nat) l)).length : Int).toNat.sub (IntKind.i64.wrap (U.aT (List.take ((4 : Nat).sub (0 : Nat)) (List.drop (0 : Nat) l)))).toNat) (List.drop (IntKind.i64.wrap (U.aT (List.take ((4 : Nat).sub
 (0 : Nat)) (List.drop (0 : Nat) l)))).toNat (List.take ((↑l.length : Int).toNat.sub (4 : Nat)) (List.drop (4 : Nat) l))) = (U.aS (l, e)).2.1 /\ (4 : Int) = (U.aS (l, e)).2.2 /\ True else bif bif decide ((↑(List.take ((↑l.length : Int).toNat.sub (4 : Nat)) (List.drop (4 : Nat) l)).length : Int) < IntKind.i64.wrap (U.aT (List.take ((4 : Nat).sub (0 : Nat)) (List.drop (0 : Nat) l)))) then decide
 (e = (0 : Int)) else false then bif (2 : Int) != (0 : Int) then [] = (U.aS (l, e)).1 /\ List.take ((↑l.length : Int).toNat.sub (4 : Nat)) (List.drop (4 : Nat) l) = (U.aS (l, e)).2.1 /\ (2 : Int) = (U.aS (l, e)).2.2 /\ True else (0 : Int) <= (0 : Int) /\ (0 : Int) <= IntKind.i64.wrap (U.aT (List.take ((4 : Nat).sub (0 : Nat)) (List.drop (0 : Nat) l))) /\ IntKind.i64.wrap (U.aT (List.take ((4 :
 Nat).sub (0 : Nat)) (List.drop (0 : Nat) l))) <= (↑(List.take ((↑l.length : Int).toNat.sub (4 : Nat)) (List.drop (4 : Nat) l)).length : Int) /\ (0 : Int) <= IntKind.i64.wrap (U.aT (List.take ((4 : Nat).sub (0 : Nat)) (List.drop (0 : Nat) l))) /\ IntKind.i64.wrap (U.aT (List.take ((4 : Nat).sub (0 : Nat)) (List.drop (0 : Nat) l))) <= (↑(List.take ((↑l.length : Int).toNat.sub (4 : Nat)) (List.drop (4
 : Nat) l)).length : Int) /\ (↑(List.take ((↑l.length : Int).toNat.sub (4 : Nat)) (List.drop (4 : Nat) l)).length : Int) <= (↑(List.take ((↑l.length : Int).toNat.sub (4 : Nat)) (List.drop (4 : Nat) l)).length : Int) /\ List.take ((IntKind.i64.wrap (U.aT (List.take ((4 : Nat).sub (0 : Nat)) (List.drop (0 : Nat) l)))).toNat.sub (0 : Nat)) (List.drop (0 : Nat) (List.take ((↑l.length : Int).toNat.sub (4
 : Nat)) (List.drop (4 : Nat) l))) = (U.aS (l, e)).1 /\ List.take ((↑(List.take ((↑l.length : Int).toNat.sub (4 : Nat)) (List.drop (4 : Nat) l)).length : Int).toNat.sub (IntKind.i64.wrap (U.aT (List.take ((4 : Nat).sub (0 : Nat)) (List.drop (0 : Nat) l)))).toNat) (List.drop (IntKind.i64.wrap (U.aT (List.take ((4 : Nat).sub (0 : Nat)) (List.drop (0 : Nat) l)))).toNat (List.take ((↑l.length :
 Int).toNat.sub (4 : Nat)) (List.drop (4 : Nat) l))) = (U.aS (l, e)).2.1 /\ (2 : Int) = (U.aS (l, e)).2.2 /\ True else bif e != (0 : Int) then [] = (U.aS (l, e)).1 /\ List.take ((↑l.length : Int).toNat.sub (4 : Nat)) (List.drop (4 : Nat) l) = (U.aS (l, e)).2.1 /\ e = (U.aS (l, e)).2.2 /\ True else (0 : Int) <= (0 : Int) /\ (0 : Int) <= IntKind.i64.wrap (U.aT (List.take ((4 : Nat).sub (0 :
 Nat)) (List.drop (0 : Nat) l))) /\ IntKind.i64.wrap (U.aT (List.take ((4 : Nat).sub (0 : Nat)) (List.drop (0 : Nat) l))) <= (↑(List.take ((↑l.length : Int).toNat.sub (4 : Nat)) (List.drop (4 : Nat) l)).length : Int) /\ (0 : Int) <= IntKind.i64.wrap (U.aT (List.take ((4 : Nat).sub (0 : Nat)) (List.drop (0 : Nat) l))) /\ IntKind.i64.wrap (U.aT (List.take ((4 : Nat).sub (0 : Nat)) (List.drop (0 :
 Nat) l))) <= (↑(List.take ((↑l.length : Int).toNat.sub (4 : Nat)) (List.drop (4 : Nat) l)).length : Int) /\ (↑(List.take ((↑l.length : Int).toNat.sub (4 : Nat)) (List.drop (4 : Nat) l)).length : Int) <= (↑(List.take ((↑l.length : Int).toNat.sub (4 : Nat)) (List.drop (4 : Nat) l)).length : Int) /\ List.take ((IntKind.i64.wrap (U.aT (List.take ((4 : Nat).sub (0 : Nat)) (List.drop (0 : Nat)
 l)))).toNat.sub (0 : Nat)) (List.drop (0 : Nat) (List.take ((↑l.length : Int).toNat.sub (4 : Nat)) (List.drop (4 : Nat) l))) = (U.aS (l, e)).1 /\ List.take ((↑(List.take ((↑l.length : Int).toNat.sub (4 : Nat)) (List.drop (4 : Nat) l)).length : Int).toNat.sub (IntKind.i64.wrap (U.aT (List.take ((4 : Nat).sub (0 : Nat)) (List.drop (0 : Nat) l)))).toNat) (List.drop (IntKind.i64.wrap (U.aT
 (List.take ((4 : Nat).sub (0 : Nat)) (List.drop (0 : Nat) l)))).toNat (List.take ((↑l.length : Int).toNat.sub (4 : Nat)) (List.drop (4 : Nat) l))) = (U.aS (l, e)).2.1 /\ e = (U.aS (l, e)).2.2 /\ True
def pY (l : List Int) (e : Int) (m : Int) : Prop := bif bif decide ((U.ak (l, e)).1 > m) then decide ((U.ak (l, e)).2.2 = (0 : Int)) else false then bif (4 : Int) != (0 : Int) then (0 : Int) = (U.aH m (l, e)).1 /\ (U.ak (l, e)).2.1 = (U.aH m (l, e)).2.1 /\ (4 : Int) = (U.aH m (l, e)).2.2 /\ True else (U.ak (l, e)).1 = (U.aH m (l, e)).1 /\ (U.ak (l, e)).2.1 =
 (U.aH m (l, e)).2.1 /\ (4 : Int) = (U.aH m (l, e)).2.2 /\ True else bif (U.ak (l, e)).2.2 != (0 : Int) then (0 : Int) = (U.aH m (l, e)).1 /\ (U.ak (l, e)).2.1 = (U.aH m (l, e)).2.1 /\ (U.ak (l, e)).2.2 = (U.aH m (l, e)).2.2 /\ True else (U.ak (l, e)).1 = (U.aH m (l, e)).1 /\ (U.ak (l, e)).2.1 = (U.aH m (l, e)).2.1 /\ (U.ak (l, e)).2.2 = (U.aH m (l, e)).2.2 /\
 True
def rC (l : List Int) (e : Int) (x : Bool) : Prop := bif bif x then decide (e = (0 : Int)) else false then l = (U.gG x (l, e)).1 /\ (3 : Int) = (U.gG x (l, e)).2 /\ True else l = (U.gG x (l, e)).1 /\ e = (U.gG x (l, e)).2 /\ True
def sW (l : List Int) (e : Int) : Prop := e = e /\ l = l /\ e = e /\ True
def rD (l : List Int) (e : Int) : Prop := (U.gG (decide ((↑l.length : Int) > (0 : Int))) (l, e)).2 = U.mD (l, e) /\ (U.gG (decide ((↑l.length : Int) > (0 : Int))) (l, e)).1 = (U.gG (decide (l.length > (0 : Nat))) (l, e)).1 /\ (U.gG (decide ((↑l.length : Int) > (0 : Int))) (l, e)).2 = (U.gG (decide (l.length > (0 : Nat))) (l, e)).2 /\ True
def DF (n : Int) (size : Int) : Prop := (0 : Int) <= size /\ size <= size /\ size.mul (↑(1 : Nat) : Int) <= (140737488355328 : Int) /\ size <= (9223372036854775807 : Int) /\ ∃ (x0 : List Int × Int × Int), (U.mG n size (List.replicate size.toNat (0 : Int)) n (IntKind.i64.wrap (size.sub (1 : Int))) = U.mG n size x0.1 x0.2.1 x0.2.2 /\ U.oH n size x0.1 x0.2.1
 x0.2.2) /\ ∀ (x : List Int × Int × Int), U.oH n size x.1 x.2.1 x.2.2 -> bif decide (x.2.2 >= (0 : Int)) then (256 : Int) ≠ (0 : Int) /\ (0 : Int) <= x.2.2 /\ x.2.2 < (↑x.1.length : Int) /\ x.2.2.toNat < x.1.length /\ (256 : Int) ≠ (0 : Int) /\ ∃ (y : List Int × Int × Int), U.mG n size (x.1.set x.2.2.toNat (IntKind.u8.wrap (x.2.1.tmod (256 : Int)))) (IntKind.i64.wrap (x.2.1.tdiv (256
 : Int))) (IntKind.i64.wrap (x.2.2.sub (1 : Int))) = U.mG n size y.1 y.2.1 y.2.2 /\ U.oH n size y.1 y.2.1 y.2.2 /\ (y.2.2.add (1 : Int)).toNat < (x.2.2.add (1 : Int)).toNat else x.1 = U.beN size.toNat n /\ True
def Jl (b : List Int) (n : Int) : Prop := (Nat.add (0 : Nat) b.length).mul (1 : Nat) <= (140737488355328 : Nat) /\ Nat.add (0 : Nat) b.length <= maxLen /\ ((1 : Int) <= (8 : Int) /\ (8 : Int) <= (8 : Int)) /\ (0 : Int) <= bJ (pz n (0 : Int)) (4611686018427387904 : Int) /\ (b.length.add (U.beN (8 : Nat) (bJ (pz n (0 : Int)) (4611686018427387904 : Int))).length).mul (1 : Nat) <=
 (140737488355328 : Nat) /\ b.length.add (U.beN (8 : Nat) (bJ (pz n (0 : Int)) (4611686018427387904 : Int))).length <= maxLen /\ b.append (U.beN (8 : Nat) (bJ (pz n (0 : Int)) (4611686018427387904 : Int))) = b.append (U.num1 n) /\ True
def GR (b : List Int) (s : List Int) : Prop := bif decide ((↑s.length : Int) > (4096 : Int)) then (0 : Int) <= (0 : Int) /\ (0 : Int) <= (4096 : Int) /\ (4096 : Int) <= (↑s.length : Int) /\ (Nat.add (0 : Nat) b.length).mul (1 : Nat) <= (140737488355328 : Nat) /\ Nat.add (0 : Nat) b.length <= maxLen /\ ((1 : Int) <= (4 : Int) /\ (4 : Int) <= (8 : Int)) /\ (0 : Int) <= (↑(List.take ((4096 : Nat).sub (0 :
 Nat)) (List.drop (0 : Nat) s)).length : Int) /\ (b.length.add (U.beN (4 : Nat) (↑(List.take ((4096 : Nat).sub (0 : Nat)) (List.drop (0 : Nat) s)).length : Int)).length).mul (1 : Nat) <= (140737488355328 : Nat) /\ b.length.add (U.beN (4 : Nat) (↑(List.take ((4096 : Nat).sub (0 : Nat)) (List.drop (0 : Nat) s)).length : Int)).length <= maxLen /\ ((b.append (U.beN (4 : Nat) (↑(List.take ((4096 : Nat).sub (0
 : Nat)) (List.drop (0 : Nat) s)).length : Int))).length.add (List.take ((4096 : Nat).sub (0 : Nat)) (List.drop (0 : Nat) s)).length).mul (1 : Nat) <= (140737488355328 : Nat) /\ (b.append (U.beN (4 : Nat) (↑(List.take ((4096 : Nat).sub (0 : Nat)) (List.drop (0 : Nat) s)).length : Int))).length.add (List.take ((4096 : Nat).sub (0 : Nat)) (List.drop (0 : Nat) s)).length <= maxLen /\ (b.append (U.beN (4 :
 Nat) (↑(List.take ((4096 : Nat).sub (0 : Nat)) (List.drop (0 : Nat) s)).length : Int))).append (List.take ((4096 : Nat).sub (0 : Nat)) (List.drop (0 : Nat) s)) = b.append (U.text1 s) /\ True else (Nat.add (0 : Nat) b.length).mul (1 : Nat) <= (140737488355328 : Nat) /\ Nat.add (0 : Nat) b.length <= maxLen /\ ((1 : Int) <= (4 : Int) /\ (4 : Int) <= (8 : Int)) /\ (0 : Int) <= (↑s.length : Int) /\ (b.length.add
 (U.beN (4 : Nat) (↑s.length : Int)).length).mul (1 : Nat) <= (140737488355328 : Nat) /\ b.length.add (U.beN (4 : Nat) (↑s.length : Int)).length <= maxLen /\ ((b.append (U.beN (4 : Nat) (↑s.length : Int))).length.add s.length).mul (1 : Nat) <= (140737488355328 : Nat) /\ (b.append (U.beN (4 : Nat) (↑s.length : Int))).length.add s.length <= maxLen /\ (b.append (U.beN (4 : Nat) (↑s.length : Int))).append s =
 b.append (U.text1 s) /\ True
def GU (a : List Int) (b : List Int) : Prop := a.beq b = decide (a = b) /\ True
end Go.Proofs.YtkhdeldobekciaaGreatDoor
set_option linter.unusedSimpArgs false
set_option linter.unusedVariables false
set_option maxRecDepth 100000
namespace Go.Proofs.YtkhdeldobekciaaGreatDoor
open Go.Vc
open Go.Vc.T
theorem iG (k : Nat) (n : Int) : (U.beN k n).length = k := by simp [U.beN]
theorem X9 (k : Nat) (n : Int) (j : Nat) (h : j < (U.beN k n).length) : (U.beN k n)[j] = n / 2 ^ (8 * (k - 1 - j)) % 256 := by simp [U.beN]
theorem hp1 {a : Prop} {l : List Prop} (h : ∀ p ∈ a :: l, p) : a /\ ∀ p ∈ l, p := ⟨h _ (.head _), fun p hp => h p (List.mem_cons_of_mem _ hp)⟩
theorem dS (n : Int) : (U.num1 n).length = 8 := iG 8 _
theorem aki (x : Int) (l : List Int) : U.nums (x :: l) = U.num1 x ++ U.nums l := by simp [U.nums]
theorem LQ : ∀ l : List Int, (U.nums l).length = 8 * l.length
 | [] => rfl
 | x :: l => by rw [aki, List.length_append, dS, LQ l, List.length_cons]; omega
theorem YW (l : List Int) (x : Int) : U.nums (l ++ [x]) = U.nums l ++ U.num1 x := by simp [U.nums]
theorem IQ (s : List Int) : (U.text1 s).length <= 4100 := by
 unfold U.text1; rw [List.length_append, iG, List.length_take]; omega
theorem agm (l : List (List Int)) (x : List Int) : U.texts (l ++ [x]) = U.texts l ++ U.text1 x := by simp [U.texts]
theorem YX : ∀ l : List (List Int), (U.texts l).length <= 4100 * l.length
 | [] => Nat.le_refl _
 | x :: l => by
   have := IQ x
   have := YX l
   have : U.texts (x :: l) = U.text1 x ++ U.texts l := by simp [U.texts]
   rw [this, List.length_append, List.length_cons]; omega
theorem UG (n : Int) : 0 <= U.clamp n /\ U.clamp n <= 4611686018427387904 := by unfold U.clamp bJ pz; split <;> split <;> omega
theorem acr (a : List Int) (x : Int) : U.aT (a ++ [x]) = U.aT a * 256 + x := by simp [U.aT, List.foldl_append]
theorem ajs {l : List Int} {n : Nat} (h : l.length = n + 1) : ∃ a x, l = a ++ [x] /\ a.length = n := by
 refine ⟨l.take n, l[n], ?_, by rw [List.length_take]; omega⟩
 rw [<- List.take_succ_eq_append_getElem (by omega), List.take_of_length_le (by omega)]
theorem GV : ∀ (n : Nat) (l : List Int), l.length = n -> (∀ x ∈ l, Byte x) -> 0 <= U.aT l /\ U.aT l < 256 ^ n
 | 0, l, h, _ => by
   obtain rfl := List.length_eq_zero_iff.1 h
   exact ⟨Int.le_refl _, by decide⟩
 | n + 1, l, h, hb => by
   obtain ⟨a, x, rfl, ha⟩ := ajs h
   have ih := GV n a ha fun y hy => hb y (List.mem_append_left _ hy)
   have hx := hb x (by simp)
   have hx0 : 0 <= x := hx.1
   have hx1 : x <= 255 := by have := hx.2; omega
   rw [acr, Int.pow_succ]; omega
theorem lT {l : List Int} (h : ∀ x ∈ l, Valid (.int .u8) x) : ∀ x ∈ l, Byte x := fun x hx => byte_of (h x hx)
theorem akj {a b : Nat} (h : a <= b) : (256 : Int) ^ a <= 256 ^ b := by
 have h2 : (256 : Nat) ^ a <= 256 ^ b := Nat.pow_le_pow_right (by decide) h
 exact_mod_cast h2
theorem acs (b : List Int) (n size : Int) (hp : ∀ p ∈ [1 <= size /\ size <= 8, b.length <= 2000000000000, 0 <= n], p) : GN b n size := by
 obtain ⟨h1, hp⟩ := hp1 hp
 obtain ⟨h2, hp⟩ := hp1 hp
 obtain ⟨h3, _⟩ := hp1 hp
 unfold GN
 simp only [cond_prop, dh, dN, aX, dK, eF, jG, dG, bP, fB, bT, fJ, U.at_, maxLen_eq, decide_eq_true_eq, decide_eq_false_iff_not, bne_iff_ne, bne_eq_false_iff_eq, Bool.not_eq_true', Bool.not_eq_false', Bool.not_eq_eq_eq_not, Bool.not_true, Bool.not_false, beq_eq_false_iff_ne, beq_iff_eq, and_true, true_and, Bool.and_eq_true, Bool.or_eq_true, Bool.and_eq_false_iff, Bool.or_eq_false_iff, U.sG]
 refine ⟨(b, size - 1), ⟨by rw [dn (by omega) (by omega)], by show -1 <= size - 1; omega, by show size - 1 < size; omega, by simp⟩, ?_⟩
 rintro ⟨o, i⟩ ⟨i0, i1, ho⟩
 simp only [] at *
 have hl : (U.beN size.toNat n).length = size.toNat := iG _ _
 have hol : o.length <= b.length + 8 := by rw [ho, List.length_append, List.length_take]; omega
 refine ⟨fun hi => ?_, fun hi => ?_⟩
 ·have w1 : IntKind.i64.wrap (8 * i) = 8 * i := by rw [dn] <;> omega
  refine ⟨by rw [w1]; omega, by omega, by omega, (_, i - 1), by rw [dn (x := i - 1) (by omega) (by omega)], ⟨by show -1 <= i - 1; omega, by show i - 1 < size; omega, ?_⟩, by show (i - 1 + 1).toNat < _; omega⟩
  show o ++ [IntKind.u8.wrap _] = _
  rw [w1, wrap_u8]
  have hif : (if (8 * i).toNat <= IntKind.u64.bits then (8 * i).toNat else IntKind.u64.bits) = 8 * i.toNat := by
   have : IntKind.u64.bits = 64 := rfl
   rw [this, if_pos (by omega)]; omega
  rw [hif]
  have hf : n.fdiv (Int.pow 2 (8 * i.toNat)) = n / 2 ^ (8 * i.toNat) := Int.fdiv_eq_ediv_of_nonneg _ (Int.le_of_lt (Int.pow_pos (by decide)))
  rw [hf, ho, List.append_assoc, show (size - 1 - (i - 1)).toNat = (size - 1 - i).toNat + 1 by omega, List.take_succ_eq_append_getElem (by omega), X9, show size.toNat - 1 - (size - 1 - i).toNat = i.toNat by omega]
 ·rw [ho, List.take_of_length_le (by omega)]
theorem agn (b l : List Int) (h1 : b.length <= 1000000000000) (h2 : l.length <= 100000000000) : LP b l := by
 unfold LP
 have key : ∀ x : List Int × Int, U.iM b l x.1 x.2 -> bif decide (x.snd < (↑l.length : Int)) then
  (0 : Int) <= x.snd /\ x.snd < (↑l.length : Int) /\ ((1 : Int) <= 8 /\ (8 : Int) <= 8) /\ x.fst.length <= 2000000000000 /\ (0 : Int) <= IntKind.u64.wrap (bJ (pz (l.getD x.snd.toNat 0) 0) 4611686018427387904) /\
    ∃ (y : List Int × Int), U.fO b l (x.fst.append (U.beN 8 (IntKind.u64.wrap (bJ (pz (l.getD x.snd.toNat 0) 0) 4611686018427387904)))) (IntKind.i64.wrap (x.snd.add 1)) = U.fO b l y.fst y.snd /\ U.iM b l y.fst y.snd /\ l.length.sub y.snd.toNat < l.length.sub x.snd.toNat
  else x.fst = b.append (U.nums l) /\ True := by
  rintro ⟨o, i⟩ ⟨⟨i0, i1⟩, ho⟩
  simp only [cond_prop, dh, dN, aX, dK, eF, jG, dG, bP, fB, bT, fJ, U.at_, maxLen_eq, decide_eq_true_eq, decide_eq_false_iff_not, bne_iff_ne, bne_eq_false_iff_eq, Bool.not_eq_true', Bool.not_eq_false', Bool.not_eq_eq_eq_not, Bool.not_true, Bool.not_false, beq_eq_false_iff_ne, beq_iff_eq, and_true, true_and, Bool.and_eq_true, Bool.or_eq_true, Bool.and_eq_false_iff, Bool.or_eq_false_iff, U.iM] at *
  have hol : o.length = b.length + 8 * i.toNat := by rw [ho, List.length_append, LQ, List.length_take]; omega
  have hc := UG (l.getD i.toNat 0)
  have hw : IntKind.u64.wrap (bJ (pz (l.getD i.toNat 0) 0) 4611686018427387904) = U.clamp (l.getD i.toNat 0) := by
   show IntKind.u64.wrap (U.clamp _) = _
   rw [wrap_u64]; omega
  refine ⟨fun hi => ⟨i0, hi, by omega, by omega, by rw [hw]; omega, (_, i + 1), by rw [dn (x := i + 1) (by omega) (by omega)], ⟨⟨by show 0 <= i + 1; omega, by show i + 1 <= _; omega⟩, ?_⟩, by show l.length - (i + 1).toNat < _; omega⟩, fun hi => ?_⟩
  ·show o ++ U.beN 8 _ = _
   rw [hw, ho, take_at i0 hi, YW, List.append_assoc, getD_at (by omega)]; rfl
  ·rw [ho, pO (by omega)]
 intro nb hnb _
 simp only [cond_prop, dh, dN, aX, dK, eF, jG, dG, bP, fB, bT, fJ, U.at_, maxLen_eq, decide_eq_true_eq, decide_eq_false_iff_not, bne_iff_ne, bne_eq_false_iff_eq, Bool.not_eq_true', Bool.not_eq_false', Bool.not_eq_eq_eq_not, Bool.not_true, Bool.not_false, beq_eq_false_iff_ne, beq_iff_eq, and_true, true_and, Bool.and_eq_true, Bool.or_eq_true, Bool.and_eq_false_iff, Bool.or_eq_false_iff] at key ⊢
 refine ⟨fun hb => ⟨([], 0), ⟨rfl, ⟨by show (0 : Int) <= 0; omega, by show (0 : Int) <= _; omega⟩, ?_⟩, key⟩, fun hb => ⟨by omega, by omega, (b, 0), ⟨rfl, ⟨by show (0 : Int) <= 0; omega, by show (0 : Int) <= _; omega⟩, by simp [U.nums]⟩, key⟩⟩
 rw [List.length_eq_zero_iff.1 (hnb hb)]; rfl
theorem aeo (b : List Int) (l : List (List Int)) (h1 : b.length <= 1000000000000) (h2 : l.length <= 100000000) : Jk b l := by
 unfold Jk
 have hmin : ∀ s : List Int, (bJ (s.length : Int) 4096).toNat = min s.length 4096 := fun s => by unfold bJ; split <;> omega
 have hcut : ∀ s : List Int, List.take ((bJ (s.length : Int) 4096).toNat.sub 0) (List.drop 0 s) = s.take 4096 := fun s => by
  rw [bP, hmin, Nat.sub_zero, List.drop_zero]
  by_cases h : s.length <= 4096
  ·rw [Nat.min_eq_left h, List.take_length, List.take_of_length_le h]
  ·rw [Nat.min_eq_right (by omega)]
 have hlen : ∀ s : List Int, IntKind.u64.wrap (((s.take 4096).length : Nat) : Int) = bJ (s.length : Int) 4096 := fun s => by
  rw [wrap_u64, List.length_take]; unfold bJ; split <;> omega
 have hb0 : ∀ s : List Int, 0 <= bJ (s.length : Int) 4096 /\ bJ (s.length : Int) 4096 <= s.length := fun s => by unfold bJ; split <;> omega
 intro nb hnb _
 simp only [hcut, hlen]
 simp only [cond_prop, dh, dN, aX, dK, eF, jG, dG, bP, fB, bT, fJ, U.at_, maxLen_eq, decide_eq_true_eq, decide_eq_false_iff_not, bne_iff_ne, bne_eq_false_iff_eq, Bool.not_eq_true', Bool.not_eq_false', Bool.not_eq_eq_eq_not, Bool.not_true, Bool.not_false, beq_eq_false_iff_ne, beq_iff_eq, and_true, true_and, Bool.and_eq_true, Bool.or_eq_true, Bool.and_eq_false_iff, Bool.or_eq_false_iff, U.jC]
 have key : ∀ x : List Int × Int, (0 <= x.2 /\ x.2 <= (l.length : Int)) /\ x.1 = b ++ U.texts (l.take x.2.toNat) -> x.1.length <= b.length + 4100 * l.length /\ (x.2 < (l.length : Int) -> x.1 ++ U.beN 4 (bJ ((l.getD x.2.toNat []).length : Int) 4096) ++ (l.getD x.2.toNat []).take 4096 = b ++ U.texts (l.take (x.2 + 1).toNat)) := by
  rintro ⟨o, i⟩ ⟨⟨i0, i1⟩, ho⟩
  simp only [] at *
  have ht := YX (l.take i.toNat)
  rw [List.length_take] at ht
  have h4 : 4100 * min i.toNat l.length <= 4100 * l.length := Nat.mul_le_mul_left _ (by omega)
  refine ⟨by rw [ho, List.length_append]; omega, fun hi => ?_⟩
  rw [ho, take_at i0 hi, agm, getD_at (by omega), List.append_assoc, List.append_assoc]; rfl
 have rnd : ∀ x : List Int × Int, (0 <= x.2 /\ x.2 <= (l.length : Int)) /\ x.1 = b ++ U.texts (l.take x.2.toNat) -> (x.2 < (l.length : Int) -> 0 <= x.2 /\ x.2 < (l.length : Int) /\ (0 : Int) <= 0 /\ 0 <= bJ ((l.getD x.2.toNat []).length : Int) 4096 /\ bJ ((l.getD x.2.toNat []).length : Int) 4096 <= ((l.getD x.2.toNat []).length : Int) /\ ((1 : Int) <= 4 /\ (4 : Int) <= 8) /\ x.1.length <= 2000000000000 /\ 0 <= bJ ((l.getD x.2.toNat []).length : Int) 4096 /\ ((x.1 ++ U.beN 4 (bJ ((l.getD x.2.toNat []).length : Int) 4096)).length + ((l.getD x.2.toNat []).take 4096).length) * 1 <= 140737488355328 /\ (x.1 ++ U.beN 4 (bJ ((l.getD x.2.toNat []).length : Int) 4096)).length + ((l.getD x.2.toNat []).take 4096).length <= 9223372036854775807 /\
  ∃ y : List Int × Int, U.eU b l (x.1 ++ U.beN 4 (bJ ((l.getD x.2.toNat []).length : Int) 4096) ++ (l.getD x.2.toNat []).take 4096) (IntKind.i64.wrap (x.2 + 1)) = U.eU b l y.1 y.2 /\ ((0 <= y.2 /\ y.2 <= (l.length : Int)) /\ y.1 = b ++ U.texts (l.take y.2.toNat)) /\ l.length - y.2.toNat < l.length - x.2.toNat) /\ (¬ x.2 < (l.length : Int) -> x.1 = b ++ U.texts l) := by
  rintro ⟨o, i⟩ ⟨⟨i0, i1⟩, ho⟩
  obtain ⟨k1, k2⟩ := key (o, i) ⟨⟨i0, i1⟩, ho⟩
  simp only [] at *
  have hm := hb0 (l.getD i.toNat [])
  refine ⟨fun hi => ⟨i0, hi, by omega, hm.1, hm.2, by omega, by omega, hm.1, ?_, ?_, (_, i + 1), by rw [dn (x := i + 1) (by omega) (by omega)], ⟨⟨by show 0 <= i + 1; omega, by show i + 1 <= _; omega⟩, k2 hi⟩, by show l.length - (i + 1).toNat < _; omega⟩, fun hi => ?_⟩
  ·rw [List.length_append, iG, List.length_take]; omega
  ·rw [List.length_append, iG, List.length_take]; omega
  ·rw [ho, pO (by omega)]
 refine ⟨fun hb => ⟨([], 0), ⟨rfl, ⟨by show (0 : Int) <= 0; omega, by show (0 : Int) <= _; omega⟩, ?_⟩, rnd⟩, fun hb => ⟨by omega, by omega, (b, 0), ⟨rfl, ⟨by show (0 : Int) <= 0; omega, by show (0 : Int) <= _; omega⟩, by simp [U.texts]⟩, rnd⟩⟩
 rw [List.length_eq_zero_iff.1 (hnb hb)]; rfl
theorem ajt {a c : Int} (ha0 : 0 <= a) (ha1 : a < 72057594037927936) (hc0 : 0 <= c) (hc1 : c <= 255) : orK .u64 (a * 256) c = a * 256 + c := by
 obtain ⟨m, rfl⟩ := Int.eq_ofNat_of_zero_le ha0
 obtain ⟨d, rfl⟩ := Int.eq_ofNat_of_zero_le hc0
 unfold orK
 have e1 : BitVec.ofInt IntKind.u64.bits ((m : Int) * 256) = BitVec.ofNat 64 (m * 256) := by
  show BitVec.ofInt 64 _ = _
  rw [show (m : Int) * 256 = ((m * 256 : Nat) : Int) by push_cast; rfl, BitVec.ofInt_natCast]
 have e2 : BitVec.ofInt IntKind.u64.bits (d : Int) = BitVec.ofNat 64 d := BitVec.ofInt_natCast ..
 rw [e1, e2]
 have e3 : ((BitVec.ofNat 64 (m * 256)) ||| (BitVec.ofNat 64 d)).toNat = m * 256 + d := by
  rw [BitVec.toNat_or, BitVec.toNat_ofNat, BitVec.toNat_ofNat, Nat.mod_eq_of_lt (by omega), Nat.mod_eq_of_lt (by omega)]
  have := Nat.two_pow_add_eq_or_of_lt (i := 8) (b := d) (by omega) m
  rw [show m * 256 = 2 ^ 8 * m by omega, <- this]
 show IntKind.u64.wrap (((BitVec.ofNat 64 (m * 256)) ||| (BitVec.ofNat 64 d)).toNat : Int) = _
 rw [e3, wrap_u64]; omega
theorem Zw (b : List Int) (hb : ∀ x ∈ b, Valid (.int .u8) x) (h8 : b.length <= 8) : DC b := by
 unfold DC
 simp only [ahE]
 simp only [cond_prop, dh, dN, aX, dK, eF, jG, dG, bP, fB, bT, fJ, U.at_, maxLen_eq, decide_eq_true_eq, decide_eq_false_iff_not, bne_iff_ne, bne_eq_false_iff_eq, Bool.not_eq_true', Bool.not_eq_false', Bool.not_eq_eq_eq_not, Bool.not_true, Bool.not_false, beq_eq_false_iff_ne, beq_iff_eq, and_true, true_and, Bool.and_eq_true, Bool.or_eq_true, Bool.and_eq_false_iff, Bool.or_eq_false_iff, U.oG]
 refine ⟨(0, 0), ⟨rfl, ⟨by show (0 : Int) <= 0; omega, by show (0 : Int) <= _; omega⟩, rfl⟩, ?_⟩
 rintro ⟨n, i⟩ ⟨⟨i0, i1⟩, hn⟩
 simp only [] at *
 refine ⟨fun hi => ⟨i0, hi, by omega, (_, i + 1), by rw [dn (x := i + 1) (by omega) (by omega)], ⟨⟨by show 0 <= i + 1; omega, by show i + 1 <= _; omega⟩, ?_⟩, by show b.length - (i + 1).toNat < _; omega⟩, fun hi => ?_⟩
 ·have hv := GV i.toNat (b.take i.toNat) (by rw [List.length_take]; omega) (fun x hx => lT hb x (List.mem_of_mem_take hx))
  rw [<- hn] at hv
  have h7 := akj (show i.toNat <= 7 by omega)
  have hx := vU8 (hb b[i.toNat] (List.getElem_mem (by omega)))
  show orK .u64 (IntKind.u64.wrap (n * Int.pow 2 (if 8 <= IntKind.u64.bits then 8 else IntKind.u64.bits))) (IntKind.u64.wrap (b.getD i.toNat 0)) = _
  have hp : (Int.pow 2 (if 8 <= IntKind.u64.bits then 8 else IntKind.u64.bits)) = 256 := rfl
  have h72 : (256 : Int) ^ 7 = 72057594037927936 := by decide
  rw [hp, getD_at (by omega), wrap_u64, wrap_u64, show n * 256 % 18446744073709551616 = n * 256 by omega, show b[i.toNat] % 18446744073709551616 = b[i.toNat] by omega, ajt hv.1 (by omega) hx.1 hx.2, take_at i0 hi, acr, hn]
 ·rw [hn, pO (by omega)]
theorem ahN {l : List Int} {e : Int} (he : Gi (.obj [.psl false tU8 l, .int .i64 e])) : (∀ x ∈ l, Valid (.int .u8) x) /\ l.length <= maxLen := by
 have := he _ (.head _); exact this
theorem agp (l : List Int) (k : Nat) : List.take (k - 0) (List.drop 0 l) = l.take k := by rw [List.drop_zero, Nat.sub_zero]
theorem aaO (l : List Int) (k : Nat) : List.take ((l.length : Int).toNat - k) (List.drop k l) = l.drop k := List.take_of_length_le (by rw [List.length_drop]; omega)
theorem PO (l : List Int) (e : Int) (he : Gi (.obj [.psl false tU8 l, .int .i64 e])) : sV l e := by
 obtain ⟨hb, hl⟩ := ahN he
 have hbb := lT hb
 unfold sV U.ak
 simp only [bP, agp, aaO, dh]
 by_cases h8 : l.length < 8
 ·have h8' : ((l.length : Int) < 8) := by omega
  by_cases h0 : e = 0
  ·simp [h8, h8', h0]
  ·simp [h8, h8', h0]
 ·have h8' : ¬ ((l.length : Int) < 8) := by omega
  have hv := GV 8 (l.take 8) (by rw [List.length_take]; omega) (fun x hx => hbb x (List.mem_of_mem_take hx))
  by_cases h0 : e = 0
  ·by_cases hg : U.aT (l.take 8) > 4611686018427387904
   ·simp [h8, h8', h0, hg]; omega
   ·rw [dn (x := U.aT (l.take 8)) (by omega) (by omega)]
    simp [h8, h8', h0, hg]; omega
  ·simp [h8, h8', h0]
theorem Oa (l : List Int) (e : Int) (he : Gi (.obj [.psl false tU8 l, .int .i64 e])) : ru l e := by
 obtain ⟨hb, hl⟩ := ahN he
 have hbb := lT hb
 unfold ru U.aS
 simp only [bP, agp, aaO, dh]
 by_cases h4 : l.length < 4
 ·have h4' : ((l.length : Int) < 4) := by omega
  by_cases h0 : e = 0
  ·simp [h4, h4', h0]
  ·simp [h4, h4', h0]
 ·have h4' : ¬ ((l.length : Int) < 4) := by omega
  have hv := GV 4 (l.take 4) (by rw [List.length_take]; omega) (fun x hx => hbb x (List.mem_of_mem_take hx))
  have h44 : (256 : Int) ^ 4 = 4294967296 := by decide
  by_cases h0 : e = 0
  ·rw [dn (x := U.aT (l.take 4)) (by omega) (by omega)]
   have hdl : (l.drop 4).length = l.length - 4 := List.length_drop
   generalize hD : l.drop 4 = D at *
   generalize hV : U.aT (l.take 4) = v at *
   by_cases hg : v > 4096
   ·simp [h4, h4', h0, hg]; omega
   ·by_cases hs : D.length < v.toNat
    ·have hs' : ((D.length : Int) < v) := by omega
     simp [h4, h4', h0, hg, hs, hs']; omega
    ·have hs' : ¬ ((D.length : Int) < v) := by omega
     have e1 : List.take (v.toNat - 0) (List.drop 0 D) = D.take v.toNat := agp D _
     have e2 : List.take ((D.length : Int).toNat - v.toNat) (D.drop v.toNat) = D.drop v.toNat := aaO D _
     simp [h4, h4', h0, hg, hs, hs']; omega
  ·simp [h4, h4', h0]
theorem ahO {l : List Int} {e m : Int} (h : (U.ak (l, e)).2.2 ≠ 0) : (U.ak (l, e)).1 = 0 := by
 unfold U.ak at *
 by_cases h0 : e = 0
 ·by_cases h8 : l.length < 8
  ·simp [h0, h8]
  ·by_cases hg : U.aT (l.take 8) > 4611686018427387904
   ·simp [h0, h8, hg]
   ·simp [h0, h8, hg] at h
 ·simp [h0]
theorem LU (l : List Int) (e m : Int) (he : Gi (.obj [.psl false tU8 l, .int .i64 e])) : pY l e m := by
 unfold pY U.aH
 have hn := ahO (l := l) (e := e) (m := m)
 generalize U.ak (l, e) = r at *
 obtain ⟨v, l', e'⟩ := r
 simp only [] at *
 by_cases h0 : e' = 0 <;> by_cases hg : v > m <;> simp [h0, hg] <;> first | (exact (hn h0).symm) | skip
theorem Ob (l : List Int) (e : Int) (x : Bool) (he : Gi (.obj [.psl false tU8 l, .int .i64 e])) : rC l e x := by
 unfold rC U.gG
 by_cases h0 : e = 0 <;> cases x <;> simp [h0]
theorem PS (l : List Int) (e : Int) (he : Gi (.obj [.psl false tU8 l, .int .i64 e])) : sW l e := by
 unfold sW; simp
theorem Oc (l : List Int) (e : Int) (he : Gi (.obj [.psl false tU8 l, .int .i64 e])) : rD l e := by
 unfold rD U.mD
 have : decide ((l.length : Int) > 0) = decide (l.length > 0) := by rw [decide_eq_decide]; omega
 rw [this]; exact ⟨rfl, rfl, rfl, trivial⟩
theorem Zx (n size : Int) (hN : n <= 9223372036854775807) (h1 : 1 <= size /\ size <= 8) (h0 : 0 <= n) : DF n size := by
 unfold DF
 simp only [cond_prop, dh, dN, aX, dK, eF, jG, dG, bP, fB, bT, fJ, U.at_, maxLen_eq, decide_eq_true_eq, decide_eq_false_iff_not, bne_iff_ne, bne_eq_false_iff_eq, Bool.not_eq_true', Bool.not_eq_false', Bool.not_eq_eq_eq_not, Bool.not_true, Bool.not_false, beq_eq_false_iff_ne, beq_iff_eq, and_true, true_and, Bool.and_eq_true, Bool.or_eq_true, Bool.and_eq_false_iff, Bool.or_eq_false_iff, U.oH]
 have hbl : (U.beN size.toNat n).length = size.toNat := iG _ _
 have hw : IntKind.i64.wrap (size - 1) = size - 1 := by rw [dn] <;> omega
 rw [hw]
 refine ⟨by omega, by omega, by omega, by omega, (List.replicate size.toNat 0, n, size - 1), ⟨rfl, by show -1 <= size - 1; omega, by show size - 1 < size; omega, ?_, ?_⟩, ?_⟩
 ·show n = n / 2 ^ (8 * (size - 1 - (size - 1)).toNat)
  rw [show (size - 1 - (size - 1)).toNat = 0 by omega]; simp
 ·show List.replicate size.toNat 0 = List.replicate (size - 1 + 1).toNat 0 ++ (U.beN size.toNat n).drop (size - 1 + 1).toNat
  rw [show size - 1 + 1 = size by omega, List.drop_eq_nil_of_le (by omega), List.append_nil]
 rintro ⟨o, m, i⟩ ⟨i0, i1, hm, ho⟩
 simp only [] at *
 have hol : o.length = size.toNat := by rw [ho, List.length_append, List.length_replicate, List.length_drop]; omega
 have hm0 : 0 <= m := by rw [hm]; exact Int.ediv_nonneg h0 (Int.le_of_lt (Int.pow_pos (by decide)))
 refine ⟨fun hi => ⟨by omega, hi, by omega, by omega, by omega, (_, _, i - 1), by rw [dn (x := i - 1) (by omega) (by omega)], ⟨by show -1 <= i - 1; omega, by show i - 1 < size; omega, ?_, ?_⟩, by show (i - 1 + 1).toNat < _; omega⟩, fun hi => ?_⟩
 ·have hml : m <= n := by rw [hm]; exact Int.ediv_le_self _ h0
  show IntKind.i64.wrap (m.tdiv 256) = n / 2 ^ (8 * (size - 1 - (i - 1)).toNat)
  rw [Int.tdiv_eq_ediv_of_nonneg hm0]
  have hn := hN
  rw [dn (by omega) (by omega), hm, show 8 * (size - 1 - (i - 1)).toNat = 8 * (size - 1 - i).toNat + 8 by omega, Int.pow_add, Int.ediv_ediv_of_nonneg (Int.le_of_lt (Int.pow_pos (by decide)))]; rfl
 ·show o.set i.toNat (IntKind.u8.wrap (m.tmod 256)) = List.replicate (i - 1 + 1).toNat 0 ++ (U.beN size.toNat n).drop (i - 1 + 1).toNat
  rw [Int.tmod_eq_emod_of_nonneg hm0, wrap_u8, show m % 256 % 256 = m % 256 by omega, ho, show (i + 1).toNat = i.toNat + 1 by omega, show i - 1 + 1 = i by omega, List.drop_eq_getElem_cons (l := U.beN size.toNat n) (i := i.toNat) (by omega), X9, show size.toNat - 1 - i.toNat = (size - 1 - i).toNat by omega, <- hm, List.replicate_succ', List.append_assoc, List.set_append_right _ _ (by simp)]
  simp
 ·rw [ho, show (i + 1).toNat = 0 by omega]; rfl
theorem aep (b : List Int) (n : Int) (h : b.length <= 1000000000000) : Jl b n := by
 unfold Jl
 have hc := UG n
 refine ⟨by simp only [dG, fB, iG]; omega, by simp only [dG, maxLen_eq, iG]; omega, by omega, hc.1, by simp only [dG, fB, iG]; omega, by simp only [dG, maxLen_eq, iG]; omega, rfl, trivial⟩
theorem acu (b s : List Int) (h : b.length <= 1000000000000) : GR b s := by
 unfold GR
 simp only [bP, agp]
 simp only [cond_prop, dh, dN, aX, dK, eF, jG, dG, bP, fB, bT, fJ, U.at_, maxLen_eq, decide_eq_true_eq, decide_eq_false_iff_not, bne_iff_ne, bne_eq_false_iff_eq, Bool.not_eq_true', Bool.not_eq_false', Bool.not_eq_eq_eq_not, Bool.not_true, Bool.not_false, beq_eq_false_iff_ne, beq_iff_eq, and_true, true_and, Bool.and_eq_true, Bool.or_eq_true, Bool.and_eq_false_iff, Bool.or_eq_false_iff]
 refine ⟨fun hs => ?_, fun hs => ?_⟩
 ·have hl : (s.take 4096).length = 4096 := by rw [List.length_take]; omega
  rw [hl]
  simp only [iG]
  refine ⟨by omega, by omega, by omega, by omega, by omega, by omega, by omega, by omega, by omega, by rw [List.length_append, iG]; omega, by rw [List.length_append, iG]; omega, ?_⟩
  unfold U.text1 bJ
  rw [if_pos (by omega), List.append_assoc]; rfl
 ·simp only [iG]
  refine ⟨by omega, by omega, by omega, by omega, by omega, by omega, by rw [List.length_append, iG]; omega, by rw [List.length_append, iG]; omega, ?_⟩
  unfold U.text1 bJ
  rw [if_neg (by omega), List.append_assoc, List.take_of_length_le (by omega)]
theorem acv (a b : List Int) : GU a b := by unfold GU; simp only [fJ, and_true]; rw [Bool.eq_iff_iff]; simp
end Go.Proofs.YtkhdeldobekciaaGreatDoor
set_option linter.unusedSimpArgs false
set_option maxRecDepth 100000
set_option linter.unusedVariables false
namespace Go.Proofs.YtkhdeldobekciaaGreatDoor
open Go.Vc
theorem aer (b : List Int) (n : Int) (size : Int) : bf Tryz.prog (aK yY) (Tt b n size) 39 (PE b n size) (PG b n size) (Ji b n size) = GN b n size := by kernel_rfl
theorem agq : wB Tryz.prog gl 39 EO := by
 refine pkg (l := yY) MV (fun args es d h => ?_) (fun args es d h hv he hp => ?_)
 ·unfold EO at h
  rcases fC h with h | h
  ·obtain ⟨b, n, size, rfl, rfl, rfl⟩ := IK h
   rfl
  cases h
 ·unfold EO at h
  rcases fC h with h | h
  ·obtain ⟨b, n, size, rfl, rfl, rfl⟩ := IK h
   refine ⟨Tt b n size, ?_⟩
   rw [aer]
   exact acs b n size hp
  cases h
theorem agr : aP Tryz.prog gl 39 Wu := agq
theorem TF : aI EP := .cons agr MV
theorem ahP (x : aG [aF, uO]) : bf Tryz.prog (aK EP) (YV x.1 x.2) 19 (aY [aF, uO] x) [] (CO x.1 x.2) = LP x.1 x.2 := by kernel_rfl
theorem ahQ : Pok 19 [aF, uO] (fun x => CO x.1 x.2) := by
 refine pk (L := fun x => YV x.1 x.2) (l := EP) TF (fun _ => rfl) ?_
 intro x hv hp
 rw [ahP]
 exact agn x.1 x.2 (hp (List.length x.1 <= 1000000000000) (by simp [CO])) (hp (List.length x.2 <= 100000000000) (by simp [CO]))
theorem ahR : aP Tryz.prog gl 19 YU := ahQ
theorem WC : aI IL := .cons ahR TF
theorem ags (x : aG [aF, II]) : bf Tryz.prog (aK IL) (Wx x.1 x.2) 62 (aY [aF, II] x) [] (yZ x.1 x.2) = Jk x.1 x.2 := by kernel_rfl
theorem agt : Pok 62 [aF, II] (fun x => yZ x.1 x.2) := by
 refine pk (L := fun x => Wx x.1 x.2) (l := IL) WC (fun _ => rfl) ?_
 intro x hv hp
 rw [ags]
 exact aeo x.1 x.2 (hp (List.length x.1 <= 1000000000000) (by simp [yZ])) (hp (List.length x.2 <= 100000000) (by simp [yZ]))
theorem agu : aP Tryz.prog gl 62 Wv := agt
theorem TG : aI ER := .cons agu WC
theorem acw (x : aG [aF]) : bf Tryz.prog (aK ER) (PK x) 51 (aY [aF] x) [] (y7 x) = DC x := by kernel_rfl
theorem acy : Pok 51 [aF] (fun x => y7 x) := by
 refine pk (L := fun x => PK x) (l := ER) TG (fun _ => rfl) ?_
 intro x hv hp
 rw [acw]
 exact Zw x hv.1 (hp (List.length x <= 8) (by simp [y7]))
theorem acz : aP Tryz.prog gl 51 PI := acy
theorem MW : aI y8 := .cons acz TG
theorem RV (l : List Int) (e : Int) : bf Tryz.prog (aK y8) (Ej l e) 25 (CP l e) (CQ l e) (vC l e) = sV l e := by kernel_rfl
theorem UH : wB Tryz.prog gl 25 pR := by
 refine pkg (l := y8) MW (fun args es d h => ?_) (fun args es d h hv he hp => ?_)
 ·unfold pR at h
  rcases fC h with h | h
  ·obtain ⟨l, e, rfl, rfl, rfl⟩ := yh h
   rfl
  cases h
 ·unfold pR at h
  rcases fC h with h | h
  ·obtain ⟨l, e, rfl, rfl, rfl⟩ := yh h
   refine ⟨Ej l e, ?_⟩
   rw [RV]
   exact PO l e (he _ (.head _))
  cases h
theorem UJ : aP Tryz.prog gl 25 GK := UH
theorem Es : aI pU := .cons UJ MW
theorem PU (l : List Int) (e : Int) : bf Tryz.prog (aK pU) (CS l e) 75 (zM l e) (zN l e) (sJ l e) = ru l e := by kernel_rfl
theorem RX : wB Tryz.prog gl 75 nU := by
 refine pkg (l := pU) Es (fun args es d h => ?_) (fun args es d h hv he hp => ?_)
 ·unfold nU at h
  rcases fC h with h | h
  ·obtain ⟨l, e, rfl, rfl, rfl⟩ := vO h
   rfl
  cases h
 ·unfold nU at h
  rcases fC h with h | h
  ·obtain ⟨l, e, rfl, rfl, rfl⟩ := vO h
   refine ⟨CS l e, ?_⟩
   rw [PU]
   exact Oa l e (he _ (.head _))
  cases h
theorem RY : aP Tryz.prog gl 75 Em := RX
theorem CZ : aI nV := .cons RY Es
theorem Oe (l : List Int) (e : Int) (m : Int) : bf Tryz.prog (aK nV) (zO l e m) 76 (y9 l e m) (zf l e m) (qX l e m) = pY l e m := by kernel_rfl
theorem PV : wB Tryz.prog gl 76 mJ := by
 refine pkg (l := nV) CZ (fun args es d h => ?_) (fun args es d h hv he hp => ?_)
 ·unfold mJ at h
  rcases fC h with h | h
  ·obtain ⟨l, e, m, rfl, rfl, rfl⟩ := uY h
   rfl
  cases h
 ·unfold mJ at h
  rcases fC h with h | h
  ·obtain ⟨l, e, m, rfl, rfl, rfl⟩ := uY h
   refine ⟨zO l e m, ?_⟩
   rw [Oe]
   exact LU l e m (he _ (.head _))
  cases h
theorem PW : aP Tryz.prog gl 76 CU := PV
theorem zV : aI mM := .cons PW CZ
theorem PX (l : List Int) (e : Int) (x : Bool) : bf Tryz.prog (aK mM) (CV l e x) 26 (zQ l e x) (zS l e x) (sN l e x) = rC l e x := by kernel_rfl
theorem RZ : wB Tryz.prog gl 26 nX := by
 refine pkg (l := mM) zV (fun args es d h => ?_) (fun args es d h hv he hp => ?_)
 ·unfold nX at h
  rcases fC h with h | h
  ·obtain ⟨l, e, x, rfl, rfl, rfl⟩ := vP h
   rfl
  cases h
 ·unfold nX at h
  rcases fC h with h | h
  ·obtain ⟨l, e, x, rfl, rfl, rfl⟩ := vP h
   refine ⟨CV l e x, ?_⟩
   rw [PX]
   exact Ob l e x (he _ (.head _))
  cases h
theorem Si : aP Tryz.prog gl 26 En := RZ
theorem C9 : aI nY := .cons Si zV
theorem Sj (l : List Int) (e : Int) : bf Tryz.prog (aK nY) (Eo l e) 27 (CW l e) (CX l e) (vF l e) = sW l e := by kernel_rfl
theorem UK : wB Tryz.prog gl 27 pW := by
 refine pkg (l := nY) C9 (fun args es d h => ?_) (fun args es d h hv he hp => ?_)
 ·unfold pW at h
  rcases fC h with h | h
  ·obtain ⟨l, e, rfl, rfl, rfl⟩ := yj h
   rfl
  cases h
 ·unfold pW at h
  rcases fC h with h | h
  ·obtain ⟨l, e, rfl, rfl, rfl⟩ := yj h
   refine ⟨Eo l e, ?_⟩
   rw [Sj]
   exact PS l e (he _ (.head _))
  cases h
theorem UL : aP Tryz.prog gl 27 GL := UK
theorem Et : aI pX := .cons UL C9
theorem PY (l : List Int) (e : Int) : bf Tryz.prog (aK pX) (CY l e) 54 (zT l e) (zU l e) (sQ l e) = rD l e := by kernel_rfl
theorem Sl : wB Tryz.prog gl 54 nZ := by
 refine pkg (l := pX) Et (fun args es d h => ?_) (fun args es d h hv he hp => ?_)
 ·unfold nZ at h
  rcases fC h with h | h
  ·obtain ⟨l, e, rfl, rfl, rfl⟩ := vS h
   rfl
  cases h
 ·unfold nZ at h
  rcases fC h with h | h
  ·obtain ⟨l, e, rfl, rfl, rfl⟩ := vS h
   refine ⟨CY l e, ?_⟩
   rw [PY]
   exact Oc l e (he _ (.head _))
  cases h
theorem Sm : aP Tryz.prog gl 54 Ep := Sl
theorem Dc : aI og := .cons Sm Et
theorem acA (x : aG [.int .i64, .int .i64]) : bf Tryz.prog (aK og) (PN x.1 x.2) 45 (aY [.int .i64, .int .i64] x) [] (sU x.1 x.2) = DF x.1 x.2 := by kernel_rfl
theorem acB : Pok 45 [.int .i64, .int .i64] (fun x => sU x.1 x.2) := by
 refine pk (L := fun x => PN x.1 x.2) (l := og) Dc (fun _ => rfl) ?_
 intro x hv hp
 rw [acA]
 exact Zx x.1 x.2 (T.akb hv.1).2 (hp (1 <= x.2 /\ x.2 <= 8) (by simp [sU])) (hp (0 <= x.1) (by simp [sU]))
theorem acC : aP Tryz.prog gl 45 PL := acB
theorem MX : aI zh := .cons acC Dc
theorem agv (x : aG [aF, .int .i64]) : bf Tryz.prog (aK zh) (WB x.1 x.2) 22 (aY [aF, .int .i64] x) [] (ES x.1 x.2) = Jl x.1 x.2 := by kernel_rfl
theorem agw : Pok 22 [aF, .int .i64] (fun x => ES x.1 x.2) := by
 refine pk (L := fun x => WB x.1 x.2) (l := zh) MX (fun _ => rfl) ?_
 intro x hv hp
 rw [agv]
 exact aep x.1 x.2 (hp (List.length x.1 <= 1000000000000) (by simp [ES]))
theorem agx : aP Tryz.prog gl 22 WA := agw
theorem TJ : aI ET := .cons agx MX
theorem aes (x : aG [aF, .str]) : bf Tryz.prog (aK ET) (Tz x.1 x.2) 44 (aY [aF, .str] x) [] (Bh x.1 x.2) = GR x.1 x.2 := by kernel_rfl
theorem aeu : Pok 44 [aF, .str] (fun x => Bh x.1 x.2) := by
 refine pk (L := fun x => Tz x.1 x.2) (l := ET) TJ (fun _ => rfl) ?_
 intro x hv hp
 rw [aes]
 exact acu x.1 x.2 (hp (List.length x.1 <= 1000000000000) (by simp [Bh]))
theorem aev : aP Tryz.prog gl 44 Tv := aeu
theorem PZ : aI Bj := .cons aev TJ
theorem aew (x : aG [aF, aF]) : bf Tryz.prog (aK Bj) (TB x.1 x.2) 9 (aY [aF, aF] x) [] (Jj x.1 x.2) = GU x.1 x.2 := by kernel_rfl
theorem aex : Pok 9 [aF, aF] (fun x => Jj x.1 x.2) := by
 refine pk (L := fun x => TB x.1 x.2) (l := Bj) PZ (fun _ => rfl) ?_
 intro x hv hp
 rw [aew]
 exact acv x.1 x.2
theorem aey : aP Tryz.prog gl 9 TA := aex
theorem P5 : aI Bl := .cons aey PZ
end Go.Proofs.YtkhdeldobekciaaGreatDoor
