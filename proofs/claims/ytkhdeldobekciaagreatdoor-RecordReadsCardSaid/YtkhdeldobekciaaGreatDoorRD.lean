/- What functions of this seat compute, in plain Lean. -/
import Derived.Test.YtkhdeldobekciaaGreatDoorRC
set_option linter.unusedVariables false
set_option linter.unusedSimpArgs false
set_option maxRecDepth 100000
namespace Go.Proofs.YtkhdeldobekciaaGreatDoor
open Go.Vc
abbrev aI : Ty := .slice (.int .u8)
abbrev jD : Ty := .slice (.int .i64)
abbrev tU8 : Ty := .int .u8
namespace U
@[irreducible] def beN (k : Nat) (n : Int) : List Int := (List.range k).map fun j => n / 2 ^ (8 * (k - 1 - j)) % 256
def clamp (n : Int) : Int := bU (Ky n 0) 4611686018427387904
def num1 (n : Int) : List Int := beN 8 (clamp n)
def nums (l : List Int) : List Int := l.flatMap num1
def text1 (s : List Int) : List Int := beN 4 (bU s.length 4096) ++ s.take 4096
def texts (l : List (List Int)) : List Int := l.flatMap text1
def aj (l : List Int) : Int := l.foldl (fun a x => a * 256 + x) 0
abbrev RS := List Int × Int
def ah (r : RS) : Int × RS := cond (decide (r.2 = 0)) (cond (decide (r.1.length < 8)) (0, r.1, 2) (cond (decide (aj (r.1.take 8) > 4611686018427387904)) (0, r.1.drop 8, 3) (aj (r.1.take 8), r.1.drop 8, 0))) (0, r)
def ay (r : RS) : List Int × RS := cond (decide (r.2 = 0)) (cond (decide (r.1.length < 4)) ([], r.1, 2) (cond (decide (aj (r.1.take 4) > 4096)) ([], r.1.drop 4, 4) (cond (decide ((r.1.drop 4).length < (aj (r.1.take 4)).toNat)) ([], r.1.drop 4, 2) ((r.1.drop 4).take (aj (r.1.take 4)).toNat, (r.1.drop 4).drop (aj (r.1.take 4)).toNat, 0)))) ([], r)
def cZ (bad : Bool) (r : RS) : RS := cond (decide (r.2 = 0) && bad) (r.1, 3) r
def aA (m : Int) (r : RS) : Int × RS := cond (decide ((ah r).2.2 = 0) && decide ((ah r).1 > m)) (0, (ah r).2.1, 4) (ah r)
def fU (r : RS) : Int := (cZ (decide (r.1.length > 0)) r).2
end U
namespace U
def qU (b : List Int) (n size : Int) (o : List Int) (i : Int) : St2 := ⟨⟨[own 1] ++ [sK .u64 n] ++ U.n 5 ++ [sI i] ++ U.n 15, [], [(0, .dead), (1, .row 5 (.int .u8) true true o)]⟩, 2, []⟩
def uw (b : List Int) (n size : Int)  (o : List Int) (i : Int) : Prop := -1 <= i /\ i < size /\ o = b ++ (beN size.toNat n).take (size - 1 - i).toNat
def gI (b l : List Int) (o : List Int) (i : Int) : St2 := ⟨⟨[own 0] ++ U.n 8 ++ [sL false (.int .i64) l] ++ [sI l.length] ++ [sI i] ++ U.n 11, [], [(0, .row 5 (.int .u8) true true o)]⟩, 1, []⟩
def iW (b l : List Int)  (o : List Int) (i : Int) : Prop := at_ l i /\ o = b ++ nums (l.take i.toNat)
def fG (b : List Int) (l : List (List Int)) (o : List Int) (i : Int) : St2 := ⟨⟨[own 0] ++ U.n 8 ++ [sL false .str l] ++ [sI l.length] ++ [sI i] ++ U.n 17, [], [(0, .row 5 (.int .u8) true true o)]⟩, 1, []⟩
def jL (b : List Int) (l : List (List Int))  (o : List Int) (i : Int) : Prop := at_ l i /\ o = b ++ texts (l.take i.toNat)
def mM (b : List Int) (n : Int) (i : Int) : St2 := ⟨⟨U.n 2 ++ [sK .u64 n] ++ U.n 2 ++ [sL false (.int .u8) b] ++ [sI b.length] ++ [sI i] ++ U.n 10, [], []⟩, 0, []⟩
def oU (b : List Int)  (n : Int) (i : Int) : Prop := at_ b i /\ n = aj (b.take i.toNat)
def lg (b : List Int) (n : Int) (i : Int) : St2 := ⟨⟨[sL false (.int .u8) b] ++ U.n 2 ++ [sI n] ++ [sI i] ++ U.n 19, [], []⟩, 0, []⟩
def mO (b : List Int)  (n : Int) (i : Int) : Prop := at_ b i /\ n = aj (b.take i.toNat)
end U
def abo (b : List Int) (n size : Int) : Vc.Loop := ⟨{ keep := [0, 1, 7], wake := [(0, 5)] }, List Int × Int, fun x => U.qU b n size x.1 x.2, fun x0 x => U.uw b n size  x.1 x.2, fun x => (x.2 + 1).toNat⟩
def aea (b l : List Int) : Vc.Loop := ⟨{ keep := [0, 9, 10, 11], wake := [(0, 5)] }, List Int × Int, fun x => U.gI b l x.1 x.2, fun x0 x => U.iW b l  x.1 x.2, fun x => l.length - x.2.toNat⟩
def abp (b : List Int) (l : List (List Int)) : Vc.Loop := ⟨{ keep := [0, 9, 10, 11], wake := [(0, 5)] }, List Int × Int, fun x => U.fG b l x.1 x.2, fun x0 x => U.jL b l  x.1 x.2, fun x => l.length - x.2.toNat⟩
def Yy (b : List Int) : Vc.Loop := ⟨{ keep := [2, 5, 6, 7] }, Int × Int, fun x => U.mM b x.1 x.2, fun x0 x => U.oU b  x.1 x.2, fun x => b.length - x.2.toNat⟩
def WU (b : List Int) : Vc.Loop := ⟨{ keep := [0, 3, 4] }, Int × Int, fun x => U.lg b x.1 x.2, fun x0 x => U.mO b  x.1 x.2, fun x => b.length - x.2.toNat⟩
def KJ (b : List Int) (n : Int) (size : Int) : Done := ⟨[1 <= size /\ size <= 8, b.length <= 2000000000000, 0 <= n], .one (.own 1), [.dead], [.row 5 (.int .u8) true true (b ++ U.beN size.toNat n)]⟩
def Ru (b : List Int) (n : Int) (size : Int) : List V := [⟨false, [.own 0]⟩, ⟨false, [.int .u64 n]⟩, ⟨false, [.int .i64 size]⟩]
def Rw (b : List Int) (n : Int) (size : Int) : List Entry := [.row 5 (.int .u8) true true b]
def Vy (b : List Int) (n : Int) (size : Int) : Nat -> List V -> Nat -> Option Vc.Loop := fun f v k => cond (Nat.beq f 39 && Nat.beq k 2) (some (abo b n size)) <| none
def IU : List V -> List Entry -> Option Done
 | [⟨false, [.own n1]⟩, ⟨false, [.int .u64 n]⟩, ⟨false, [.int .i64 size]⟩], [.row n2 (.int .u8) true true b] => cond (Nat.beq n1 0 && Nat.beq n2 5) (some (KJ b n size)) none
 | _, _ => none
theorem J6 {args : List V} {es : List Entry} {d : Done} (h : IU args es = some d) : ∃ b n size, args = Ru b n size /\ es = Rw b n size /\ d = KJ b n size := by
 unfold IU at h
 split at h
 ·obtain ⟨hb, hd⟩ := gX h; simp only [Bool.and_eq_true, Nat.beq_eq] at hb; (try obtain ⟨rfl, rfl⟩ := hb); subst hd; (try subst_vars); exact ⟨_, _, _, rfl, rfl, rfl⟩
 ·cases h
def GL (args : List V) (es : List Entry) : Option Done := orE (IU args es) (none)
def Yz : Vc.Sum := .gen GL
def GN : List (Nat × Ent) := (39, .sum Yz) :: Ac
def Ep (b : List Int) (l : List Int) : Done := ⟨[b.length <= 1000000000000, l.length <= 100000000000], .one (.psl true (.int .u8) (b ++ U.nums l)), [], []⟩
def aaL : Vc.Sum := .pure [aI, jD] false fun x => Ep x.1 x.2
def aaM (b : List Int) (l : List Int) : Nat -> List V -> Nat -> Option Vc.Loop := fun f v k => cond (Nat.beq f 19 && Nat.beq k 3) (some (aea b l)) <| none
def J7 : List (Nat × Ent) := (19, .sum aaL) :: GN
def Ad (b : List Int) (l : List (List Int)) : Done := ⟨[b.length <= 1000000000000, l.length <= 100000000], .one (.psl true (.int .u8) (b ++ U.texts l)), [], []⟩
def YA : Vc.Sum := .pure [aI, J4] false fun x => Ad x.1 x.2
def YB (b : List Int) (l : List (List Int)) : Nat -> List V -> Nat -> Option Vc.Loop := fun f v k => cond (Nat.beq f 62 && Nat.beq k 3) (some (abp b l)) <| none
def GR : List (Nat × Ent) := (62, .sum YA) :: J7
def Ae (b : List Int) : Done := ⟨[b.length <= 8], .one (.int .u64 (U.aj b)), [], []⟩
def Rx : Vc.Sum := .pure [aI] false fun x => Ae x
def Ry (b : List Int) : Nat -> List V -> Nat -> Option Vc.Loop := fun f v k => cond (Nat.beq f 51 && Nat.beq k 2) (some (Yy b)) <| none
def Af : List (Nat × Ent) := (51, .sum Rx) :: GR
def wQ (l : List Int) (e : Int) : Done := ⟨[], .one (.int .i64 (U.ah (l, e)).1), [.obj [.psl false tU8 ((U.ah (l, e)).2).1, .int .i64 ((U.ah (l, e)).2).2]], []⟩
def Es (l : List Int) (e : Int) : List V := [⟨false, [.ptr 0 0]⟩]
def Et (l : List Int) (e : Int) : List Entry := [.obj [.psl false tU8 l, .int .i64 e]]
def F7 (l : List Int) (e : Int) : Nat -> List V -> Nat -> Option Vc.Loop := bW
def uy : List V -> List Entry -> Option Done
 | [⟨false, [.ptr n1 n2]⟩], [.obj [.psl false t3 l3, .int .i64 e]] => if h3 : t3 = tU8 then cond (Nat.beq n1 0 && Nat.beq n2 0) (some (wQ (h3 ▸ l3 : List (Ty.den tU8)) e)) none else none
 | _, _ => none
theorem zk {args : List V} {es : List Entry} {d : Done} (h : uy args es = some d) : ∃ l e, args = Es l e /\ es = Et l e /\ d = wQ l e := by
 unfold uy at h
 split at h
 ·split at h <;> first | (cases h; done) | skip
  rename_i ht; subst ht
  obtain ⟨hb, hd⟩ := gX h; simp only [Bool.and_eq_true, Nat.beq_eq] at hb; (try obtain ⟨rfl, rfl⟩ := hb); subst hd; (try subst_vars); exact ⟨_, _, rfl, rfl, rfl⟩
 ·cases h
def qp (args : List V) (es : List Entry) : Option Done := orE (uy args es) (none)
def IV : Vc.Sum := .gen qp
def qw : List (Nat × Ent) := (25, .sum IV) :: Af
def uz (l : List Int) (e : Int) : Done := ⟨[], .one (.str (U.ay (l, e)).1), [.obj [.psl false tU8 ((U.ay (l, e)).2).1, .int .i64 ((U.ay (l, e)).2).2]], []⟩
def Bh (l : List Int) (e : Int) : List V := [⟨false, [.ptr 0 0]⟩]
def Bj (l : List Int) (e : Int) : List Entry := [.obj [.psl false tU8 l, .int .i64 e]]
def Eu (l : List Int) (e : Int) : Nat -> List V -> Nat -> Option Vc.Loop := bW
def rX : List V -> List Entry -> Option Done
 | [⟨false, [.ptr n1 n2]⟩], [.obj [.psl false t3 l3, .int .i64 e]] => if h3 : t3 = tU8 then cond (Nat.beq n1 0 && Nat.beq n2 0) (some (uz (h3 ▸ l3 : List (Ty.den tU8)) e)) none else none
 | _, _ => none
theorem xg {args : List V} {es : List Entry} {d : Done} (h : rX args es = some d) : ∃ l e, args = Bh l e /\ es = Bj l e /\ d = uz l e := by
 unfold rX at h
 split at h
 ·split at h <;> first | (cases h; done) | skip
  rename_i ht; subst ht
  obtain ⟨hb, hd⟩ := gX h; simp only [Bool.and_eq_true, Nat.beq_eq] at hb; (try obtain ⟨rfl, rfl⟩ := hb); subst hd; (try subst_vars); exact ⟨_, _, rfl, rfl, rfl⟩
 ·cases h
def oC (args : List V) (es : List Entry) : Option Done := orE (rX args es) (none)
def F8 : Vc.Sum := .gen oC
def oD : List (Nat × Ent) := (75, .sum F8) :: qw
def rY (l : List Int) (e : Int) (m : Int) : Done := ⟨[], .one (.int .i64 (U.aA m (l, e)).1), [.obj [.psl false tU8 ((U.aA m (l, e)).2).1, .int .i64 ((U.aA m (l, e)).2).2]], []⟩
def Ag (l : List Int) (e : Int) (m : Int) : List V := [⟨false, [.ptr 0 0]⟩, ⟨false, [.int .i64 m]⟩]
def Ah (l : List Int) (e : Int) (m : Int) : List Entry := [.obj [.psl false tU8 l, .int .i64 e]]
def Bl (l : List Int) (e : Int) (m : Int) : Nat -> List V -> Nat -> Option Vc.Loop := bW
def qx : List V -> List Entry -> Option Done
 | [⟨false, [.ptr n1 n2]⟩, ⟨false, [.int .i64 m]⟩], [.obj [.psl false t3 l3, .int .i64 e]] => if h3 : t3 = tU8 then cond (Nat.beq n1 0 && Nat.beq n2 0) (some (rY (h3 ▸ l3 : List (Ty.den tU8)) e m)) none else none
 | _, _ => none
theorem wG {args : List V} {es : List Entry} {d : Done} (h : qx args es = some d) : ∃ l e m, args = Ag l e m /\ es = Ah l e m /\ d = rY l e m := by
 unfold qx at h
 split at h
 ·split at h <;> first | (cases h; done) | skip
  rename_i ht; subst ht
  obtain ⟨hb, hd⟩ := gX h; simp only [Bool.and_eq_true, Nat.beq_eq] at hb; (try obtain ⟨rfl, rfl⟩ := hb); subst hd; (try subst_vars); exact ⟨_, _, _, rfl, rfl, rfl⟩
 ·cases h
def mP (args : List V) (es : List Entry) : Option Done := orE (qx args es) (none)
def Ew : Vc.Sum := .gen mP
def mQ : List (Nat × Ent) := (76, .sum Ew) :: oD
def uD (l : List Int) (e : Int) (x : Bool) : Done := ⟨[], .tup [], [.obj [.psl false tU8 (U.cZ x (l, e)).1, .int .i64 (U.cZ x (l, e)).2]], []⟩
def Bo (l : List Int) (e : Int) (x : Bool) : List V := [⟨false, [.ptr 0 0]⟩, ⟨false, [.bool x]⟩]
def Bq (l : List Int) (e : Int) (x : Bool) : List Entry := [.obj [.psl false tU8 l, .int .i64 e]]
def Ey (l : List Int) (e : Int) (x : Bool) : Nat -> List V -> Nat -> Option Vc.Loop := bW
def rZ : List V -> List Entry -> Option Done
 | [⟨false, [.ptr n1 n2]⟩, ⟨false, [.bool x]⟩], [.obj [.psl false t3 l3, .int .i64 e]] => if h3 : t3 = tU8 then cond (Nat.beq n1 0 && Nat.beq n2 0) (some (uD (h3 ▸ l3 : List (Ty.den tU8)) e x)) none else none
 | _, _ => none
theorem xk {args : List V} {es : List Entry} {d : Done} (h : rZ args es = some d) : ∃ l e x, args = Bo l e x /\ es = Bq l e x /\ d = uD l e x := by
 unfold rZ at h
 split at h
 ·split at h <;> first | (cases h; done) | skip
  rename_i ht; subst ht
  obtain ⟨hb, hd⟩ := gX h; simp only [Bool.and_eq_true, Nat.beq_eq] at hb; (try obtain ⟨rfl, rfl⟩ := hb); subst hd; (try subst_vars); exact ⟨_, _, _, rfl, rfl, rfl⟩
 ·cases h
def oG (args : List V) (es : List Entry) : Option Done := orE (rZ args es) (none)
def F9 : Vc.Sum := .gen oG
def oH : List (Nat × Ent) := (26, .sum F9) :: mQ
def wR (l : List Int) (e : Int) : Done := ⟨[], .one (.int .i64 e), [.obj [.psl false tU8 ((l, e)).1, .int .i64 ((l, e)).2]], []⟩
def Ez (l : List Int) (e : Int) : List V := [⟨false, [.ptr 0 0]⟩]
def EC (l : List Int) (e : Int) : List Entry := [.obj [.psl false tU8 l, .int .i64 e]]
def Gf (l : List Int) (e : Int) : Nat -> List V -> Nat -> Option Vc.Loop := bW
def uF : List V -> List Entry -> Option Done
 | [⟨false, [.ptr n1 n2]⟩], [.obj [.psl false t3 l3, .int .i64 e]] => if h3 : t3 = tU8 then cond (Nat.beq n1 0 && Nat.beq n2 0) (some (wR (h3 ▸ l3 : List (Ty.den tU8)) e)) none else none
 | _, _ => none
theorem zl {args : List V} {es : List Entry} {d : Done} (h : uF args es = some d) : ∃ l e, args = Ez l e /\ es = EC l e /\ d = wR l e := by
 unfold uF at h
 split at h
 ·split at h <;> first | (cases h; done) | skip
  rename_i ht; subst ht
  obtain ⟨hb, hd⟩ := gX h; simp only [Bool.and_eq_true, Nat.beq_eq] at hb; (try obtain ⟨rfl, rfl⟩ := hb); subst hd; (try subst_vars); exact ⟨_, _, rfl, rfl, rfl⟩
 ·cases h
def qy (args : List V) (es : List Entry) : Option Done := orE (uF args es) (none)
def IW : Vc.Sum := .gen qy
def qA : List (Nat × Ent) := (27, .sum IW) :: oH
def xP (b : List Int) : Done := ⟨[b.length <= 8], .one (.int .i64 (cond (decide (U.aj b > 4611686018427387904)) (-1) (U.aj b))), [], []⟩
def OW : Vc.Sum := .pure [aI] false fun x => xP x
def OX (b : List Int) : Nat -> List V -> Nat -> Option Vc.Loop := fun f v k => cond (Nat.beq f 55 && Nat.beq k 3) (some (WU b)) <| none
def xQ : List (Nat × Ent) := (55, .sum OW) :: qA
def uG (l : List Int) (e : Int) : Done := ⟨[], .one (.int .i64 (U.ah (l, e)).1), [.obj [.psl false tU8 ((U.ah (l, e)).2).1, .int .i64 ((U.ah (l, e)).2).2]], []⟩
def Bv (l : List Int) (e : Int) : List V := [⟨false, [.ptr 0 0]⟩]
def Bz (l : List Int) (e : Int) : List Entry := [.obj [.psl false tU8 l, .int .i64 e]]
def ED (l : List Int) (e : Int) : Nat -> List V -> Nat -> Option Vc.Loop := bW
def su : List V -> List Entry -> Option Done
 | [⟨false, [.ptr n1 n2]⟩], [.obj [.psl false t3 l3, .int .i64 e]] => if h3 : t3 = tU8 then cond (Nat.beq n1 0 && Nat.beq n2 0) (some (uG (h3 ▸ l3 : List (Ty.den tU8)) e)) none else none
 | _, _ => none
theorem xq {args : List V} {es : List Entry} {d : Done} (h : su args es = some d) : ∃ l e, args = Bv l e /\ es = Bz l e /\ d = uG l e := by
 unfold su at h
 split at h
 ·split at h <;> first | (cases h; done) | skip
  rename_i ht; subst ht
  obtain ⟨hb, hd⟩ := gX h; simp only [Bool.and_eq_true, Nat.beq_eq] at hb; (try obtain ⟨rfl, rfl⟩ := hb); subst hd; (try subst_vars); exact ⟨_, _, rfl, rfl, rfl⟩
 ·cases h
def oI (args : List V) (es : List Entry) : Option Done := orE (su args es) (none)
def Gg : Vc.Sum := .gen oI
def oJ : List (Nat × Ent) := (29, .sum Gg) :: xQ
def sD (l : List Int) (e : Int) : Done := ⟨[], .one (.str (U.ay (l, e)).1), [.obj [.psl false tU8 ((U.ay (l, e)).2).1, .int .i64 ((U.ay (l, e)).2).2]], []⟩
def Ai (l : List Int) (e : Int) : List V := [⟨false, [.ptr 0 0]⟩]
def Aj (l : List Int) (e : Int) : List Entry := [.obj [.psl false tU8 l, .int .i64 e]]
def BA (l : List Int) (e : Int) : Nat -> List V -> Nat -> Option Vc.Loop := bW
def qB : List V -> List Entry -> Option Done
 | [⟨false, [.ptr n1 n2]⟩], [.obj [.psl false t3 l3, .int .i64 e]] => if h3 : t3 = tU8 then cond (Nat.beq n1 0 && Nat.beq n2 0) (some (sD (h3 ▸ l3 : List (Ty.den tU8)) e)) none else none
 | _, _ => none
theorem wH {args : List V} {es : List Entry} {d : Done} (h : qB args es = some d) : ∃ l e, args = Ai l e /\ es = Aj l e /\ d = sD l e := by
 unfold qB at h
 split at h
 ·split at h <;> first | (cases h; done) | skip
  rename_i ht; subst ht
  obtain ⟨hb, hd⟩ := gX h; simp only [Bool.and_eq_true, Nat.beq_eq] at hb; (try obtain ⟨rfl, rfl⟩ := hb); subst hd; (try subst_vars); exact ⟨_, _, rfl, rfl, rfl⟩
 ·cases h
def mV (args : List V) (es : List Entry) : Option Done := orE (qB args es) (none)
def EF : Vc.Sum := .gen mV
def mW : List (Nat × Ent) := (77, .sum EF) :: oJ
def qC (l : List Int) (e : Int) (m : Int) : Done := ⟨[], .one (.int .i64 (U.aA m (l, e)).1), [.obj [.psl false tU8 ((U.aA m (l, e)).2).1, .int .i64 ((U.aA m (l, e)).2).2]], []⟩
def zn (l : List Int) (e : Int) (m : Int) : List V := [⟨false, [.ptr 0 0]⟩, ⟨false, [.int .i64 m]⟩]
def zo (l : List Int) (e : Int) (m : Int) : List Entry := [.obj [.psl false tU8 l, .int .i64 e]]
def Ak (l : List Int) (e : Int) (m : Int) : Nat -> List V -> Nat -> Option Vc.Loop := bW
def oV : List V -> List Entry -> Option Done
 | [⟨false, [.ptr n1 n2]⟩, ⟨false, [.int .i64 m]⟩], [.obj [.psl false t3 l3, .int .i64 e]] => if h3 : t3 = tU8 then cond (Nat.beq n1 0 && Nat.beq n2 0) (some (qC (h3 ▸ l3 : List (Ty.den tU8)) e m)) none else none
 | _, _ => none
theorem uH {args : List V} {es : List Entry} {d : Done} (h : oV args es = some d) : ∃ l e m, args = zn l e m /\ es = zo l e m /\ d = qC l e m := by
 unfold oV at h
 split at h
 ·split at h <;> first | (cases h; done) | skip
  rename_i ht; subst ht
  obtain ⟨hb, hd⟩ := gX h; simp only [Bool.and_eq_true, Nat.beq_eq] at hb; (try obtain ⟨rfl, rfl⟩ := hb); subst hd; (try subst_vars); exact ⟨_, _, _, rfl, rfl, rfl⟩
 ·cases h
def lG (args : List V) (es : List Entry) : Option Done := orE (oV args es) (none)
def BD : Vc.Sum := .gen lG
def lH : List (Nat × Ent) := (78, .sum BD) :: mW
def sG (l : List Int) (e : Int) (x : Bool) : Done := ⟨[], .tup [], [.obj [.psl false tU8 (U.cZ x (l, e)).1, .int .i64 (U.cZ x (l, e)).2]], []⟩
def Am (l : List Int) (e : Int) (x : Bool) : List V := [⟨false, [.ptr 0 0]⟩, ⟨false, [.bool x]⟩]
def Ap (l : List Int) (e : Int) (x : Bool) : List Entry := [.obj [.psl false tU8 l, .int .i64 e]]
def BF (l : List Int) (e : Int) (x : Bool) : Nat -> List V -> Nat -> Option Vc.Loop := bW
def qE : List V -> List Entry -> Option Done
 | [⟨false, [.ptr n1 n2]⟩, ⟨false, [.bool x]⟩], [.obj [.psl false t3 l3, .int .i64 e]] => if h3 : t3 = tU8 then cond (Nat.beq n1 0 && Nat.beq n2 0) (some (sG (h3 ▸ l3 : List (Ty.den tU8)) e x)) none else none
 | _, _ => none
theorem wI {args : List V} {es : List Entry} {d : Done} (h : qE args es = some d) : ∃ l e x, args = Am l e x /\ es = Ap l e x /\ d = sG l e x := by
 unfold qE at h
 split at h
 ·split at h <;> first | (cases h; done) | skip
  rename_i ht; subst ht
  obtain ⟨hb, hd⟩ := gX h; simp only [Bool.and_eq_true, Nat.beq_eq] at hb; (try obtain ⟨rfl, rfl⟩ := hb); subst hd; (try subst_vars); exact ⟨_, _, _, rfl, rfl, rfl⟩
 ·cases h
def mX (args : List V) (es : List Entry) : Option Done := orE (qE args es) (none)
def EG : Vc.Sum := .gen mX
def mY : List (Nat × Ent) := (30, .sum EG) :: lH
def uI (l : List Int) (e : Int) : Done := ⟨[], .one (.int .i64 (U.fU (l, e))), [.obj [.psl false tU8 (U.cZ (decide (l.length > 0)) (l, e)).1, .int .i64 (U.cZ (decide (l.length > 0)) (l, e)).2]], []⟩
def BG (l : List Int) (e : Int) : List V := [⟨false, [.ptr 0 0]⟩]
def BH (l : List Int) (e : Int) : List Entry := [.obj [.psl false tU8 l, .int .i64 e]]
def EH (l : List Int) (e : Int) : Nat -> List V -> Nat -> Option Vc.Loop := bW
def sH : List V -> List Entry -> Option Done
 | [⟨false, [.ptr n1 n2]⟩], [.obj [.psl false t3 l3, .int .i64 e]] => if h3 : t3 = tU8 then cond (Nat.beq n1 0 && Nat.beq n2 0) (some (uI (h3 ▸ l3 : List (Ty.den tU8)) e)) none else none
 | _, _ => none
theorem xu {args : List V} {es : List Entry} {d : Done} (h : sH args es = some d) : ∃ l e, args = BG l e /\ es = BH l e /\ d = uI l e := by
 unfold sH at h
 split at h
 ·split at h <;> first | (cases h; done) | skip
  rename_i ht; subst ht
  obtain ⟨hb, hd⟩ := gX h; simp only [Bool.and_eq_true, Nat.beq_eq] at hb; (try obtain ⟨rfl, rfl⟩ := hb); subst hd; (try subst_vars); exact ⟨_, _, rfl, rfl, rfl⟩
 ·cases h
def oK (args : List V) (es : List Entry) : Option Done := orE (sH args es) (none)
def Gi : Vc.Sum := .gen oK
def oL : List (Nat × Ent) := (54, .sum Gi) :: mY
def sJ (l : List Int) (e : Int) : Done := ⟨[], .one (.int .i64 (U.fU (l, e))), [.obj [.psl false tU8 ((l, e)).1, .int .i64 ((l, e)).2]], []⟩
def Aq (l : List Int) (e : Int) : List V := [⟨false, [.ptr 0 0]⟩]
def Ar (l : List Int) (e : Int) : List Entry := [.obj [.psl false tU8 l, .int .i64 e]]
def BI (l : List Int) (e : Int) : Nat -> List V -> Nat -> Option Vc.Loop := bW
def qF : List V -> List Entry -> Option Done
 | [⟨false, [.ptr n1 n2]⟩], [.obj [.psl false t3 l3, .int .i64 e]] => if h3 : t3 = tU8 then cond (Nat.beq n1 0 && Nat.beq n2 0) (some (sJ (h3 ▸ l3 : List (Ty.den tU8)) e)) none else none
 | _, _ => none
theorem wJ {args : List V} {es : List Entry} {d : Done} (h : qF args es = some d) : ∃ l e, args = Aq l e /\ es = Ar l e /\ d = sJ l e := by
 unfold qF at h
 split at h
 ·split at h <;> first | (cases h; done) | skip
  rename_i ht; subst ht
  obtain ⟨hb, hd⟩ := gX h; simp only [Bool.and_eq_true, Nat.beq_eq] at hb; (try obtain ⟨rfl, rfl⟩ := hb); subst hd; (try subst_vars); exact ⟨_, _, rfl, rfl, rfl⟩
 ·cases h
def mZ (args : List V) (es : List Entry) : Option Done := orE (qF args es) (none)
def EI : Vc.Sum := .gen mZ
def ng : List (Nat × Ent) := (58, .sum EI) :: oL
def KL (a : List Int) (b : List Int) : Done := ⟨[], .one (.bool (decide (a = b))), [], []⟩
def Vz : Vc.Sum := .pure [aI, aI] false fun x => KL x.1 x.2
def VA (a : List Int) (b : List Int) : Nat -> List V -> Nat -> Option Vc.Loop := bW
def Du : List (Nat × Ent) := (9, .sum Vz) :: ng
end Go.Proofs.YtkhdeldobekciaaGreatDoor
set_option maxRecDepth 100000
set_option linter.unusedVariables false
namespace Go.Proofs.YtkhdeldobekciaaGreatDoor
open Go.Vc
def IX (b : List Int) (n : Int) (size : Int) : Prop := ∃ (x0 : List Int × Int), (U.qU b n size b (IntKind.i64.wrap (size.sub (1 : Int))) = U.qU b n size x0.1 x0.2 /\ U.uw b n size x0.1 x0.2) /\ ∀ (x : List Int × Int), U.uw b n size x.1 x.2 -> bif decide (x.2 >= (0 : Int)) then (0 : Int) <= IntKind.i64.wrap (Int.mul (8 : Int) x.2) /\ (x.1.length.add ((1
 : Nat))).mul (1 : Nat) <= (140737488355328 : Nat) /\ x.1.length.add ((1 : Nat)) <= maxLen /\ ∃ (y : List Int × Int), U.qU b n size (x.1.append ([(0 : Int)].set (0 : Nat) (IntKind.u8.wrap (n.fdiv (Int.pow (2 : Int) (if (IntKind.i64.wrap (Int.mul (8 : Int) x.2)).toNat <= IntKind.u64.bits then (IntKind.i64.wrap (Int.mul (8 : Int) x.2)).toNat else IntKind.u64.bits)))))) (IntKind.i64.wrap (x.2.sub
 (1 : Int))) = U.qU b n size y.1 y.2 /\ U.uw b n size y.1 y.2 /\ (y.2.add (1 : Int)).toNat < (x.2.add (1 : Int)).toNat else x.1 = b.append (U.beN size.toNat n) /\ True
def NW (b : List Int) (l : List Int) : Prop := ∀ (nb : Bool), (nb = true -> b.length = (0 : Nat)) -> (false = true -> nb = true) -> bif nb then ∃ (x0 : List Int × Int), (U.gI b l [] (0 : Int) = U.gI b l x0.1 x0.2 /\ U.iW b l x0.1 x0.2) /\ ∀ (x : List Int × Int), U.iW b l x.1 x.2 -> bif decide (x.2 < (↑l.length : Int)) then (0 : Int) <= x.2 /\ x.2 < (↑l.length :
 Int) /\ ((1 : Int) <= (8 : Int) /\ (8 : Int) <= (8 : Int)) /\ x.1.length <= (2000000000000 : Nat) /\ (0 : Int) <= IntKind.u64.wrap (bU (Ky (l.getD x.2.toNat (0 : Int)) (0 : Int)) (4611686018427387904 : Int)) /\ ∃ (y : List Int × Int), U.gI b l (x.1.append (U.beN (8 : Nat) (IntKind.u64.wrap (bU (Ky (l.getD x.2.toNat (0 : Int)) (0 : Int)) (4611686018427387904 : Int))))) (IntKind.i64.wrap
 (x.2.add (1 : Int))) = U.gI b l y.1 y.2 /\ U.iW b l y.1 y.2 /\ l.length.sub y.2.toNat < l.length.sub x.2.toNat else x.1 = b.append (U.nums l) /\ True else (Nat.add (0 : Nat) b.length).mul (1 : Nat) <= (140737488355328 : Nat) /\ Nat.add (0 : Nat) b.length <= maxLen /\ ∃ (x0 : List Int × Int), (U.gI b l b (0 : Int) = U.gI b l x0.1 x0.2 /\ U.iW b l x0.1 x0.2) /\
 ∀ (x : List Int × Int), U.iW b l x.1 x.2 -> bif decide (x.2 < (↑l.length : Int)) then (0 : Int) <= x.2 /\ x.2 < (↑l.length : Int) /\ ((1 : Int) <= (8 : Int) /\ (8 : Int) <= (8 : Int)) /\ x.1.length <= (2000000000000 : Nat) /\ (0 : Int) <= IntKind.u64.wrap (bU (Ky (l.getD x.2.toNat (0 : Int)) (0 : Int)) (4611686018427387904 : Int)) /\ ∃ (y : List Int × Int), U.gI b l (x.1.append (U.beN (8
 : Nat) (IntKind.u64.wrap (bU (Ky (l.getD x.2.toNat (0 : Int)) (0 : Int)) (4611686018427387904 : Int))))) (IntKind.i64.wrap (x.2.add (1 : Int))) = U.gI b l y.1 y.2 /\ U.iW b l y.1 y.2 /\ l.length.sub y.2.toNat < l.length.sub x.2.toNat else x.1 = b.append (U.nums l) /\ True
def KN (b : List Int) (l : List (List Int)) : Prop := ∀ (nb : Bool), (nb = true -> b.length = (0 : Nat)) -> (false = true -> nb = true) -> bif nb then ∃ (x0 : List Int × Int), (U.fG b l [] (0 : Int) = U.fG b l x0.1 x0.2 /\ U.jL b l x0.1 x0.2) /\ ∀ (x : List Int × Int), U.jL b l x.1 x.2 -> bif decide (x.2 < (↑l.length : Int)) then (0 : Int) <= x.2 /\ x.2 <
 (↑l.length : Int) /\ (0 : Int) <= (0 : Int) /\ (0 : Int) <= bU (↑(l.getD x.2.toNat []).length : Int) (4096 : Int) /\ bU (↑(l.getD x.2.toNat []).length : Int) (4096 : Int) <= (↑(l.getD x.2.toNat []).length : Int) /\ ((1 : Int) <= (4 : Int) /\ (4 : Int) <= (8 : Int)) /\ x.1.length <= (2000000000000 : Nat) /\ (0 : Int) <= IntKind.u64.wrap (↑(List.take ((bU (↑(l.getD x.2.toNat []).length : Int) (4096 :
 Int)).toNat.sub (0 : Nat)) (List.drop (0 : Nat) (l.getD x.2.toNat []))).length : Int) /\ ((x.1.append (U.beN (4 : Nat) (IntKind.u64.wrap (↑(List.take ((bU (↑(l.getD x.2.toNat []).length : Int) (4096 : Int)).toNat.sub (0 : Nat)) (List.drop (0 : Nat) (l.getD x.2.toNat []))).length : Int)))).length.add (List.take ((bU (↑(l.getD x.2.toNat []).length : Int) (4096 : Int)).toNat.sub (0 : Nat))
 (List.drop (0 : Nat) (l.getD x.2.toNat []))).length).mul (1 : Nat) <= (140737488355328 : Nat) /\ (x.1.append (U.beN (4 : Nat) (IntKind.u64.wrap (↑(List.take ((bU (↑(l.getD x.2.toNat []).length : Int) (4096 : Int)).toNat.sub (0 : Nat)) (List.drop (0 : Nat) (l.getD x.2.toNat []))).length : Int)))).length.add (List.take ((bU (↑(l.getD x.2.toNat []).length : Int) (4096 : Int)).toNat.sub (0 : Nat))
 (List.drop (0 : Nat) (l.getD x.2.toNat []))).length <= maxLen /\ ∃ (y : List Int × Int), U.fG b l ((x.1.append (U.beN (4 : Nat) (IntKind.u64.wrap (↑(List.take ((bU (↑(l.getD x.2.toNat []).length : Int) (4096 : Int)).toNat.sub (0 : Nat)) (List.drop (0 : Nat) (l.getD x.2.toNat []))).length : Int)))).append (List.take ((bU (↑(l.getD x.2.toNat []).length : Int) (4096 : Int)).toNat.sub (0 :
 Nat)) (List.drop (0 : Nat) (l.getD x.2.toNat [])))) (IntKind.i64.wrap (x.2.add (1 : Int))) = U.fG b l y.1 y.2 /\ U.jL b l y.1 y.2 /\ l.length.sub y.2.toNat < l.length.sub x.2.toNat else x.1 = b.append (U.texts l) /\ True else (Nat.add (0 : Nat) b.length).mul (1 : Nat) <= (140737488355328 : Nat) /\ Nat.add (0 : Nat) b.length <= maxLen /\ ∃ (x0 : List Int × Int), (U.fG b l b
 (0 : Int) = U.fG b l x0.1 x0.2 /\ U.jL b l x0.1 x0.2) /\ ∀ (x : List Int × Int), U.jL b l x.1 x.2 -> bif decide (x.2 < (↑l.length : Int)) then (0 : Int) <= x.2 /\ x.2 < (↑l.length : Int) /\ (0 : Int) <= (0 : Int) /\ (0 : Int) <= bU (↑(l.getD x.2.toNat []).length : Int) (4096 : Int) /\ bU (↑(l.getD x.2.toNat []).length : Int) (4096 : Int) <= (↑(l.getD x.2.toNat []).length :
 Int) /\ ((1 : Int) <= (4 : Int) /\ (4 : Int) <= (8 : Int)) /\ x.1.length <= (2000000000000 : Nat) /\ (0 : Int) <= IntKind.u64.wrap (↑(List.take ((bU (↑(l.getD x.2.toNat []).length : Int) (4096 : Int)).toNat.sub (0 : Nat)) (List.drop (0 : Nat) (l.getD x.2.toNat []))).length : Int) /\ ((x.1.append (U.beN (4 : Nat) (IntKind.u64.wrap (↑(List.take ((bU (↑(l.getD x.2.toNat []).length : Int) (4096 :
 Int)).toNat.sub (0 : Nat)) (List.drop (0 : Nat) (l.getD x.2.toNat []))).length : Int)))).length.add (List.take ((bU (↑(l.getD x.2.toNat []).length : Int) (4096 : Int)).toNat.sub (0 : Nat)) (List.drop (0 : Nat) (l.getD x.2.toNat []))).length).mul (1 : Nat) <= (140737488355328 : Nat) /\ (x.1.append (U.beN (4 : Nat) (IntKind.u64.wrap (↑(List.take ((bU (↑(l.getD x.2.toNat []).length : Int) (4096 :
 Int)).toNat.sub (0 : Nat)) (List.drop (0 : Nat) (l.getD x.2.toNat []))).length : Int)))).length.add (List.take ((bU (↑(l.getD x.2.toNat []).length : Int) (4096 : Int)).toNat.sub (0 : Nat)) (List.drop (0 : Nat) (l.getD x.2.toNat []))).length <= maxLen /\ ∃ (y : List Int × Int), U.fG b l ((x.1.append (U.beN (4 : Nat) (IntKind.u64.wrap (↑(List.take ((bU (↑(l.getD x.2.toNat []).length :
 Int) (4096 : Int)).toNat.sub (0 : Nat)) (List.drop (0 : Nat) (l.getD x.2.toNat []))).length : Int)))).append (List.take ((bU (↑(l.getD x.2.toNat []).length : Int) (4096 : Int)).toNat.sub (0 : Nat)) (List.drop (0 : Nat) (l.getD x.2.toNat [])))) (IntKind.i64.wrap (x.2.add (1 : Int))) = U.fG b l y.1 y.2 /\ U.jL b l y.1 y.2 /\ l.length.sub y.2.toNat < l.length.sub x.2.toNat else
 x.1 = b.append (U.texts l) /\ True
def Fg (b : List Int) : Prop := ∃ (x0 : Int × Int), (U.mM b (0 : Int) (0 : Int) = U.mM b x0.1 x0.2 /\ U.oU b x0.1 x0.2) /\ ∀ (x : Int × Int), U.oU b x.1 x.2 -> bif decide (x.2 < (↑b.length : Int)) then (0 : Int) <= x.2 /\ x.2 < (↑b.length : Int) /\ (0 : Int) <= (8 : Int) /\ ∃ (y : Int × Int), U.mM b (IntKind.u64.wrap (↑((BitVec.ofInt
 IntKind.u64.bits (IntKind.u64.wrap (x.1.mul (Int.pow (2 : Int) (if (8 : Nat) <= IntKind.u64.bits then (8 : Nat) else IntKind.u64.bits))))).or (BitVec.ofInt IntKind.u64.bits (IntKind.u64.wrap (b.getD x.2.toNat (0 : Int))))).toNat : Int)) (IntKind.i64.wrap (x.2.add (1 : Int))) = U.mM b y.1 y.2 /\ U.oU b y.1 y.2 /\ b.length.sub y.2.toNat < b.length.sub x.2.toNat else x.1 = U.aj
 b /\ True
def uJ (l : List Int) (e : Int) : Prop := bif bif decide ((↑l.length : Int) < (8 : Int)) then decide (e = (0 : Int)) else false then bif (2 : Int) != (0 : Int) then (0 : Int) = (U.ah (l, e)).1 /\ l = (U.ah (l, e)).2.1 /\ (2 : Int) = (U.ah (l, e)).2.2 /\ True else (0 : Int) <= (0 : Int) /\ (0 : Int) <= (8 : Int) /\ (8 : Int) <= (↑l.length : Int) /\ (0 : Int) <= (8 : Int) /\ (8 : Int) <=
 (↑l.length : Int) /\ (↑l.length : Int) <= (↑l.length : Int) /\ (List.take ((8 : Nat).sub (0 : Nat)) (List.drop (0 : Nat) l)).length <= (8 : Nat) /\ bif bif decide (U.aj (List.take ((8 : Nat).sub (0 : Nat)) (List.drop (0 : Nat) l)) > (4611686018427387904 : Int)) then decide ((2 : Int) = (0 : Int)) else false then bif (3 : Int) != (0 : Int) then (0 : Int) = (U.ah (l, e)).1 /\ List.take ((↑l.length :
 Int).toNat.sub (8 : Nat)) (List.drop (8 : Nat) l) = (U.ah (l, e)).2.1 /\ (3 : Int) = (U.ah (l, e)).2.2 /\ True else IntKind.i64.wrap (U.aj (List.take ((8 : Nat).sub (0 : Nat)) (List.drop (0 : Nat) l))) = (U.ah (l, e)).1 /\ List.take ((↑l.length : Int).toNat.sub (8 : Nat)) (List.drop (8 : Nat) l) = (U.ah (l, e)).2.1 /\ (3 : Int) = (U.ah (l, e)).2.2 /\ True else bif (2 : Int) != (0 : Int) then
 (0 : Int) = (U.ah (l, e)).1 /\ List.take ((↑l.length : Int).toNat.sub (8 : Nat)) (List.drop (8 : Nat) l) = (U.ah (l, e)).2.1 /\ (2 : Int) = (U.ah (l, e)).2.2 /\ True else IntKind.i64.wrap (U.aj (List.take ((8 : Nat).sub (0 : Nat)) (List.drop (0 : Nat) l))) = (U.ah (l, e)).1 /\ List.take ((↑l.length : Int).toNat.sub (8 : Nat)) (List.drop (8 : Nat) l) = (U.ah (l, e)).2.1 /\ (2 : Int) = (U.ah
 (l, e)).2.2 /\ True else bif e != (0 : Int) then (0 : Int) = (U.ah (l, e)).1 /\ l = (U.ah (l, e)).2.1 /\ e = (U.ah (l, e)).2.2 /\ True else (0 : Int) <= (0 : Int) /\ (0 : Int) <= (8 : Int) /\ (8 : Int) <= (↑l.length : Int) /\ (0 : Int) <= (8 : Int) /\ (8 : Int) <= (↑l.length : Int) /\ (↑l.length : Int) <= (↑l.length : Int) /\ (List.take ((8 : Nat).sub (0 : Nat)) (List.drop (0 : Nat) l)).length <= (8 : Nat) /\
 bif bif decide (U.aj (List.take ((8 : Nat).sub (0 : Nat)) (List.drop (0 : Nat) l)) > (4611686018427387904 : Int)) then decide (e = (0 : Int)) else false then bif (3 : Int) != (0 : Int) then (0 : Int) = (U.ah (l, e)).1 /\ List.take ((↑l.length : Int).toNat.sub (8 : Nat)) (List.drop (8 : Nat) l) = (U.ah (l, e)).2.1 /\ (3 : Int) = (U.ah (l, e)).2.2 /\ True else IntKind.i64.wrap (U.aj (List.take
 ((8 : Nat).sub (0 : Nat)) (List.drop (0 : Nat) l))) = (U.ah (l, e)).1 /\ List.take ((↑l.length : Int).toNat.sub (8 : Nat)) (List.drop (8 : Nat) l) = (U.ah (l, e)).2.1 /\ (3 : Int) = (U.ah (l, e)).2.2 /\ True else bif e != (0 : Int) then (0 : Int) = (U.ah (l, e)).1 /\ List.take ((↑l.length : Int).toNat.sub (8 : Nat)) (List.drop (8 : Nat) l) = (U.ah (l, e)).2.1 /\ e = (U.ah (l, e)).2.2 /\ True
 else IntKind.i64.wrap (U.aj (List.take ((8 : Nat).sub (0 : Nat)) (List.drop (0 : Nat) l))) = (U.ah (l, e)).1 /\ List.take ((↑l.length : Int).toNat.sub (8 : Nat)) (List.drop (8 : Nat) l) = (U.ah (l, e)).2.1 /\ e = (U.ah (l, e)).2.2 /\ True
def sN (l : List Int) (e : Int) : Prop := bif bif decide ((↑l.length : Int) < (4 : Int)) then decide (e = (0 : Int)) else false then bif (2 : Int) != (0 : Int) then [] = (U.ay (l, e)).1 /\ l = (U.ay (l, e)).2.1 /\ (2 : Int) = (U.ay (l, e)).2.2 /\ True else (0 : Int) <= (0 : Int) /\ (0 : Int) <= (4 : Int) /\ (4 : Int) <= (↑l.length : Int) /\ (0 : Int) <= (4 : Int) /\ (4 : Int) <=
 (↑l.length : Int) /\ (↑l.length : Int) <= (↑l.length : Int) /\ (List.take ((4 : Nat).sub (0 : Nat)) (List.drop (0 : Nat) l)).length <= (8 : Nat) /\ bif bif decide (IntKind.i64.wrap (U.aj (List.take ((4 : Nat).sub (0 : Nat)) (List.drop (0 : Nat) l))) > (4096 : Int)) then decide ((2 : Int) = (0 : Int)) else false then bif bif decide ((↑(List.take ((↑l.length : Int).toNat.sub (4 : Nat)) (List.drop (4 :
 Nat) l)).length : Int) < IntKind.i64.wrap (U.aj (List.take ((4 : Nat).sub (0 : Nat)) (List.drop (0 : Nat) l)))) then decide ((4 : Int) = (0 : Int)) else false then bif (2 : Int) != (0 : Int) then [] = (U.ay (l, e)).1 /\ List.take ((↑l.length : Int).toNat.sub (4 : Nat)) (List.drop (4 : Nat) l) = (U.ay (l, e)).2.1 /\ (2 : Int) = (U.ay (l, e)).2.2 /\ True else (0 : Int) <= (0 : Int) /\ (0 : Int)
 <= IntKind.i64.wrap (U.aj (List.take ((4 : Nat).sub (0 : Nat)) (List.drop (0 : Nat) l))) /\ IntKind.i64.wrap (U.aj (List.take ((4 : Nat).sub (0 : Nat)) (List.drop (0 : Nat) l))) <= (↑(List.take ((↑l.length : Int).toNat.sub (4 : Nat)) (List.drop (4 : Nat) l)).length : Int) /\ (0 : Int) <= IntKind.i64.wrap (U.aj (List.take ((4 : Nat).sub (0 : Nat)) (List.drop (0 : Nat) l))) /\ IntKind.i64.wrap
 (U.aj (List.take ((4 : Nat).sub (0 : Nat)) (List.drop (0 : Nat) l))) <= (↑(List.take ((↑l.length : Int).toNat.sub (4 : Nat)) (List.drop (4 : Nat) l)).length : Int) /\ (↑(List.take ((↑l.length : Int).toNat.sub (4 : Nat)) (List.drop (4 : Nat) l)).length : Int) <= (↑(List.take ((↑l.length : Int).toNat.sub (4 : Nat)) (List.drop (4 : Nat) l)).length : Int) /\ List.take ((IntKind.i64.wrap (U.aj
 (List.take ((4 : Nat).sub (0 : Nat)) (List.drop (0 : Nat) l)))).toNat.sub (0 : Nat)) (List.drop (0 : Nat) (List.take ((↑l.length : Int).toNat.sub (4 : Nat)) (List.drop (4 : Nat) l))) = (U.ay (l, e)).1 /\ List.take ((↑(List.take ((↑l.length : Int).toNat.sub (4 : Nat)) (List.drop (4 : Nat) l)).length : Int).toNat.sub (IntKind.i64.wrap (U.aj (List.take ((4 : Nat).sub (0 : Nat)) (List.drop (0 :
 Nat) l)))).toNat) (List.drop (IntKind.i64.wrap (U.aj (List.take ((4 : Nat).sub (0 : Nat)) (List.drop (0 : Nat) l)))).toNat (List.take ((↑l.length : Int).toNat.sub (4 : Nat)) (List.drop (4 : Nat) l))) = (U.ay (l, e)).2.1 /\ (2 : Int) = (U.ay (l, e)).2.2 /\ True else bif (4 : Int) != (0 : Int) then [] = (U.ay (l, e)).1 /\ List.take ((↑l.length : Int).toNat.sub (4 : Nat)) (List.drop (4 : Nat)
 l) = (U.ay (l, e)).2.1 /\ (4 : Int) = (U.ay (l, e)).2.2 /\ True else (0 : Int) <= (0 : Int) /\ (0 : Int) <= IntKind.i64.wrap (U.aj (List.take ((4 : Nat).sub (0 : Nat)) (List.drop (0 : Nat) l))) /\ IntKind.i64.wrap (U.aj (List.take ((4 : Nat).sub (0 : Nat)) (List.drop (0 : Nat) l))) <= (↑(List.take ((↑l.length : Int).toNat.sub (4 : Nat)) (List.drop (4 : Nat) l)).length : Int) /\ (0 : Int) <=
 IntKind.i64.wrap (U.aj (List.take ((4 : Nat).sub (0 : Nat)) (List.drop (0 : Nat) l))) /\ IntKind.i64.wrap (U.aj (List.take ((4 : Nat).sub (0 : Nat)) (List.drop (0 : Nat) l))) <= (↑(List.take ((↑l.length : Int).toNat.sub (4 : Nat)) (List.drop (4 : Nat) l)).length : Int) /\ (↑(List.take ((↑l.length : Int).toNat.sub (4 : Nat)) (List.drop (4 : Nat) l)).length : Int) <= (↑(List.take ((↑l.length :
 Int).toNat.sub (4 : Nat)) (List.drop (4 : Nat) l)).length : Int) /\ List.take ((IntKind.i64.wrap (U.aj (List.take ((4 : Nat).sub (0 : Nat)) (List.drop (0 : Nat) l)))).toNat.sub (0 : Nat)) (List.drop (0 : Nat) (List.take ((↑l.length : Int).toNat.sub (4 : Nat)) (List.drop (4 : Nat) l))) = (U.ay (l, e)).1 /\ List.take ((↑(List.take ((↑l.length : Int).toNat.sub (4 : Nat)) (List.drop (4 : Nat)
 l)).length : Int).toNat.sub (IntKind.i64.wrap (U.aj (List.take ((4 : Nat).sub (0 : Nat)) (List.drop (0 : Nat) l)))).toNat) (List.drop (IntKind.i64.wrap (U.aj (List.take ((4 : Nat).sub (0 : Nat)) (List.drop (0 : Nat) l)))).toNat (List.take ((↑l.length : Int).toNat.sub (4 : Nat)) (List.drop (4 : Nat) l))) = (U.ay (l, e)).2.1 /\ (4 : Int) = (U.ay (l, e)).2.2 /\ True else bif bif decide
 ((↑(List.take ((↑l.length : Int).toNat.sub (4 : Nat)) (List.drop (4 : Nat) l)).length : Int) < IntKind.i64.wrap (U.aj (List.take ((4 : Nat).sub (0 : Nat)) (List.drop (0 : Nat) l)))) then decide ((2 : Int) = (0 : Int)) else false then bif (2 : Int) != (0 : Int) then [] = (U.ay (l, e)).1 /\ List.take ((↑l.length : Int).toNat.sub (4 : Nat)) (List.drop (4 : Nat) l) = (U.ay (l, e)).2.1 /\ (2 :
 Int) = (U.ay (l, e)).2.2 /\ True else (0 : Int) <= (0 : Int) /\ (0 : Int) <= IntKind.i64.wrap (U.aj (List.take ((4 : Nat).sub (0 : Nat)) (List.drop (0 : Nat) l))) /\ IntKind.i64.wrap (U.aj (List.take ((4 : Nat).sub (0 : Nat)) (List.drop (0 : Nat) l))) <= (↑(List.take ((↑l.length : Int).toNat.sub (4 : Nat)) (List.drop (4 : Nat) l)).length : Int) /\ (0 : Int) <= IntKind.i64.wrap (U.aj (List.take ((4
 : Nat).sub (0 : Nat)) (List.drop (0 : Nat) l))) /\ IntKind.i64.wrap (U.aj (List.take ((4 : Nat).sub (0 : Nat)) (List.drop (0 : Nat) l))) <= (↑(List.take ((↑l.length : Int).toNat.sub (4 : Nat)) (List.drop (4 : Nat) l)).length : Int) /\ (↑(List.take ((↑l.length : Int).toNat.sub (4 : Nat)) (List.drop (4 : Nat) l)).length : Int) <= (↑(List.take ((↑l.length : Int).toNat.sub (4 : Nat)) (List.drop (4 : Nat)
 l)).length : Int) /\ List.take ((IntKind.i64.wrap (U.aj (List.take ((4 : Nat).sub (0 : Nat)) (List.drop (0 : Nat) l)))).toNat.sub (0 : Nat)) (List.drop (0 : Nat) (List.take ((↑l.length : Int).toNat.sub (4 : Nat)) (List.drop (4 : Nat) l))) = (U.ay (l, e)).1 /\ List.take ((↑(List.take ((↑l.length : Int).toNat.sub (4 : Nat)) (List.drop (4 : Nat) l)).length : Int).toNat.sub (IntKind.i64.wrap (U.aj
 (List.take ((4 : Nat).sub (0 : Nat)) (List.drop (0 : Nat) l)))).toNat) (List.drop (IntKind.i64.wrap (U.aj (List.take ((4 : Nat).sub (0 : Nat)) (List.drop (0 : Nat) l)))).toNat (List.take ((↑l.length : Int).toNat.sub (4 : Nat)) (List.drop (4 : Nat) l))) = (U.ay (l, e)).2.1 /\ (2 : Int) = (U.ay (l, e)).2.2 /\ True else bif (2 : Int) != (0 : Int) then [] = (U.ay (l, e)).1 /\ List.take
 ((↑l.length : Int).toNat.sub (4 : Nat)) (List.drop (4 : Nat) l) = (U.ay (l, e)).2.1 /\ (2 : Int) = (U.ay (l, e)).2.2 /\ True else (0 : Int) <= (0 : Int) /\ (0 : Int) <= IntKind.i64.wrap (U.aj (List.take ((4 : Nat).sub (0 : Nat)) (List.drop (0 : Nat) l))) /\ IntKind.i64.wrap (U.aj (List.take ((4 : Nat).sub (0 : Nat)) (List.drop (0 : Nat) l))) <= (↑(List.take ((↑l.length : Int).toNat.sub (4 :
 Nat)) (List.drop (4 : Nat) l)).length : Int) /\ (0 : Int) <= IntKind.i64.wrap (U.aj (List.take ((4 : Nat).sub (0 : Nat)) (List.drop (0 : Nat) l))) /\ IntKind.i64.wrap (U.aj (List.take ((4 : Nat).sub (0 : Nat)) (List.drop (0 : Nat) l))) <= (↑(List.take ((↑l.length : Int).toNat.sub (4 : Nat)) (List.drop (4 : Nat) l)).length : Int) /\ (↑(List.take ((↑l.length : Int).toNat.sub (4 : Nat)) (List.drop (4 :
 Nat) l)).length : Int) <= (↑(List.take ((↑l.length : Int).toNat.sub (4 : Nat)) (List.drop (4 : Nat) l)).length : Int) /\ List.take ((IntKind.i64.wrap (U.aj (List.take ((4 : Nat).sub (0 : Nat)) (List.drop (0 : Nat) l)))).toNat.sub (0 : Nat)) (List.drop (0 : Nat) (List.take ((↑l.length : Int).toNat.sub (4 : Nat)) (List.drop (4 : Nat) l))) = (U.ay (l, e)).1 /\ List.take ((↑(List.take ((↑l.length :
 Int).toNat.sub (4 : Nat)) (List.drop (4 : Nat) l)).length : Int).toNat.sub (IntKind.i64.wrap (U.aj (List.take ((4 : Nat).sub (0 : Nat)) (List.drop (0 : Nat) l)))).toNat) (List.drop (IntKind.i64.wrap (U.aj (List.take ((4 : Nat).sub (0 : Nat)) (List.drop (0 : Nat) l)))).toNat (List.take ((↑l.length : Int).toNat.sub (4 : Nat)) (List.drop (4 : Nat) l))) = (U.ay (l, e)).2.1 /\ (2 : Int) = (U.ay
 (l, e)).2.2 /\ True else bif e != (0 : Int) then [] = (U.ay (l, e)).1 /\ l = (U.ay (l, e)).2.1 /\ e = (U.ay (l, e)).2.2 /\ True else (0 : Int) <= (0 : Int) /\ (0 : Int) <= (4 : Int) /\ (4 : Int) <= (↑l.length : Int) /\ (0 : Int) <= (4 : Int) /\ (4 : Int) <= (↑l.length : Int) /\ (↑l.length : Int) <= (↑l.length : Int) /\ (List.take ((4 : Nat).sub (0 : Nat)) (List.drop (0 : Nat) l)).length <= (8 : Nat) /\ bif
 bif decide (IntKind.i64.wrap (U.aj (List.take ((4 : Nat).sub (0 : Nat)) (List.drop (0 : Nat) l))) > (4096 : Int)) then decide (e = (0 : Int)) else false then bif bif decide ((↑(List.take ((↑l.length : Int).toNat.sub (4 : Nat)) (List.drop (4 : Nat) l)).length : Int) < IntKind.i64.wrap (U.aj (List.take ((4 : Nat).sub (0 : Nat)) (List.drop (0 : Nat) l)))) then decide ((4 : Int) = (0 : Int)) else
 false then bif (2 : Int) != (0 : Int) then [] = (U.ay (l, e)).1 /\ List.take ((↑l.length : Int).toNat.sub (4 : Nat)) (List.drop (4 : Nat) l) = (U.ay (l, e)).2.1 /\ (2 : Int) = (U.ay (l, e)).2.2 /\ True else (0 : Int) <= (0 : Int) /\ (0 : Int) <= IntKind.i64.wrap (U.aj (List.take ((4 : Nat).sub (0 : Nat)) (List.drop (0 : Nat) l))) /\ IntKind.i64.wrap (U.aj (List.take ((4 : Nat).sub (0 : Nat))
 (List.drop (0 : Nat) l))) <= (↑(List.take ((↑l.length : Int).toNat.sub (4 : Nat)) (List.drop (4 : Nat) l)).length : Int) /\ (0 : Int) <= IntKind.i64.wrap (U.aj (List.take ((4 : Nat).sub (0 : Nat)) (List.drop (0 : Nat) l))) /\ IntKind.i64.wrap (U.aj (List.take ((4 : Nat).sub (0 : Nat)) (List.drop (0 : Nat) l))) <= (↑(List.take ((↑l.length : Int).toNat.sub (4 : Nat)) (List.drop (4 : Nat) l)).length :
 Int) /\ (↑(List.take ((↑l.length : Int).toNat.sub (4 : Nat)) (List.drop (4 : Nat) l)).length : Int) <= (↑(List.take ((↑l.length : Int).toNat.sub (4 : Nat)) (List.drop (4 : Nat) l)).length : Int) /\ List.take ((IntKind.i64.wrap (U.aj (List.take ((4 : Nat).sub (0 : Nat)) (List.drop (0 : Nat) l)))).toNat.sub (0 : Nat)) (List.drop (0 : Nat) (List.take ((↑l.length : Int).toNat.sub (4 : Nat)) (List.drop
 (4 : Nat) l))) = (U.ay (l, e)).1 /\ List.take ((↑(List.take ((↑l.length : Int).toNat.sub (4 : Nat)) (List.drop (4 : Nat) l)).length : Int).toNat.sub (IntKind.i64.wrap (U.aj (List.take ((4 : Nat).sub (0 : Nat)) (List.drop (0 : Nat) l)))).toNat) (List.drop (IntKind.i64.wrap (U.aj (List.take ((4 : Nat).sub (0 : Nat)) (List.drop (0 : Nat) l)))).toNat (List.take ((↑l.length : Int).toNat.sub (4 :
 Nat)) (List.drop (4 : Nat) l))) = (U.ay (l, e)).2.1 /\ (2 : Int) = (U.ay (l, e)).2.2 /\ True else bif (4 : Int) != (0 : Int) then [] = (U.ay (l, e)).1 /\ List.take ((↑l.length : Int).toNat.sub (4 : Nat)) (List.drop (4 : Nat) l) = (U.ay (l, e)).2.1 /\ (4 : Int) = (U.ay (l, e)).2.2 /\ True else (0 : Int) <= (0 : Int) /\ (0 : Int) <= IntKind.i64.wrap (U.aj (List.take ((4 : Nat).sub (0 : Nat))
 (List.drop (0 : Nat) l))) /\ IntKind.i64.wrap (U.aj (List.take ((4 : Nat).sub (0 : Nat)) (List.drop (0 : Nat) l))) <= (↑(List.take ((↑l.length : Int).toNat.sub (4 : Nat)) (List.drop (4 : Nat) l)).length : Int) /\ (0 : Int) <= IntKind.i64.wrap (U.aj (List.take ((4 : Nat).sub (0 : Nat)) (List.drop (0 : Nat) l))) /\ IntKind.i64.wrap (U.aj (List.take ((4 : Nat).sub (0 : Nat)) (List.drop (0 : Nat) l)))
 <= (↑(List.take ((↑l.length : Int).toNat.sub (4 : Nat)) (List.drop (4 : Nat) l)).length : Int) /\ (↑(List.take ((↑l.length : Int).toNat.sub (4 : Nat)) (List.drop (4 : Nat) l)).length : Int) <= (↑(List.take ((↑l.length : Int).toNat.sub (4 : Nat)) (List.drop (4 : Nat) l)).length : Int) /\ List.take ((IntKind.i64.wrap (U.aj (List.take ((4 : Nat).sub (0 : Nat)) (List.drop (0 : Nat) l)))).toNat.sub (0 :
 Nat)) (List.drop (0 : Nat) (List.take ((↑l.length : Int).toNat.sub (4 : Nat)) (List.drop (4 : Nat) l))) = (U.ay (l, e)).1 /\ List.take ((↑(List.take ((↑l.length : Int).toNat.sub (4 : Nat)) (List.drop (4 : Nat) l)).length : Int).toNat.sub (IntKind.i64.wrap (U.aj (List.take ((4 : Nat).sub (0 : Nat)) (List.drop (0 : Nat) l)))).toNat) (List.drop (IntKind.i64.wrap (U.aj (List.take ((4 : Nat).sub
 (0 : Nat)) (List.drop (0 : Nat) l)))).toNat (List.take ((↑l.length : Int).toNat.sub (4 : Nat)) (List.drop (4 : Nat) l))) = (U.ay (l, e)).2.1 /\ (4 : Int) = (U.ay (l, e)).2.2 /\ True else bif bif decide ((↑(List.take ((↑l.length : Int).toNat.sub (4 : Nat)) (List.drop (4 : Nat) l)).length : Int) < IntKind.i64.wrap (U.aj (List.take ((4 : Nat).sub (0 : Nat)) (List.drop (0 : Nat) l)))) then decide
 (e = (0 : Int)) else false then bif (2 : Int) != (0 : Int) then [] = (U.ay (l, e)).1 /\ List.take ((↑l.length : Int).toNat.sub (4 : Nat)) (List.drop (4 : Nat) l) = (U.ay (l, e)).2.1 /\ (2 : Int) = (U.ay (l, e)).2.2 /\ True else (0 : Int) <= (0 : Int) /\ (0 : Int) <= IntKind.i64.wrap (U.aj (List.take ((4 : Nat).sub (0 : Nat)) (List.drop (0 : Nat) l))) /\ IntKind.i64.wrap (U.aj (List.take ((4 :
 Nat).sub (0 : Nat)) (List.drop (0 : Nat) l))) <= (↑(List.take ((↑l.length : Int).toNat.sub (4 : Nat)) (List.drop (4 : Nat) l)).length : Int) /\ (0 : Int) <= IntKind.i64.wrap (U.aj (List.take ((4 : Nat).sub (0 : Nat)) (List.drop (0 : Nat) l))) /\ IntKind.i64.wrap (U.aj (List.take ((4 : Nat).sub (0 : Nat)) (List.drop (0 : Nat) l))) <= (↑(List.take ((↑l.length : Int).toNat.sub (4 : Nat)) (List.drop (4
 : Nat) l)).length : Int) /\ (↑(List.take ((↑l.length : Int).toNat.sub (4 : Nat)) (List.drop (4 : Nat) l)).length : Int) <= (↑(List.take ((↑l.length : Int).toNat.sub (4 : Nat)) (List.drop (4 : Nat) l)).length : Int) /\ List.take ((IntKind.i64.wrap (U.aj (List.take ((4 : Nat).sub (0 : Nat)) (List.drop (0 : Nat) l)))).toNat.sub (0 : Nat)) (List.drop (0 : Nat) (List.take ((↑l.length : Int).toNat.sub (4
 : Nat)) (List.drop (4 : Nat) l))) = (U.ay (l, e)).1 /\ List.take ((↑(List.take ((↑l.length : Int).toNat.sub (4 : Nat)) (List.drop (4 : Nat) l)).length : Int).toNat.sub (IntKind.i64.wrap (U.aj (List.take ((4 : Nat).sub (0 : Nat)) (List.drop (0 : Nat) l)))).toNat) (List.drop (IntKind.i64.wrap (U.aj (List.take ((4 : Nat).sub (0 : Nat)) (List.drop (0 : Nat) l)))).toNat (List.take ((↑l.length :
 Int).toNat.sub (4 : Nat)) (List.drop (4 : Nat) l))) = (U.ay (l, e)).2.1 /\ (2 : Int) = (U.ay (l, e)).2.2 /\ True else bif e != (0 : Int) then [] = (U.ay (l, e)).1 /\ List.take ((↑l.length : Int).toNat.sub (4 : Nat)) (List.drop (4 : Nat) l) = (U.ay (l, e)).2.1 /\ e = (U.ay (l, e)).2.2 /\ True else (0 : Int) <= (0 : Int) /\ (0 : Int) <= IntKind.i64.wrap (U.aj (List.take ((4 : Nat).sub (0 :
 Nat)) (List.drop (0 : Nat) l))) /\ IntKind.i64.wrap (U.aj (List.take ((4 : Nat).sub (0 : Nat)) (List.drop (0 : Nat) l))) <= (↑(List.take ((↑l.length : Int).toNat.sub (4 : Nat)) (List.drop (4 : Nat) l)).length : Int) /\ (0 : Int) <= IntKind.i64.wrap (U.aj (List.take ((4 : Nat).sub (0 : Nat)) (List.drop (0 : Nat) l))) /\ IntKind.i64.wrap (U.aj (List.take ((4 : Nat).sub (0 : Nat)) (List.drop (0 :
 Nat) l))) <= (↑(List.take ((↑l.length : Int).toNat.sub (4 : Nat)) (List.drop (4 : Nat) l)).length : Int) /\ (↑(List.take ((↑l.length : Int).toNat.sub (4 : Nat)) (List.drop (4 : Nat) l)).length : Int) <= (↑(List.take ((↑l.length : Int).toNat.sub (4 : Nat)) (List.drop (4 : Nat) l)).length : Int) /\ List.take ((IntKind.i64.wrap (U.aj (List.take ((4 : Nat).sub (0 : Nat)) (List.drop (0 : Nat)
 l)))).toNat.sub (0 : Nat)) (List.drop (0 : Nat) (List.take ((↑l.length : Int).toNat.sub (4 : Nat)) (List.drop (4 : Nat) l))) = (U.ay (l, e)).1 /\ List.take ((↑(List.take ((↑l.length : Int).toNat.sub (4 : Nat)) (List.drop (4 : Nat) l)).length : Int).toNat.sub (IntKind.i64.wrap (U.aj (List.take ((4 : Nat).sub (0 : Nat)) (List.drop (0 : Nat) l)))).toNat) (List.drop (IntKind.i64.wrap (U.aj
 (List.take ((4 : Nat).sub (0 : Nat)) (List.drop (0 : Nat) l)))).toNat (List.take ((↑l.length : Int).toNat.sub (4 : Nat)) (List.drop (4 : Nat) l))) = (U.ay (l, e)).2.1 /\ e = (U.ay (l, e)).2.2 /\ True
def qG (l : List Int) (e : Int) (m : Int) : Prop := bif bif decide ((U.ah (l, e)).1 > m) then decide ((U.ah (l, e)).2.2 = (0 : Int)) else false then bif (4 : Int) != (0 : Int) then (0 : Int) = (U.aA m (l, e)).1 /\ (U.ah (l, e)).2.1 = (U.aA m (l, e)).2.1 /\ (4 : Int) = (U.aA m (l, e)).2.2 /\ True else (U.ah (l, e)).1 = (U.aA m (l, e)).1 /\ (U.ah (l, e)).2.1 =
 (U.aA m (l, e)).2.1 /\ (4 : Int) = (U.aA m (l, e)).2.2 /\ True else bif (U.ah (l, e)).2.2 != (0 : Int) then (0 : Int) = (U.aA m (l, e)).1 /\ (U.ah (l, e)).2.1 = (U.aA m (l, e)).2.1 /\ (U.ah (l, e)).2.2 = (U.aA m (l, e)).2.2 /\ True else (U.ah (l, e)).1 = (U.aA m (l, e)).1 /\ (U.ah (l, e)).2.1 = (U.aA m (l, e)).2.1 /\ (U.ah (l, e)).2.2 = (U.aA m (l, e)).2.2 /\
 True
def sO (l : List Int) (e : Int) (x : Bool) : Prop := bif bif x then decide (e = (0 : Int)) else false then l = (U.cZ x (l, e)).1 /\ (3 : Int) = (U.cZ x (l, e)).2 /\ True else l = (U.cZ x (l, e)).1 /\ e = (U.cZ x (l, e)).2 /\ True
def uK (l : List Int) (e : Int) : Prop := e = e /\ l = l /\ e = e /\ True
def CB (b : List Int) : Prop := ∃ (x0 : Int × Int), (U.lg b (0 : Int) (0 : Int) = U.lg b x0.1 x0.2 /\ U.mO b x0.1 x0.2) /\ ∀ (x : Int × Int), U.mO b x.1 x.2 -> bif decide (x.2 < (↑b.length : Int)) then bif decide (x.1 >= (36028797018963968 : Int)) then ((-1 : Int) = bif decide (U.aj b > (4611686018427387904 : Int)) then (-1 : Int) else
 U.aj b) /\ True else (0 : Int) <= x.2 /\ x.2 < (↑b.length : Int) /\ ∃ (y : Int × Int), U.lg b (IntKind.i64.wrap ((IntKind.i64.wrap (x.1.mul (256 : Int))).add (IntKind.i64.wrap (b.getD x.2.toNat (0 : Int))))) (IntKind.i64.wrap (x.2.add (1 : Int))) = U.lg b y.1 y.2 /\ U.mO b y.1 y.2 /\ b.length.sub y.2.toNat < b.length.sub x.2.toNat else bif decide (x.1 >
 (4611686018427387904 : Int)) then ((-1 : Int) = bif decide (U.aj b > (4611686018427387904 : Int)) then (-1 : Int) else U.aj b) /\ True else (x.1 = bif decide (U.aj b > (4611686018427387904 : Int)) then (-1 : Int) else U.aj b) /\ True
def sQ (l : List Int) (e : Int) : Prop := bif bif decide (e = (0 : Int)) then decide ((↑l.length : Int) < (8 : Int)) else false then bif (2 : Int) != (0 : Int) then (0 : Nat) <= (8 : Nat) /\ bif bif decide ((2 : Int) = (0 : Int)) then decide ((bif decide (U.aj [] > (4611686018427387904 : Int)) then (-1 : Int) else U.aj []) < (0 : Int)) else false then bif (3 : Int) != (0 : Int)
 then (0 : Int) = (U.ah (l, e)).1 /\ l = (U.ah (l, e)).2.1 /\ (3 : Int) = (U.ah (l, e)).2.2 /\ True else (bif decide (U.aj [] > (4611686018427387904 : Int)) then (-1 : Int) else U.aj []) = (U.ah (l, e)).1 /\ l = (U.ah (l, e)).2.1 /\ (3 : Int) = (U.ah (l, e)).2.2 /\ True else bif (2 : Int) != (0 : Int) then (0 : Int) = (U.ah (l, e)).1 /\ l = (U.ah (l, e)).2.1 /\ (2 : Int) = (U.ah (l,
 e)).2.2 /\ True else (bif decide (U.aj [] > (4611686018427387904 : Int)) then (-1 : Int) else U.aj []) = (U.ah (l, e)).1 /\ l = (U.ah (l, e)).2.1 /\ (2 : Int) = (U.ah (l, e)).2.2 /\ True else (0 : Int) <= (0 : Int) /\ (0 : Int) <= (8 : Int) /\ (8 : Int) <= (↑l.length : Int) /\ (0 : Int) <= (8 : Int) /\ (8 : Int) <= (↑l.length : Int) /\ (↑l.length : Int) <= (↑l.length : Int) /\ (List.take ((8 : Nat).sub
 (0 : Nat)) (List.drop (0 : Nat) l)).length <= (8 : Nat) /\ bif bif decide ((2 : Int) = (0 : Int)) then decide ((bif decide (U.aj (List.take ((8 : Nat).sub (0 : Nat)) (List.drop (0 : Nat) l)) > (4611686018427387904 : Int)) then (-1 : Int) else U.aj (List.take ((8 : Nat).sub (0 : Nat)) (List.drop (0 : Nat) l))) < (0 : Int)) else false then bif (3 : Int) != (0 : Int) then (0 : Int) = (U.ah (l,
 e)).1 /\ List.take ((↑l.length : Int).toNat.sub (8 : Nat)) (List.drop (8 : Nat) l) = (U.ah (l, e)).2.1 /\ (3 : Int) = (U.ah (l, e)).2.2 /\ True else (bif decide (U.aj (List.take ((8 : Nat).sub (0 : Nat)) (List.drop (0 : Nat) l)) > (4611686018427387904 : Int)) then (-1 : Int) else U.aj (List.take ((8 : Nat).sub (0 : Nat)) (List.drop (0 : Nat) l))) = (U.ah (l, e)).1 /\ List.take ((↑l.length :
 Int).toNat.sub (8 : Nat)) (List.drop (8 : Nat) l) = (U.ah (l, e)).2.1 /\ (3 : Int) = (U.ah (l, e)).2.2 /\ True else bif (2 : Int) != (0 : Int) then (0 : Int) = (U.ah (l, e)).1 /\ List.take ((↑l.length : Int).toNat.sub (8 : Nat)) (List.drop (8 : Nat) l) = (U.ah (l, e)).2.1 /\ (2 : Int) = (U.ah (l, e)).2.2 /\ True else (bif decide (U.aj (List.take ((8 : Nat).sub (0 : Nat)) (List.drop (0 : Nat)
 l)) > (4611686018427387904 : Int)) then (-1 : Int) else U.aj (List.take ((8 : Nat).sub (0 : Nat)) (List.drop (0 : Nat) l))) = (U.ah (l, e)).1 /\ List.take ((↑l.length : Int).toNat.sub (8 : Nat)) (List.drop (8 : Nat) l) = (U.ah (l, e)).2.1 /\ (2 : Int) = (U.ah (l, e)).2.2 /\ True else bif e != (0 : Int) then (0 : Nat) <= (8 : Nat) /\ bif bif decide (e = (0 : Int)) then decide ((bif decide (U.aj
 [] > (4611686018427387904 : Int)) then (-1 : Int) else U.aj []) < (0 : Int)) else false then bif (3 : Int) != (0 : Int) then (0 : Int) = (U.ah (l, e)).1 /\ l = (U.ah (l, e)).2.1 /\ (3 : Int) = (U.ah (l, e)).2.2 /\ True else (bif decide (U.aj [] > (4611686018427387904 : Int)) then (-1 : Int) else U.aj []) = (U.ah (l, e)).1 /\ l = (U.ah (l, e)).2.1 /\ (3 : Int) = (U.ah (l, e)).2.2 /\ True
 else bif e != (0 : Int) then (0 : Int) = (U.ah (l, e)).1 /\ l = (U.ah (l, e)).2.1 /\ e = (U.ah (l, e)).2.2 /\ True else (bif decide (U.aj [] > (4611686018427387904 : Int)) then (-1 : Int) else U.aj []) = (U.ah (l, e)).1 /\ l = (U.ah (l, e)).2.1 /\ e = (U.ah (l, e)).2.2 /\ True else (0 : Int) <= (0 : Int) /\ (0 : Int) <= (8 : Int) /\ (8 : Int) <= (↑l.length : Int) /\ (0 : Int) <= (8 : Int) /\ (8 :
 Int) <= (↑l.length : Int) /\ (↑l.length : Int) <= (↑l.length : Int) /\ (List.take ((8 : Nat).sub (0 : Nat)) (List.drop (0 : Nat) l)).length <= (8 : Nat) /\ bif bif decide (e = (0 : Int)) then decide ((bif decide (U.aj (List.take ((8 : Nat).sub (0 : Nat)) (List.drop (0 : Nat) l)) > (4611686018427387904 : Int)) then (-1 : Int) else U.aj (List.take ((8 : Nat).sub (0 : Nat)) (List.drop (0 : Nat) l))) <
 (0 : Int)) else false then bif (3 : Int) != (0 : Int) then (0 : Int) = (U.ah (l, e)).1 /\ List.take ((↑l.length : Int).toNat.sub (8 : Nat)) (List.drop (8 : Nat) l) = (U.ah (l, e)).2.1 /\ (3 : Int) = (U.ah (l, e)).2.2 /\ True else (bif decide (U.aj (List.take ((8 : Nat).sub (0 : Nat)) (List.drop (0 : Nat) l)) > (4611686018427387904 : Int)) then (-1 : Int) else U.aj (List.take ((8 : Nat).sub
 (0 : Nat)) (List.drop (0 : Nat) l))) = (U.ah (l, e)).1 /\ List.take ((↑l.length : Int).toNat.sub (8 : Nat)) (List.drop (8 : Nat) l) = (U.ah (l, e)).2.1 /\ (3 : Int) = (U.ah (l, e)).2.2 /\ True else bif e != (0 : Int) then (0 : Int) = (U.ah (l, e)).1 /\ List.take ((↑l.length : Int).toNat.sub (8 : Nat)) (List.drop (8 : Nat) l) = (U.ah (l, e)).2.1 /\ e = (U.ah (l, e)).2.2 /\ True else (bif
 decide (U.aj (List.take ((8 : Nat).sub (0 : Nat)) (List.drop (0 : Nat) l)) > (4611686018427387904 : Int)) then (-1 : Int) else U.aj (List.take ((8 : Nat).sub (0 : Nat)) (List.drop (0 : Nat) l))) = (U.ah (l, e)).1 /\ List.take ((↑l.length : Int).toNat.sub (8 : Nat)) (List.drop (8 : Nat) l) = (U.ah (l, e)).2.1 /\ e = (U.ah (l, e)).2.2 /\ True
def qH (l : List Int) (e : Int) : Prop := bif bif decide (e = (0 : Int)) then decide ((↑l.length : Int) < (4 : Int)) else false then bif (2 : Int) != (0 : Int) then (0 : Nat) <= (8 : Nat) /\ bif bif decide ((2 : Int) = (0 : Int)) then decide ((bif decide (U.aj [] > (4611686018427387904 : Int)) then (-1 : Int) else U.aj []) > (4096 : Int)) else false then bif (4 : Int) != (0 :
 Int) then [] = (U.ay (l, e)).1 /\ l = (U.ay (l, e)).2.1 /\ (4 : Int) = (U.ay (l, e)).2.2 /\ True else bif bif decide ((4 : Int) = (0 : Int)) then decide ((↑l.length : Int) < bif decide (U.aj [] > (4611686018427387904 : Int)) then (-1 : Int) else U.aj []) else false then bif (2 : Int) != (0 : Int) then [] = (U.ay (l, e)).1 /\ l = (U.ay (l, e)).2.1 /\ (2 : Int) = (U.ay (l, e)).2.2 /\
 True else (0 : Int) <= (0 : Int) /\ ((0 : Int) <= bif decide (U.aj [] > (4611686018427387904 : Int)) then (-1 : Int) else U.aj []) /\ (bif decide (U.aj [] > (4611686018427387904 : Int)) then (-1 : Int) else U.aj []) <= (↑l.length : Int) /\ ((0 : Int) <= bif decide (U.aj [] > (4611686018427387904 : Int)) then (-1 : Int) else U.aj []) /\ (bif decide (U.aj [] > (4611686018427387904 : Int)) then
 (-1 : Int) else U.aj []) <= (↑l.length : Int) /\ (↑l.length : Int) <= (↑l.length : Int) /\ [] = (U.ay (l, e)).1 /\ List.take ((↑l.length : Int).toNat.sub (bif decide (U.aj [] > (4611686018427387904 : Int)) then (-1 : Int) else U.aj []).toNat) (List.drop (bif decide (U.aj [] > (4611686018427387904 : Int)) then (-1 : Int) else U.aj []).toNat l) = (U.ay (l, e)).2.1 /\ (2 : Int) = (U.ay
 (l, e)).2.2 /\ True else bif (4 : Int) != (0 : Int) then [] = (U.ay (l, e)).1 /\ l = (U.ay (l, e)).2.1 /\ (4 : Int) = (U.ay (l, e)).2.2 /\ True else (0 : Int) <= (0 : Int) /\ ((0 : Int) <= bif decide (U.aj [] > (4611686018427387904 : Int)) then (-1 : Int) else U.aj []) /\ (bif decide (U.aj [] > (4611686018427387904 : Int)) then (-1 : Int) else U.aj []) <= (↑l.length : Int) /\ ((0 : Int) <=
 bif decide (U.aj [] > (4611686018427387904 : Int)) then (-1 : Int) else U.aj []) /\ (bif decide (U.aj [] > (4611686018427387904 : Int)) then (-1 : Int) else U.aj []) <= (↑l.length : Int) /\ (↑l.length : Int) <= (↑l.length : Int) /\ [] = (U.ay (l, e)).1 /\ List.take ((↑l.length : Int).toNat.sub (bif decide (U.aj [] > (4611686018427387904 : Int)) then (-1 : Int) else U.aj []).toNat)
 (List.drop (bif decide (U.aj [] > (4611686018427387904 : Int)) then (-1 : Int) else U.aj []).toNat l) = (U.ay (l, e)).2.1 /\ (4 : Int) = (U.ay (l, e)).2.2 /\ True else bif (2 : Int) != (0 : Int) then [] = (U.ay (l, e)).1 /\ l = (U.ay (l, e)).2.1 /\ (2 : Int) = (U.ay (l, e)).2.2 /\ True else bif bif decide ((2 : Int) = (0 : Int)) then decide ((↑l.length : Int) < bif decide (U.aj [] >
 (4611686018427387904 : Int)) then (-1 : Int) else U.aj []) else false then bif (2 : Int) != (0 : Int) then [] = (U.ay (l, e)).1 /\ l = (U.ay (l, e)).2.1 /\ (2 : Int) = (U.ay (l, e)).2.2 /\ True else (0 : Int) <= (0 : Int) /\ ((0 : Int) <= bif decide (U.aj [] > (4611686018427387904 : Int)) then (-1 : Int) else U.aj []) /\ (bif decide (U.aj [] > (4611686018427387904 : Int)) then (-1 : Int)
 else U.aj []) <= (↑l.length : Int) /\ ((0 : Int) <= bif decide (U.aj [] > (4611686018427387904 : Int)) then (-1 : Int) else U.aj []) /\ (bif decide (U.aj [] > (4611686018427387904 : Int)) then (-1 : Int) else U.aj []) <= (↑l.length : Int) /\ (↑l.length : Int) <= (↑l.length : Int) /\ [] = (U.ay (l, e)).1 /\ List.take ((↑l.length : Int).toNat.sub (bif decide (U.aj [] > (4611686018427387904 :
 Int)) then (-1 : Int) else U.aj []).toNat) (List.drop (bif decide (U.aj [] > (4611686018427387904 : Int)) then (-1 : Int) else U.aj []).toNat l) = (U.ay (l, e)).2.1 /\ (2 : Int) = (U.ay (l, e)).2.2 /\ True else bif (2 : Int) != (0 : Int) then [] = (U.ay (l, e)).1 /\ l = (U.ay (l, e)).2.1 /\ (2 : Int) = (U.ay (l, e)).2.2 /\ True else (0 : Int) <= (0 : Int) /\ ((0 : Int) <= bif decide
 (U.aj [] > (4611686018427387904 : Int)) then (-1 : Int) else U.aj []) /\ (bif decide (U.aj [] > (4611686018427387904 : Int)) then (-1 : Int) else U.aj []) <= (↑l.length : Int) /\ ((0 : Int) <= bif decide (U.aj [] > (4611686018427387904 : Int)) then (-1 : Int) else U.aj []) /\ (bif decide (U.aj [] > (4611686018427387904 : Int)) then (-1 : Int) else U.aj []) <= (↑l.length : Int) /\
 (↑l.length : Int) <= (↑l.length : Int) /\ [] = (U.ay (l, e)).1 /\ List.take ((↑l.length : Int).toNat.sub (bif decide (U.aj [] > (4611686018427387904 : Int)) then (-1 : Int) else U.aj []).toNat) (List.drop (bif decide (U.aj [] > (4611686018427387904 : Int)) then (-1 : Int) else U.aj []).toNat l) = (U.ay (l, e)).2.1 /\ (2 : Int) = (U.ay (l, e)).2.2 /\ True else (0 : Int) <= (0 : Int) /\ (0
 : Int) <= (4 : Int) /\ (4 : Int) <= (↑l.length : Int) /\ (0 : Int) <= (4 : Int) /\ (4 : Int) <= (↑l.length : Int) /\ (↑l.length : Int) <= (↑l.length : Int) /\ (List.take ((4 : Nat).sub (0 : Nat)) (List.drop (0 : Nat) l)).length <= (8 : Nat) /\ bif bif decide ((2 : Int) = (0 : Int)) then decide ((bif decide (U.aj (List.take ((4 : Nat).sub (0 : Nat)) (List.drop (0 : Nat) l)) > (4611686018427387904 : Int)) then
 (-1 : Int) else U.aj (List.take ((4 : Nat).sub (0 : Nat)) (List.drop (0 : Nat) l))) > (4096 : Int)) else false then bif (4 : Int) != (0 : Int) then [] = (U.ay (l, e)).1 /\ List.take ((↑l.length : Int).toNat.sub (4 : Nat)) (List.drop (4 : Nat) l) = (U.ay (l, e)).2.1 /\ (4 : Int) = (U.ay (l, e)).2.2 /\ True else bif bif decide ((4 : Int) = (0 : Int)) then decide ((↑(List.take ((↑l.length :
 Int).toNat.sub (4 : Nat)) (List.drop (4 : Nat) l)).length : Int) < bif decide (U.aj (List.take ((4 : Nat).sub (0 : Nat)) (List.drop (0 : Nat) l)) > (4611686018427387904 : Int)) then (-1 : Int) else U.aj (List.take ((4 : Nat).sub (0 : Nat)) (List.drop (0 : Nat) l))) else false then bif (2 : Int) != (0 : Int) then [] = (U.ay (l, e)).1 /\ List.take ((↑l.length : Int).toNat.sub (4 : Nat))
 (List.drop (4 : Nat) l) = (U.ay (l, e)).2.1 /\ (2 : Int) = (U.ay (l, e)).2.2 /\ True else (0 : Int) <= (0 : Int) /\ ((0 : Int) <= bif decide (U.aj (List.take ((4 : Nat).sub (0 : Nat)) (List.drop (0 : Nat) l)) > (4611686018427387904 : Int)) then (-1 : Int) else U.aj (List.take ((4 : Nat).sub (0 : Nat)) (List.drop (0 : Nat) l))) /\ (bif decide (U.aj (List.take ((4 : Nat).sub (0 : Nat))
 (List.drop (0 : Nat) l)) > (4611686018427387904 : Int)) then (-1 : Int) else U.aj (List.take ((4 : Nat).sub (0 : Nat)) (List.drop (0 : Nat) l))) <= (↑(List.take ((↑l.length : Int).toNat.sub (4 : Nat)) (List.drop (4 : Nat) l)).length : Int) /\ ((0 : Int) <= bif decide (U.aj (List.take ((4 : Nat).sub (0 : Nat)) (List.drop (0 : Nat) l)) > (4611686018427387904 : Int)) then (-1 : Int) else U.aj
 (List.take ((4 : Nat).sub (0 : Nat)) (List.drop (0 : Nat) l))) /\ (bif decide (U.aj (List.take ((4 : Nat).sub (0 : Nat)) (List.drop (0 : Nat) l)) > (4611686018427387904 : Int)) then (-1 : Int) else U.aj (List.take ((4 : Nat).sub (0 : Nat)) (List.drop (0 : Nat) l))) <= (↑(List.take ((↑l.length : Int).toNat.sub (4 : Nat)) (List.drop (4 : Nat) l)).length : Int) /\ (↑(List.take ((↑l.length :
 Int).toNat.sub (4 : Nat)) (List.drop (4 : Nat) l)).length : Int) <= (↑(List.take ((↑l.length : Int).toNat.sub (4 : Nat)) (List.drop (4 : Nat) l)).length : Int) /\ List.take ((bif decide (U.aj (List.take ((4 : Nat).sub (0 : Nat)) (List.drop (0 : Nat) l)) > (4611686018427387904 : Int)) then (-1 : Int) else U.aj (List.take ((4 : Nat).sub (0 : Nat)) (List.drop (0 : Nat) l))).toNat.sub (0 : Nat))
 (List.drop (0 : Nat) (List.take ((↑l.length : Int).toNat.sub (4 : Nat)) (List.drop (4 : Nat) l))) = (U.ay (l, e)).1 /\ List.take ((↑(List.take ((↑l.length : Int).toNat.sub (4 : Nat)) (List.drop (4 : Nat) l)).length : Int).toNat.sub (bif decide (U.aj (List.take ((4 : Nat).sub (0 : Nat)) (List.drop (0 : Nat) l)) > (4611686018427387904 : Int)) then (-1 : Int) else U.aj (List.take ((4 : Nat).sub
 (0 : Nat)) (List.drop (0 : Nat) l))).toNat) (List.drop (bif decide (U.aj (List.take ((4 : Nat).sub (0 : Nat)) (List.drop (0 : Nat) l)) > (4611686018427387904 : Int)) then (-1 : Int) else U.aj (List.take ((4 : Nat).sub (0 : Nat)) (List.drop (0 : Nat) l))).toNat (List.take ((↑l.length : Int).toNat.sub (4 : Nat)) (List.drop (4 : Nat) l))) = (U.ay (l, e)).2.1 /\ (2 : Int) = (U.ay (l, e)).2.2 /\
 True else bif (4 : Int) != (0 : Int) then [] = (U.ay (l, e)).1 /\ List.take ((↑l.length : Int).toNat.sub (4 : Nat)) (List.drop (4 : Nat) l) = (U.ay (l, e)).2.1 /\ (4 : Int) = (U.ay (l, e)).2.2 /\ True else (0 : Int) <= (0 : Int) /\ ((0 : Int) <= bif decide (U.aj (List.take ((4 : Nat).sub (0 : Nat)) (List.drop (0 : Nat) l)) > (4611686018427387904 : Int)) then (-1 : Int) else U.aj (List.take
 ((4 : Nat).sub (0 : Nat)) (List.drop (0 : Nat) l))) /\ (bif decide (U.aj (List.take ((4 : Nat).sub (0 : Nat)) (List.drop (0 : Nat) l)) > (4611686018427387904 : Int)) then (-1 : Int) else U.aj (List.take ((4 : Nat).sub (0 : Nat)) (List.drop (0 : Nat) l))) <= (↑(List.take ((↑l.length : Int).toNat.sub (4 : Nat)) (List.drop (4 : Nat) l)).length : Int) /\ ((0 : Int) <= bif decide (U.aj (List.take ((4
 : Nat).sub (0 : Nat)) (List.drop (0 : Nat) l)) > (4611686018427387904 : Int)) then (-1 : Int) else U.aj (List.take ((4 : Nat).sub (0 : Nat)) (List.drop (0 : Nat) l))) /\ (bif decide (U.aj (List.take ((4 : Nat).sub (0 : Nat)) (List.drop (0 : Nat) l)) > (4611686018427387904 : Int)) then (-1 : Int) else U.aj (List.take ((4 : Nat).sub (0 : Nat)) (List.drop (0 : Nat) l))) <= (↑(List.take ((↑l.length
 : Int).toNat.sub (4 : Nat)) (List.drop (4 : Nat) l)).length : Int) /\ (↑(List.take ((↑l.length : Int).toNat.sub (4 : Nat)) (List.drop (4 : Nat) l)).length : Int) <= (↑(List.take ((↑l.length : Int).toNat.sub (4 : Nat)) (List.drop (4 : Nat) l)).length : Int) /\ List.take ((bif decide (U.aj (List.take ((4 : Nat).sub (0 : Nat)) (List.drop (0 : Nat) l)) > (4611686018427387904 : Int)) then (-1 : Int) else
 U.aj (List.take ((4 : Nat).sub (0 : Nat)) (List.drop (0 : Nat) l))).toNat.sub (0 : Nat)) (List.drop (0 : Nat) (List.take ((↑l.length : Int).toNat.sub (4 : Nat)) (List.drop (4 : Nat) l))) = (U.ay (l, e)).1 /\ List.take ((↑(List.take ((↑l.length : Int).toNat.sub (4 : Nat)) (List.drop (4 : Nat) l)).length : Int).toNat.sub (bif decide (U.aj (List.take ((4 : Nat).sub (0 : Nat)) (List.drop (0 :
 Nat) l)) > (4611686018427387904 : Int)) then (-1 : Int) else U.aj (List.take ((4 : Nat).sub (0 : Nat)) (List.drop (0 : Nat) l))).toNat) (List.drop (bif decide (U.aj (List.take ((4 : Nat).sub (0 : Nat)) (List.drop (0 : Nat) l)) > (4611686018427387904 : Int)) then (-1 : Int) else U.aj (List.take ((4 : Nat).sub (0 : Nat)) (List.drop (0 : Nat) l))).toNat (List.take ((↑l.length : Int).toNat.sub (4
 : Nat)) (List.drop (4 : Nat) l))) = (U.ay (l, e)).2.1 /\ (4 : Int) = (U.ay (l, e)).2.2 /\ True else bif (2 : Int) != (0 : Int) then [] = (U.ay (l, e)).1 /\ List.take ((↑l.length : Int).toNat.sub (4 : Nat)) (List.drop (4 : Nat) l) = (U.ay (l, e)).2.1 /\ (2 : Int) = (U.ay (l, e)).2.2 /\ True else bif bif decide ((2 : Int) = (0 : Int)) then decide ((↑(List.take ((↑l.length : Int).toNat.sub
 (4 : Nat)) (List.drop (4 : Nat) l)).length : Int) < bif decide (U.aj (List.take ((4 : Nat).sub (0 : Nat)) (List.drop (0 : Nat) l)) > (4611686018427387904 : Int)) then (-1 : Int) else U.aj (List.take ((4 : Nat).sub (0 : Nat)) (List.drop (0 : Nat) l))) else false then bif (2 : Int) != (0 : Int) then [] = (U.ay (l, e)).1 /\ List.take ((↑l.length : Int).toNat.sub (4 : Nat)) (List.drop (4 : Nat)
 l) = (U.ay (l, e)).2.1 /\ (2 : Int) = (U.ay (l, e)).2.2 /\ True else (0 : Int) <= (0 : Int) /\ ((0 : Int) <= bif decide (U.aj (List.take ((4 : Nat).sub (0 : Nat)) (List.drop (0 : Nat) l)) > (4611686018427387904 : Int)) then (-1 : Int) else U.aj (List.take ((4 : Nat).sub (0 : Nat)) (List.drop (0 : Nat) l))) /\ (bif decide (U.aj (List.take ((4 : Nat).sub (0 : Nat)) (List.drop (0 : Nat) l)) >
 (4611686018427387904 : Int)) then (-1 : Int) else U.aj (List.take ((4 : Nat).sub (0 : Nat)) (List.drop (0 : Nat) l))) <= (↑(List.take ((↑l.length : Int).toNat.sub (4 : Nat)) (List.drop (4 : Nat) l)).length : Int) /\ ((0 : Int) <= bif decide (U.aj (List.take ((4 : Nat).sub (0 : Nat)) (List.drop (0 : Nat) l)) > (4611686018427387904 : Int)) then (-1 : Int) else U.aj (List.take ((4 : Nat).sub (0 :
 Nat)) (List.drop (0 : Nat) l))) /\ (bif decide (U.aj (List.take ((4 : Nat).sub (0 : Nat)) (List.drop (0 : Nat) l)) > (4611686018427387904 : Int)) then (-1 : Int) else U.aj (List.take ((4 : Nat).sub (0 : Nat)) (List.drop (0 : Nat) l))) <= (↑(List.take ((↑l.length : Int).toNat.sub (4 : Nat)) (List.drop (4 : Nat) l)).length : Int) /\ (↑(List.take ((↑l.length : Int).toNat.sub (4 : Nat)) (List.drop (4
 : Nat) l)).length : Int) <= (↑(List.take ((↑l.length : Int).toNat.sub (4 : Nat)) (List.drop (4 : Nat) l)).length : Int) /\ List.take ((bif decide (U.aj (List.take ((4 : Nat).sub (0 : Nat)) (List.drop (0 : Nat) l)) > (4611686018427387904 : Int)) then (-1 : Int) else U.aj (List.take ((4 : Nat).sub (0 : Nat)) (List.drop (0 : Nat) l))).toNat.sub (0 : Nat)) (List.drop (0 : Nat) (List.take ((↑l.length
 : Int).toNat.sub (4 : Nat)) (List.drop (4 : Nat) l))) = (U.ay (l, e)).1 /\ List.take ((↑(List.take ((↑l.length : Int).toNat.sub (4 : Nat)) (List.drop (4 : Nat) l)).length : Int).toNat.sub (bif decide (U.aj (List.take ((4 : Nat).sub (0 : Nat)) (List.drop (0 : Nat) l)) > (4611686018427387904 : Int)) then (-1 : Int) else U.aj (List.take ((4 : Nat).sub (0 : Nat)) (List.drop (0 : Nat) l))).toNat)
 (List.drop (bif decide (U.aj (List.take ((4 : Nat).sub (0 : Nat)) (List.drop (0 : Nat) l)) > (4611686018427387904 : Int)) then (-1 : Int) else U.aj (List.take ((4 : Nat).sub (0 : Nat)) (List.drop (0 : Nat) l))).toNat (List.take ((↑l.length : Int).toNat.sub (4 : Nat)) (List.drop (4 : Nat) l))) = (U.ay (l, e)).2.1 /\ (2 : Int) = (U.ay (l, e)).2.2 /\ True else bif (2 : Int) != (0 : Int) then
 [] = (U.ay (l, e)).1 /\ List.take ((↑l.length : Int).toNat.sub (4 : Nat)) (List.drop (4 : Nat) l) = (U.ay (l, e)).2.1 /\ (2 : Int) = (U.ay (l, e)).2.2 /\ True else (0 : Int) <= (0 : Int) /\ ((0 : Int) <= bif decide (U.aj (List.take ((4 : Nat).sub (0 : Nat)) (List.drop (0 : Nat) l)) > (4611686018427387904 : Int)) then (-1 : Int) else U.aj (List.take ((4 : Nat).sub (0 : Nat)) (List.drop (0 :
 Nat) l))) /\ (bif decide (U.aj (List.take ((4 : Nat).sub (0 : Nat)) (List.drop (0 : Nat) l)) > (4611686018427387904 : Int)) then (-1 : Int) else U.aj (List.take ((4 : Nat).sub (0 : Nat)) (List.drop (0 : Nat) l))) <= (↑(List.take ((↑l.length : Int).toNat.sub (4 : Nat)) (List.drop (4 : Nat) l)).length : Int) /\ ((0 : Int) <= bif decide (U.aj (List.take ((4 : Nat).sub (0 : Nat)) (List.drop (0 : Nat)
 l)) > (4611686018427387904 : Int)) then (-1 : Int) else U.aj (List.take ((4 : Nat).sub (0 : Nat)) (List.drop (0 : Nat) l))) /\ (bif decide (U.aj (List.take ((4 : Nat).sub (0 : Nat)) (List.drop (0 : Nat) l)) > (4611686018427387904 : Int)) then (-1 : Int) else U.aj (List.take ((4 : Nat).sub (0 : Nat)) (List.drop (0 : Nat) l))) <= (↑(List.take ((↑l.length : Int).toNat.sub (4 : Nat)) (List.drop (4
 : Nat) l)).length : Int) /\ (↑(List.take ((↑l.length : Int).toNat.sub (4 : Nat)) (List.drop (4 : Nat) l)).length : Int) <= (↑(List.take ((↑l.length : Int).toNat.sub (4 : Nat)) (List.drop (4 : Nat) l)).length : Int) /\ List.take ((bif decide (U.aj (List.take ((4 : Nat).sub (0 : Nat)) (List.drop (0 : Nat) l)) > (4611686018427387904 : Int)) then (-1 : Int) else U.aj (List.take ((4 : Nat).sub (0 :
 Nat)) (List.drop (0 : Nat) l))).toNat.sub (0 : Nat)) (List.drop (0 : Nat) (List.take ((↑l.length : Int).toNat.sub (4 : Nat)) (List.drop (4 : Nat) l))) = (U.ay (l, e)).1 /\ List.take ((↑(List.take ((↑l.length : Int).toNat.sub (4 : Nat)) (List.drop (4 : Nat) l)).length : Int).toNat.sub (bif decide (U.aj (List.take ((4 : Nat).sub (0 : Nat)) (List.drop (0 : Nat) l)) > (4611686018427387904 : Int))
 then (-1 : Int) else U.aj (List.take ((4 : Nat).sub (0 : Nat)) (List.drop (0 : Nat) l))).toNat) (List.drop (bif decide (U.aj (List.take ((4 : Nat).sub (0 : Nat)) (List.drop (0 : Nat) l)) > (4611686018427387904 : Int)) then (-1 : Int) else U.aj (List.take ((4 : Nat).sub (0 : Nat)) (List.drop (0 : Nat) l))).toNat (List.take ((↑l.length : Int).toNat.sub (4 : Nat)) (List.drop (4 : Nat) l))) =
 (U.ay (l, e)).2.1 /\ (2 : Int) = (U.ay (l, e)).2.2 /\ True else bif e != (0 : Int) then (0 : Nat) <= (8 : Nat) /\ bif bif decide (e = (0 : Int)) then decide ((bif decide (U.aj [] > (4611686018427387904 : Int)) then (-1 : Int) else U.aj []) > (4096 : Int)) else false then bif (4 : Int) != (0 : Int) then [] = (U.ay (l, e)).1 /\ l = (U.ay (l, e)).2.1 /\ (4 : Int) = (U.ay (l, e)).2.2 /\
 True else bif bif decide ((4 : Int) = (0 : Int)) then decide ((↑l.length : Int) < bif decide (U.aj [] > (4611686018427387904 : Int)) then (-1 : Int) else U.aj []) else false then bif (2 : Int) != (0 : Int) then [] = (U.ay (l, e)).1 /\ l = (U.ay (l, e)).2.1 /\ (2 : Int) = (U.ay (l, e)).2.2 /\ True else (0 : Int) <= (0 : Int) /\ ((0 : Int) <= bif decide (U.aj [] > (4611686018427387904 :
 Int)) then (-1 : Int) else U.aj []) /\ (bif decide (U.aj [] > (4611686018427387904 : Int)) then (-1 : Int) else U.aj []) <= (↑l.length : Int) /\ ((0 : Int) <= bif decide (U.aj [] > (4611686018427387904 : Int)) then (-1 : Int) else U.aj []) /\ (bif decide (U.aj [] > (4611686018427387904 : Int)) then (-1 : Int) else U.aj []) <= (↑l.length : Int) /\ (↑l.length : Int) <= (↑l.length : Int) /\ [] =
 (U.ay (l, e)).1 /\ List.take ((↑l.length : Int).toNat.sub (bif decide (U.aj [] > (4611686018427387904 : Int)) then (-1 : Int) else U.aj []).toNat) (List.drop (bif decide (U.aj [] > (4611686018427387904 : Int)) then (-1 : Int) else U.aj []).toNat l) = (U.ay (l, e)).2.1 /\ (2 : Int) = (U.ay (l, e)).2.2 /\ True else bif (4 : Int) != (0 : Int) then [] = (U.ay (l, e)).1 /\ l = (U.ay
 (l, e)).2.1 /\ (4 : Int) = (U.ay (l, e)).2.2 /\ True else (0 : Int) <= (0 : Int) /\ ((0 : Int) <= bif decide (U.aj [] > (4611686018427387904 : Int)) then (-1 : Int) else U.aj []) /\ (bif decide (U.aj [] > (4611686018427387904 : Int)) then (-1 : Int) else U.aj []) <= (↑l.length : Int) /\ ((0 : Int) <= bif decide (U.aj [] > (4611686018427387904 : Int)) then (-1 : Int) else U.aj []) /\ (bif
 decide (U.aj [] > (4611686018427387904 : Int)) then (-1 : Int) else U.aj []) <= (↑l.length : Int) /\ (↑l.length : Int) <= (↑l.length : Int) /\ [] = (U.ay (l, e)).1 /\ List.take ((↑l.length : Int).toNat.sub (bif decide (U.aj [] > (4611686018427387904 : Int)) then (-1 : Int) else U.aj []).toNat) (List.drop (bif decide (U.aj [] > (4611686018427387904 : Int)) then (-1 : Int) else U.aj
 []).toNat l) = (U.ay (l, e)).2.1 /\ (4 : Int) = (U.ay (l, e)).2.2 /\ True else bif e != (0 : Int) then [] = (U.ay (l, e)).1 /\ l = (U.ay (l, e)).2.1 /\ e = (U.ay (l, e)).2.2 /\ True else bif bif decide (e = (0 : Int)) then decide ((↑l.length : Int) < bif decide (U.aj [] > (4611686018427387904 : Int)) then (-1 : Int) else U.aj []) else false then bif (2 : Int) != (0 : Int) then [] =
 (U.ay (l, e)).1 /\ l = (U.ay (l, e)).2.1 /\ (2 : Int) = (U.ay (l, e)).2.2 /\ True else (0 : Int) <= (0 : Int) /\ ((0 : Int) <= bif decide (U.aj [] > (4611686018427387904 : Int)) then (-1 : Int) else U.aj []) /\ (bif decide (U.aj [] > (4611686018427387904 : Int)) then (-1 : Int) else U.aj []) <= (↑l.length : Int) /\ ((0 : Int) <= bif decide (U.aj [] > (4611686018427387904 : Int)) then (-1 :
 Int) else U.aj []) /\ (bif decide (U.aj [] > (4611686018427387904 : Int)) then (-1 : Int) else U.aj []) <= (↑l.length : Int) /\ (↑l.length : Int) <= (↑l.length : Int) /\ [] = (U.ay (l, e)).1 /\ List.take ((↑l.length : Int).toNat.sub (bif decide (U.aj [] > (4611686018427387904 : Int)) then (-1 : Int) else U.aj []).toNat) (List.drop (bif decide (U.aj [] > (4611686018427387904 : Int)) then
 (-1 : Int) else U.aj []).toNat l) = (U.ay (l, e)).2.1 /\ (2 : Int) = (U.ay (l, e)).2.2 /\ True else bif e != (0 : Int) then [] = (U.ay (l, e)).1 /\ l = (U.ay (l, e)).2.1 /\ e = (U.ay (l, e)).2.2 /\ True else (0 : Int) <= (0 : Int) /\ ((0 : Int) <= bif decide (U.aj [] > (4611686018427387904 : Int)) then (-1 : Int) else U.aj []) /\ (bif decide (U.aj [] > (4611686018427387904 : Int))
 then (-1 : Int) else U.aj []) <= (↑l.length : Int) /\ ((0 : Int) <= bif decide (U.aj [] > (4611686018427387904 : Int)) then (-1 : Int) else U.aj []) /\ (bif decide (U.aj [] > (4611686018427387904 : Int)) then (-1 : Int) else U.aj []) <= (↑l.length : Int) /\ (↑l.length : Int) <= (↑l.length : Int) /\ [] = (U.ay (l, e)).1 /\ List.take ((↑l.length : Int).toNat.sub (bif decide (U.aj [] >
 (4611686018427387904 : Int)) then (-1 : Int) else U.aj []).toNat) (List.drop (bif decide (U.aj [] > (4611686018427387904 : Int)) then (-1 : Int) else U.aj []).toNat l) = (U.ay (l, e)).2.1 /\ e = (U.ay (l, e)).2.2 /\ True else (0 : Int) <= (0 : Int) /\ (0 : Int) <= (4 : Int) /\ (4 : Int) <= (↑l.length : Int) /\ (0 : Int) <= (4 : Int) /\ (4 : Int) <= (↑l.length : Int) /\ (↑l.length : Int) <=
 (↑l.length : Int) /\ (List.take ((4 : Nat).sub (0 : Nat)) (List.drop (0 : Nat) l)).length <= (8 : Nat) /\ bif bif decide (e = (0 : Int)) then decide ((bif decide (U.aj (List.take ((4 : Nat).sub (0 : Nat)) (List.drop (0 : Nat) l)) > (4611686018427387904 : Int)) then (-1 : Int) else U.aj (List.take ((4 : Nat).sub (0 : Nat)) (List.drop (0 : Nat) l))) > (4096 : Int)) else false then bif (4 : Int) !=
 (0 : Int) then [] = (U.ay (l, e)).1 /\ List.take ((↑l.length : Int).toNat.sub (4 : Nat)) (List.drop (4 : Nat) l) = (U.ay (l, e)).2.1 /\ (4 : Int) = (U.ay (l, e)).2.2 /\ True else bif bif decide ((4 : Int) = (0 : Int)) then decide ((↑(List.take ((↑l.length : Int).toNat.sub (4 : Nat)) (List.drop (4 : Nat) l)).length : Int) < bif decide (U.aj (List.take ((4 : Nat).sub (0 : Nat)) (List.drop (0
 : Nat) l)) > (4611686018427387904 : Int)) then (-1 : Int) else U.aj (List.take ((4 : Nat).sub (0 : Nat)) (List.drop (0 : Nat) l))) else false then bif (2 : Int) != (0 : Int) then [] = (U.ay (l, e)).1 /\ List.take ((↑l.length : Int).toNat.sub (4 : Nat)) (List.drop (4 : Nat) l) = (U.ay (l, e)).2.1 /\ (2 : Int) = (U.ay (l, e)).2.2 /\ True else (0 : Int) <= (0 : Int) /\ ((0 : Int) <= bif decide
 (U.aj (List.take ((4 : Nat).sub (0 : Nat)) (List.drop (0 : Nat) l)) > (4611686018427387904 : Int)) then (-1 : Int) else U.aj (List.take ((4 : Nat).sub (0 : Nat)) (List.drop (0 : Nat) l))) /\ (bif decide (U.aj (List.take ((4 : Nat).sub (0 : Nat)) (List.drop (0 : Nat) l)) > (4611686018427387904 : Int)) then (-1 : Int) else U.aj (List.take ((4 : Nat).sub (0 : Nat)) (List.drop (0 : Nat) l))) <=
 (↑(List.take ((↑l.length : Int).toNat.sub (4 : Nat)) (List.drop (4 : Nat) l)).length : Int) /\ ((0 : Int) <= bif decide (U.aj (List.take ((4 : Nat).sub (0 : Nat)) (List.drop (0 : Nat) l)) > (4611686018427387904 : Int)) then (-1 : Int) else U.aj (List.take ((4 : Nat).sub (0 : Nat)) (List.drop (0 : Nat) l))) /\ (bif decide (U.aj (List.take ((4 : Nat).sub (0 : Nat)) (List.drop (0 : Nat) l)) >
 (4611686018427387904 : Int)) then (-1 : Int) else U.aj (List.take ((4 : Nat).sub (0 : Nat)) (List.drop (0 : Nat) l))) <= (↑(List.take ((↑l.length : Int).toNat.sub (4 : Nat)) (List.drop (4 : Nat) l)).length : Int) /\ (↑(List.take ((↑l.length : Int).toNat.sub (4 : Nat)) (List.drop (4 : Nat) l)).length : Int) <= (↑(List.take ((↑l.length : Int).toNat.sub (4 : Nat)) (List.drop (4 : Nat) l)).length : Int)
 /\ List.take ((bif decide (U.aj (List.take ((4 : Nat).sub (0 : Nat)) (List.drop (0 : Nat) l)) > (4611686018427387904 : Int)) then (-1 : Int) else U.aj (List.take ((4 : Nat).sub (0 : Nat)) (List.drop (0 : Nat) l))).toNat.sub (0 : Nat)) (List.drop (0 : Nat) (List.take ((↑l.length : Int).toNat.sub (4 : Nat)) (List.drop (4 : Nat) l))) = (U.ay (l, e)).1 /\ List.take ((↑(List.take ((↑l.length :
 Int).toNat.sub (4 : Nat)) (List.drop (4 : Nat) l)).length : Int).toNat.sub (bif decide (U.aj (List.take ((4 : Nat).sub (0 : Nat)) (List.drop (0 : Nat) l)) > (4611686018427387904 : Int)) then (-1 : Int) else U.aj (List.take ((4 : Nat).sub (0 : Nat)) (List.drop (0 : Nat) l))).toNat) (List.drop (bif decide (U.aj (List.take ((4 : Nat).sub (0 : Nat)) (List.drop (0 : Nat) l)) > (4611686018427387904
 : Int)) then (-1 : Int) else U.aj (List.take ((4 : Nat).sub (0 : Nat)) (List.drop (0 : Nat) l))).toNat (List.take ((↑l.length : Int).toNat.sub (4 : Nat)) (List.drop (4 : Nat) l))) = (U.ay (l, e)).2.1 /\ (2 : Int) = (U.ay (l, e)).2.2 /\ True else bif (4 : Int) != (0 : Int) then [] = (U.ay (l, e)).1 /\ List.take ((↑l.length : Int).toNat.sub (4 : Nat)) (List.drop (4 : Nat) l) = (U.ay (l,
 e)).2.1 /\ (4 : Int) = (U.ay (l, e)).2.2 /\ True else (0 : Int) <= (0 : Int) /\ ((0 : Int) <= bif decide (U.aj (List.take ((4 : Nat).sub (0 : Nat)) (List.drop (0 : Nat) l)) > (4611686018427387904 : Int)) then (-1 : Int) else U.aj (List.take ((4 : Nat).sub (0 : Nat)) (List.drop (0 : Nat) l))) /\ (bif decide (U.aj (List.take ((4 : Nat).sub (0 : Nat)) (List.drop (0 : Nat) l)) > (4611686018427387904
 : Int)) then (-1 : Int) else U.aj (List.take ((4 : Nat).sub (0 : Nat)) (List.drop (0 : Nat) l))) <= (↑(List.take ((↑l.length : Int).toNat.sub (4 : Nat)) (List.drop (4 : Nat) l)).length : Int) /\ ((0 : Int) <= bif decide (U.aj (List.take ((4 : Nat).sub (0 : Nat)) (List.drop (0 : Nat) l)) > (4611686018427387904 : Int)) then (-1 : Int) else U.aj (List.take ((4 : Nat).sub (0 : Nat)) (List.drop (0 :
 Nat) l))) /\ (bif decide (U.aj (List.take ((4 : Nat).sub (0 : Nat)) (List.drop (0 : Nat) l)) > (4611686018427387904 : Int)) then (-1 : Int) else U.aj (List.take ((4 : Nat).sub (0 : Nat)) (List.drop (0 : Nat) l))) <= (↑(List.take ((↑l.length : Int).toNat.sub (4 : Nat)) (List.drop (4 : Nat) l)).length : Int) /\ (↑(List.take ((↑l.length : Int).toNat.sub (4 : Nat)) (List.drop (4 : Nat) l)).length :
 Int) <= (↑(List.take ((↑l.length : Int).toNat.sub (4 : Nat)) (List.drop (4 : Nat) l)).length : Int) /\ List.take ((bif decide (U.aj (List.take ((4 : Nat).sub (0 : Nat)) (List.drop (0 : Nat) l)) > (4611686018427387904 : Int)) then (-1 : Int) else U.aj (List.take ((4 : Nat).sub (0 : Nat)) (List.drop (0 : Nat) l))).toNat.sub (0 : Nat)) (List.drop (0 : Nat) (List.take ((↑l.length : Int).toNat.sub (4
 : Nat)) (List.drop (4 : Nat) l))) = (U.ay (l, e)).1 /\ List.take ((↑(List.take ((↑l.length : Int).toNat.sub (4 : Nat)) (List.drop (4 : Nat) l)).length : Int).toNat.sub (bif decide (U.aj (List.take ((4 : Nat).sub (0 : Nat)) (List.drop (0 : Nat) l)) > (4611686018427387904 : Int)) then (-1 : Int) else U.aj (List.take ((4 : Nat).sub (0 : Nat)) (List.drop (0 : Nat) l))).toNat) (List.drop (bif
 decide (U.aj (List.take ((4 : Nat).sub (0 : Nat)) (List.drop (0 : Nat) l)) > (4611686018427387904 : Int)) then (-1 : Int) else U.aj (List.take ((4 : Nat).sub (0 : Nat)) (List.drop (0 : Nat) l))).toNat (List.take ((↑l.length : Int).toNat.sub (4 : Nat)) (List.drop (4 : Nat) l))) = (U.ay (l, e)).2.1 /\ (4 : Int) = (U.ay (l, e)).2.2 /\ True else bif e != (0 : Int) then [] = (U.ay (l, e)).1 /\
 List.take ((↑l.length : Int).toNat.sub (4 : Nat)) (List.drop (4 : Nat) l) = (U.ay (l, e)).2.1 /\ e = (U.ay (l, e)).2.2 /\ True else bif bif decide (e = (0 : Int)) then decide ((↑(List.take ((↑l.length : Int).toNat.sub (4 : Nat)) (List.drop (4 : Nat) l)).length : Int) < bif decide (U.aj (List.take ((4 : Nat).sub (0 : Nat)) (List.drop (0 : Nat) l)) > (4611686018427387904 : Int)) then (-1 : Int)
 else U.aj (List.take ((4 : Nat).sub (0 : Nat)) (List.drop (0 : Nat) l))) else false then bif (2 : Int) != (0 : Int) then [] = (U.ay (l, e)).1 /\ List.take ((↑l.length : Int).toNat.sub (4 : Nat)) (List.drop (4 : Nat) l) = (U.ay (l, e)).2.1 /\ (2 : Int) = (U.ay (l, e)).2.2 /\ True else (0 : Int) <= (0 : Int) /\ ((0 : Int) <= bif decide (U.aj (List.take ((4 : Nat).sub (0 : Nat)) (List.drop (0 :
 Nat) l)) > (4611686018427387904 : Int)) then (-1 : Int) else U.aj (List.take ((4 : Nat).sub (0 : Nat)) (List.drop (0 : Nat) l))) /\ (bif decide (U.aj (List.take ((4 : Nat).sub (0 : Nat)) (List.drop (0 : Nat) l)) > (4611686018427387904 : Int)) then (-1 : Int) else U.aj (List.take ((4 : Nat).sub (0 : Nat)) (List.drop (0 : Nat) l))) <= (↑(List.take ((↑l.length : Int).toNat.sub (4 : Nat))
 (List.drop (4 : Nat) l)).length : Int) /\ ((0 : Int) <= bif decide (U.aj (List.take ((4 : Nat).sub (0 : Nat)) (List.drop (0 : Nat) l)) > (4611686018427387904 : Int)) then (-1 : Int) else U.aj (List.take ((4 : Nat).sub (0 : Nat)) (List.drop (0 : Nat) l))) /\ (bif decide (U.aj (List.take ((4 : Nat).sub (0 : Nat)) (List.drop (0 : Nat) l)) > (4611686018427387904 : Int)) then (-1 : Int) else U.aj
 (List.take ((4 : Nat).sub (0 : Nat)) (List.drop (0 : Nat) l))) <= (↑(List.take ((↑l.length : Int).toNat.sub (4 : Nat)) (List.drop (4 : Nat) l)).length : Int) /\ (↑(List.take ((↑l.length : Int).toNat.sub (4 : Nat)) (List.drop (4 : Nat) l)).length : Int) <= (↑(List.take ((↑l.length : Int).toNat.sub (4 : Nat)) (List.drop (4 : Nat) l)).length : Int) /\ List.take ((bif decide (U.aj (List.take ((4 :
 Nat).sub (0 : Nat)) (List.drop (0 : Nat) l)) > (4611686018427387904 : Int)) then (-1 : Int) else U.aj (List.take ((4 : Nat).sub (0 : Nat)) (List.drop (0 : Nat) l))).toNat.sub (0 : Nat)) (List.drop (0 : Nat) (List.take ((↑l.length : Int).toNat.sub (4 : Nat)) (List.drop (4 : Nat) l))) = (U.ay (l, e)).1 /\ List.take ((↑(List.take ((↑l.length : Int).toNat.sub (4 : Nat)) (List.drop (4 : Nat)
 l)).length : Int).toNat.sub (bif decide (U.aj (List.take ((4 : Nat).sub (0 : Nat)) (List.drop (0 : Nat) l)) > (4611686018427387904 : Int)) then (-1 : Int) else U.aj (List.take ((4 : Nat).sub (0 : Nat)) (List.drop (0 : Nat) l))).toNat) (List.drop (bif decide (U.aj (List.take ((4 : Nat).sub (0 : Nat)) (List.drop (0 : Nat) l)) > (4611686018427387904 : Int)) then (-1 : Int) else U.aj (List.take
 ((4 : Nat).sub (0 : Nat)) (List.drop (0 : Nat) l))).toNat (List.take ((↑l.length : Int).toNat.sub (4 : Nat)) (List.drop (4 : Nat) l))) = (U.ay (l, e)).2.1 /\ (2 : Int) = (U.ay (l, e)).2.2 /\ True else bif e != (0 : Int) then [] = (U.ay (l, e)).1 /\ List.take ((↑l.length : Int).toNat.sub (4 : Nat)) (List.drop (4 : Nat) l) = (U.ay (l, e)).2.1 /\ e = (U.ay (l, e)).2.2 /\ True else (0 : Int)
 <= (0 : Int) /\ ((0 : Int) <= bif decide (U.aj (List.take ((4 : Nat).sub (0 : Nat)) (List.drop (0 : Nat) l)) > (4611686018427387904 : Int)) then (-1 : Int) else U.aj (List.take ((4 : Nat).sub (0 : Nat)) (List.drop (0 : Nat) l))) /\ (bif decide (U.aj (List.take ((4 : Nat).sub (0 : Nat)) (List.drop (0 : Nat) l)) > (4611686018427387904 : Int)) then (-1 : Int) else U.aj (List.take ((4 : Nat).sub (0
 : Nat)) (List.drop (0 : Nat) l))) <= (↑(List.take ((↑l.length : Int).toNat.sub (4 : Nat)) (List.drop (4 : Nat) l)).length : Int) /\ ((0 : Int) <= bif decide (U.aj (List.take ((4 : Nat).sub (0 : Nat)) (List.drop (0 : Nat) l)) > (4611686018427387904 : Int)) then (-1 : Int) else U.aj (List.take ((4 : Nat).sub (0 : Nat)) (List.drop (0 : Nat) l))) /\ (bif decide (U.aj (List.take ((4 : Nat).sub (0 :
 Nat)) (List.drop (0 : Nat) l)) > (4611686018427387904 : Int)) then (-1 : Int) else U.aj (List.take ((4 : Nat).sub (0 : Nat)) (List.drop (0 : Nat) l))) <= (↑(List.take ((↑l.length : Int).toNat.sub (4 : Nat)) (List.drop (4 : Nat) l)).length : Int) /\ (↑(List.take ((↑l.length : Int).toNat.sub (4 : Nat)) (List.drop (4 : Nat) l)).length : Int) <= (↑(List.take ((↑l.length : Int).toNat.sub (4 : Nat))
 (List.drop (4 : Nat) l)).length : Int) /\ List.take ((bif decide (U.aj (List.take ((4 : Nat).sub (0 : Nat)) (List.drop (0 : Nat) l)) > (4611686018427387904 : Int)) then (-1 : Int) else U.aj (List.take ((4 : Nat).sub (0 : Nat)) (List.drop (0 : Nat) l))).toNat.sub (0 : Nat)) (List.drop (0 : Nat) (List.take ((↑l.length : Int).toNat.sub (4 : Nat)) (List.drop (4 : Nat) l))) = (U.ay (l, e)).1 /\
 List.take ((↑(List.take ((↑l.length : Int).toNat.sub (4 : Nat)) (List.drop (4 : Nat) l)).length : Int).toNat.sub (bif decide (U.aj (List.take ((4 : Nat).sub (0 : Nat)) (List.drop (0 : Nat) l)) > (4611686018427387904 : Int)) then (-1 : Int) else U.aj (List.take ((4 : Nat).sub (0 : Nat)) (List.drop (0 : Nat) l))).toNat) (List.drop (bif decide (U.aj (List.take ((4 : Nat).sub (0 : Nat))
 (List.drop (0 : Nat) l)) > (4611686018427387904 : Int)) then (-1 : Int) else U.aj (List.take ((4 : Nat).sub (0 : Nat)) (List.drop (0 : Nat) l))).toNat (List.take ((↑l.length : Int).toNat.sub (4 : Nat)) (List.drop (4 : Nat) l))) = (U.ay (l, e)).2.1 /\ e = (U.ay (l, e)).2.2 /\ True
def oW (l : List Int) (e : Int) (m : Int) : Prop := bif bif decide ((U.ah (l, e)).2.2 = (0 : Int)) then decide ((U.ah (l, e)).1 > m) else false then bif (4 : Int) != (0 : Int) then (0 : Int) = (U.aA m (l, e)).1 /\ (U.ah (l, e)).2.1 = (U.aA m (l, e)).2.1 /\ (4 : Int) = (U.aA m (l, e)).2.2 /\ True else (U.ah (l, e)).1 = (U.aA m (l, e)).1 /\ (U.ah (l, e)).2.1 =
 (U.aA m (l, e)).2.1 /\ (4 : Int) = (U.aA m (l, e)).2.2 /\ True else bif (U.ah (l, e)).2.2 != (0 : Int) then (0 : Int) = (U.aA m (l, e)).1 /\ (U.ah (l, e)).2.1 = (U.aA m (l, e)).2.1 /\ (U.ah (l, e)).2.2 = (U.aA m (l, e)).2.2 /\ True else (U.ah (l, e)).1 = (U.aA m (l, e)).1 /\ (U.ah (l, e)).2.1 = (U.aA m (l, e)).2.1 /\ (U.ah (l, e)).2.2 = (U.aA m (l, e)).2.2 /\
 True
def qI (l : List Int) (e : Int) (x : Bool) : Prop := bif bif decide (e = (0 : Int)) then x else false then l = (U.cZ x (l, e)).1 /\ (3 : Int) = (U.cZ x (l, e)).2 /\ True else l = (U.cZ x (l, e)).1 /\ e = (U.cZ x (l, e)).2 /\ True
def sU (l : List Int) (e : Int) : Prop := (U.cZ (decide ((↑l.length : Int) > (0 : Int))) (l, e)).2 = U.fU (l, e) /\ (U.cZ (decide ((↑l.length : Int) > (0 : Int))) (l, e)).1 = (U.cZ (decide (l.length > (0 : Nat))) (l, e)).1 /\ (U.cZ (decide ((↑l.length : Int) > (0 : Int))) (l, e)).2 = (U.cZ (decide (l.length > (0 : Nat))) (l, e)).2 /\ True
def qJ (l : List Int) (e : Int) : Prop := bif bif decide (e = (0 : Int)) then decide ((↑l.length : Int) > (0 : Int)) else false then (3 : Int) = U.fU (l, e) /\ l = l /\ e = e /\ True else e = U.fU (l, e) /\ l = l /\ e = e /\ True
def IY (a : List Int) (b : List Int) : Prop := a.beq b = decide (a = b) /\ True
end Go.Proofs.YtkhdeldobekciaaGreatDoor
set_option linter.unusedSimpArgs false
set_option linter.unusedVariables false
set_option maxRecDepth 100000
namespace Go.Proofs.YtkhdeldobekciaaGreatDoor
open Go.Vc
open Go.Vc.T
theorem Mc (k : Nat) (n : Int) : (U.beN k n).length = k := by simp [U.beN]
theorem ale (k : Nat) (n : Int) (j : Nat) (h : j < (U.beN k n).length) : (U.beN k n)[j] = n / 2 ^ (8 * (k - 1 - j)) % 256 := by simp [U.beN]
theorem hp1 {a : Prop} {l : List Prop} (h : ∀ p ∈ a :: l, p) : a /\ ∀ p ∈ l, p := ⟨h _ (.head _), fun p hp => h p (List.mem_cons_of_mem _ hp)⟩
theorem gV (n : Int) : (U.num1 n).length = 8 := Mc 8 _
theorem alW (x : Int) (l : List Int) : U.nums (x :: l) = U.num1 x ++ U.nums l := by simp [U.nums]
theorem WV : ∀ l : List Int, (U.nums l).length = 8 * l.length
 | [] => rfl
 | x :: l => by rw [alW, List.length_append, gV, WV l, List.length_cons]; omega
theorem ajq (l : List Int) (x : Int) : U.nums (l ++ [x]) = U.nums l ++ U.num1 x := by simp [U.nums]
theorem J8 (s : List Int) : (U.text1 s).length <= 4100 := by
 unfold U.text1; rw [List.length_append, Mc, List.length_take]; omega
theorem ah1 (l : List (List Int)) (x : List Int) : U.texts (l ++ [x]) = U.texts l ++ U.text1 x := by simp [U.texts]
theorem aaN : ∀ l : List (List Int), (U.texts l).length <= 4100 * l.length
 | [] => Nat.le_refl _
 | x :: l => by
   have := J8 x
   have := aaN l
   have : U.texts (x :: l) = U.text1 x ++ U.texts l := by simp [U.texts]
   rw [this, List.length_append, List.length_cons]; omega
theorem aki (n : Int) : 0 <= U.clamp n /\ U.clamp n <= 4611686018427387904 := by unfold U.clamp bU Ky; split <;> split <;> omega
theorem WW (a : List Int) (x : Int) : U.aj (a ++ [x]) = U.aj a * 256 + x := by simp [U.aj, List.foldl_append]
theorem alf {l : List Int} {n : Nat} (h : l.length = n + 1) : ∃ a x, l = a ++ [x] /\ a.length = n := by
 refine ⟨l.take n, l[n], ?_, by rw [List.length_take]; omega⟩
 rw [<- List.take_succ_eq_append_getElem (by omega), List.take_of_length_le (by omega)]
theorem qK : ∀ (n : Nat) (l : List Int), l.length = n -> (∀ x ∈ l, Byte x) -> 0 <= U.aj l /\ U.aj l < 256 ^ n
 | 0, l, h, _ => by
   obtain rfl := List.length_eq_zero_iff.1 h
   exact ⟨Int.le_refl _, by decide⟩
 | n + 1, l, h, hb => by
   obtain ⟨a, x, rfl, ha⟩ := alf h
   have ih := qK n a ha fun y hy => hb y (List.mem_append_left _ hy)
   have hx := hb x (by simp)
   have hx0 : 0 <= x := hx.1
   have hx1 : x <= 255 := by have := hx.2; omega
   rw [WW, Int.pow_succ]; omega
theorem iE {l : List Int} (h : ∀ x ∈ l, Valid (.int .u8) x) : ∀ x ∈ l, Byte x := fun x hx => byte_of (h x hx)
theorem alX {a b : Nat} (h : a <= b) : (256 : Int) ^ a <= 256 ^ b := by
 have h2 : (256 : Nat) ^ a <= 256 ^ b := Nat.pow_le_pow_right (by decide) h
 exact_mod_cast h2
theorem aeb (b : List Int) (n size : Int) (hp : ∀ p ∈ [1 <= size /\ size <= 8, b.length <= 2000000000000, 0 <= n], p) : IX b n size := by
 obtain ⟨h1, hp⟩ := hp1 hp
 obtain ⟨h2, hp⟩ := hp1 hp
 obtain ⟨h3, _⟩ := hp1 hp
 unfold IX
 simp only [cond_prop, bY, dZ, bf, dF, eX, jw, dX, bT, gq, dJ, fO, U.at_, maxLen_eq, decide_eq_true_eq, decide_eq_false_iff_not, bne_iff_ne, bne_eq_false_iff_eq, Bool.not_eq_true', Bool.not_eq_false', Bool.not_eq_eq_eq_not, Bool.not_true, Bool.not_false, beq_eq_false_iff_ne, beq_iff_eq, and_true, true_and, Bool.and_eq_true, Bool.or_eq_true, Bool.and_eq_false_iff, Bool.or_eq_false_iff, U.uw]
 refine ⟨(b, size - 1), ⟨by rw [dw (by omega) (by omega)], by show -1 <= size - 1; omega, by show size - 1 < size; omega, by simp⟩, ?_⟩
 rintro ⟨o, i⟩ ⟨i0, i1, ho⟩
 simp only [] at *
 have hl : (U.beN size.toNat n).length = size.toNat := Mc _ _
 have hol : o.length <= b.length + 8 := by rw [ho, List.length_append, List.length_take]; omega
 refine ⟨fun hi => ?_, fun hi => ?_⟩
 ·have w1 : IntKind.i64.wrap (8 * i) = 8 * i := by rw [dw] <;> omega
  refine ⟨by rw [w1]; omega, by omega, by omega, (_, i - 1), by rw [dw (x := i - 1) (by omega) (by omega)], ⟨by show -1 <= i - 1; omega, by show i - 1 < size; omega, ?_⟩, by show (i - 1 + 1).toNat < _; omega⟩
  show o ++ [IntKind.u8.wrap _] = _
  rw [w1, wrap_u8]
  have hif : (if (8 * i).toNat <= IntKind.u64.bits then (8 * i).toNat else IntKind.u64.bits) = 8 * i.toNat := by
   have : IntKind.u64.bits = 64 := rfl
   rw [this, if_pos (by omega)]; omega
  rw [hif]
  have hf : n.fdiv (Int.pow 2 (8 * i.toNat)) = n / 2 ^ (8 * i.toNat) := Int.fdiv_eq_ediv_of_nonneg _ (Int.le_of_lt (Int.pow_pos (by decide)))
  rw [hf, ho, List.append_assoc, show (size - 1 - (i - 1)).toNat = (size - 1 - i).toNat + 1 by omega, List.take_succ_eq_append_getElem (by omega), ale, show size.toNat - 1 - (size - 1 - i).toNat = i.toNat by omega]
 ·rw [ho, List.take_of_length_le (by omega)]
theorem ah2 (b l : List Int) (h1 : b.length <= 1000000000000) (h2 : l.length <= 100000000000) : NW b l := by
 unfold NW
 have key : ∀ x : List Int × Int, U.iW b l x.1 x.2 -> bif decide (x.snd < (↑l.length : Int)) then
  (0 : Int) <= x.snd /\ x.snd < (↑l.length : Int) /\ ((1 : Int) <= 8 /\ (8 : Int) <= 8) /\ x.fst.length <= 2000000000000 /\ (0 : Int) <= IntKind.u64.wrap (bU (Ky (l.getD x.snd.toNat 0) 0) 4611686018427387904) /\
    ∃ (y : List Int × Int), U.gI b l (x.fst.append (U.beN 8 (IntKind.u64.wrap (bU (Ky (l.getD x.snd.toNat 0) 0) 4611686018427387904)))) (IntKind.i64.wrap (x.snd.add 1)) = U.gI b l y.fst y.snd /\ U.iW b l y.fst y.snd /\ l.length.sub y.snd.toNat < l.length.sub x.snd.toNat
  else x.fst = b.append (U.nums l) /\ True := by
  rintro ⟨o, i⟩ ⟨⟨i0, i1⟩, ho⟩
  simp only [cond_prop, bY, dZ, bf, dF, eX, jw, dX, bT, gq, dJ, fO, U.at_, maxLen_eq, decide_eq_true_eq, decide_eq_false_iff_not, bne_iff_ne, bne_eq_false_iff_eq, Bool.not_eq_true', Bool.not_eq_false', Bool.not_eq_eq_eq_not, Bool.not_true, Bool.not_false, beq_eq_false_iff_ne, beq_iff_eq, and_true, true_and, Bool.and_eq_true, Bool.or_eq_true, Bool.and_eq_false_iff, Bool.or_eq_false_iff, U.iW] at *
  have hol : o.length = b.length + 8 * i.toNat := by rw [ho, List.length_append, WV, List.length_take]; omega
  have hc := aki (l.getD i.toNat 0)
  have hw : IntKind.u64.wrap (bU (Ky (l.getD i.toNat 0) 0) 4611686018427387904) = U.clamp (l.getD i.toNat 0) := by
   show IntKind.u64.wrap (U.clamp _) = _
   rw [wrap_u64]; omega
  refine ⟨fun hi => ⟨i0, hi, by omega, by omega, by rw [hw]; omega, (_, i + 1), by rw [dw (x := i + 1) (by omega) (by omega)], ⟨⟨by show 0 <= i + 1; omega, by show i + 1 <= _; omega⟩, ?_⟩, by show l.length - (i + 1).toNat < _; omega⟩, fun hi => ?_⟩
  ·show o ++ U.beN 8 _ = _
   rw [hw, ho, take_at i0 hi, ajq, List.append_assoc, getD_at (by omega)]; rfl
  ·rw [ho, jV (by omega)]
 intro nb hnb _
 simp only [cond_prop, bY, dZ, bf, dF, eX, jw, dX, bT, gq, dJ, fO, U.at_, maxLen_eq, decide_eq_true_eq, decide_eq_false_iff_not, bne_iff_ne, bne_eq_false_iff_eq, Bool.not_eq_true', Bool.not_eq_false', Bool.not_eq_eq_eq_not, Bool.not_true, Bool.not_false, beq_eq_false_iff_ne, beq_iff_eq, and_true, true_and, Bool.and_eq_true, Bool.or_eq_true, Bool.and_eq_false_iff, Bool.or_eq_false_iff] at key ⊢
 refine ⟨fun hb => ⟨([], 0), ⟨rfl, ⟨by show (0 : Int) <= 0; omega, by show (0 : Int) <= _; omega⟩, ?_⟩, key⟩, fun hb => ⟨by omega, by omega, (b, 0), ⟨rfl, ⟨by show (0 : Int) <= 0; omega, by show (0 : Int) <= _; omega⟩, by simp [U.nums]⟩, key⟩⟩
 rw [List.length_eq_zero_iff.1 (hnb hb)]; rfl
theorem afU (b : List Int) (l : List (List Int)) (h1 : b.length <= 1000000000000) (h2 : l.length <= 100000000) : KN b l := by
 unfold KN
 have hmin : ∀ s : List Int, (bU (s.length : Int) 4096).toNat = min s.length 4096 := fun s => by unfold bU; split <;> omega
 have hcut : ∀ s : List Int, List.take ((bU (s.length : Int) 4096).toNat.sub 0) (List.drop 0 s) = s.take 4096 := fun s => by
  rw [bT, hmin, Nat.sub_zero, List.drop_zero]
  by_cases h : s.length <= 4096
  ·rw [Nat.min_eq_left h, List.take_length, List.take_of_length_le h]
  ·rw [Nat.min_eq_right (by omega)]
 have hlen : ∀ s : List Int, IntKind.u64.wrap (((s.take 4096).length : Nat) : Int) = bU (s.length : Int) 4096 := fun s => by
  rw [wrap_u64, List.length_take]; unfold bU; split <;> omega
 have hb0 : ∀ s : List Int, 0 <= bU (s.length : Int) 4096 /\ bU (s.length : Int) 4096 <= s.length := fun s => by unfold bU; split <;> omega
 intro nb hnb _
 simp only [hcut, hlen]
 simp only [cond_prop, bY, dZ, bf, dF, eX, jw, dX, bT, gq, dJ, fO, U.at_, maxLen_eq, decide_eq_true_eq, decide_eq_false_iff_not, bne_iff_ne, bne_eq_false_iff_eq, Bool.not_eq_true', Bool.not_eq_false', Bool.not_eq_eq_eq_not, Bool.not_true, Bool.not_false, beq_eq_false_iff_ne, beq_iff_eq, and_true, true_and, Bool.and_eq_true, Bool.or_eq_true, Bool.and_eq_false_iff, Bool.or_eq_false_iff, U.jL]
 have key : ∀ x : List Int × Int, (0 <= x.2 /\ x.2 <= (l.length : Int)) /\ x.1 = b ++ U.texts (l.take x.2.toNat) -> x.1.length <= b.length + 4100 * l.length /\ (x.2 < (l.length : Int) -> x.1 ++ U.beN 4 (bU ((l.getD x.2.toNat []).length : Int) 4096) ++ (l.getD x.2.toNat []).take 4096 = b ++ U.texts (l.take (x.2 + 1).toNat)) := by
  rintro ⟨o, i⟩ ⟨⟨i0, i1⟩, ho⟩
  simp only [] at *
  have ht := aaN (l.take i.toNat)
  rw [List.length_take] at ht
  have h4 : 4100 * min i.toNat l.length <= 4100 * l.length := Nat.mul_le_mul_left _ (by omega)
  refine ⟨by rw [ho, List.length_append]; omega, fun hi => ?_⟩
  rw [ho, take_at i0 hi, ah1, getD_at (by omega), List.append_assoc, List.append_assoc]; rfl
 have rnd : ∀ x : List Int × Int, (0 <= x.2 /\ x.2 <= (l.length : Int)) /\ x.1 = b ++ U.texts (l.take x.2.toNat) -> (x.2 < (l.length : Int) -> 0 <= x.2 /\ x.2 < (l.length : Int) /\ (0 : Int) <= 0 /\ 0 <= bU ((l.getD x.2.toNat []).length : Int) 4096 /\ bU ((l.getD x.2.toNat []).length : Int) 4096 <= ((l.getD x.2.toNat []).length : Int) /\ ((1 : Int) <= 4 /\ (4 : Int) <= 8) /\ x.1.length <= 2000000000000 /\ 0 <= bU ((l.getD x.2.toNat []).length : Int) 4096 /\ ((x.1 ++ U.beN 4 (bU ((l.getD x.2.toNat []).length : Int) 4096)).length + ((l.getD x.2.toNat []).take 4096).length) * 1 <= 140737488355328 /\ (x.1 ++ U.beN 4 (bU ((l.getD x.2.toNat []).length : Int) 4096)).length + ((l.getD x.2.toNat []).take 4096).length <= 9223372036854775807 /\
  ∃ y : List Int × Int, U.fG b l (x.1 ++ U.beN 4 (bU ((l.getD x.2.toNat []).length : Int) 4096) ++ (l.getD x.2.toNat []).take 4096) (IntKind.i64.wrap (x.2 + 1)) = U.fG b l y.1 y.2 /\ ((0 <= y.2 /\ y.2 <= (l.length : Int)) /\ y.1 = b ++ U.texts (l.take y.2.toNat)) /\ l.length - y.2.toNat < l.length - x.2.toNat) /\ (¬ x.2 < (l.length : Int) -> x.1 = b ++ U.texts l) := by
  rintro ⟨o, i⟩ ⟨⟨i0, i1⟩, ho⟩
  obtain ⟨k1, k2⟩ := key (o, i) ⟨⟨i0, i1⟩, ho⟩
  simp only [] at *
  have hm := hb0 (l.getD i.toNat [])
  refine ⟨fun hi => ⟨i0, hi, by omega, hm.1, hm.2, by omega, by omega, hm.1, ?_, ?_, (_, i + 1), by rw [dw (x := i + 1) (by omega) (by omega)], ⟨⟨by show 0 <= i + 1; omega, by show i + 1 <= _; omega⟩, k2 hi⟩, by show l.length - (i + 1).toNat < _; omega⟩, fun hi => ?_⟩
  ·rw [List.length_append, Mc, List.length_take]; omega
  ·rw [List.length_append, Mc, List.length_take]; omega
  ·rw [ho, jV (by omega)]
 refine ⟨fun hb => ⟨([], 0), ⟨rfl, ⟨by show (0 : Int) <= 0; omega, by show (0 : Int) <= _; omega⟩, ?_⟩, rnd⟩, fun hb => ⟨by omega, by omega, (b, 0), ⟨rfl, ⟨by show (0 : Int) <= 0; omega, by show (0 : Int) <= _; omega⟩, by simp [U.texts]⟩, rnd⟩⟩
 rw [List.length_eq_zero_iff.1 (hnb hb)]; rfl
theorem alg {a c : Int} (ha0 : 0 <= a) (ha1 : a < 72057594037927936) (hc0 : 0 <= c) (hc1 : c <= 255) : orK .u64 (a * 256) c = a * 256 + c := by
 obtain ⟨m, rfl⟩ := Int.eq_ofNat_of_zero_le ha0
 obtain ⟨d, rfl⟩ := Int.eq_ofNat_of_zero_le hc0
 unfold orK
 have e1 : BitVec.ofInt IntKind.u64.bits ((m : Int) * 256) = BitVec.ofNat 64 (m * 256) := by
  show BitVec.ofInt 64 _ = _
  rw [show (m : Int) * 256 = ((m * 256 : Nat) : Int) by push_cast; rfl, BitVec.ofInt_natCast]
 have e2 : BitVec.ofInt IntKind.u64.bits (d : Int) = BitVec.ofNat 64 d := BitVec.ofInt_natCast ..
 rw [e1, e2]
 have e3 : ((BitVec.ofNat 64 (m * 256)) ||| (BitVec.ofNat 64 d)).toNat = m * 256 + d := by
  rw [BitVec.toNat_or, BitVec.toNat_ofNat, BitVec.toNat_ofNat, Nat.mod_eq_of_lt (by omega), Nat.mod_eq_of_lt (by omega)]
  have := Nat.two_pow_add_eq_or_of_lt (i := 8) (b := d) (by omega) m
  rw [show m * 256 = 2 ^ 8 * m by omega, <- this]
 show IntKind.u64.wrap (((BitVec.ofNat 64 (m * 256)) ||| (BitVec.ofNat 64 d)).toNat : Int) = _
 rw [e3, wrap_u64]; omega
theorem abq (b : List Int) (hb : ∀ x ∈ b, Valid (.int .u8) x) (h8 : b.length <= 8) : Fg b := by
 unfold Fg
 simp only [ajh]
 simp only [cond_prop, bY, dZ, bf, dF, eX, jw, dX, bT, gq, dJ, fO, U.at_, maxLen_eq, decide_eq_true_eq, decide_eq_false_iff_not, bne_iff_ne, bne_eq_false_iff_eq, Bool.not_eq_true', Bool.not_eq_false', Bool.not_eq_eq_eq_not, Bool.not_true, Bool.not_false, beq_eq_false_iff_ne, beq_iff_eq, and_true, true_and, Bool.and_eq_true, Bool.or_eq_true, Bool.and_eq_false_iff, Bool.or_eq_false_iff, U.oU]
 refine ⟨(0, 0), ⟨rfl, ⟨by show (0 : Int) <= 0; omega, by show (0 : Int) <= _; omega⟩, rfl⟩, ?_⟩
 rintro ⟨n, i⟩ ⟨⟨i0, i1⟩, hn⟩
 simp only [] at *
 refine ⟨fun hi => ⟨i0, hi, by omega, (_, i + 1), by rw [dw (x := i + 1) (by omega) (by omega)], ⟨⟨by show 0 <= i + 1; omega, by show i + 1 <= _; omega⟩, ?_⟩, by show b.length - (i + 1).toNat < _; omega⟩, fun hi => ?_⟩
 ·have hv := qK i.toNat (b.take i.toNat) (by rw [List.length_take]; omega) (fun x hx => iE hb x (List.mem_of_mem_take hx))
  rw [<- hn] at hv
  have h7 := alX (show i.toNat <= 7 by omega)
  have hx := vU8 (hb b[i.toNat] (List.getElem_mem (by omega)))
  show orK .u64 (IntKind.u64.wrap (n * Int.pow 2 (if 8 <= IntKind.u64.bits then 8 else IntKind.u64.bits))) (IntKind.u64.wrap (b.getD i.toNat 0)) = _
  have hp : (Int.pow 2 (if 8 <= IntKind.u64.bits then 8 else IntKind.u64.bits)) = 256 := rfl
  have h72 : (256 : Int) ^ 7 = 72057594037927936 := by decide
  rw [hp, getD_at (by omega), wrap_u64, wrap_u64, show n * 256 % 18446744073709551616 = n * 256 by omega, show b[i.toNat] % 18446744073709551616 = b[i.toNat] by omega, alg hv.1 (by omega) hx.1 hx.2, take_at i0 hi, WW, hn]
 ·rw [hn, jV (by omega)]
theorem ZT (b : List Int) (hb : ∀ x ∈ b, Valid (.int .u8) x) (h8 : b.length <= 8) : CB b := by
 unfold CB
 simp only [cond_prop, bY, dZ, bf, dF, eX, jw, dX, bT, gq, dJ, fO, U.at_, maxLen_eq, decide_eq_true_eq, decide_eq_false_iff_not, bne_iff_ne, bne_eq_false_iff_eq, Bool.not_eq_true', Bool.not_eq_false', Bool.not_eq_eq_eq_not, Bool.not_true, Bool.not_false, beq_eq_false_iff_ne, beq_iff_eq, and_true, true_and, Bool.and_eq_true, Bool.or_eq_true, Bool.and_eq_false_iff, Bool.or_eq_false_iff, U.mO]
 refine ⟨(0, 0), ⟨rfl, ⟨by show (0 : Int) <= 0; omega, by show (0 : Int) <= _; omega⟩, rfl⟩, ?_⟩
 rintro ⟨n, i⟩ ⟨⟨i0, i1⟩, hn⟩
 simp only [] at *
 have hbb := iE hb
 have hv := qK i.toNat (b.take i.toNat) (by rw [List.length_take]; omega) (fun x hx => hbb x (List.mem_of_mem_take hx))
 rw [<- hn] at hv
 have hv8 := qK b.length b rfl hbb
 refine ⟨fun hi => ⟨fun hbig => ?_, fun hsm => ⟨i0, hi, (_, i + 1), by rw [dw (x := i + 1) (by omega) (by omega)], ⟨⟨by show 0 <= i + 1; omega, by show i + 1 <= _; omega⟩, ?_⟩, by show b.length - (i + 1).toNat < _; omega⟩⟩, fun hi => ?_⟩
 ·
  have hmono : ∀ (m : List Int) (a : Int), (∀ x ∈ m, Byte x) -> 0 <= a -> a <= m.foldl (fun a x => a * 256 + x) a := by
   intro m
   induction m with
   | nil => intro a _ _; exact Int.le_refl _
   | cons x m ih =>
     intro a hm ha
     have hx : 0 <= x := (hm x (by simp)).1
     have := ih (a * 256 + x) (fun y hy => hm y (List.mem_cons_of_mem _ hy)) (by omega)
     show a <= m.foldl (fun a x => a * 256 + x) (a * 256 + x); omega
  have e : U.aj b = (b.drop (i + 1).toNat).foldl (fun a x => a * 256 + x) (n * 256 + b[i.toNat]) := by
   conv => lhs; rw [<- List.take_append_drop (i + 1).toNat b]
   unfold U.aj; rw [List.foldl_append, take_at i0 hi, List.foldl_append, hn]; rfl
  have hx : 0 <= b[i.toNat] := (hbb _ (List.getElem_mem (by omega))).1
  have := hmono (b.drop (i + 1).toNat) (n * 256 + b[i.toNat]) (fun x hx => hbb x (List.mem_of_mem_drop hx)) (by omega)
  rw [<- e] at this
  rw [decide_eq_true (by omega : U.aj b > 4611686018427387904)]; rfl
 ·have hx := vU8 (hb b[i.toNat] (List.getElem_mem (by omega)))
  show IntKind.i64.wrap (IntKind.i64.wrap (n * 256) + IntKind.i64.wrap (b.getD i.toNat 0)) = _
  rw [getD_at (by omega), dw (x := n * 256) (by omega) (by omega), dw (x := b[i.toNat]) (by omega) (by omega), dw (by omega) (by omega), take_at i0 hi, WW, hn]
 ·rw [jV (by omega)] at hn
  subst hn
  refine ⟨fun h => by rw [decide_eq_true h]; rfl, fun h => by rw [decide_eq_false h]; rfl⟩
theorem Rz {l : List Int} {e : Int} (he : wP (.obj [.psl false tU8 l, .int .i64 e])) : (∀ x ∈ l, Valid (.int .u8) x) /\ l.length <= maxLen := by
 have := he _ (.head _); exact this
theorem ZU (l : List Int) (k : Nat) : List.take (k - 0) (List.drop 0 l) = l.take k := by rw [List.drop_zero, Nat.sub_zero]
theorem NY (l : List Int) (k : Nat) : List.take ((l.length : Int).toNat - k) (List.drop k l) = l.drop k := List.take_of_length_le (by rw [List.length_drop]; omega)
theorem RD (l : List Int) (e : Int) (he : wP (.obj [.psl false tU8 l, .int .i64 e])) : uJ l e := by
 obtain ⟨hb, hl⟩ := Rz he
 have hbb := iE hb
 unfold uJ U.ah
 simp only [bT, ZU, NY, bY]
 by_cases h8 : l.length < 8
 ·have h8' : ((l.length : Int) < 8) := by omega
  by_cases h0 : e = 0
  ·simp [h8, h8', h0]
  ·simp [h8, h8', h0]
 ·have h8' : ¬ ((l.length : Int) < 8) := by omega
  have hv := qK 8 (l.take 8) (by rw [List.length_take]; omega) (fun x hx => hbb x (List.mem_of_mem_take hx))
  by_cases h0 : e = 0
  ·by_cases hg : U.aj (l.take 8) > 4611686018427387904
   ·simp [h8, h8', h0, hg]; omega
   ·rw [dw (x := U.aj (l.take 8)) (by omega) (by omega)]
    simp [h8, h8', h0, hg]; omega
  ·simp [h8, h8', h0]
theorem aec : U.aj [] = 0 := rfl
theorem P7 (l : List Int) (e : Int) (he : wP (.obj [.psl false tU8 l, .int .i64 e])) : sQ l e := by
 obtain ⟨hb, hl⟩ := Rz he
 have hbb := iE hb
 unfold sQ U.ah
 simp only [bT, ZU, NY, bY, aec]
 by_cases h8 : l.length < 8
 ·have h8' : ((l.length : Int) < 8) := by omega
  by_cases h0 : e = 0
  ·simp [h8, h8', h0]
  ·simp [h8, h8', h0]
 ·have h8' : ¬ ((l.length : Int) < 8) := by omega
  have hv := qK 8 (l.take 8) (by rw [List.length_take]; omega) (fun x hx => hbb x (List.mem_of_mem_take hx))
  by_cases h0 : e = 0
  ·by_cases hg : U.aj (l.take 8) > 4611686018427387904
   ·simp [h8, h8', h0, hg]; omega
   ·simp [h8, h8', h0, hg, show ¬ U.aj (l.take 8) < 0 by omega]; omega
  ·simp [h8, h8', h0]
theorem P8 (l : List Int) (e : Int) (he : wP (.obj [.psl false tU8 l, .int .i64 e])) : sN l e := by
 obtain ⟨hb, hl⟩ := Rz he
 have hbb := iE hb
 unfold sN U.ay
 simp only [bT, ZU, NY, bY]
 by_cases h4 : l.length < 4
 ·have h4' : ((l.length : Int) < 4) := by omega
  by_cases h0 : e = 0
  ·simp [h4, h4', h0]
  ·simp [h4, h4', h0]
 ·have h4' : ¬ ((l.length : Int) < 4) := by omega
  have hv := qK 4 (l.take 4) (by rw [List.length_take]; omega) (fun x hx => hbb x (List.mem_of_mem_take hx))
  have h44 : (256 : Int) ^ 4 = 4294967296 := by decide
  by_cases h0 : e = 0
  ·rw [dw (x := U.aj (l.take 4)) (by omega) (by omega)]
   have hdl : (l.drop 4).length = l.length - 4 := List.length_drop
   generalize hD : l.drop 4 = D at *
   generalize hV : U.aj (l.take 4) = v at *
   by_cases hg : v > 4096
   ·simp [h4, h4', h0, hg]; omega
   ·by_cases hs : D.length < v.toNat
    ·have hs' : ((D.length : Int) < v) := by omega
     simp [h4, h4', h0, hg, hs, hs']; omega
    ·have hs' : ¬ ((D.length : Int) < v) := by omega
     have e1 : List.take (v.toNat - 0) (List.drop 0 D) = D.take v.toNat := ZU D _
     have e2 : List.take ((D.length : Int).toNat - v.toNat) (D.drop v.toNat) = D.drop v.toNat := NY D _
     simp [h4, h4', h0, hg, hs, hs']; omega
  ·simp [h4, h4', h0]
theorem NZ (l : List Int) (e : Int) (he : wP (.obj [.psl false tU8 l, .int .i64 e])) : qH l e := by
 obtain ⟨hb, hl⟩ := Rz he
 have hbb := iE hb
 unfold qH U.ay
 simp only [bT, ZU, NY, bY, aec]
 by_cases h4 : l.length < 4
 ·have h4' : ((l.length : Int) < 4) := by omega
  by_cases h0 : e = 0
  ·simp [h4, h4', h0]
  ·simp [h4, h4', h0]
 ·have h4' : ¬ ((l.length : Int) < 4) := by omega
  have hv := qK 4 (l.take 4) (by rw [List.length_take]; omega) (fun x hx => hbb x (List.mem_of_mem_take hx))
  have h44 : (256 : Int) ^ 4 = 4294967296 := by decide
  by_cases h0 : e = 0
  ·have hdl : (l.drop 4).length = l.length - 4 := List.length_drop
   rw [show decide (U.aj (l.take 4) > 4611686018427387904) = false by rw [decide_eq_false_iff_not]; omega]
   simp only [cond_false]
   generalize hD : l.drop 4 = D at *
   generalize hV : U.aj (l.take 4) = v at *
   by_cases hg : v > 4096
   ·simp [h4, h4', h0, hg]; omega
   ·by_cases hs : D.length < v.toNat
    ·have hs' : ((D.length : Int) < v) := by omega
     simp [h4, h4', h0, hg, hs, hs']; omega
    ·have hs' : ¬ ((D.length : Int) < v) := by omega
     have e1 : List.take (v.toNat - 0) (List.drop 0 D) = D.take v.toNat := ZU D _
     have e2 : List.take ((D.length : Int).toNat - v.toNat) (D.drop v.toNat) = D.drop v.toNat := NY D _
     simp [h4, h4', h0, hg, hs, hs']; omega
  ·simp [h4, h4', h0]
theorem aaO {l : List Int} {e m : Int} (h : (U.ah (l, e)).2.2 ≠ 0) : (U.ah (l, e)).1 = 0 := by
 unfold U.ah at *
 by_cases h0 : e = 0
 ·by_cases h8 : l.length < 8
  ·simp [h0, h8]
  ·by_cases hg : U.aj (l.take 8) > 4611686018427387904
   ·simp [h0, h8, hg]
   ·simp [h0, h8, hg] at h
 ·simp [h0]
theorem N7 (l : List Int) (e m : Int) (he : wP (.obj [.psl false tU8 l, .int .i64 e])) : qG l e m := by
 unfold qG U.aA
 have hn := aaO (l := l) (e := e) (m := m)
 generalize U.ah (l, e) = r at *
 obtain ⟨v, l', e'⟩ := r
 simp only [] at *
 by_cases h0 : e' = 0 <;> by_cases hg : v > m <;> simp [h0, hg] <;> first | (exact (hn h0).symm) | skip
theorem Md (l : List Int) (e m : Int) (he : wP (.obj [.psl false tU8 l, .int .i64 e])) : oW l e m := by
 unfold oW U.aA
 have hn := aaO (l := l) (e := e) (m := m)
 generalize U.ah (l, e) = r at *
 obtain ⟨v, l', e'⟩ := r
 simp only [] at *
 by_cases h0 : e' = 0 <;> by_cases hg : v > m <;> simp [h0, hg] <;> first | (exact (hn h0).symm) | skip
theorem P9 (l : List Int) (e : Int) (x : Bool) (he : wP (.obj [.psl false tU8 l, .int .i64 e])) : sO l e x := by
 unfold sO U.cZ
 by_cases h0 : e = 0 <;> cases x <;> simp [h0]
theorem N8 (l : List Int) (e : Int) (x : Bool) (he : wP (.obj [.psl false tU8 l, .int .i64 e])) : qI l e x := by
 unfold qI U.cZ
 by_cases h0 : e = 0 <;> cases x <;> simp [h0]
theorem RF (l : List Int) (e : Int) (he : wP (.obj [.psl false tU8 l, .int .i64 e])) : uK l e := by
 unfold uK; simp
theorem Qa (l : List Int) (e : Int) (he : wP (.obj [.psl false tU8 l, .int .i64 e])) : sU l e := by
 unfold sU U.fU
 have : decide ((l.length : Int) > 0) = decide (l.length > 0) := by rw [decide_eq_decide]; omega
 rw [this]; exact ⟨rfl, rfl, rfl, trivial⟩
theorem N9 (l : List Int) (e : Int) (he : wP (.obj [.psl false tU8 l, .int .i64 e])) : qJ l e := by
 unfold qJ U.fU U.cZ
 have : decide ((l.length : Int) > 0) = decide (l.length > 0) := by rw [decide_eq_decide]; omega
 rw [this]
 by_cases h0 : e = 0 <;> by_cases hl : l.length > 0 <;> simp [h0, hl]
theorem aed (a b : List Int) : IY a b := by unfold IY; simp only [fO, and_true]; rw [Bool.eq_iff_iff]; simp
end Go.Proofs.YtkhdeldobekciaaGreatDoor
set_option linter.unusedSimpArgs false
set_option maxRecDepth 100000
set_option linter.unusedVariables false
namespace Go.Proofs.YtkhdeldobekciaaGreatDoor
open Go.Vc
theorem afV (b : List Int) (n : Int) (size : Int) : bg Tryz.prog (aT Ac) (Vy b n size) 39 (Ru b n size) (Rw b n size) (KJ b n size) = IX b n size := by kernel_rfl
theorem ah3 : l9 Tryz.prog gl 39 GL := by
 refine pkg (l := Ac) OV (fun args es d h => ?_) (fun args es d h hv he hp => ?_)
 ·unfold GL at h
  rcases dI h with h | h
  ·obtain ⟨b, n, size, rfl, rfl, rfl⟩ := J6 h
   rfl
  cases h
 ·unfold GL at h
  rcases dI h with h | h
  ·obtain ⟨b, n, size, rfl, rfl, rfl⟩ := J6 h
   refine ⟨Vy b n size, ?_⟩
   rw [afV]
   exact aeb b n size hp
  cases h
theorem ah4 : aV Tryz.prog gl 39 Yz := ah3
theorem VB : aQ GN := .cons ah4 OV
theorem ajr (x : aP [aI, jD]) : bg Tryz.prog (aT GN) (aaM x.1 x.2) 19 (aZ [aI, jD] x) [] (Ep x.1 x.2) = NW x.1 x.2 := by kernel_rfl
theorem ajs : Pok 19 [aI, jD] (fun x => Ep x.1 x.2) := by
 refine pk (L := fun x => aaM x.1 x.2) (l := GN) VB (fun _ => rfl) ?_
 intro x hv hp
 rw [ajr]
 exact ah2 x.1 x.2 (hp (List.length x.1 <= 1000000000000) (by simp [Ep])) (hp (List.length x.2 <= 100000000000) (by simp [Ep]))
theorem ajt : aV Tryz.prog gl 19 aaL := ajs
theorem YC : aQ J7 := .cons ajt VB
theorem ah5 (x : aP [aI, J4]) : bg Tryz.prog (aT J7) (YB x.1 x.2) 62 (aZ [aI, J4] x) [] (Ad x.1 x.2) = KN x.1 x.2 := by kernel_rfl
theorem ah6 : Pok 62 [aI, J4] (fun x => Ad x.1 x.2) := by
 refine pk (L := fun x => YB x.1 x.2) (l := J7) YC (fun _ => rfl) ?_
 intro x hv hp
 rw [ah5]
 exact afU x.1 x.2 (hp (List.length x.1 <= 1000000000000) (by simp [Ad])) (hp (List.length x.2 <= 100000000) (by simp [Ad]))
theorem ah7 : aV Tryz.prog gl 62 YA := ah6
theorem VD : aQ GR := .cons ah7 YC
theorem aee (x : aP [aI]) : bg Tryz.prog (aT GR) (Ry x) 51 (aZ [aI] x) [] (Ae x) = Fg x := by kernel_rfl
theorem aef : Pok 51 [aI] (fun x => Ae x) := by
 refine pk (L := fun x => Ry x) (l := GR) VD (fun _ => rfl) ?_
 intro x hv hp
 rw [aee]
 exact abq x hv.1 (hp (List.length x <= 8) (by simp [Ae]))
theorem aeg : aV Tryz.prog gl 51 Rx := aef
theorem OY : aQ Af := .cons aeg VD
theorem UW (l : List Int) (e : Int) : bg Tryz.prog (aT Af) (F7 l e) 25 (Es l e) (Et l e) (wQ l e) = uJ l e := by kernel_rfl
theorem WX : l9 Tryz.prog gl 25 qp := by
 refine pkg (l := Af) OY (fun args es d h => ?_) (fun args es d h hv he hp => ?_)
 ·unfold qp at h
  rcases dI h with h | h
  ·obtain ⟨l, e, rfl, rfl, rfl⟩ := zk h
   rfl
  cases h
 ·unfold qp at h
  rcases dI h with h | h
  ·obtain ⟨l, e, rfl, rfl, rfl⟩ := zk h
   refine ⟨F7 l e, ?_⟩
   rw [UW]
   exact RD l e (he _ (.head _))
  cases h
theorem WY : aV Tryz.prog gl 25 IV := WX
theorem Gj : aQ qw := .cons WY OY
theorem RG (l : List Int) (e : Int) : bg Tryz.prog (aT qw) (Eu l e) 75 (Bh l e) (Bj l e) (uz l e) = sN l e := by kernel_rfl
theorem UY : l9 Tryz.prog gl 75 oC := by
 refine pkg (l := qw) Gj (fun args es d h => ?_) (fun args es d h hv he hp => ?_)
 ·unfold oC at h
  rcases dI h with h | h
  ·obtain ⟨l, e, rfl, rfl, rfl⟩ := xg h
   rfl
  cases h
 ·unfold oC at h
  rcases dI h with h | h
  ·obtain ⟨l, e, rfl, rfl, rfl⟩ := xg h
   refine ⟨Eu l e, ?_⟩
   rw [RG]
   exact P8 l e (he _ (.head _))
  cases h
theorem UZ : aV Tryz.prog gl 75 F8 := UY
theorem EJ : aQ oD := .cons UZ Gj
theorem Qb (l : List Int) (e : Int) (m : Int) : bg Tryz.prog (aT oD) (Bl l e m) 76 (Ag l e m) (Ah l e m) (rY l e m) = qG l e m := by kernel_rfl
theorem RH : l9 Tryz.prog gl 76 mP := by
 refine pkg (l := oD) EJ (fun args es d h => ?_) (fun args es d h hv he hp => ?_)
 ·unfold mP at h
  rcases dI h with h | h
  ·obtain ⟨l, e, m, rfl, rfl, rfl⟩ := wG h
   rfl
  cases h
 ·unfold mP at h
  rcases dI h with h | h
  ·obtain ⟨l, e, m, rfl, rfl, rfl⟩ := wG h
   refine ⟨Bl l e m, ?_⟩
   rw [Qb]
   exact N7 l e m (he _ (.head _))
  cases h
theorem RI : aV Tryz.prog gl 76 Ew := RH
theorem BJ : aQ mQ := .cons RI EJ
theorem RN (l : List Int) (e : Int) (x : Bool) : bg Tryz.prog (aT mQ) (Ey l e x) 26 (Bo l e x) (Bq l e x) (uD l e x) = sO l e x := by kernel_rfl
theorem U0 : l9 Tryz.prog gl 26 oG := by
 refine pkg (l := mQ) BJ (fun args es d h => ?_) (fun args es d h hv he hp => ?_)
 ·unfold oG at h
  rcases dI h with h | h
  ·obtain ⟨l, e, x, rfl, rfl, rfl⟩ := xk h
   rfl
  cases h
 ·unfold oG at h
  rcases dI h with h | h
  ·obtain ⟨l, e, x, rfl, rfl, rfl⟩ := xk h
   refine ⟨Ey l e x, ?_⟩
   rw [RN]
   exact P9 l e x (he _ (.head _))
  cases h
theorem U1 : aV Tryz.prog gl 26 F9 := U0
theorem EK : aQ oH := .cons U1 BJ
theorem U2 (l : List Int) (e : Int) : bg Tryz.prog (aT oH) (Gf l e) 27 (Ez l e) (EC l e) (wR l e) = uK l e := by kernel_rfl
theorem WZ : l9 Tryz.prog gl 27 qy := by
 refine pkg (l := oH) EK (fun args es d h => ?_) (fun args es d h hv he hp => ?_)
 ·unfold qy at h
  rcases dI h with h | h
  ·obtain ⟨l, e, rfl, rfl, rfl⟩ := zl h
   rfl
  cases h
 ·unfold qy at h
  rcases dI h with h | h
  ·obtain ⟨l, e, rfl, rfl, rfl⟩ := zl h
   refine ⟨Gf l e, ?_⟩
   rw [U2]
   exact RF l e (he _ (.head _))
  cases h
theorem W9 : aV Tryz.prog gl 27 IW := WZ
theorem Gl : aQ qA := .cons W9 EK
theorem abr (x : aP [aI]) : bg Tryz.prog (aT qA) (OX x) 55 (aZ [aI] x) [] (xP x) = CB x := by kernel_rfl
theorem abt : Pok 55 [aI] (fun x => xP x) := by
 refine pk (L := fun x => OX x) (l := qA) Gl (fun _ => rfl) ?_
 intro x hv hp
 rw [abr]
 exact ZT x hv.1 (hp (List.length x <= 8) (by simp [xP]))
theorem abu : aV Tryz.prog gl 55 OW := abt
theorem Me : aQ xQ := .cons abu Gl
theorem RP (l : List Int) (e : Int) : bg Tryz.prog (aT xQ) (ED l e) 29 (Bv l e) (Bz l e) (uG l e) = sQ l e := by kernel_rfl
theorem U3 : l9 Tryz.prog gl 29 oI := by
 refine pkg (l := xQ) Me (fun args es d h => ?_) (fun args es d h hv he hp => ?_)
 ·unfold oI at h
  rcases dI h with h | h
  ·obtain ⟨l, e, rfl, rfl, rfl⟩ := xq h
   rfl
  cases h
 ·unfold oI at h
  rcases dI h with h | h
  ·obtain ⟨l, e, rfl, rfl, rfl⟩ := xq h
   refine ⟨ED l e, ?_⟩
   rw [RP]
   exact P7 l e (he _ (.head _))
  cases h
theorem U4 : aV Tryz.prog gl 29 Gg := U3
theorem EL : aQ oJ := .cons U4 Me
theorem Qc (l : List Int) (e : Int) : bg Tryz.prog (aT oJ) (BA l e) 77 (Ai l e) (Aj l e) (sD l e) = qH l e := by kernel_rfl
theorem RQ : l9 Tryz.prog gl 77 mV := by
 refine pkg (l := oJ) EL (fun args es d h => ?_) (fun args es d h hv he hp => ?_)
 ·unfold mV at h
  rcases dI h with h | h
  ·obtain ⟨l, e, rfl, rfl, rfl⟩ := wH h
   rfl
  cases h
 ·unfold mV at h
  rcases dI h with h | h
  ·obtain ⟨l, e, rfl, rfl, rfl⟩ := wH h
   refine ⟨BA l e, ?_⟩
   rw [Qc]
   exact NZ l e (he _ (.head _))
  cases h
theorem RU : aV Tryz.prog gl 77 EF := RQ
theorem BK : aQ mW := .cons RU EL
theorem Oa (l : List Int) (e : Int) (m : Int) : bg Tryz.prog (aT mW) (Ak l e m) 78 (zn l e m) (zo l e m) (qC l e m) = oW l e m := by kernel_rfl
theorem Qd : l9 Tryz.prog gl 78 lG := by
 refine pkg (l := mW) BK (fun args es d h => ?_) (fun args es d h hv he hp => ?_)
 ·unfold lG at h
  rcases dI h with h | h
  ·obtain ⟨l, e, m, rfl, rfl, rfl⟩ := uH h
   rfl
  cases h
 ·unfold lG at h
  rcases dI h with h | h
  ·obtain ⟨l, e, m, rfl, rfl, rfl⟩ := uH h
   refine ⟨Ak l e m, ?_⟩
   rw [Oa]
   exact Md l e m (he _ (.head _))
  cases h
theorem Qe : aV Tryz.prog gl 78 BD := Qd
theorem Au : aQ lH := .cons Qe BK
theorem Qg (l : List Int) (e : Int) (x : Bool) : bg Tryz.prog (aT lH) (BF l e x) 30 (Am l e x) (Ap l e x) (sG l e x) = qI l e x := by kernel_rfl
theorem RV : l9 Tryz.prog gl 30 mX := by
 refine pkg (l := lH) Au (fun args es d h => ?_) (fun args es d h hv he hp => ?_)
 ·unfold mX at h
  rcases dI h with h | h
  ·obtain ⟨l, e, x, rfl, rfl, rfl⟩ := wI h
   rfl
  cases h
 ·unfold mX at h
  rcases dI h with h | h
  ·obtain ⟨l, e, x, rfl, rfl, rfl⟩ := wI h
   refine ⟨BF l e x, ?_⟩
   rw [Qg]
   exact N8 l e x (he _ (.head _))
  cases h
theorem RX : aV Tryz.prog gl 30 EG := RV
theorem BL : aQ mY := .cons RX Au
theorem RY (l : List Int) (e : Int) : bg Tryz.prog (aT mY) (EH l e) 54 (BG l e) (BH l e) (uI l e) = sU l e := by kernel_rfl
theorem U5 : l9 Tryz.prog gl 54 oK := by
 refine pkg (l := mY) BL (fun args es d h => ?_) (fun args es d h hv he hp => ?_)
 ·unfold oK at h
  rcases dI h with h | h
  ·obtain ⟨l, e, rfl, rfl, rfl⟩ := xu h
   rfl
  cases h
 ·unfold oK at h
  rcases dI h with h | h
  ·obtain ⟨l, e, rfl, rfl, rfl⟩ := xu h
   refine ⟨EH l e, ?_⟩
   rw [RY]
   exact Qa l e (he _ (.head _))
  cases h
theorem U6 : aV Tryz.prog gl 54 Gi := U5
theorem EM : aQ oL := .cons U6 BL
theorem Qh (l : List Int) (e : Int) : bg Tryz.prog (aT oL) (BI l e) 58 (Aq l e) (Ar l e) (sJ l e) = qJ l e := by kernel_rfl
theorem RZ : l9 Tryz.prog gl 58 mZ := by
 refine pkg (l := oL) EM (fun args es d h => ?_) (fun args es d h hv he hp => ?_)
 ·unfold mZ at h
  rcases dI h with h | h
  ·obtain ⟨l, e, rfl, rfl, rfl⟩ := wJ h
   rfl
  cases h
 ·unfold mZ at h
  rcases dI h with h | h
  ·obtain ⟨l, e, rfl, rfl, rfl⟩ := wJ h
   refine ⟨BI l e, ?_⟩
   rw [Qh]
   exact N9 l e (he _ (.head _))
  cases h
theorem Si : aV Tryz.prog gl 58 EI := RZ
theorem BM : aQ ng := .cons Si EM
theorem afW (x : aP [aI, aI]) : bg Tryz.prog (aT ng) (VA x.1 x.2) 9 (aZ [aI, aI] x) [] (KL x.1 x.2) = IY x.1 x.2 := by kernel_rfl
theorem afX : Pok 9 [aI, aI] (fun x => KL x.1 x.2) := by
 refine pk (L := fun x => VA x.1 x.2) (l := ng) BM (fun _ => rfl) ?_
 intro x hv hp
 rw [afW]
 exact aed x.1 x.2
theorem afY : aV Tryz.prog gl 9 Vz := afX
theorem Sj : aQ Du := .cons afY BM
end Go.Proofs.YtkhdeldobekciaaGreatDoor
