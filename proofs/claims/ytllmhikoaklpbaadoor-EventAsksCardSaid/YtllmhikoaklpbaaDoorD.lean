/- What functions of this seat compute, in plain Lean. -/
import Derived.Test.YtllmhikoaklpbaaDoorC
set_option linter.unusedVariables false
set_option linter.unusedSimpArgs false
set_option maxRecDepth 100000
namespace Go.Proofs.YtllmhikoaklpbaaDoor
open Go.Vc
abbrev tBytes : Ty := .slice (.int .u8)
abbrev tInts : Ty := .slice (.int .i64)
abbrev tU8 : Ty := .int .u8
namespace U
@[irreducible] def beN (k : Nat) (n : Int) : List Int := (List.range k).map fun j => n / 2 ^ (8 * (k - 1 - j)) % 256
def clamp (n : Int) : Int := minI (maxI n 0) 4611686018427387904
def num1 (n : Int) : List Int := beN 8 (clamp n)
def nums (l : List Int) : List Int := l.flatMap num1
def text1 (s : List Int) : List Int := beN 4 (minI s.length 4096) ++ s.take 4096
def texts (l : List (List Int)) : List Int := l.flatMap text1
def valB (l : List Int) : Int := l.foldl (fun a x => a * 256 + x) 0
abbrev RS := List Int × Int
def rNum (r : RS) : Int × RS := cond (decide (r.2 = 0)) (cond (decide (r.1.length < 8)) (0, r.1, 2) (cond (decide (valB (r.1.take 8) > 4611686018427387904)) (0, r.1.drop 8, 3) (valB (r.1.take 8), r.1.drop 8, 0))) (0, r)
def rText (r : RS) : List Int × RS := cond (decide (r.2 = 0)) (cond (decide (r.1.length < 4)) ([], r.1, 2) (cond (decide (valB (r.1.take 4) > 4096)) ([], r.1.drop 4, 4) (cond (decide ((r.1.drop 4).length < (valB (r.1.take 4)).toNat)) ([], r.1.drop 4, 2) ((r.1.drop 4).take (valB (r.1.take 4)).toNat, (r.1.drop 4).drop (valB (r.1.take 4)).toNat, 0)))) ([], r)
def rFail (bad : Bool) (r : RS) : RS := cond (decide (r.2 = 0) && bad) (r.1, 3) r
def rCount (m : Int) (r : RS) : Int × RS := cond (decide ((rNum r).2.2 = 0) && decide ((rNum r).1 > m)) (0, (rNum r).2.1, 4) (rNum r)
def rDone (r : RS) : Int := (rFail (decide (r.1.length > 0)) r).2
end U
namespace U
def stpack_wide_2 (b : List Int) (n size : Int) (o : List Int) (i : Int) : St2 := ⟨⟨[own 1] ++ [sK .u64 n] ++ U.n 5 ++ [sI i] ++ U.n 15, [], [(0, .dead), (1, .row 5 (.int .u8) true true o)]⟩, 2, []⟩
def Ipack_wide_2 (b : List Int) (n size : Int)  (o : List Int) (i : Int) : Prop := -1 ≤ i ∧ i < size ∧ o = b ++ (beN size.toNat n).take (size - 1 - i).toNat
def stpack_Num_3 (b l : List Int) (o : List Int) (i : Int) : St2 := ⟨⟨[own 0] ++ U.n 8 ++ [sL false (.int .i64) l] ++ [sI l.length] ++ [sI i] ++ U.n 11, [], [(0, .row 5 (.int .u8) true true o)]⟩, 1, []⟩
def Ipack_Num_3 (b l : List Int)  (o : List Int) (i : Int) : Prop := at_ l i ∧ o = b ++ nums (l.take i.toNat)
def stpack_Text_3 (b : List Int) (l : List (List Int)) (o : List Int) (i : Int) : St2 := ⟨⟨[own 0] ++ U.n 8 ++ [sL false .str l] ++ [sI l.length] ++ [sI i] ++ U.n 17, [], [(0, .row 5 (.int .u8) true true o)]⟩, 1, []⟩
def Ipack_Text_3 (b : List Int) (l : List (List Int))  (o : List Int) (i : Int) : Prop := at_ l i ∧ o = b ++ texts (l.take i.toNat)
def stpack_number_2 (b : List Int) (n : Int) (i : Int) : St2 := ⟨⟨U.n 2 ++ [sK .u64 n] ++ U.n 2 ++ [sL false (.int .u8) b] ++ [sI b.length] ++ [sI i] ++ U.n 10, [], []⟩, 0, []⟩
def Ipack_number_2 (b : List Int)  (n : Int) (i : Int) : Prop := at_ b i ∧ n = valB (b.take i.toNat)
def stref03_number_3 (b : List Int) (n : Int) (i : Int) : St2 := ⟨⟨[sL false (.int .u8) b] ++ U.n 2 ++ [sI n] ++ [sI i] ++ U.n 19, [], []⟩, 0, []⟩
def Iref03_number_3 (b : List Int)  (n : Int) (i : Int) : Prop := at_ b i ∧ n = valB (b.take i.toNat)
def stref03_bytes_3 (n size : Int) (o : List Int) (m : Int) (i : Int) : St2 := ⟨⟨[sI m] ++ U.n 4 ++ [own 0] ++ [sI i] ++ U.n 17, [], [(0, .row 5 (.int .u8) true true o)]⟩, 1, []⟩
def Iref03_bytes_3 (n size : Int)  (o : List Int) (m : Int) (i : Int) : Prop := -1 ≤ i ∧ i < size ∧ m = n / 2 ^ (8 * (size - 1 - i).toNat) ∧ o = List.replicate (i + 1).toNat 0 ++ (beN size.toNat n).drop (i + 1).toNat
end U
def lppack_wide_2 (b : List Int) (n size : Int) : Vc.Loop := ⟨{ keep := [0, 1, 7], wake := [(0, 5)] }, List Int × Int, fun x => U.stpack_wide_2 b n size x.1 x.2, fun x0 x => U.Ipack_wide_2 b n size  x.1 x.2, fun x => (x.2 + 1).toNat⟩
def lppack_Num_3 (b l : List Int) : Vc.Loop := ⟨{ keep := [0, 9, 10, 11], wake := [(0, 5)] }, List Int × Int, fun x => U.stpack_Num_3 b l x.1 x.2, fun x0 x => U.Ipack_Num_3 b l  x.1 x.2, fun x => l.length - x.2.toNat⟩
def lppack_Text_3 (b : List Int) (l : List (List Int)) : Vc.Loop := ⟨{ keep := [0, 9, 10, 11], wake := [(0, 5)] }, List Int × Int, fun x => U.stpack_Text_3 b l x.1 x.2, fun x0 x => U.Ipack_Text_3 b l  x.1 x.2, fun x => l.length - x.2.toNat⟩
def lppack_number_2 (b : List Int) : Vc.Loop := ⟨{ keep := [2, 5, 6, 7] }, Int × Int, fun x => U.stpack_number_2 b x.1 x.2, fun x0 x => U.Ipack_number_2 b  x.1 x.2, fun x => b.length - x.2.toNat⟩
def lpref03_number_3 (b : List Int) : Vc.Loop := ⟨{ keep := [0, 3, 4] }, Int × Int, fun x => U.stref03_number_3 b x.1 x.2, fun x0 x => U.Iref03_number_3 b  x.1 x.2, fun x => b.length - x.2.toNat⟩
def lpref03_bytes_3 (n size : Int) : Vc.Loop := ⟨{ keep := [0, 5, 6] }, List Int × Int × Int, fun x => U.stref03_bytes_3 n size x.1 x.2.1 x.2.2, fun x0 x => U.Iref03_bytes_3 n size  x.1 x.2.1 x.2.2, fun x => (x.2.2 + 1).toNat⟩
def dpack_wideO (b : List Int) (n : Int) (size : Int) : Done := ⟨[1 ≤ size ∧ size ≤ 8, b.length ≤ 2000000000000, 0 ≤ n], .one (.own 1), [.dead], [.row 5 (.int .u8) true true (b ++ U.beN size.toNat n)]⟩
def arpack_wideO (b : List Int) (n : Int) (size : Int) : List V := [⟨false, [.own 0]⟩, ⟨false, [.int .u64 n]⟩, ⟨false, [.int .i64 size]⟩]
def espack_wideO (b : List Int) (n : Int) (size : Int) : List Entry := [.row 5 (.int .u8) true true b]
def Lpack_wideO (b : List Int) (n : Int) (size : Int) : Nat → List V → Nat → Option Vc.Loop := fun f v k => cond (Nat.beq f 55 && Nat.beq k 2) (some (lppack_wide_2 b n size)) <| none
def alpack_wideO : List V → List Entry → Option Done
  | [⟨false, [.own n1]⟩, ⟨false, [.int .u64 n]⟩, ⟨false, [.int .i64 size]⟩], [.row n2 (.int .u8) true true b] => cond (Nat.beq n1 0 && Nat.beq n2 5) (some (dpack_wideO b n size)) none
  | _, _ => none
theorem alpack_wideO_eq {args : List V} {es : List Entry} {d : Done} (h : alpack_wideO args es = some d) : ∃ b n size, args = arpack_wideO b n size ∧ es = espack_wideO b n size ∧ d = dpack_wideO b n size := by
  unfold alpack_wideO at h
  split at h
  · obtain ⟨hb, hd⟩ := cond_some h; simp only [Bool.and_eq_true, Nat.beq_eq] at hb; (try obtain ⟨rfl, rfl⟩ := hb); subst hd; (try subst_vars); exact ⟨_, _, _, rfl, rfl, rfl⟩
  · cases h
def Fpack_wide (args : List V) (es : List Entry) : Option Done := orE (alpack_wideO args es) (none)
def spack_wide : Vc.Sum := .gen Fpack_wide
def Qpack_wide : List (Nat × Ent) := (55, .sum spack_wide) :: Qref10_Right
def dpack_Num (b : List Int) (l : List Int) : Done := ⟨[b.length ≤ 1000000000000, l.length ≤ 100000000000], .one (.psl true (.int .u8) (b ++ U.nums l)), [], []⟩
def spack_Num : Vc.Sum := .pure [tBytes, tInts] false fun x => dpack_Num x.1 x.2
def Lpack_Num (b : List Int) (l : List Int) : Nat → List V → Nat → Option Vc.Loop := fun f v k => cond (Nat.beq f 29 && Nat.beq k 3) (some (lppack_Num_3 b l)) <| none
def Qpack_Num : List (Nat × Ent) := (29, .sum spack_Num) :: Qpack_wide
def dpack_Text (b : List Int) (l : List (List Int)) : Done := ⟨[b.length ≤ 1000000000000, l.length ≤ 100000000], .one (.psl true (.int .u8) (b ++ U.texts l)), [], []⟩
def spack_Text : Vc.Sum := .pure [tBytes, tStrs] false fun x => dpack_Text x.1 x.2
def Lpack_Text (b : List Int) (l : List (List Int)) : Nat → List V → Nat → Option Vc.Loop := fun f v k => cond (Nat.beq f 56 && Nat.beq k 3) (some (lppack_Text_3 b l)) <| none
def Qpack_Text : List (Nat × Ent) := (56, .sum spack_Text) :: Qpack_Num
def dpack_number (b : List Int) : Done := ⟨[b.length ≤ 8], .one (.int .u64 (U.valB b)), [], []⟩
def spack_number : Vc.Sum := .pure [tBytes] false fun x => dpack_number x
def Lpack_number (b : List Int) : Nat → List V → Nat → Option Vc.Loop := fun f v k => cond (Nat.beq f 46 && Nat.beq k 2) (some (lppack_number_2 b)) <| none
def Qpack_number : List (Nat × Ent) := (46, .sum spack_number) :: Qpack_Text
def dpack_Reader_NumR (l : List Int) (e : Int) : Done := ⟨[], .one (.int .i64 (U.rNum (l, e)).1), [.obj [.psl false tU8 ((U.rNum (l, e)).2).1, .int .i64 ((U.rNum (l, e)).2).2]], []⟩
def arpack_Reader_NumR (l : List Int) (e : Int) : List V := [⟨false, [.ptr 0 0]⟩]
def espack_Reader_NumR (l : List Int) (e : Int) : List Entry := [.obj [.psl false tU8 l, .int .i64 e]]
def Lpack_Reader_NumR (l : List Int) (e : Int) : Nat → List V → Nat → Option Vc.Loop := noKeep
def alpack_Reader_NumR : List V → List Entry → Option Done
  | [⟨false, [.ptr n1 n2]⟩], [.obj [.psl false t3 l3, .int .i64 e]] => if h3 : t3 = tU8 then cond (Nat.beq n1 0 && Nat.beq n2 0) (some (dpack_Reader_NumR (h3 ▸ l3 : List (Ty.den tU8)) e)) none else none
  | _, _ => none
theorem alpack_Reader_NumR_eq {args : List V} {es : List Entry} {d : Done} (h : alpack_Reader_NumR args es = some d) : ∃ l e, args = arpack_Reader_NumR l e ∧ es = espack_Reader_NumR l e ∧ d = dpack_Reader_NumR l e := by
  unfold alpack_Reader_NumR at h
  split at h
  · split at h <;> first | (cases h; done) | skip
    rename_i ht; subst ht
    obtain ⟨hb, hd⟩ := cond_some h; simp only [Bool.and_eq_true, Nat.beq_eq] at hb; (try obtain ⟨rfl, rfl⟩ := hb); subst hd; (try subst_vars); exact ⟨_, _, rfl, rfl, rfl⟩
  · cases h
def Fpack_Reader_Num (args : List V) (es : List Entry) : Option Done := orE (alpack_Reader_NumR args es) (none)
def spack_Reader_Num : Vc.Sum := .gen Fpack_Reader_Num
def Qpack_Reader_Num : List (Nat × Ent) := (21, .sum spack_Reader_Num) :: Qpack_number
def dpack_Reader_TextR (l : List Int) (e : Int) : Done := ⟨[], .one (.str (U.rText (l, e)).1), [.obj [.psl false tU8 ((U.rText (l, e)).2).1, .int .i64 ((U.rText (l, e)).2).2]], []⟩
def arpack_Reader_TextR (l : List Int) (e : Int) : List V := [⟨false, [.ptr 0 0]⟩]
def espack_Reader_TextR (l : List Int) (e : Int) : List Entry := [.obj [.psl false tU8 l, .int .i64 e]]
def Lpack_Reader_TextR (l : List Int) (e : Int) : Nat → List V → Nat → Option Vc.Loop := noKeep
def alpack_Reader_TextR : List V → List Entry → Option Done
  | [⟨false, [.ptr n1 n2]⟩], [.obj [.psl false t3 l3, .int .i64 e]] => if h3 : t3 = tU8 then cond (Nat.beq n1 0 && Nat.beq n2 0) (some (dpack_Reader_TextR (h3 ▸ l3 : List (Ty.den tU8)) e)) none else none
  | _, _ => none
theorem alpack_Reader_TextR_eq {args : List V} {es : List Entry} {d : Done} (h : alpack_Reader_TextR args es = some d) : ∃ l e, args = arpack_Reader_TextR l e ∧ es = espack_Reader_TextR l e ∧ d = dpack_Reader_TextR l e := by
  unfold alpack_Reader_TextR at h
  split at h
  · split at h <;> first | (cases h; done) | skip
    rename_i ht; subst ht
    obtain ⟨hb, hd⟩ := cond_some h; simp only [Bool.and_eq_true, Nat.beq_eq] at hb; (try obtain ⟨rfl, rfl⟩ := hb); subst hd; (try subst_vars); exact ⟨_, _, rfl, rfl, rfl⟩
  · cases h
def Fpack_Reader_Text (args : List V) (es : List Entry) : Option Done := orE (alpack_Reader_TextR args es) (none)
def spack_Reader_Text : Vc.Sum := .gen Fpack_Reader_Text
def Qpack_Reader_Text : List (Nat × Ent) := (48, .sum spack_Reader_Text) :: Qpack_Reader_Num
def dpack_Reader_CountR (l : List Int) (e : Int) (m : Int) : Done := ⟨[], .one (.int .i64 (U.rCount m (l, e)).1), [.obj [.psl false tU8 ((U.rCount m (l, e)).2).1, .int .i64 ((U.rCount m (l, e)).2).2]], []⟩
def arpack_Reader_CountR (l : List Int) (e : Int) (m : Int) : List V := [⟨false, [.ptr 0 0]⟩, ⟨false, [.int .i64 m]⟩]
def espack_Reader_CountR (l : List Int) (e : Int) (m : Int) : List Entry := [.obj [.psl false tU8 l, .int .i64 e]]
def Lpack_Reader_CountR (l : List Int) (e : Int) (m : Int) : Nat → List V → Nat → Option Vc.Loop := noKeep
def alpack_Reader_CountR : List V → List Entry → Option Done
  | [⟨false, [.ptr n1 n2]⟩, ⟨false, [.int .i64 m]⟩], [.obj [.psl false t3 l3, .int .i64 e]] => if h3 : t3 = tU8 then cond (Nat.beq n1 0 && Nat.beq n2 0) (some (dpack_Reader_CountR (h3 ▸ l3 : List (Ty.den tU8)) e m)) none else none
  | _, _ => none
theorem alpack_Reader_CountR_eq {args : List V} {es : List Entry} {d : Done} (h : alpack_Reader_CountR args es = some d) : ∃ l e m, args = arpack_Reader_CountR l e m ∧ es = espack_Reader_CountR l e m ∧ d = dpack_Reader_CountR l e m := by
  unfold alpack_Reader_CountR at h
  split at h
  · split at h <;> first | (cases h; done) | skip
    rename_i ht; subst ht
    obtain ⟨hb, hd⟩ := cond_some h; simp only [Bool.and_eq_true, Nat.beq_eq] at hb; (try obtain ⟨rfl, rfl⟩ := hb); subst hd; (try subst_vars); exact ⟨_, _, _, rfl, rfl, rfl⟩
  · cases h
def Fpack_Reader_Count (args : List V) (es : List Entry) : Option Done := orE (alpack_Reader_CountR args es) (none)
def spack_Reader_Count : Vc.Sum := .gen Fpack_Reader_Count
def Qpack_Reader_Count : List (Nat × Ent) := (49, .sum spack_Reader_Count) :: Qpack_Reader_Text
def dpack_Reader_FailR (l : List Int) (e : Int) (x : Bool) : Done := ⟨[], .tup [], [.obj [.psl false tU8 (U.rFail x (l, e)).1, .int .i64 (U.rFail x (l, e)).2]], []⟩
def arpack_Reader_FailR (l : List Int) (e : Int) (x : Bool) : List V := [⟨false, [.ptr 0 0]⟩, ⟨false, [.bool x]⟩]
def espack_Reader_FailR (l : List Int) (e : Int) (x : Bool) : List Entry := [.obj [.psl false tU8 l, .int .i64 e]]
def Lpack_Reader_FailR (l : List Int) (e : Int) (x : Bool) : Nat → List V → Nat → Option Vc.Loop := noKeep
def alpack_Reader_FailR : List V → List Entry → Option Done
  | [⟨false, [.ptr n1 n2]⟩, ⟨false, [.bool x]⟩], [.obj [.psl false t3 l3, .int .i64 e]] => if h3 : t3 = tU8 then cond (Nat.beq n1 0 && Nat.beq n2 0) (some (dpack_Reader_FailR (h3 ▸ l3 : List (Ty.den tU8)) e x)) none else none
  | _, _ => none
theorem alpack_Reader_FailR_eq {args : List V} {es : List Entry} {d : Done} (h : alpack_Reader_FailR args es = some d) : ∃ l e x, args = arpack_Reader_FailR l e x ∧ es = espack_Reader_FailR l e x ∧ d = dpack_Reader_FailR l e x := by
  unfold alpack_Reader_FailR at h
  split at h
  · split at h <;> first | (cases h; done) | skip
    rename_i ht; subst ht
    obtain ⟨hb, hd⟩ := cond_some h; simp only [Bool.and_eq_true, Nat.beq_eq] at hb; (try obtain ⟨rfl, rfl⟩ := hb); subst hd; (try subst_vars); exact ⟨_, _, _, rfl, rfl, rfl⟩
  · cases h
def Fpack_Reader_Fail (args : List V) (es : List Entry) : Option Done := orE (alpack_Reader_FailR args es) (none)
def spack_Reader_Fail : Vc.Sum := .gen Fpack_Reader_Fail
def Qpack_Reader_Fail : List (Nat × Ent) := (22, .sum spack_Reader_Fail) :: Qpack_Reader_Count
def dref03_number (b : List Int) : Done := ⟨[b.length ≤ 8], .one (.int .i64 (cond (decide (U.valB b > 4611686018427387904)) (-1) (U.valB b))), [], []⟩
def sref03_number : Vc.Sum := .pure [tBytes] false fun x => dref03_number x
def Lref03_number (b : List Int) : Nat → List V → Nat → Option Vc.Loop := fun f v k => cond (Nat.beq f 65 && Nat.beq k 3) (some (lpref03_number_3 b)) <| none
def Qref03_number : List (Nat × Ent) := (65, .sum sref03_number) :: Qpack_Reader_Fail
def dref03_Reader_NumR (l : List Int) (e : Int) : Done := ⟨[], .one (.int .i64 (U.rNum (l, e)).1), [.obj [.psl false tU8 ((U.rNum (l, e)).2).1, .int .i64 ((U.rNum (l, e)).2).2]], []⟩
def arref03_Reader_NumR (l : List Int) (e : Int) : List V := [⟨false, [.ptr 0 0]⟩]
def esref03_Reader_NumR (l : List Int) (e : Int) : List Entry := [.obj [.psl false tU8 l, .int .i64 e]]
def Lref03_Reader_NumR (l : List Int) (e : Int) : Nat → List V → Nat → Option Vc.Loop := noKeep
def alref03_Reader_NumR : List V → List Entry → Option Done
  | [⟨false, [.ptr n1 n2]⟩], [.obj [.psl false t3 l3, .int .i64 e]] => if h3 : t3 = tU8 then cond (Nat.beq n1 0 && Nat.beq n2 0) (some (dref03_Reader_NumR (h3 ▸ l3 : List (Ty.den tU8)) e)) none else none
  | _, _ => none
theorem alref03_Reader_NumR_eq {args : List V} {es : List Entry} {d : Done} (h : alref03_Reader_NumR args es = some d) : ∃ l e, args = arref03_Reader_NumR l e ∧ es = esref03_Reader_NumR l e ∧ d = dref03_Reader_NumR l e := by
  unfold alref03_Reader_NumR at h
  split at h
  · split at h <;> first | (cases h; done) | skip
    rename_i ht; subst ht
    obtain ⟨hb, hd⟩ := cond_some h; simp only [Bool.and_eq_true, Nat.beq_eq] at hb; (try obtain ⟨rfl, rfl⟩ := hb); subst hd; (try subst_vars); exact ⟨_, _, rfl, rfl, rfl⟩
  · cases h
def Fref03_Reader_Num (args : List V) (es : List Entry) : Option Done := orE (alref03_Reader_NumR args es) (none)
def sref03_Reader_Num : Vc.Sum := .gen Fref03_Reader_Num
def Qref03_Reader_Num : List (Nat × Ent) := (50, .sum sref03_Reader_Num) :: Qref03_number
def dref03_Reader_TextR (l : List Int) (e : Int) : Done := ⟨[], .one (.str (U.rText (l, e)).1), [.obj [.psl false tU8 ((U.rText (l, e)).2).1, .int .i64 ((U.rText (l, e)).2).2]], []⟩
def arref03_Reader_TextR (l : List Int) (e : Int) : List V := [⟨false, [.ptr 0 0]⟩]
def esref03_Reader_TextR (l : List Int) (e : Int) : List Entry := [.obj [.psl false tU8 l, .int .i64 e]]
def Lref03_Reader_TextR (l : List Int) (e : Int) : Nat → List V → Nat → Option Vc.Loop := noKeep
def alref03_Reader_TextR : List V → List Entry → Option Done
  | [⟨false, [.ptr n1 n2]⟩], [.obj [.psl false t3 l3, .int .i64 e]] => if h3 : t3 = tU8 then cond (Nat.beq n1 0 && Nat.beq n2 0) (some (dref03_Reader_TextR (h3 ▸ l3 : List (Ty.den tU8)) e)) none else none
  | _, _ => none
theorem alref03_Reader_TextR_eq {args : List V} {es : List Entry} {d : Done} (h : alref03_Reader_TextR args es = some d) : ∃ l e, args = arref03_Reader_TextR l e ∧ es = esref03_Reader_TextR l e ∧ d = dref03_Reader_TextR l e := by
  unfold alref03_Reader_TextR at h
  split at h
  · split at h <;> first | (cases h; done) | skip
    rename_i ht; subst ht
    obtain ⟨hb, hd⟩ := cond_some h; simp only [Bool.and_eq_true, Nat.beq_eq] at hb; (try obtain ⟨rfl, rfl⟩ := hb); subst hd; (try subst_vars); exact ⟨_, _, rfl, rfl, rfl⟩
  · cases h
def Fref03_Reader_Text (args : List V) (es : List Entry) : Option Done := orE (alref03_Reader_TextR args es) (none)
def sref03_Reader_Text : Vc.Sum := .gen Fref03_Reader_Text
def Qref03_Reader_Text : List (Nat × Ent) := (52, .sum sref03_Reader_Text) :: Qref03_Reader_Num
def dref03_Reader_CountR (l : List Int) (e : Int) (m : Int) : Done := ⟨[], .one (.int .i64 (U.rCount m (l, e)).1), [.obj [.psl false tU8 ((U.rCount m (l, e)).2).1, .int .i64 ((U.rCount m (l, e)).2).2]], []⟩
def arref03_Reader_CountR (l : List Int) (e : Int) (m : Int) : List V := [⟨false, [.ptr 0 0]⟩, ⟨false, [.int .i64 m]⟩]
def esref03_Reader_CountR (l : List Int) (e : Int) (m : Int) : List Entry := [.obj [.psl false tU8 l, .int .i64 e]]
def Lref03_Reader_CountR (l : List Int) (e : Int) (m : Int) : Nat → List V → Nat → Option Vc.Loop := noKeep
def alref03_Reader_CountR : List V → List Entry → Option Done
  | [⟨false, [.ptr n1 n2]⟩, ⟨false, [.int .i64 m]⟩], [.obj [.psl false t3 l3, .int .i64 e]] => if h3 : t3 = tU8 then cond (Nat.beq n1 0 && Nat.beq n2 0) (some (dref03_Reader_CountR (h3 ▸ l3 : List (Ty.den tU8)) e m)) none else none
  | _, _ => none
theorem alref03_Reader_CountR_eq {args : List V} {es : List Entry} {d : Done} (h : alref03_Reader_CountR args es = some d) : ∃ l e m, args = arref03_Reader_CountR l e m ∧ es = esref03_Reader_CountR l e m ∧ d = dref03_Reader_CountR l e m := by
  unfold alref03_Reader_CountR at h
  split at h
  · split at h <;> first | (cases h; done) | skip
    rename_i ht; subst ht
    obtain ⟨hb, hd⟩ := cond_some h; simp only [Bool.and_eq_true, Nat.beq_eq] at hb; (try obtain ⟨rfl, rfl⟩ := hb); subst hd; (try subst_vars); exact ⟨_, _, _, rfl, rfl, rfl⟩
  · cases h
def Fref03_Reader_Count (args : List V) (es : List Entry) : Option Done := orE (alref03_Reader_CountR args es) (none)
def sref03_Reader_Count : Vc.Sum := .gen Fref03_Reader_Count
def Qref03_Reader_Count : List (Nat × Ent) := (53, .sum sref03_Reader_Count) :: Qref03_Reader_Text
def dref03_Reader_FailR (l : List Int) (e : Int) (x : Bool) : Done := ⟨[], .tup [], [.obj [.psl false tU8 (U.rFail x (l, e)).1, .int .i64 (U.rFail x (l, e)).2]], []⟩
def arref03_Reader_FailR (l : List Int) (e : Int) (x : Bool) : List V := [⟨false, [.ptr 0 0]⟩, ⟨false, [.bool x]⟩]
def esref03_Reader_FailR (l : List Int) (e : Int) (x : Bool) : List Entry := [.obj [.psl false tU8 l, .int .i64 e]]
def Lref03_Reader_FailR (l : List Int) (e : Int) (x : Bool) : Nat → List V → Nat → Option Vc.Loop := noKeep
def alref03_Reader_FailR : List V → List Entry → Option Done
  | [⟨false, [.ptr n1 n2]⟩, ⟨false, [.bool x]⟩], [.obj [.psl false t3 l3, .int .i64 e]] => if h3 : t3 = tU8 then cond (Nat.beq n1 0 && Nat.beq n2 0) (some (dref03_Reader_FailR (h3 ▸ l3 : List (Ty.den tU8)) e x)) none else none
  | _, _ => none
theorem alref03_Reader_FailR_eq {args : List V} {es : List Entry} {d : Done} (h : alref03_Reader_FailR args es = some d) : ∃ l e x, args = arref03_Reader_FailR l e x ∧ es = esref03_Reader_FailR l e x ∧ d = dref03_Reader_FailR l e x := by
  unfold alref03_Reader_FailR at h
  split at h
  · split at h <;> first | (cases h; done) | skip
    rename_i ht; subst ht
    obtain ⟨hb, hd⟩ := cond_some h; simp only [Bool.and_eq_true, Nat.beq_eq] at hb; (try obtain ⟨rfl, rfl⟩ := hb); subst hd; (try subst_vars); exact ⟨_, _, _, rfl, rfl, rfl⟩
  · cases h
def Fref03_Reader_Fail (args : List V) (es : List Entry) : Option Done := orE (alref03_Reader_FailR args es) (none)
def sref03_Reader_Fail : Vc.Sum := .gen Fref03_Reader_Fail
def Qref03_Reader_Fail : List (Nat × Ent) := (51, .sum sref03_Reader_Fail) :: Qref03_Reader_Count
def dpack_Reader_DoneR (l : List Int) (e : Int) : Done := ⟨[], .one (.int .i64 (U.rDone (l, e))), [.obj [.psl false tU8 (U.rFail (decide (l.length > 0)) (l, e)).1, .int .i64 (U.rFail (decide (l.length > 0)) (l, e)).2]], []⟩
def arpack_Reader_DoneR (l : List Int) (e : Int) : List V := [⟨false, [.ptr 0 0]⟩]
def espack_Reader_DoneR (l : List Int) (e : Int) : List Entry := [.obj [.psl false tU8 l, .int .i64 e]]
def Lpack_Reader_DoneR (l : List Int) (e : Int) : Nat → List V → Nat → Option Vc.Loop := noKeep
def alpack_Reader_DoneR : List V → List Entry → Option Done
  | [⟨false, [.ptr n1 n2]⟩], [.obj [.psl false t3 l3, .int .i64 e]] => if h3 : t3 = tU8 then cond (Nat.beq n1 0 && Nat.beq n2 0) (some (dpack_Reader_DoneR (h3 ▸ l3 : List (Ty.den tU8)) e)) none else none
  | _, _ => none
theorem alpack_Reader_DoneR_eq {args : List V} {es : List Entry} {d : Done} (h : alpack_Reader_DoneR args es = some d) : ∃ l e, args = arpack_Reader_DoneR l e ∧ es = espack_Reader_DoneR l e ∧ d = dpack_Reader_DoneR l e := by
  unfold alpack_Reader_DoneR at h
  split at h
  · split at h <;> first | (cases h; done) | skip
    rename_i ht; subst ht
    obtain ⟨hb, hd⟩ := cond_some h; simp only [Bool.and_eq_true, Nat.beq_eq] at hb; (try obtain ⟨rfl, rfl⟩ := hb); subst hd; (try subst_vars); exact ⟨_, _, rfl, rfl, rfl⟩
  · cases h
def Fpack_Reader_Done (args : List V) (es : List Entry) : Option Done := orE (alpack_Reader_DoneR args es) (none)
def spack_Reader_Done : Vc.Sum := .gen Fpack_Reader_Done
def Qpack_Reader_Done : List (Nat × Ent) := (24, .sum spack_Reader_Done) :: Qref03_Reader_Fail
def dref03_Reader_DoneR (l : List Int) (e : Int) : Done := ⟨[], .one (.int .i64 (U.rDone (l, e))), [.obj [.psl false tU8 ((l, e)).1, .int .i64 ((l, e)).2]], []⟩
def arref03_Reader_DoneR (l : List Int) (e : Int) : List V := [⟨false, [.ptr 0 0]⟩]
def esref03_Reader_DoneR (l : List Int) (e : Int) : List Entry := [.obj [.psl false tU8 l, .int .i64 e]]
def Lref03_Reader_DoneR (l : List Int) (e : Int) : Nat → List V → Nat → Option Vc.Loop := noKeep
def alref03_Reader_DoneR : List V → List Entry → Option Done
  | [⟨false, [.ptr n1 n2]⟩], [.obj [.psl false t3 l3, .int .i64 e]] => if h3 : t3 = tU8 then cond (Nat.beq n1 0 && Nat.beq n2 0) (some (dref03_Reader_DoneR (h3 ▸ l3 : List (Ty.den tU8)) e)) none else none
  | _, _ => none
theorem alref03_Reader_DoneR_eq {args : List V} {es : List Entry} {d : Done} (h : alref03_Reader_DoneR args es = some d) : ∃ l e, args = arref03_Reader_DoneR l e ∧ es = esref03_Reader_DoneR l e ∧ d = dref03_Reader_DoneR l e := by
  unfold alref03_Reader_DoneR at h
  split at h
  · split at h <;> first | (cases h; done) | skip
    rename_i ht; subst ht
    obtain ⟨hb, hd⟩ := cond_some h; simp only [Bool.and_eq_true, Nat.beq_eq] at hb; (try obtain ⟨rfl, rfl⟩ := hb); subst hd; (try subst_vars); exact ⟨_, _, rfl, rfl, rfl⟩
  · cases h
def Fref03_Reader_Done (args : List V) (es : List Entry) : Option Done := orE (alref03_Reader_DoneR args es) (none)
def sref03_Reader_Done : Vc.Sum := .gen Fref03_Reader_Done
def Qref03_Reader_Done : List (Nat × Ent) := (26, .sum sref03_Reader_Done) :: Qpack_Reader_Done
def dref03_bytes (n : Int) (size : Int) : Done := ⟨[1 ≤ size ∧ size ≤ 8, 0 ≤ n], .one (.psl true (.int .u8) (U.beN size.toNat n)), [], []⟩
def sref03_bytes : Vc.Sum := .pure [.int .i64, .int .i64] false fun x => dref03_bytes x.1 x.2
def Lref03_bytes (n : Int) (size : Int) : Nat → List V → Nat → Option Vc.Loop := fun f v k => cond (Nat.beq f 57 && Nat.beq k 3) (some (lpref03_bytes_3 n size)) <| none
def Qref03_bytes : List (Nat × Ent) := (57, .sum sref03_bytes) :: Qref03_Reader_Done
def dref03_Num (b : List Int) (n : Int) : Done := ⟨[b.length ≤ 1000000000000], .one (.psl true (.int .u8) (b ++ U.num1 n)), [], []⟩
def sref03_Num : Vc.Sum := .pure [tBytes, .int .i64] false fun x => dref03_Num x.1 x.2
def Lref03_Num (b : List Int) (n : Int) : Nat → List V → Nat → Option Vc.Loop := noKeep
def Qref03_Num : List (Nat × Ent) := (31, .sum sref03_Num) :: Qref03_bytes
def dref03_Text (b : List Int) (s : List Int) : Done := ⟨[b.length ≤ 1000000000000], .one (.psl true (.int .u8) (b ++ U.text1 s)), [], []⟩
def sref03_Text : Vc.Sum := .pure [tBytes, .str] false fun x => dref03_Text x.1 x.2
def Lref03_Text (b : List Int) (s : List Int) : Nat → List V → Nat → Option Vc.Loop := noKeep
def Qref03_Text : List (Nat × Ent) := (33, .sum sref03_Text) :: Qref03_Num
def dref03_Same (a : List Int) (b : List Int) : Done := ⟨[], .one (.bool (decide (a = b))), [], []⟩
def sref03_Same : Vc.Sum := .pure [tBytes, tBytes] false fun x => dref03_Same x.1 x.2
def Lref03_Same (a : List Int) (b : List Int) : Nat → List V → Nat → Option Vc.Loop := noKeep
def Qref03_Same : List (Nat × Ent) := (13, .sum sref03_Same) :: Qref03_Text
end Go.Proofs.YtllmhikoaklpbaaDoor

set_option maxRecDepth 100000
set_option linter.unusedVariables false
namespace Go.Proofs.YtllmhikoaklpbaaDoor
open Go.Vc
def vcpack_wideO (b : List Int) (n : Int) (size : Int) : Prop := ∃ (x0 : List Int × Int), (U.stpack_wide_2 b n size b (IntKind.i64.wrap (size.sub (1 : Int))) = U.stpack_wide_2 b n size x0.1 x0.2 ∧ U.Ipack_wide_2 b n size x0.1 x0.2) ∧ ∀ (x : List Int × Int), U.Ipack_wide_2 b n size x.1 x.2 → bif decide (x.2 ≥ (0 : Int)) then (0 : Int) ≤ IntKind.i64.wrap (Int.mul (8 : Int) x.2) ∧ (x.1.length.add ((1
 : Nat))).mul (1 : Nat) ≤ (140737488355328 : Nat) ∧ x.1.length.add ((1 : Nat)) ≤ maxLen ∧ ∃ (y : List Int × Int), U.stpack_wide_2 b n size (x.1.append ([(0 : Int)].set (0 : Nat) (IntKind.u8.wrap (n.fdiv (Int.pow (2 : Int) (if (IntKind.i64.wrap (Int.mul (8 : Int) x.2)).toNat ≤ IntKind.u64.bits then (IntKind.i64.wrap (Int.mul (8 : Int) x.2)).toNat else IntKind.u64.bits)))))) (IntKind.i64.wrap (x.2.sub
 (1 : Int))) = U.stpack_wide_2 b n size y.1 y.2 ∧ U.Ipack_wide_2 b n size y.1 y.2 ∧ (y.2.add (1 : Int)).toNat < (x.2.add (1 : Int)).toNat else x.1 = b.append (U.beN size.toNat n) ∧ True
def vcpack_Num (b : List Int) (l : List Int) : Prop := ∀ (nb : Bool), (nb = true → b.length = (0 : Nat)) → (false = true → nb = true) → bif nb then ∃ (x0 : List Int × Int), (U.stpack_Num_3 b l [] (0 : Int) = U.stpack_Num_3 b l x0.1 x0.2 ∧ U.Ipack_Num_3 b l x0.1 x0.2) ∧ ∀ (x : List Int × Int), U.Ipack_Num_3 b l x.1 x.2 → bif decide (x.2 < (↑l.length : Int)) then (0 : Int) ≤ x.2 ∧ x.2 < (↑l.length :
 Int) ∧ ((1 : Int) ≤ (8 : Int) ∧ (8 : Int) ≤ (8 : Int)) ∧ x.1.length ≤ (2000000000000 : Nat) ∧ (0 : Int) ≤ IntKind.u64.wrap (minI (maxI (l.getD x.2.toNat (0 : Int)) (0 : Int)) (4611686018427387904 : Int)) ∧ ∃ (y : List Int × Int), U.stpack_Num_3 b l (x.1.append (U.beN (8 : Nat) (IntKind.u64.wrap (minI (maxI (l.getD x.2.toNat (0 : Int)) (0 : Int)) (4611686018427387904 : Int))))) (IntKind.i64.wrap
 (x.2.add (1 : Int))) = U.stpack_Num_3 b l y.1 y.2 ∧ U.Ipack_Num_3 b l y.1 y.2 ∧ l.length.sub y.2.toNat < l.length.sub x.2.toNat else x.1 = b.append (U.nums l) ∧ True else (Nat.add (0 : Nat) b.length).mul (1 : Nat) ≤ (140737488355328 : Nat) ∧ Nat.add (0 : Nat) b.length ≤ maxLen ∧ ∃ (x0 : List Int × Int), (U.stpack_Num_3 b l b (0 : Int) = U.stpack_Num_3 b l x0.1 x0.2 ∧ U.Ipack_Num_3 b l x0.1 x0.2) ∧
 ∀ (x : List Int × Int), U.Ipack_Num_3 b l x.1 x.2 → bif decide (x.2 < (↑l.length : Int)) then (0 : Int) ≤ x.2 ∧ x.2 < (↑l.length : Int) ∧ ((1 : Int) ≤ (8 : Int) ∧ (8 : Int) ≤ (8 : Int)) ∧ x.1.length ≤ (2000000000000 : Nat) ∧ (0 : Int) ≤ IntKind.u64.wrap (minI (maxI (l.getD x.2.toNat (0 : Int)) (0 : Int)) (4611686018427387904 : Int)) ∧ ∃ (y : List Int × Int), U.stpack_Num_3 b l (x.1.append (U.beN (8
 : Nat) (IntKind.u64.wrap (minI (maxI (l.getD x.2.toNat (0 : Int)) (0 : Int)) (4611686018427387904 : Int))))) (IntKind.i64.wrap (x.2.add (1 : Int))) = U.stpack_Num_3 b l y.1 y.2 ∧ U.Ipack_Num_3 b l y.1 y.2 ∧ l.length.sub y.2.toNat < l.length.sub x.2.toNat else x.1 = b.append (U.nums l) ∧ True
def vcpack_Text (b : List Int) (l : List (List Int)) : Prop := ∀ (nb : Bool), (nb = true → b.length = (0 : Nat)) → (false = true → nb = true) → bif nb then ∃ (x0 : List Int × Int), (U.stpack_Text_3 b l [] (0 : Int) = U.stpack_Text_3 b l x0.1 x0.2 ∧ U.Ipack_Text_3 b l x0.1 x0.2) ∧ ∀ (x : List Int × Int), U.Ipack_Text_3 b l x.1 x.2 → bif decide (x.2 < (↑l.length : Int)) then (0 : Int) ≤ x.2 ∧ x.2 <
 (↑l.length : Int) ∧ (0 : Int) ≤ (0 : Int) ∧ (0 : Int) ≤ minI (↑(l.getD x.2.toNat []).length : Int) (4096 : Int) ∧ minI (↑(l.getD x.2.toNat []).length : Int) (4096 : Int) ≤ (↑(l.getD x.2.toNat []).length : Int) ∧ ((1 : Int) ≤ (4 : Int) ∧ (4 : Int) ≤ (8 : Int)) ∧ x.1.length ≤ (2000000000000 : Nat) ∧ (0 : Int) ≤ IntKind.u64.wrap (↑(List.take ((minI (↑(l.getD x.2.toNat []).length : Int) (4096 :
 Int)).toNat.sub (0 : Nat)) (List.drop (0 : Nat) (l.getD x.2.toNat []))).length : Int) ∧ ((x.1.append (U.beN (4 : Nat) (IntKind.u64.wrap (↑(List.take ((minI (↑(l.getD x.2.toNat []).length : Int) (4096 : Int)).toNat.sub (0 : Nat)) (List.drop (0 : Nat) (l.getD x.2.toNat []))).length : Int)))).length.add (List.take ((minI (↑(l.getD x.2.toNat []).length : Int) (4096 : Int)).toNat.sub (0 : Nat))
 (List.drop (0 : Nat) (l.getD x.2.toNat []))).length).mul (1 : Nat) ≤ (140737488355328 : Nat) ∧ (x.1.append (U.beN (4 : Nat) (IntKind.u64.wrap (↑(List.take ((minI (↑(l.getD x.2.toNat []).length : Int) (4096 : Int)).toNat.sub (0 : Nat)) (List.drop (0 : Nat) (l.getD x.2.toNat []))).length : Int)))).length.add (List.take ((minI (↑(l.getD x.2.toNat []).length : Int) (4096 : Int)).toNat.sub (0 : Nat))
 (List.drop (0 : Nat) (l.getD x.2.toNat []))).length ≤ maxLen ∧ ∃ (y : List Int × Int), U.stpack_Text_3 b l ((x.1.append (U.beN (4 : Nat) (IntKind.u64.wrap (↑(List.take ((minI (↑(l.getD x.2.toNat []).length : Int) (4096 : Int)).toNat.sub (0 : Nat)) (List.drop (0 : Nat) (l.getD x.2.toNat []))).length : Int)))).append (List.take ((minI (↑(l.getD x.2.toNat []).length : Int) (4096 : Int)).toNat.sub (0 :
 Nat)) (List.drop (0 : Nat) (l.getD x.2.toNat [])))) (IntKind.i64.wrap (x.2.add (1 : Int))) = U.stpack_Text_3 b l y.1 y.2 ∧ U.Ipack_Text_3 b l y.1 y.2 ∧ l.length.sub y.2.toNat < l.length.sub x.2.toNat else x.1 = b.append (U.texts l) ∧ True else (Nat.add (0 : Nat) b.length).mul (1 : Nat) ≤ (140737488355328 : Nat) ∧ Nat.add (0 : Nat) b.length ≤ maxLen ∧ ∃ (x0 : List Int × Int), (U.stpack_Text_3 b l b
 (0 : Int) = U.stpack_Text_3 b l x0.1 x0.2 ∧ U.Ipack_Text_3 b l x0.1 x0.2) ∧ ∀ (x : List Int × Int), U.Ipack_Text_3 b l x.1 x.2 → bif decide (x.2 < (↑l.length : Int)) then (0 : Int) ≤ x.2 ∧ x.2 < (↑l.length : Int) ∧ (0 : Int) ≤ (0 : Int) ∧ (0 : Int) ≤ minI (↑(l.getD x.2.toNat []).length : Int) (4096 : Int) ∧ minI (↑(l.getD x.2.toNat []).length : Int) (4096 : Int) ≤ (↑(l.getD x.2.toNat []).length :
 Int) ∧ ((1 : Int) ≤ (4 : Int) ∧ (4 : Int) ≤ (8 : Int)) ∧ x.1.length ≤ (2000000000000 : Nat) ∧ (0 : Int) ≤ IntKind.u64.wrap (↑(List.take ((minI (↑(l.getD x.2.toNat []).length : Int) (4096 : Int)).toNat.sub (0 : Nat)) (List.drop (0 : Nat) (l.getD x.2.toNat []))).length : Int) ∧ ((x.1.append (U.beN (4 : Nat) (IntKind.u64.wrap (↑(List.take ((minI (↑(l.getD x.2.toNat []).length : Int) (4096 :
 Int)).toNat.sub (0 : Nat)) (List.drop (0 : Nat) (l.getD x.2.toNat []))).length : Int)))).length.add (List.take ((minI (↑(l.getD x.2.toNat []).length : Int) (4096 : Int)).toNat.sub (0 : Nat)) (List.drop (0 : Nat) (l.getD x.2.toNat []))).length).mul (1 : Nat) ≤ (140737488355328 : Nat) ∧ (x.1.append (U.beN (4 : Nat) (IntKind.u64.wrap (↑(List.take ((minI (↑(l.getD x.2.toNat []).length : Int) (4096 :
 Int)).toNat.sub (0 : Nat)) (List.drop (0 : Nat) (l.getD x.2.toNat []))).length : Int)))).length.add (List.take ((minI (↑(l.getD x.2.toNat []).length : Int) (4096 : Int)).toNat.sub (0 : Nat)) (List.drop (0 : Nat) (l.getD x.2.toNat []))).length ≤ maxLen ∧ ∃ (y : List Int × Int), U.stpack_Text_3 b l ((x.1.append (U.beN (4 : Nat) (IntKind.u64.wrap (↑(List.take ((minI (↑(l.getD x.2.toNat []).length :
 Int) (4096 : Int)).toNat.sub (0 : Nat)) (List.drop (0 : Nat) (l.getD x.2.toNat []))).length : Int)))).append (List.take ((minI (↑(l.getD x.2.toNat []).length : Int) (4096 : Int)).toNat.sub (0 : Nat)) (List.drop (0 : Nat) (l.getD x.2.toNat [])))) (IntKind.i64.wrap (x.2.add (1 : Int))) = U.stpack_Text_3 b l y.1 y.2 ∧ U.Ipack_Text_3 b l y.1 y.2 ∧ l.length.sub y.2.toNat < l.length.sub x.2.toNat else
 x.1 = b.append (U.texts l) ∧ True
def vcpack_number (b : List Int) : Prop := ∃ (x0 : Int × Int), (U.stpack_number_2 b (0 : Int) (0 : Int) = U.stpack_number_2 b x0.1 x0.2 ∧ U.Ipack_number_2 b x0.1 x0.2) ∧ ∀ (x : Int × Int), U.Ipack_number_2 b x.1 x.2 → bif decide (x.2 < (↑b.length : Int)) then (0 : Int) ≤ x.2 ∧ x.2 < (↑b.length : Int) ∧ (0 : Int) ≤ (8 : Int) ∧ ∃ (y : Int × Int), U.stpack_number_2 b (IntKind.u64.wrap (↑((BitVec.ofInt
 IntKind.u64.bits (IntKind.u64.wrap (x.1.mul (Int.pow (2 : Int) (if (8 : Nat) ≤ IntKind.u64.bits then (8 : Nat) else IntKind.u64.bits))))).or (BitVec.ofInt IntKind.u64.bits (IntKind.u64.wrap (b.getD x.2.toNat (0 : Int))))).toNat : Int)) (IntKind.i64.wrap (x.2.add (1 : Int))) = U.stpack_number_2 b y.1 y.2 ∧ U.Ipack_number_2 b y.1 y.2 ∧ b.length.sub y.2.toNat < b.length.sub x.2.toNat else x.1 = U.valB
 b ∧ True
def vcpack_Reader_NumR (l : List Int) (e : Int) : Prop := bif bif decide ((↑l.length : Int) < (8 : Int)) then decide (e = (0 : Int)) else false then bif (2 : Int) != (0 : Int) then (0 : Int) = (U.rNum (l, e)).1 ∧ l = (U.rNum (l, e)).2.1 ∧ (2 : Int) = (U.rNum (l, e)).2.2 ∧ True else (0 : Int) ≤ (0 : Int) ∧ (0 : Int) ≤ (8 : Int) ∧ (8 : Int) ≤ (↑l.length : Int) ∧ (0 : Int) ≤ (8 : Int) ∧ (8 : Int) ≤
 (↑l.length : Int) ∧ (↑l.length : Int) ≤ (↑l.length : Int) ∧ (List.take ((8 : Nat).sub (0 : Nat)) (List.drop (0 : Nat) l)).length ≤ (8 : Nat) ∧ bif bif decide (U.valB (List.take ((8 : Nat).sub (0 : Nat)) (List.drop (0 : Nat) l)) > (4611686018427387904 : Int)) then decide ((2 : Int) = (0 : Int)) else false then bif (3 : Int) != (0 : Int) then (0 : Int) = (U.rNum (l, e)).1 ∧ List.take ((↑l.length :
 Int).toNat.sub (8 : Nat)) (List.drop (8 : Nat) l) = (U.rNum (l, e)).2.1 ∧ (3 : Int) = (U.rNum (l, e)).2.2 ∧ True else IntKind.i64.wrap (U.valB (List.take ((8 : Nat).sub (0 : Nat)) (List.drop (0 : Nat) l))) = (U.rNum (l, e)).1 ∧ List.take ((↑l.length : Int).toNat.sub (8 : Nat)) (List.drop (8 : Nat) l) = (U.rNum (l, e)).2.1 ∧ (3 : Int) = (U.rNum (l, e)).2.2 ∧ True else bif (2 : Int) != (0 : Int) then
 (0 : Int) = (U.rNum (l, e)).1 ∧ List.take ((↑l.length : Int).toNat.sub (8 : Nat)) (List.drop (8 : Nat) l) = (U.rNum (l, e)).2.1 ∧ (2 : Int) = (U.rNum (l, e)).2.2 ∧ True else IntKind.i64.wrap (U.valB (List.take ((8 : Nat).sub (0 : Nat)) (List.drop (0 : Nat) l))) = (U.rNum (l, e)).1 ∧ List.take ((↑l.length : Int).toNat.sub (8 : Nat)) (List.drop (8 : Nat) l) = (U.rNum (l, e)).2.1 ∧ (2 : Int) = (U.rNum
 (l, e)).2.2 ∧ True else bif e != (0 : Int) then (0 : Int) = (U.rNum (l, e)).1 ∧ l = (U.rNum (l, e)).2.1 ∧ e = (U.rNum (l, e)).2.2 ∧ True else (0 : Int) ≤ (0 : Int) ∧ (0 : Int) ≤ (8 : Int) ∧ (8 : Int) ≤ (↑l.length : Int) ∧ (0 : Int) ≤ (8 : Int) ∧ (8 : Int) ≤ (↑l.length : Int) ∧ (↑l.length : Int) ≤ (↑l.length : Int) ∧ (List.take ((8 : Nat).sub (0 : Nat)) (List.drop (0 : Nat) l)).length ≤ (8 : Nat) ∧
 bif bif decide (U.valB (List.take ((8 : Nat).sub (0 : Nat)) (List.drop (0 : Nat) l)) > (4611686018427387904 : Int)) then decide (e = (0 : Int)) else false then bif (3 : Int) != (0 : Int) then (0 : Int) = (U.rNum (l, e)).1 ∧ List.take ((↑l.length : Int).toNat.sub (8 : Nat)) (List.drop (8 : Nat) l) = (U.rNum (l, e)).2.1 ∧ (3 : Int) = (U.rNum (l, e)).2.2 ∧ True else IntKind.i64.wrap (U.valB (List.take
 ((8 : Nat).sub (0 : Nat)) (List.drop (0 : Nat) l))) = (U.rNum (l, e)).1 ∧ List.take ((↑l.length : Int).toNat.sub (8 : Nat)) (List.drop (8 : Nat) l) = (U.rNum (l, e)).2.1 ∧ (3 : Int) = (U.rNum (l, e)).2.2 ∧ True else bif e != (0 : Int) then (0 : Int) = (U.rNum (l, e)).1 ∧ List.take ((↑l.length : Int).toNat.sub (8 : Nat)) (List.drop (8 : Nat) l) = (U.rNum (l, e)).2.1 ∧ e = (U.rNum (l, e)).2.2 ∧ True
 else IntKind.i64.wrap (U.valB (List.take ((8 : Nat).sub (0 : Nat)) (List.drop (0 : Nat) l))) = (U.rNum (l, e)).1 ∧ List.take ((↑l.length : Int).toNat.sub (8 : Nat)) (List.drop (8 : Nat) l) = (U.rNum (l, e)).2.1 ∧ e = (U.rNum (l, e)).2.2 ∧ True
def vcpack_Reader_TextR (l : List Int) (e : Int) : Prop := bif bif decide ((↑l.length : Int) < (4 : Int)) then decide (e = (0 : Int)) else false then bif (2 : Int) != (0 : Int) then [] = (U.rText (l, e)).1 ∧ l = (U.rText (l, e)).2.1 ∧ (2 : Int) = (U.rText (l, e)).2.2 ∧ True else (0 : Int) ≤ (0 : Int) ∧ (0 : Int) ≤ (4 : Int) ∧ (4 : Int) ≤ (↑l.length : Int) ∧ (0 : Int) ≤ (4 : Int) ∧ (4 : Int) ≤
 (↑l.length : Int) ∧ (↑l.length : Int) ≤ (↑l.length : Int) ∧ (List.take ((4 : Nat).sub (0 : Nat)) (List.drop (0 : Nat) l)).length ≤ (8 : Nat) ∧ bif bif decide (IntKind.i64.wrap (U.valB (List.take ((4 : Nat).sub (0 : Nat)) (List.drop (0 : Nat) l))) > (4096 : Int)) then decide ((2 : Int) = (0 : Int)) else false then bif bif decide ((↑(List.take ((↑l.length : Int).toNat.sub (4 : Nat)) (List.drop (4 :
 Nat) l)).length : Int) < IntKind.i64.wrap (U.valB (List.take ((4 : Nat).sub (0 : Nat)) (List.drop (0 : Nat) l)))) then decide ((4 : Int) = (0 : Int)) else false then bif (2 : Int) != (0 : Int) then [] = (U.rText (l, e)).1 ∧ List.take ((↑l.length : Int).toNat.sub (4 : Nat)) (List.drop (4 : Nat) l) = (U.rText (l, e)).2.1 ∧ (2 : Int) = (U.rText (l, e)).2.2 ∧ True else (0 : Int) ≤ (0 : Int) ∧ (0 : Int)
 ≤ IntKind.i64.wrap (U.valB (List.take ((4 : Nat).sub (0 : Nat)) (List.drop (0 : Nat) l))) ∧ IntKind.i64.wrap (U.valB (List.take ((4 : Nat).sub (0 : Nat)) (List.drop (0 : Nat) l))) ≤ (↑(List.take ((↑l.length : Int).toNat.sub (4 : Nat)) (List.drop (4 : Nat) l)).length : Int) ∧ (0 : Int) ≤ IntKind.i64.wrap (U.valB (List.take ((4 : Nat).sub (0 : Nat)) (List.drop (0 : Nat) l))) ∧ IntKind.i64.wrap
 (U.valB (List.take ((4 : Nat).sub (0 : Nat)) (List.drop (0 : Nat) l))) ≤ (↑(List.take ((↑l.length : Int).toNat.sub (4 : Nat)) (List.drop (4 : Nat) l)).length : Int) ∧ (↑(List.take ((↑l.length : Int).toNat.sub (4 : Nat)) (List.drop (4 : Nat) l)).length : Int) ≤ (↑(List.take ((↑l.length : Int).toNat.sub (4 : Nat)) (List.drop (4 : Nat) l)).length : Int) ∧ List.take ((IntKind.i64.wrap (U.valB
 (List.take ((4 : Nat).sub (0 : Nat)) (List.drop (0 : Nat) l)))).toNat.sub (0 : Nat)) (List.drop (0 : Nat) (List.take ((↑l.length : Int).toNat.sub (4 : Nat)) (List.drop (4 : Nat) l))) = (U.rText (l, e)).1 ∧ List.take ((↑(List.take ((↑l.length : Int).toNat.sub (4 : Nat)) (List.drop (4 : Nat) l)).length : Int).toNat.sub (IntKind.i64.wrap (U.valB (List.take ((4 : Nat).sub (0 : Nat)) (List.drop (0 :
 Nat) l)))).toNat) (List.drop (IntKind.i64.wrap (U.valB (List.take ((4 : Nat).sub (0 : Nat)) (List.drop (0 : Nat) l)))).toNat (List.take ((↑l.length : Int).toNat.sub (4 : Nat)) (List.drop (4 : Nat) l))) = (U.rText (l, e)).2.1 ∧ (2 : Int) = (U.rText (l, e)).2.2 ∧ True else bif (4 : Int) != (0 : Int) then [] = (U.rText (l, e)).1 ∧ List.take ((↑l.length : Int).toNat.sub (4 : Nat)) (List.drop (4 : Nat)
 l) = (U.rText (l, e)).2.1 ∧ (4 : Int) = (U.rText (l, e)).2.2 ∧ True else (0 : Int) ≤ (0 : Int) ∧ (0 : Int) ≤ IntKind.i64.wrap (U.valB (List.take ((4 : Nat).sub (0 : Nat)) (List.drop (0 : Nat) l))) ∧ IntKind.i64.wrap (U.valB (List.take ((4 : Nat).sub (0 : Nat)) (List.drop (0 : Nat) l))) ≤ (↑(List.take ((↑l.length : Int).toNat.sub (4 : Nat)) (List.drop (4 : Nat) l)).length : Int) ∧ (0 : Int) ≤
 IntKind.i64.wrap (U.valB (List.take ((4 : Nat).sub (0 : Nat)) (List.drop (0 : Nat) l))) ∧ IntKind.i64.wrap (U.valB (List.take ((4 : Nat).sub (0 : Nat)) (List.drop (0 : Nat) l))) ≤ (↑(List.take ((↑l.length : Int).toNat.sub (4 : Nat)) (List.drop (4 : Nat) l)).length : Int) ∧ (↑(List.take ((↑l.length : Int).toNat.sub (4 : Nat)) (List.drop (4 : Nat) l)).length : Int) ≤ (↑(List.take ((↑l.length :
 Int).toNat.sub (4 : Nat)) (List.drop (4 : Nat) l)).length : Int) ∧ List.take ((IntKind.i64.wrap (U.valB (List.take ((4 : Nat).sub (0 : Nat)) (List.drop (0 : Nat) l)))).toNat.sub (0 : Nat)) (List.drop (0 : Nat) (List.take ((↑l.length : Int).toNat.sub (4 : Nat)) (List.drop (4 : Nat) l))) = (U.rText (l, e)).1 ∧ List.take ((↑(List.take ((↑l.length : Int).toNat.sub (4 : Nat)) (List.drop (4 : Nat)
 l)).length : Int).toNat.sub (IntKind.i64.wrap (U.valB (List.take ((4 : Nat).sub (0 : Nat)) (List.drop (0 : Nat) l)))).toNat) (List.drop (IntKind.i64.wrap (U.valB (List.take ((4 : Nat).sub (0 : Nat)) (List.drop (0 : Nat) l)))).toNat (List.take ((↑l.length : Int).toNat.sub (4 : Nat)) (List.drop (4 : Nat) l))) = (U.rText (l, e)).2.1 ∧ (4 : Int) = (U.rText (l, e)).2.2 ∧ True else bif bif decide
 ((↑(List.take ((↑l.length : Int).toNat.sub (4 : Nat)) (List.drop (4 : Nat) l)).length : Int) < IntKind.i64.wrap (U.valB (List.take ((4 : Nat).sub (0 : Nat)) (List.drop (0 : Nat) l)))) then decide ((2 : Int) = (0 : Int)) else false then bif (2 : Int) != (0 : Int) then [] = (U.rText (l, e)).1 ∧ List.take ((↑l.length : Int).toNat.sub (4 : Nat)) (List.drop (4 : Nat) l) = (U.rText (l, e)).2.1 ∧ (2 :
 Int) = (U.rText (l, e)).2.2 ∧ True else (0 : Int) ≤ (0 : Int) ∧ (0 : Int) ≤ IntKind.i64.wrap (U.valB (List.take ((4 : Nat).sub (0 : Nat)) (List.drop (0 : Nat) l))) ∧ IntKind.i64.wrap (U.valB (List.take ((4 : Nat).sub (0 : Nat)) (List.drop (0 : Nat) l))) ≤ (↑(List.take ((↑l.length : Int).toNat.sub (4 : Nat)) (List.drop (4 : Nat) l)).length : Int) ∧ (0 : Int) ≤ IntKind.i64.wrap (U.valB (List.take ((4
 : Nat).sub (0 : Nat)) (List.drop (0 : Nat) l))) ∧ IntKind.i64.wrap (U.valB (List.take ((4 : Nat).sub (0 : Nat)) (List.drop (0 : Nat) l))) ≤ (↑(List.take ((↑l.length : Int).toNat.sub (4 : Nat)) (List.drop (4 : Nat) l)).length : Int) ∧ (↑(List.take ((↑l.length : Int).toNat.sub (4 : Nat)) (List.drop (4 : Nat) l)).length : Int) ≤ (↑(List.take ((↑l.length : Int).toNat.sub (4 : Nat)) (List.drop (4 : Nat)
 l)).length : Int) ∧ List.take ((IntKind.i64.wrap (U.valB (List.take ((4 : Nat).sub (0 : Nat)) (List.drop (0 : Nat) l)))).toNat.sub (0 : Nat)) (List.drop (0 : Nat) (List.take ((↑l.length : Int).toNat.sub (4 : Nat)) (List.drop (4 : Nat) l))) = (U.rText (l, e)).1 ∧ List.take ((↑(List.take ((↑l.length : Int).toNat.sub (4 : Nat)) (List.drop (4 : Nat) l)).length : Int).toNat.sub (IntKind.i64.wrap (U.valB
 (List.take ((4 : Nat).sub (0 : Nat)) (List.drop (0 : Nat) l)))).toNat) (List.drop (IntKind.i64.wrap (U.valB (List.take ((4 : Nat).sub (0 : Nat)) (List.drop (0 : Nat) l)))).toNat (List.take ((↑l.length : Int).toNat.sub (4 : Nat)) (List.drop (4 : Nat) l))) = (U.rText (l, e)).2.1 ∧ (2 : Int) = (U.rText (l, e)).2.2 ∧ True else bif (2 : Int) != (0 : Int) then [] = (U.rText (l, e)).1 ∧ List.take
 ((↑l.length : Int).toNat.sub (4 : Nat)) (List.drop (4 : Nat) l) = (U.rText (l, e)).2.1 ∧ (2 : Int) = (U.rText (l, e)).2.2 ∧ True else (0 : Int) ≤ (0 : Int) ∧ (0 : Int) ≤ IntKind.i64.wrap (U.valB (List.take ((4 : Nat).sub (0 : Nat)) (List.drop (0 : Nat) l))) ∧ IntKind.i64.wrap (U.valB (List.take ((4 : Nat).sub (0 : Nat)) (List.drop (0 : Nat) l))) ≤ (↑(List.take ((↑l.length : Int).toNat.sub (4 :
 Nat)) (List.drop (4 : Nat) l)).length : Int) ∧ (0 : Int) ≤ IntKind.i64.wrap (U.valB (List.take ((4 : Nat).sub (0 : Nat)) (List.drop (0 : Nat) l))) ∧ IntKind.i64.wrap (U.valB (List.take ((4 : Nat).sub (0 : Nat)) (List.drop (0 : Nat) l))) ≤ (↑(List.take ((↑l.length : Int).toNat.sub (4 : Nat)) (List.drop (4 : Nat) l)).length : Int) ∧ (↑(List.take ((↑l.length : Int).toNat.sub (4 : Nat)) (List.drop (4 :
 Nat) l)).length : Int) ≤ (↑(List.take ((↑l.length : Int).toNat.sub (4 : Nat)) (List.drop (4 : Nat) l)).length : Int) ∧ List.take ((IntKind.i64.wrap (U.valB (List.take ((4 : Nat).sub (0 : Nat)) (List.drop (0 : Nat) l)))).toNat.sub (0 : Nat)) (List.drop (0 : Nat) (List.take ((↑l.length : Int).toNat.sub (4 : Nat)) (List.drop (4 : Nat) l))) = (U.rText (l, e)).1 ∧ List.take ((↑(List.take ((↑l.length :
 Int).toNat.sub (4 : Nat)) (List.drop (4 : Nat) l)).length : Int).toNat.sub (IntKind.i64.wrap (U.valB (List.take ((4 : Nat).sub (0 : Nat)) (List.drop (0 : Nat) l)))).toNat) (List.drop (IntKind.i64.wrap (U.valB (List.take ((4 : Nat).sub (0 : Nat)) (List.drop (0 : Nat) l)))).toNat (List.take ((↑l.length : Int).toNat.sub (4 : Nat)) (List.drop (4 : Nat) l))) = (U.rText (l, e)).2.1 ∧ (2 : Int) = (U.rText
 (l, e)).2.2 ∧ True else bif e != (0 : Int) then [] = (U.rText (l, e)).1 ∧ l = (U.rText (l, e)).2.1 ∧ e = (U.rText (l, e)).2.2 ∧ True else (0 : Int) ≤ (0 : Int) ∧ (0 : Int) ≤ (4 : Int) ∧ (4 : Int) ≤ (↑l.length : Int) ∧ (0 : Int) ≤ (4 : Int) ∧ (4 : Int) ≤ (↑l.length : Int) ∧ (↑l.length : Int) ≤ (↑l.length : Int) ∧ (List.take ((4 : Nat).sub (0 : Nat)) (List.drop (0 : Nat) l)).length ≤ (8 : Nat) ∧ bif
 bif decide (IntKind.i64.wrap (U.valB (List.take ((4 : Nat).sub (0 : Nat)) (List.drop (0 : Nat) l))) > (4096 : Int)) then decide (e = (0 : Int)) else false then bif bif decide ((↑(List.take ((↑l.length : Int).toNat.sub (4 : Nat)) (List.drop (4 : Nat) l)).length : Int) < IntKind.i64.wrap (U.valB (List.take ((4 : Nat).sub (0 : Nat)) (List.drop (0 : Nat) l)))) then decide ((4 : Int) = (0 : Int)) else
 false then bif (2 : Int) != (0 : Int) then [] = (U.rText (l, e)).1 ∧ List.take ((↑l.length : Int).toNat.sub (4 : Nat)) (List.drop (4 : Nat) l) = (U.rText (l, e)).2.1 ∧ (2 : Int) = (U.rText (l, e)).2.2 ∧ True else (0 : Int) ≤ (0 : Int) ∧ (0 : Int) ≤ IntKind.i64.wrap (U.valB (List.take ((4 : Nat).sub (0 : Nat)) (List.drop (0 : Nat) l))) ∧ IntKind.i64.wrap (U.valB (List.take ((4 : Nat).sub (0 : Nat))
 (List.drop (0 : Nat) l))) ≤ (↑(List.take ((↑l.length : Int).toNat.sub (4 : Nat)) (List.drop (4 : Nat) l)).length : Int) ∧ (0 : Int) ≤ IntKind.i64.wrap (U.valB (List.take ((4 : Nat).sub (0 : Nat)) (List.drop (0 : Nat) l))) ∧ IntKind.i64.wrap (U.valB (List.take ((4 : Nat).sub (0 : Nat)) (List.drop (0 : Nat) l))) ≤ (↑(List.take ((↑l.length : Int).toNat.sub (4 : Nat)) (List.drop (4 : Nat) l)).length :
 Int) ∧ (↑(List.take ((↑l.length : Int).toNat.sub (4 : Nat)) (List.drop (4 : Nat) l)).length : Int) ≤ (↑(List.take ((↑l.length : Int).toNat.sub (4 : Nat)) (List.drop (4 : Nat) l)).length : Int) ∧ List.take ((IntKind.i64.wrap (U.valB (List.take ((4 : Nat).sub (0 : Nat)) (List.drop (0 : Nat) l)))).toNat.sub (0 : Nat)) (List.drop (0 : Nat) (List.take ((↑l.length : Int).toNat.sub (4 : Nat)) (List.drop
 (4 : Nat) l))) = (U.rText (l, e)).1 ∧ List.take ((↑(List.take ((↑l.length : Int).toNat.sub (4 : Nat)) (List.drop (4 : Nat) l)).length : Int).toNat.sub (IntKind.i64.wrap (U.valB (List.take ((4 : Nat).sub (0 : Nat)) (List.drop (0 : Nat) l)))).toNat) (List.drop (IntKind.i64.wrap (U.valB (List.take ((4 : Nat).sub (0 : Nat)) (List.drop (0 : Nat) l)))).toNat (List.take ((↑l.length : Int).toNat.sub (4 :
 Nat)) (List.drop (4 : Nat) l))) = (U.rText (l, e)).2.1 ∧ (2 : Int) = (U.rText (l, e)).2.2 ∧ True else bif (4 : Int) != (0 : Int) then [] = (U.rText (l, e)).1 ∧ List.take ((↑l.length : Int).toNat.sub (4 : Nat)) (List.drop (4 : Nat) l) = (U.rText (l, e)).2.1 ∧ (4 : Int) = (U.rText (l, e)).2.2 ∧ True else (0 : Int) ≤ (0 : Int) ∧ (0 : Int) ≤ IntKind.i64.wrap (U.valB (List.take ((4 : Nat).sub (0 : Nat))
 (List.drop (0 : Nat) l))) ∧ IntKind.i64.wrap (U.valB (List.take ((4 : Nat).sub (0 : Nat)) (List.drop (0 : Nat) l))) ≤ (↑(List.take ((↑l.length : Int).toNat.sub (4 : Nat)) (List.drop (4 : Nat) l)).length : Int) ∧ (0 : Int) ≤ IntKind.i64.wrap (U.valB (List.take ((4 : Nat).sub (0 : Nat)) (List.drop (0 : Nat) l))) ∧ IntKind.i64.wrap (U.valB (List.take ((4 : Nat).sub (0 : Nat)) (List.drop (0 : Nat) l)))
 ≤ (↑(List.take ((↑l.length : Int).toNat.sub (4 : Nat)) (List.drop (4 : Nat) l)).length : Int) ∧ (↑(List.take ((↑l.length : Int).toNat.sub (4 : Nat)) (List.drop (4 : Nat) l)).length : Int) ≤ (↑(List.take ((↑l.length : Int).toNat.sub (4 : Nat)) (List.drop (4 : Nat) l)).length : Int) ∧ List.take ((IntKind.i64.wrap (U.valB (List.take ((4 : Nat).sub (0 : Nat)) (List.drop (0 : Nat) l)))).toNat.sub (0 :
 Nat)) (List.drop (0 : Nat) (List.take ((↑l.length : Int).toNat.sub (4 : Nat)) (List.drop (4 : Nat) l))) = (U.rText (l, e)).1 ∧ List.take ((↑(List.take ((↑l.length : Int).toNat.sub (4 : Nat)) (List.drop (4 : Nat) l)).length : Int).toNat.sub (IntKind.i64.wrap (U.valB (List.take ((4 : Nat).sub (0 : Nat)) (List.drop (0 : Nat) l)))).toNat) (List.drop (IntKind.i64.wrap (U.valB (List.take ((4 : Nat).sub
 (0 : Nat)) (List.drop (0 : Nat) l)))).toNat (List.take ((↑l.length : Int).toNat.sub (4 : Nat)) (List.drop (4 : Nat) l))) = (U.rText (l, e)).2.1 ∧ (4 : Int) = (U.rText (l, e)).2.2 ∧ True else bif bif decide ((↑(List.take ((↑l.length : Int).toNat.sub (4 : Nat)) (List.drop (4 : Nat) l)).length : Int) < IntKind.i64.wrap (U.valB (List.take ((4 : Nat).sub (0 : Nat)) (List.drop (0 : Nat) l)))) then decide
 (e = (0 : Int)) else false then bif (2 : Int) != (0 : Int) then [] = (U.rText (l, e)).1 ∧ List.take ((↑l.length : Int).toNat.sub (4 : Nat)) (List.drop (4 : Nat) l) = (U.rText (l, e)).2.1 ∧ (2 : Int) = (U.rText (l, e)).2.2 ∧ True else (0 : Int) ≤ (0 : Int) ∧ (0 : Int) ≤ IntKind.i64.wrap (U.valB (List.take ((4 : Nat).sub (0 : Nat)) (List.drop (0 : Nat) l))) ∧ IntKind.i64.wrap (U.valB (List.take ((4 :
 Nat).sub (0 : Nat)) (List.drop (0 : Nat) l))) ≤ (↑(List.take ((↑l.length : Int).toNat.sub (4 : Nat)) (List.drop (4 : Nat) l)).length : Int) ∧ (0 : Int) ≤ IntKind.i64.wrap (U.valB (List.take ((4 : Nat).sub (0 : Nat)) (List.drop (0 : Nat) l))) ∧ IntKind.i64.wrap (U.valB (List.take ((4 : Nat).sub (0 : Nat)) (List.drop (0 : Nat) l))) ≤ (↑(List.take ((↑l.length : Int).toNat.sub (4 : Nat)) (List.drop (4
 : Nat) l)).length : Int) ∧ (↑(List.take ((↑l.length : Int).toNat.sub (4 : Nat)) (List.drop (4 : Nat) l)).length : Int) ≤ (↑(List.take ((↑l.length : Int).toNat.sub (4 : Nat)) (List.drop (4 : Nat) l)).length : Int) ∧ List.take ((IntKind.i64.wrap (U.valB (List.take ((4 : Nat).sub (0 : Nat)) (List.drop (0 : Nat) l)))).toNat.sub (0 : Nat)) (List.drop (0 : Nat) (List.take ((↑l.length : Int).toNat.sub (4
 : Nat)) (List.drop (4 : Nat) l))) = (U.rText (l, e)).1 ∧ List.take ((↑(List.take ((↑l.length : Int).toNat.sub (4 : Nat)) (List.drop (4 : Nat) l)).length : Int).toNat.sub (IntKind.i64.wrap (U.valB (List.take ((4 : Nat).sub (0 : Nat)) (List.drop (0 : Nat) l)))).toNat) (List.drop (IntKind.i64.wrap (U.valB (List.take ((4 : Nat).sub (0 : Nat)) (List.drop (0 : Nat) l)))).toNat (List.take ((↑l.length :
 Int).toNat.sub (4 : Nat)) (List.drop (4 : Nat) l))) = (U.rText (l, e)).2.1 ∧ (2 : Int) = (U.rText (l, e)).2.2 ∧ True else bif e != (0 : Int) then [] = (U.rText (l, e)).1 ∧ List.take ((↑l.length : Int).toNat.sub (4 : Nat)) (List.drop (4 : Nat) l) = (U.rText (l, e)).2.1 ∧ e = (U.rText (l, e)).2.2 ∧ True else (0 : Int) ≤ (0 : Int) ∧ (0 : Int) ≤ IntKind.i64.wrap (U.valB (List.take ((4 : Nat).sub (0 :
 Nat)) (List.drop (0 : Nat) l))) ∧ IntKind.i64.wrap (U.valB (List.take ((4 : Nat).sub (0 : Nat)) (List.drop (0 : Nat) l))) ≤ (↑(List.take ((↑l.length : Int).toNat.sub (4 : Nat)) (List.drop (4 : Nat) l)).length : Int) ∧ (0 : Int) ≤ IntKind.i64.wrap (U.valB (List.take ((4 : Nat).sub (0 : Nat)) (List.drop (0 : Nat) l))) ∧ IntKind.i64.wrap (U.valB (List.take ((4 : Nat).sub (0 : Nat)) (List.drop (0 :
 Nat) l))) ≤ (↑(List.take ((↑l.length : Int).toNat.sub (4 : Nat)) (List.drop (4 : Nat) l)).length : Int) ∧ (↑(List.take ((↑l.length : Int).toNat.sub (4 : Nat)) (List.drop (4 : Nat) l)).length : Int) ≤ (↑(List.take ((↑l.length : Int).toNat.sub (4 : Nat)) (List.drop (4 : Nat) l)).length : Int) ∧ List.take ((IntKind.i64.wrap (U.valB (List.take ((4 : Nat).sub (0 : Nat)) (List.drop (0 : Nat)
 l)))).toNat.sub (0 : Nat)) (List.drop (0 : Nat) (List.take ((↑l.length : Int).toNat.sub (4 : Nat)) (List.drop (4 : Nat) l))) = (U.rText (l, e)).1 ∧ List.take ((↑(List.take ((↑l.length : Int).toNat.sub (4 : Nat)) (List.drop (4 : Nat) l)).length : Int).toNat.sub (IntKind.i64.wrap (U.valB (List.take ((4 : Nat).sub (0 : Nat)) (List.drop (0 : Nat) l)))).toNat) (List.drop (IntKind.i64.wrap (U.valB
 (List.take ((4 : Nat).sub (0 : Nat)) (List.drop (0 : Nat) l)))).toNat (List.take ((↑l.length : Int).toNat.sub (4 : Nat)) (List.drop (4 : Nat) l))) = (U.rText (l, e)).2.1 ∧ e = (U.rText (l, e)).2.2 ∧ True
def vcpack_Reader_CountR (l : List Int) (e : Int) (m : Int) : Prop := bif bif decide ((U.rNum (l, e)).1 > m) then decide ((U.rNum (l, e)).2.2 = (0 : Int)) else false then bif (4 : Int) != (0 : Int) then (0 : Int) = (U.rCount m (l, e)).1 ∧ (U.rNum (l, e)).2.1 = (U.rCount m (l, e)).2.1 ∧ (4 : Int) = (U.rCount m (l, e)).2.2 ∧ True else (U.rNum (l, e)).1 = (U.rCount m (l, e)).1 ∧ (U.rNum (l, e)).2.1 =
 (U.rCount m (l, e)).2.1 ∧ (4 : Int) = (U.rCount m (l, e)).2.2 ∧ True else bif (U.rNum (l, e)).2.2 != (0 : Int) then (0 : Int) = (U.rCount m (l, e)).1 ∧ (U.rNum (l, e)).2.1 = (U.rCount m (l, e)).2.1 ∧ (U.rNum (l, e)).2.2 = (U.rCount m (l, e)).2.2 ∧ True else (U.rNum (l, e)).1 = (U.rCount m (l, e)).1 ∧ (U.rNum (l, e)).2.1 = (U.rCount m (l, e)).2.1 ∧ (U.rNum (l, e)).2.2 = (U.rCount m (l, e)).2.2 ∧
 True
def vcpack_Reader_FailR (l : List Int) (e : Int) (x : Bool) : Prop := bif bif x then decide (e = (0 : Int)) else false then l = (U.rFail x (l, e)).1 ∧ (3 : Int) = (U.rFail x (l, e)).2 ∧ True else l = (U.rFail x (l, e)).1 ∧ e = (U.rFail x (l, e)).2 ∧ True
def vcref03_number (b : List Int) : Prop := ∃ (x0 : Int × Int), (U.stref03_number_3 b (0 : Int) (0 : Int) = U.stref03_number_3 b x0.1 x0.2 ∧ U.Iref03_number_3 b x0.1 x0.2) ∧ ∀ (x : Int × Int), U.Iref03_number_3 b x.1 x.2 → bif decide (x.2 < (↑b.length : Int)) then bif decide (x.1 ≥ (36028797018963968 : Int)) then ((-1 : Int) = bif decide (U.valB b > (4611686018427387904 : Int)) then (-1 : Int) else
 U.valB b) ∧ True else (0 : Int) ≤ x.2 ∧ x.2 < (↑b.length : Int) ∧ ∃ (y : Int × Int), U.stref03_number_3 b (IntKind.i64.wrap ((IntKind.i64.wrap (x.1.mul (256 : Int))).add (IntKind.i64.wrap (b.getD x.2.toNat (0 : Int))))) (IntKind.i64.wrap (x.2.add (1 : Int))) = U.stref03_number_3 b y.1 y.2 ∧ U.Iref03_number_3 b y.1 y.2 ∧ b.length.sub y.2.toNat < b.length.sub x.2.toNat else bif decide (x.1 >
 (4611686018427387904 : Int)) then ((-1 : Int) = bif decide (U.valB b > (4611686018427387904 : Int)) then (-1 : Int) else U.valB b) ∧ True else (x.1 = bif decide (U.valB b > (4611686018427387904 : Int)) then (-1 : Int) else U.valB b) ∧ True
def vcref03_Reader_NumR (l : List Int) (e : Int) : Prop := bif bif decide (e = (0 : Int)) then decide ((↑l.length : Int) < (8 : Int)) else false then bif (2 : Int) != (0 : Int) then (0 : Nat) ≤ (8 : Nat) ∧ bif bif decide ((2 : Int) = (0 : Int)) then decide ((bif decide (U.valB [] > (4611686018427387904 : Int)) then (-1 : Int) else U.valB []) < (0 : Int)) else false then bif (3 : Int) != (0 : Int)
 then (0 : Int) = (U.rNum (l, e)).1 ∧ l = (U.rNum (l, e)).2.1 ∧ (3 : Int) = (U.rNum (l, e)).2.2 ∧ True else (bif decide (U.valB [] > (4611686018427387904 : Int)) then (-1 : Int) else U.valB []) = (U.rNum (l, e)).1 ∧ l = (U.rNum (l, e)).2.1 ∧ (3 : Int) = (U.rNum (l, e)).2.2 ∧ True else bif (2 : Int) != (0 : Int) then (0 : Int) = (U.rNum (l, e)).1 ∧ l = (U.rNum (l, e)).2.1 ∧ (2 : Int) = (U.rNum (l,
 e)).2.2 ∧ True else (bif decide (U.valB [] > (4611686018427387904 : Int)) then (-1 : Int) else U.valB []) = (U.rNum (l, e)).1 ∧ l = (U.rNum (l, e)).2.1 ∧ (2 : Int) = (U.rNum (l, e)).2.2 ∧ True else (0 : Int) ≤ (0 : Int) ∧ (0 : Int) ≤ (8 : Int) ∧ (8 : Int) ≤ (↑l.length : Int) ∧ (0 : Int) ≤ (8 : Int) ∧ (8 : Int) ≤ (↑l.length : Int) ∧ (↑l.length : Int) ≤ (↑l.length : Int) ∧ (List.take ((8 : Nat).sub
 (0 : Nat)) (List.drop (0 : Nat) l)).length ≤ (8 : Nat) ∧ bif bif decide ((2 : Int) = (0 : Int)) then decide ((bif decide (U.valB (List.take ((8 : Nat).sub (0 : Nat)) (List.drop (0 : Nat) l)) > (4611686018427387904 : Int)) then (-1 : Int) else U.valB (List.take ((8 : Nat).sub (0 : Nat)) (List.drop (0 : Nat) l))) < (0 : Int)) else false then bif (3 : Int) != (0 : Int) then (0 : Int) = (U.rNum (l,
 e)).1 ∧ List.take ((↑l.length : Int).toNat.sub (8 : Nat)) (List.drop (8 : Nat) l) = (U.rNum (l, e)).2.1 ∧ (3 : Int) = (U.rNum (l, e)).2.2 ∧ True else (bif decide (U.valB (List.take ((8 : Nat).sub (0 : Nat)) (List.drop (0 : Nat) l)) > (4611686018427387904 : Int)) then (-1 : Int) else U.valB (List.take ((8 : Nat).sub (0 : Nat)) (List.drop (0 : Nat) l))) = (U.rNum (l, e)).1 ∧ List.take ((↑l.length :
 Int).toNat.sub (8 : Nat)) (List.drop (8 : Nat) l) = (U.rNum (l, e)).2.1 ∧ (3 : Int) = (U.rNum (l, e)).2.2 ∧ True else bif (2 : Int) != (0 : Int) then (0 : Int) = (U.rNum (l, e)).1 ∧ List.take ((↑l.length : Int).toNat.sub (8 : Nat)) (List.drop (8 : Nat) l) = (U.rNum (l, e)).2.1 ∧ (2 : Int) = (U.rNum (l, e)).2.2 ∧ True else (bif decide (U.valB (List.take ((8 : Nat).sub (0 : Nat)) (List.drop (0 : Nat)
 l)) > (4611686018427387904 : Int)) then (-1 : Int) else U.valB (List.take ((8 : Nat).sub (0 : Nat)) (List.drop (0 : Nat) l))) = (U.rNum (l, e)).1 ∧ List.take ((↑l.length : Int).toNat.sub (8 : Nat)) (List.drop (8 : Nat) l) = (U.rNum (l, e)).2.1 ∧ (2 : Int) = (U.rNum (l, e)).2.2 ∧ True else bif e != (0 : Int) then (0 : Nat) ≤ (8 : Nat) ∧ bif bif decide (e = (0 : Int)) then decide ((bif decide (U.valB
 [] > (4611686018427387904 : Int)) then (-1 : Int) else U.valB []) < (0 : Int)) else false then bif (3 : Int) != (0 : Int) then (0 : Int) = (U.rNum (l, e)).1 ∧ l = (U.rNum (l, e)).2.1 ∧ (3 : Int) = (U.rNum (l, e)).2.2 ∧ True else (bif decide (U.valB [] > (4611686018427387904 : Int)) then (-1 : Int) else U.valB []) = (U.rNum (l, e)).1 ∧ l = (U.rNum (l, e)).2.1 ∧ (3 : Int) = (U.rNum (l, e)).2.2 ∧ True
 else bif e != (0 : Int) then (0 : Int) = (U.rNum (l, e)).1 ∧ l = (U.rNum (l, e)).2.1 ∧ e = (U.rNum (l, e)).2.2 ∧ True else (bif decide (U.valB [] > (4611686018427387904 : Int)) then (-1 : Int) else U.valB []) = (U.rNum (l, e)).1 ∧ l = (U.rNum (l, e)).2.1 ∧ e = (U.rNum (l, e)).2.2 ∧ True else (0 : Int) ≤ (0 : Int) ∧ (0 : Int) ≤ (8 : Int) ∧ (8 : Int) ≤ (↑l.length : Int) ∧ (0 : Int) ≤ (8 : Int) ∧ (8 :
 Int) ≤ (↑l.length : Int) ∧ (↑l.length : Int) ≤ (↑l.length : Int) ∧ (List.take ((8 : Nat).sub (0 : Nat)) (List.drop (0 : Nat) l)).length ≤ (8 : Nat) ∧ bif bif decide (e = (0 : Int)) then decide ((bif decide (U.valB (List.take ((8 : Nat).sub (0 : Nat)) (List.drop (0 : Nat) l)) > (4611686018427387904 : Int)) then (-1 : Int) else U.valB (List.take ((8 : Nat).sub (0 : Nat)) (List.drop (0 : Nat) l))) <
 (0 : Int)) else false then bif (3 : Int) != (0 : Int) then (0 : Int) = (U.rNum (l, e)).1 ∧ List.take ((↑l.length : Int).toNat.sub (8 : Nat)) (List.drop (8 : Nat) l) = (U.rNum (l, e)).2.1 ∧ (3 : Int) = (U.rNum (l, e)).2.2 ∧ True else (bif decide (U.valB (List.take ((8 : Nat).sub (0 : Nat)) (List.drop (0 : Nat) l)) > (4611686018427387904 : Int)) then (-1 : Int) else U.valB (List.take ((8 : Nat).sub
 (0 : Nat)) (List.drop (0 : Nat) l))) = (U.rNum (l, e)).1 ∧ List.take ((↑l.length : Int).toNat.sub (8 : Nat)) (List.drop (8 : Nat) l) = (U.rNum (l, e)).2.1 ∧ (3 : Int) = (U.rNum (l, e)).2.2 ∧ True else bif e != (0 : Int) then (0 : Int) = (U.rNum (l, e)).1 ∧ List.take ((↑l.length : Int).toNat.sub (8 : Nat)) (List.drop (8 : Nat) l) = (U.rNum (l, e)).2.1 ∧ e = (U.rNum (l, e)).2.2 ∧ True else (bif
 decide (U.valB (List.take ((8 : Nat).sub (0 : Nat)) (List.drop (0 : Nat) l)) > (4611686018427387904 : Int)) then (-1 : Int) else U.valB (List.take ((8 : Nat).sub (0 : Nat)) (List.drop (0 : Nat) l))) = (U.rNum (l, e)).1 ∧ List.take ((↑l.length : Int).toNat.sub (8 : Nat)) (List.drop (8 : Nat) l) = (U.rNum (l, e)).2.1 ∧ e = (U.rNum (l, e)).2.2 ∧ True
def vcref03_Reader_TextR (l : List Int) (e : Int) : Prop := bif bif decide (e = (0 : Int)) then decide ((↑l.length : Int) < (4 : Int)) else false then bif (2 : Int) != (0 : Int) then (0 : Nat) ≤ (8 : Nat) ∧ bif bif decide ((2 : Int) = (0 : Int)) then decide ((bif decide (U.valB [] > (4611686018427387904 : Int)) then (-1 : Int) else U.valB []) > (4096 : Int)) else false then bif (4 : Int) != (0 :
 Int) then [] = (U.rText (l, e)).1 ∧ l = (U.rText (l, e)).2.1 ∧ (4 : Int) = (U.rText (l, e)).2.2 ∧ True else bif bif decide ((4 : Int) = (0 : Int)) then decide ((↑l.length : Int) < bif decide (U.valB [] > (4611686018427387904 : Int)) then (-1 : Int) else U.valB []) else false then bif (2 : Int) != (0 : Int) then [] = (U.rText (l, e)).1 ∧ l = (U.rText (l, e)).2.1 ∧ (2 : Int) = (U.rText (l, e)).2.2 ∧
 True else (0 : Int) ≤ (0 : Int) ∧ ((0 : Int) ≤ bif decide (U.valB [] > (4611686018427387904 : Int)) then (-1 : Int) else U.valB []) ∧ (bif decide (U.valB [] > (4611686018427387904 : Int)) then (-1 : Int) else U.valB []) ≤ (↑l.length : Int) ∧ ((0 : Int) ≤ bif decide (U.valB [] > (4611686018427387904 : Int)) then (-1 : Int) else U.valB []) ∧ (bif decide (U.valB [] > (4611686018427387904 : Int)) then
 (-1 : Int) else U.valB []) ≤ (↑l.length : Int) ∧ (↑l.length : Int) ≤ (↑l.length : Int) ∧ [] = (U.rText (l, e)).1 ∧ List.take ((↑l.length : Int).toNat.sub (bif decide (U.valB [] > (4611686018427387904 : Int)) then (-1 : Int) else U.valB []).toNat) (List.drop (bif decide (U.valB [] > (4611686018427387904 : Int)) then (-1 : Int) else U.valB []).toNat l) = (U.rText (l, e)).2.1 ∧ (2 : Int) = (U.rText
 (l, e)).2.2 ∧ True else bif (4 : Int) != (0 : Int) then [] = (U.rText (l, e)).1 ∧ l = (U.rText (l, e)).2.1 ∧ (4 : Int) = (U.rText (l, e)).2.2 ∧ True else (0 : Int) ≤ (0 : Int) ∧ ((0 : Int) ≤ bif decide (U.valB [] > (4611686018427387904 : Int)) then (-1 : Int) else U.valB []) ∧ (bif decide (U.valB [] > (4611686018427387904 : Int)) then (-1 : Int) else U.valB []) ≤ (↑l.length : Int) ∧ ((0 : Int) ≤
 bif decide (U.valB [] > (4611686018427387904 : Int)) then (-1 : Int) else U.valB []) ∧ (bif decide (U.valB [] > (4611686018427387904 : Int)) then (-1 : Int) else U.valB []) ≤ (↑l.length : Int) ∧ (↑l.length : Int) ≤ (↑l.length : Int) ∧ [] = (U.rText (l, e)).1 ∧ List.take ((↑l.length : Int).toNat.sub (bif decide (U.valB [] > (4611686018427387904 : Int)) then (-1 : Int) else U.valB []).toNat)
 (List.drop (bif decide (U.valB [] > (4611686018427387904 : Int)) then (-1 : Int) else U.valB []).toNat l) = (U.rText (l, e)).2.1 ∧ (4 : Int) = (U.rText (l, e)).2.2 ∧ True else bif (2 : Int) != (0 : Int) then [] = (U.rText (l, e)).1 ∧ l = (U.rText (l, e)).2.1 ∧ (2 : Int) = (U.rText (l, e)).2.2 ∧ True else bif bif decide ((2 : Int) = (0 : Int)) then decide ((↑l.length : Int) < bif decide (U.valB [] >
 (4611686018427387904 : Int)) then (-1 : Int) else U.valB []) else false then bif (2 : Int) != (0 : Int) then [] = (U.rText (l, e)).1 ∧ l = (U.rText (l, e)).2.1 ∧ (2 : Int) = (U.rText (l, e)).2.2 ∧ True else (0 : Int) ≤ (0 : Int) ∧ ((0 : Int) ≤ bif decide (U.valB [] > (4611686018427387904 : Int)) then (-1 : Int) else U.valB []) ∧ (bif decide (U.valB [] > (4611686018427387904 : Int)) then (-1 : Int)
 else U.valB []) ≤ (↑l.length : Int) ∧ ((0 : Int) ≤ bif decide (U.valB [] > (4611686018427387904 : Int)) then (-1 : Int) else U.valB []) ∧ (bif decide (U.valB [] > (4611686018427387904 : Int)) then (-1 : Int) else U.valB []) ≤ (↑l.length : Int) ∧ (↑l.length : Int) ≤ (↑l.length : Int) ∧ [] = (U.rText (l, e)).1 ∧ List.take ((↑l.length : Int).toNat.sub (bif decide (U.valB [] > (4611686018427387904 :
 Int)) then (-1 : Int) else U.valB []).toNat) (List.drop (bif decide (U.valB [] > (4611686018427387904 : Int)) then (-1 : Int) else U.valB []).toNat l) = (U.rText (l, e)).2.1 ∧ (2 : Int) = (U.rText (l, e)).2.2 ∧ True else bif (2 : Int) != (0 : Int) then [] = (U.rText (l, e)).1 ∧ l = (U.rText (l, e)).2.1 ∧ (2 : Int) = (U.rText (l, e)).2.2 ∧ True else (0 : Int) ≤ (0 : Int) ∧ ((0 : Int) ≤ bif decide
 (U.valB [] > (4611686018427387904 : Int)) then (-1 : Int) else U.valB []) ∧ (bif decide (U.valB [] > (4611686018427387904 : Int)) then (-1 : Int) else U.valB []) ≤ (↑l.length : Int) ∧ ((0 : Int) ≤ bif decide (U.valB [] > (4611686018427387904 : Int)) then (-1 : Int) else U.valB []) ∧ (bif decide (U.valB [] > (4611686018427387904 : Int)) then (-1 : Int) else U.valB []) ≤ (↑l.length : Int) ∧
 (↑l.length : Int) ≤ (↑l.length : Int) ∧ [] = (U.rText (l, e)).1 ∧ List.take ((↑l.length : Int).toNat.sub (bif decide (U.valB [] > (4611686018427387904 : Int)) then (-1 : Int) else U.valB []).toNat) (List.drop (bif decide (U.valB [] > (4611686018427387904 : Int)) then (-1 : Int) else U.valB []).toNat l) = (U.rText (l, e)).2.1 ∧ (2 : Int) = (U.rText (l, e)).2.2 ∧ True else (0 : Int) ≤ (0 : Int) ∧ (0
 : Int) ≤ (4 : Int) ∧ (4 : Int) ≤ (↑l.length : Int) ∧ (0 : Int) ≤ (4 : Int) ∧ (4 : Int) ≤ (↑l.length : Int) ∧ (↑l.length : Int) ≤ (↑l.length : Int) ∧ (List.take ((4 : Nat).sub (0 : Nat)) (List.drop (0 : Nat) l)).length ≤ (8 : Nat) ∧ bif bif decide ((2 : Int) = (0 : Int)) then decide ((bif decide (U.valB (List.take ((4 : Nat).sub (0 : Nat)) (List.drop (0 : Nat) l)) > (4611686018427387904 : Int)) then
 (-1 : Int) else U.valB (List.take ((4 : Nat).sub (0 : Nat)) (List.drop (0 : Nat) l))) > (4096 : Int)) else false then bif (4 : Int) != (0 : Int) then [] = (U.rText (l, e)).1 ∧ List.take ((↑l.length : Int).toNat.sub (4 : Nat)) (List.drop (4 : Nat) l) = (U.rText (l, e)).2.1 ∧ (4 : Int) = (U.rText (l, e)).2.2 ∧ True else bif bif decide ((4 : Int) = (0 : Int)) then decide ((↑(List.take ((↑l.length :
 Int).toNat.sub (4 : Nat)) (List.drop (4 : Nat) l)).length : Int) < bif decide (U.valB (List.take ((4 : Nat).sub (0 : Nat)) (List.drop (0 : Nat) l)) > (4611686018427387904 : Int)) then (-1 : Int) else U.valB (List.take ((4 : Nat).sub (0 : Nat)) (List.drop (0 : Nat) l))) else false then bif (2 : Int) != (0 : Int) then [] = (U.rText (l, e)).1 ∧ List.take ((↑l.length : Int).toNat.sub (4 : Nat))
 (List.drop (4 : Nat) l) = (U.rText (l, e)).2.1 ∧ (2 : Int) = (U.rText (l, e)).2.2 ∧ True else (0 : Int) ≤ (0 : Int) ∧ ((0 : Int) ≤ bif decide (U.valB (List.take ((4 : Nat).sub (0 : Nat)) (List.drop (0 : Nat) l)) > (4611686018427387904 : Int)) then (-1 : Int) else U.valB (List.take ((4 : Nat).sub (0 : Nat)) (List.drop (0 : Nat) l))) ∧ (bif decide (U.valB (List.take ((4 : Nat).sub (0 : Nat))
 (List.drop (0 : Nat) l)) > (4611686018427387904 : Int)) then (-1 : Int) else U.valB (List.take ((4 : Nat).sub (0 : Nat)) (List.drop (0 : Nat) l))) ≤ (↑(List.take ((↑l.length : Int).toNat.sub (4 : Nat)) (List.drop (4 : Nat) l)).length : Int) ∧ ((0 : Int) ≤ bif decide (U.valB (List.take ((4 : Nat).sub (0 : Nat)) (List.drop (0 : Nat) l)) > (4611686018427387904 : Int)) then (-1 : Int) else U.valB
 (List.take ((4 : Nat).sub (0 : Nat)) (List.drop (0 : Nat) l))) ∧ (bif decide (U.valB (List.take ((4 : Nat).sub (0 : Nat)) (List.drop (0 : Nat) l)) > (4611686018427387904 : Int)) then (-1 : Int) else U.valB (List.take ((4 : Nat).sub (0 : Nat)) (List.drop (0 : Nat) l))) ≤ (↑(List.take ((↑l.length : Int).toNat.sub (4 : Nat)) (List.drop (4 : Nat) l)).length : Int) ∧ (↑(List.take ((↑l.length :
 Int).toNat.sub (4 : Nat)) (List.drop (4 : Nat) l)).length : Int) ≤ (↑(List.take ((↑l.length : Int).toNat.sub (4 : Nat)) (List.drop (4 : Nat) l)).length : Int) ∧ List.take ((bif decide (U.valB (List.take ((4 : Nat).sub (0 : Nat)) (List.drop (0 : Nat) l)) > (4611686018427387904 : Int)) then (-1 : Int) else U.valB (List.take ((4 : Nat).sub (0 : Nat)) (List.drop (0 : Nat) l))).toNat.sub (0 : Nat))
 (List.drop (0 : Nat) (List.take ((↑l.length : Int).toNat.sub (4 : Nat)) (List.drop (4 : Nat) l))) = (U.rText (l, e)).1 ∧ List.take ((↑(List.take ((↑l.length : Int).toNat.sub (4 : Nat)) (List.drop (4 : Nat) l)).length : Int).toNat.sub (bif decide (U.valB (List.take ((4 : Nat).sub (0 : Nat)) (List.drop (0 : Nat) l)) > (4611686018427387904 : Int)) then (-1 : Int) else U.valB (List.take ((4 : Nat).sub
 (0 : Nat)) (List.drop (0 : Nat) l))).toNat) (List.drop (bif decide (U.valB (List.take ((4 : Nat).sub (0 : Nat)) (List.drop (0 : Nat) l)) > (4611686018427387904 : Int)) then (-1 : Int) else U.valB (List.take ((4 : Nat).sub (0 : Nat)) (List.drop (0 : Nat) l))).toNat (List.take ((↑l.length : Int).toNat.sub (4 : Nat)) (List.drop (4 : Nat) l))) = (U.rText (l, e)).2.1 ∧ (2 : Int) = (U.rText (l, e)).2.2 ∧
 True else bif (4 : Int) != (0 : Int) then [] = (U.rText (l, e)).1 ∧ List.take ((↑l.length : Int).toNat.sub (4 : Nat)) (List.drop (4 : Nat) l) = (U.rText (l, e)).2.1 ∧ (4 : Int) = (U.rText (l, e)).2.2 ∧ True else (0 : Int) ≤ (0 : Int) ∧ ((0 : Int) ≤ bif decide (U.valB (List.take ((4 : Nat).sub (0 : Nat)) (List.drop (0 : Nat) l)) > (4611686018427387904 : Int)) then (-1 : Int) else U.valB (List.take
 ((4 : Nat).sub (0 : Nat)) (List.drop (0 : Nat) l))) ∧ (bif decide (U.valB (List.take ((4 : Nat).sub (0 : Nat)) (List.drop (0 : Nat) l)) > (4611686018427387904 : Int)) then (-1 : Int) else U.valB (List.take ((4 : Nat).sub (0 : Nat)) (List.drop (0 : Nat) l))) ≤ (↑(List.take ((↑l.length : Int).toNat.sub (4 : Nat)) (List.drop (4 : Nat) l)).length : Int) ∧ ((0 : Int) ≤ bif decide (U.valB (List.take ((4
 : Nat).sub (0 : Nat)) (List.drop (0 : Nat) l)) > (4611686018427387904 : Int)) then (-1 : Int) else U.valB (List.take ((4 : Nat).sub (0 : Nat)) (List.drop (0 : Nat) l))) ∧ (bif decide (U.valB (List.take ((4 : Nat).sub (0 : Nat)) (List.drop (0 : Nat) l)) > (4611686018427387904 : Int)) then (-1 : Int) else U.valB (List.take ((4 : Nat).sub (0 : Nat)) (List.drop (0 : Nat) l))) ≤ (↑(List.take ((↑l.length
 : Int).toNat.sub (4 : Nat)) (List.drop (4 : Nat) l)).length : Int) ∧ (↑(List.take ((↑l.length : Int).toNat.sub (4 : Nat)) (List.drop (4 : Nat) l)).length : Int) ≤ (↑(List.take ((↑l.length : Int).toNat.sub (4 : Nat)) (List.drop (4 : Nat) l)).length : Int) ∧ List.take ((bif decide (U.valB (List.take ((4 : Nat).sub (0 : Nat)) (List.drop (0 : Nat) l)) > (4611686018427387904 : Int)) then (-1 : Int) else
 U.valB (List.take ((4 : Nat).sub (0 : Nat)) (List.drop (0 : Nat) l))).toNat.sub (0 : Nat)) (List.drop (0 : Nat) (List.take ((↑l.length : Int).toNat.sub (4 : Nat)) (List.drop (4 : Nat) l))) = (U.rText (l, e)).1 ∧ List.take ((↑(List.take ((↑l.length : Int).toNat.sub (4 : Nat)) (List.drop (4 : Nat) l)).length : Int).toNat.sub (bif decide (U.valB (List.take ((4 : Nat).sub (0 : Nat)) (List.drop (0 :
 Nat) l)) > (4611686018427387904 : Int)) then (-1 : Int) else U.valB (List.take ((4 : Nat).sub (0 : Nat)) (List.drop (0 : Nat) l))).toNat) (List.drop (bif decide (U.valB (List.take ((4 : Nat).sub (0 : Nat)) (List.drop (0 : Nat) l)) > (4611686018427387904 : Int)) then (-1 : Int) else U.valB (List.take ((4 : Nat).sub (0 : Nat)) (List.drop (0 : Nat) l))).toNat (List.take ((↑l.length : Int).toNat.sub (4
 : Nat)) (List.drop (4 : Nat) l))) = (U.rText (l, e)).2.1 ∧ (4 : Int) = (U.rText (l, e)).2.2 ∧ True else bif (2 : Int) != (0 : Int) then [] = (U.rText (l, e)).1 ∧ List.take ((↑l.length : Int).toNat.sub (4 : Nat)) (List.drop (4 : Nat) l) = (U.rText (l, e)).2.1 ∧ (2 : Int) = (U.rText (l, e)).2.2 ∧ True else bif bif decide ((2 : Int) = (0 : Int)) then decide ((↑(List.take ((↑l.length : Int).toNat.sub
 (4 : Nat)) (List.drop (4 : Nat) l)).length : Int) < bif decide (U.valB (List.take ((4 : Nat).sub (0 : Nat)) (List.drop (0 : Nat) l)) > (4611686018427387904 : Int)) then (-1 : Int) else U.valB (List.take ((4 : Nat).sub (0 : Nat)) (List.drop (0 : Nat) l))) else false then bif (2 : Int) != (0 : Int) then [] = (U.rText (l, e)).1 ∧ List.take ((↑l.length : Int).toNat.sub (4 : Nat)) (List.drop (4 : Nat)
 l) = (U.rText (l, e)).2.1 ∧ (2 : Int) = (U.rText (l, e)).2.2 ∧ True else (0 : Int) ≤ (0 : Int) ∧ ((0 : Int) ≤ bif decide (U.valB (List.take ((4 : Nat).sub (0 : Nat)) (List.drop (0 : Nat) l)) > (4611686018427387904 : Int)) then (-1 : Int) else U.valB (List.take ((4 : Nat).sub (0 : Nat)) (List.drop (0 : Nat) l))) ∧ (bif decide (U.valB (List.take ((4 : Nat).sub (0 : Nat)) (List.drop (0 : Nat) l)) >
 (4611686018427387904 : Int)) then (-1 : Int) else U.valB (List.take ((4 : Nat).sub (0 : Nat)) (List.drop (0 : Nat) l))) ≤ (↑(List.take ((↑l.length : Int).toNat.sub (4 : Nat)) (List.drop (4 : Nat) l)).length : Int) ∧ ((0 : Int) ≤ bif decide (U.valB (List.take ((4 : Nat).sub (0 : Nat)) (List.drop (0 : Nat) l)) > (4611686018427387904 : Int)) then (-1 : Int) else U.valB (List.take ((4 : Nat).sub (0 :
 Nat)) (List.drop (0 : Nat) l))) ∧ (bif decide (U.valB (List.take ((4 : Nat).sub (0 : Nat)) (List.drop (0 : Nat) l)) > (4611686018427387904 : Int)) then (-1 : Int) else U.valB (List.take ((4 : Nat).sub (0 : Nat)) (List.drop (0 : Nat) l))) ≤ (↑(List.take ((↑l.length : Int).toNat.sub (4 : Nat)) (List.drop (4 : Nat) l)).length : Int) ∧ (↑(List.take ((↑l.length : Int).toNat.sub (4 : Nat)) (List.drop (4
 : Nat) l)).length : Int) ≤ (↑(List.take ((↑l.length : Int).toNat.sub (4 : Nat)) (List.drop (4 : Nat) l)).length : Int) ∧ List.take ((bif decide (U.valB (List.take ((4 : Nat).sub (0 : Nat)) (List.drop (0 : Nat) l)) > (4611686018427387904 : Int)) then (-1 : Int) else U.valB (List.take ((4 : Nat).sub (0 : Nat)) (List.drop (0 : Nat) l))).toNat.sub (0 : Nat)) (List.drop (0 : Nat) (List.take ((↑l.length
 : Int).toNat.sub (4 : Nat)) (List.drop (4 : Nat) l))) = (U.rText (l, e)).1 ∧ List.take ((↑(List.take ((↑l.length : Int).toNat.sub (4 : Nat)) (List.drop (4 : Nat) l)).length : Int).toNat.sub (bif decide (U.valB (List.take ((4 : Nat).sub (0 : Nat)) (List.drop (0 : Nat) l)) > (4611686018427387904 : Int)) then (-1 : Int) else U.valB (List.take ((4 : Nat).sub (0 : Nat)) (List.drop (0 : Nat) l))).toNat)
 (List.drop (bif decide (U.valB (List.take ((4 : Nat).sub (0 : Nat)) (List.drop (0 : Nat) l)) > (4611686018427387904 : Int)) then (-1 : Int) else U.valB (List.take ((4 : Nat).sub (0 : Nat)) (List.drop (0 : Nat) l))).toNat (List.take ((↑l.length : Int).toNat.sub (4 : Nat)) (List.drop (4 : Nat) l))) = (U.rText (l, e)).2.1 ∧ (2 : Int) = (U.rText (l, e)).2.2 ∧ True else bif (2 : Int) != (0 : Int) then
 [] = (U.rText (l, e)).1 ∧ List.take ((↑l.length : Int).toNat.sub (4 : Nat)) (List.drop (4 : Nat) l) = (U.rText (l, e)).2.1 ∧ (2 : Int) = (U.rText (l, e)).2.2 ∧ True else (0 : Int) ≤ (0 : Int) ∧ ((0 : Int) ≤ bif decide (U.valB (List.take ((4 : Nat).sub (0 : Nat)) (List.drop (0 : Nat) l)) > (4611686018427387904 : Int)) then (-1 : Int) else U.valB (List.take ((4 : Nat).sub (0 : Nat)) (List.drop (0 :
 Nat) l))) ∧ (bif decide (U.valB (List.take ((4 : Nat).sub (0 : Nat)) (List.drop (0 : Nat) l)) > (4611686018427387904 : Int)) then (-1 : Int) else U.valB (List.take ((4 : Nat).sub (0 : Nat)) (List.drop (0 : Nat) l))) ≤ (↑(List.take ((↑l.length : Int).toNat.sub (4 : Nat)) (List.drop (4 : Nat) l)).length : Int) ∧ ((0 : Int) ≤ bif decide (U.valB (List.take ((4 : Nat).sub (0 : Nat)) (List.drop (0 : Nat)
 l)) > (4611686018427387904 : Int)) then (-1 : Int) else U.valB (List.take ((4 : Nat).sub (0 : Nat)) (List.drop (0 : Nat) l))) ∧ (bif decide (U.valB (List.take ((4 : Nat).sub (0 : Nat)) (List.drop (0 : Nat) l)) > (4611686018427387904 : Int)) then (-1 : Int) else U.valB (List.take ((4 : Nat).sub (0 : Nat)) (List.drop (0 : Nat) l))) ≤ (↑(List.take ((↑l.length : Int).toNat.sub (4 : Nat)) (List.drop (4
 : Nat) l)).length : Int) ∧ (↑(List.take ((↑l.length : Int).toNat.sub (4 : Nat)) (List.drop (4 : Nat) l)).length : Int) ≤ (↑(List.take ((↑l.length : Int).toNat.sub (4 : Nat)) (List.drop (4 : Nat) l)).length : Int) ∧ List.take ((bif decide (U.valB (List.take ((4 : Nat).sub (0 : Nat)) (List.drop (0 : Nat) l)) > (4611686018427387904 : Int)) then (-1 : Int) else U.valB (List.take ((4 : Nat).sub (0 :
 Nat)) (List.drop (0 : Nat) l))).toNat.sub (0 : Nat)) (List.drop (0 : Nat) (List.take ((↑l.length : Int).toNat.sub (4 : Nat)) (List.drop (4 : Nat) l))) = (U.rText (l, e)).1 ∧ List.take ((↑(List.take ((↑l.length : Int).toNat.sub (4 : Nat)) (List.drop (4 : Nat) l)).length : Int).toNat.sub (bif decide (U.valB (List.take ((4 : Nat).sub (0 : Nat)) (List.drop (0 : Nat) l)) > (4611686018427387904 : Int))
 then (-1 : Int) else U.valB (List.take ((4 : Nat).sub (0 : Nat)) (List.drop (0 : Nat) l))).toNat) (List.drop (bif decide (U.valB (List.take ((4 : Nat).sub (0 : Nat)) (List.drop (0 : Nat) l)) > (4611686018427387904 : Int)) then (-1 : Int) else U.valB (List.take ((4 : Nat).sub (0 : Nat)) (List.drop (0 : Nat) l))).toNat (List.take ((↑l.length : Int).toNat.sub (4 : Nat)) (List.drop (4 : Nat) l))) =
 (U.rText (l, e)).2.1 ∧ (2 : Int) = (U.rText (l, e)).2.2 ∧ True else bif e != (0 : Int) then (0 : Nat) ≤ (8 : Nat) ∧ bif bif decide (e = (0 : Int)) then decide ((bif decide (U.valB [] > (4611686018427387904 : Int)) then (-1 : Int) else U.valB []) > (4096 : Int)) else false then bif (4 : Int) != (0 : Int) then [] = (U.rText (l, e)).1 ∧ l = (U.rText (l, e)).2.1 ∧ (4 : Int) = (U.rText (l, e)).2.2 ∧
 True else bif bif decide ((4 : Int) = (0 : Int)) then decide ((↑l.length : Int) < bif decide (U.valB [] > (4611686018427387904 : Int)) then (-1 : Int) else U.valB []) else false then bif (2 : Int) != (0 : Int) then [] = (U.rText (l, e)).1 ∧ l = (U.rText (l, e)).2.1 ∧ (2 : Int) = (U.rText (l, e)).2.2 ∧ True else (0 : Int) ≤ (0 : Int) ∧ ((0 : Int) ≤ bif decide (U.valB [] > (4611686018427387904 :
 Int)) then (-1 : Int) else U.valB []) ∧ (bif decide (U.valB [] > (4611686018427387904 : Int)) then (-1 : Int) else U.valB []) ≤ (↑l.length : Int) ∧ ((0 : Int) ≤ bif decide (U.valB [] > (4611686018427387904 : Int)) then (-1 : Int) else U.valB []) ∧ (bif decide (U.valB [] > (4611686018427387904 : Int)) then (-1 : Int) else U.valB []) ≤ (↑l.length : Int) ∧ (↑l.length : Int) ≤ (↑l.length : Int) ∧ [] =
 (U.rText (l, e)).1 ∧ List.take ((↑l.length : Int).toNat.sub (bif decide (U.valB [] > (4611686018427387904 : Int)) then (-1 : Int) else U.valB []).toNat) (List.drop (bif decide (U.valB [] > (4611686018427387904 : Int)) then (-1 : Int) else U.valB []).toNat l) = (U.rText (l, e)).2.1 ∧ (2 : Int) = (U.rText (l, e)).2.2 ∧ True else bif (4 : Int) != (0 : Int) then [] = (U.rText (l, e)).1 ∧ l = (U.rText
 (l, e)).2.1 ∧ (4 : Int) = (U.rText (l, e)).2.2 ∧ True else (0 : Int) ≤ (0 : Int) ∧ ((0 : Int) ≤ bif decide (U.valB [] > (4611686018427387904 : Int)) then (-1 : Int) else U.valB []) ∧ (bif decide (U.valB [] > (4611686018427387904 : Int)) then (-1 : Int) else U.valB []) ≤ (↑l.length : Int) ∧ ((0 : Int) ≤ bif decide (U.valB [] > (4611686018427387904 : Int)) then (-1 : Int) else U.valB []) ∧ (bif
 decide (U.valB [] > (4611686018427387904 : Int)) then (-1 : Int) else U.valB []) ≤ (↑l.length : Int) ∧ (↑l.length : Int) ≤ (↑l.length : Int) ∧ [] = (U.rText (l, e)).1 ∧ List.take ((↑l.length : Int).toNat.sub (bif decide (U.valB [] > (4611686018427387904 : Int)) then (-1 : Int) else U.valB []).toNat) (List.drop (bif decide (U.valB [] > (4611686018427387904 : Int)) then (-1 : Int) else U.valB
 []).toNat l) = (U.rText (l, e)).2.1 ∧ (4 : Int) = (U.rText (l, e)).2.2 ∧ True else bif e != (0 : Int) then [] = (U.rText (l, e)).1 ∧ l = (U.rText (l, e)).2.1 ∧ e = (U.rText (l, e)).2.2 ∧ True else bif bif decide (e = (0 : Int)) then decide ((↑l.length : Int) < bif decide (U.valB [] > (4611686018427387904 : Int)) then (-1 : Int) else U.valB []) else false then bif (2 : Int) != (0 : Int) then [] =
 (U.rText (l, e)).1 ∧ l = (U.rText (l, e)).2.1 ∧ (2 : Int) = (U.rText (l, e)).2.2 ∧ True else (0 : Int) ≤ (0 : Int) ∧ ((0 : Int) ≤ bif decide (U.valB [] > (4611686018427387904 : Int)) then (-1 : Int) else U.valB []) ∧ (bif decide (U.valB [] > (4611686018427387904 : Int)) then (-1 : Int) else U.valB []) ≤ (↑l.length : Int) ∧ ((0 : Int) ≤ bif decide (U.valB [] > (4611686018427387904 : Int)) then (-1 :
 Int) else U.valB []) ∧ (bif decide (U.valB [] > (4611686018427387904 : Int)) then (-1 : Int) else U.valB []) ≤ (↑l.length : Int) ∧ (↑l.length : Int) ≤ (↑l.length : Int) ∧ [] = (U.rText (l, e)).1 ∧ List.take ((↑l.length : Int).toNat.sub (bif decide (U.valB [] > (4611686018427387904 : Int)) then (-1 : Int) else U.valB []).toNat) (List.drop (bif decide (U.valB [] > (4611686018427387904 : Int)) then
 (-1 : Int) else U.valB []).toNat l) = (U.rText (l, e)).2.1 ∧ (2 : Int) = (U.rText (l, e)).2.2 ∧ True else bif e != (0 : Int) then [] = (U.rText (l, e)).1 ∧ l = (U.rText (l, e)).2.1 ∧ e = (U.rText (l, e)).2.2 ∧ True else (0 : Int) ≤ (0 : Int) ∧ ((0 : Int) ≤ bif decide (U.valB [] > (4611686018427387904 : Int)) then (-1 : Int) else U.valB []) ∧ (bif decide (U.valB [] > (4611686018427387904 : Int))
 then (-1 : Int) else U.valB []) ≤ (↑l.length : Int) ∧ ((0 : Int) ≤ bif decide (U.valB [] > (4611686018427387904 : Int)) then (-1 : Int) else U.valB []) ∧ (bif decide (U.valB [] > (4611686018427387904 : Int)) then (-1 : Int) else U.valB []) ≤ (↑l.length : Int) ∧ (↑l.length : Int) ≤ (↑l.length : Int) ∧ [] = (U.rText (l, e)).1 ∧ List.take ((↑l.length : Int).toNat.sub (bif decide (U.valB [] >
 (4611686018427387904 : Int)) then (-1 : Int) else U.valB []).toNat) (List.drop (bif decide (U.valB [] > (4611686018427387904 : Int)) then (-1 : Int) else U.valB []).toNat l) = (U.rText (l, e)).2.1 ∧ e = (U.rText (l, e)).2.2 ∧ True else (0 : Int) ≤ (0 : Int) ∧ (0 : Int) ≤ (4 : Int) ∧ (4 : Int) ≤ (↑l.length : Int) ∧ (0 : Int) ≤ (4 : Int) ∧ (4 : Int) ≤ (↑l.length : Int) ∧ (↑l.length : Int) ≤
 (↑l.length : Int) ∧ (List.take ((4 : Nat).sub (0 : Nat)) (List.drop (0 : Nat) l)).length ≤ (8 : Nat) ∧ bif bif decide (e = (0 : Int)) then decide ((bif decide (U.valB (List.take ((4 : Nat).sub (0 : Nat)) (List.drop (0 : Nat) l)) > (4611686018427387904 : Int)) then (-1 : Int) else U.valB (List.take ((4 : Nat).sub (0 : Nat)) (List.drop (0 : Nat) l))) > (4096 : Int)) else false then bif (4 : Int) !=
 (0 : Int) then [] = (U.rText (l, e)).1 ∧ List.take ((↑l.length : Int).toNat.sub (4 : Nat)) (List.drop (4 : Nat) l) = (U.rText (l, e)).2.1 ∧ (4 : Int) = (U.rText (l, e)).2.2 ∧ True else bif bif decide ((4 : Int) = (0 : Int)) then decide ((↑(List.take ((↑l.length : Int).toNat.sub (4 : Nat)) (List.drop (4 : Nat) l)).length : Int) < bif decide (U.valB (List.take ((4 : Nat).sub (0 : Nat)) (List.drop (0
 : Nat) l)) > (4611686018427387904 : Int)) then (-1 : Int) else U.valB (List.take ((4 : Nat).sub (0 : Nat)) (List.drop (0 : Nat) l))) else false then bif (2 : Int) != (0 : Int) then [] = (U.rText (l, e)).1 ∧ List.take ((↑l.length : Int).toNat.sub (4 : Nat)) (List.drop (4 : Nat) l) = (U.rText (l, e)).2.1 ∧ (2 : Int) = (U.rText (l, e)).2.2 ∧ True else (0 : Int) ≤ (0 : Int) ∧ ((0 : Int) ≤ bif decide
 (U.valB (List.take ((4 : Nat).sub (0 : Nat)) (List.drop (0 : Nat) l)) > (4611686018427387904 : Int)) then (-1 : Int) else U.valB (List.take ((4 : Nat).sub (0 : Nat)) (List.drop (0 : Nat) l))) ∧ (bif decide (U.valB (List.take ((4 : Nat).sub (0 : Nat)) (List.drop (0 : Nat) l)) > (4611686018427387904 : Int)) then (-1 : Int) else U.valB (List.take ((4 : Nat).sub (0 : Nat)) (List.drop (0 : Nat) l))) ≤
 (↑(List.take ((↑l.length : Int).toNat.sub (4 : Nat)) (List.drop (4 : Nat) l)).length : Int) ∧ ((0 : Int) ≤ bif decide (U.valB (List.take ((4 : Nat).sub (0 : Nat)) (List.drop (0 : Nat) l)) > (4611686018427387904 : Int)) then (-1 : Int) else U.valB (List.take ((4 : Nat).sub (0 : Nat)) (List.drop (0 : Nat) l))) ∧ (bif decide (U.valB (List.take ((4 : Nat).sub (0 : Nat)) (List.drop (0 : Nat) l)) >
 (4611686018427387904 : Int)) then (-1 : Int) else U.valB (List.take ((4 : Nat).sub (0 : Nat)) (List.drop (0 : Nat) l))) ≤ (↑(List.take ((↑l.length : Int).toNat.sub (4 : Nat)) (List.drop (4 : Nat) l)).length : Int) ∧ (↑(List.take ((↑l.length : Int).toNat.sub (4 : Nat)) (List.drop (4 : Nat) l)).length : Int) ≤ (↑(List.take ((↑l.length : Int).toNat.sub (4 : Nat)) (List.drop (4 : Nat) l)).length : Int)
 ∧ List.take ((bif decide (U.valB (List.take ((4 : Nat).sub (0 : Nat)) (List.drop (0 : Nat) l)) > (4611686018427387904 : Int)) then (-1 : Int) else U.valB (List.take ((4 : Nat).sub (0 : Nat)) (List.drop (0 : Nat) l))).toNat.sub (0 : Nat)) (List.drop (0 : Nat) (List.take ((↑l.length : Int).toNat.sub (4 : Nat)) (List.drop (4 : Nat) l))) = (U.rText (l, e)).1 ∧ List.take ((↑(List.take ((↑l.length :
 Int).toNat.sub (4 : Nat)) (List.drop (4 : Nat) l)).length : Int).toNat.sub (bif decide (U.valB (List.take ((4 : Nat).sub (0 : Nat)) (List.drop (0 : Nat) l)) > (4611686018427387904 : Int)) then (-1 : Int) else U.valB (List.take ((4 : Nat).sub (0 : Nat)) (List.drop (0 : Nat) l))).toNat) (List.drop (bif decide (U.valB (List.take ((4 : Nat).sub (0 : Nat)) (List.drop (0 : Nat) l)) > (4611686018427387904
 : Int)) then (-1 : Int) else U.valB (List.take ((4 : Nat).sub (0 : Nat)) (List.drop (0 : Nat) l))).toNat (List.take ((↑l.length : Int).toNat.sub (4 : Nat)) (List.drop (4 : Nat) l))) = (U.rText (l, e)).2.1 ∧ (2 : Int) = (U.rText (l, e)).2.2 ∧ True else bif (4 : Int) != (0 : Int) then [] = (U.rText (l, e)).1 ∧ List.take ((↑l.length : Int).toNat.sub (4 : Nat)) (List.drop (4 : Nat) l) = (U.rText (l,
 e)).2.1 ∧ (4 : Int) = (U.rText (l, e)).2.2 ∧ True else (0 : Int) ≤ (0 : Int) ∧ ((0 : Int) ≤ bif decide (U.valB (List.take ((4 : Nat).sub (0 : Nat)) (List.drop (0 : Nat) l)) > (4611686018427387904 : Int)) then (-1 : Int) else U.valB (List.take ((4 : Nat).sub (0 : Nat)) (List.drop (0 : Nat) l))) ∧ (bif decide (U.valB (List.take ((4 : Nat).sub (0 : Nat)) (List.drop (0 : Nat) l)) > (4611686018427387904
 : Int)) then (-1 : Int) else U.valB (List.take ((4 : Nat).sub (0 : Nat)) (List.drop (0 : Nat) l))) ≤ (↑(List.take ((↑l.length : Int).toNat.sub (4 : Nat)) (List.drop (4 : Nat) l)).length : Int) ∧ ((0 : Int) ≤ bif decide (U.valB (List.take ((4 : Nat).sub (0 : Nat)) (List.drop (0 : Nat) l)) > (4611686018427387904 : Int)) then (-1 : Int) else U.valB (List.take ((4 : Nat).sub (0 : Nat)) (List.drop (0 :
 Nat) l))) ∧ (bif decide (U.valB (List.take ((4 : Nat).sub (0 : Nat)) (List.drop (0 : Nat) l)) > (4611686018427387904 : Int)) then (-1 : Int) else U.valB (List.take ((4 : Nat).sub (0 : Nat)) (List.drop (0 : Nat) l))) ≤ (↑(List.take ((↑l.length : Int).toNat.sub (4 : Nat)) (List.drop (4 : Nat) l)).length : Int) ∧ (↑(List.take ((↑l.length : Int).toNat.sub (4 : Nat)) (List.drop (4 : Nat) l)).length :
 Int) ≤ (↑(List.take ((↑l.length : Int).toNat.sub (4 : Nat)) (List.drop (4 : Nat) l)).length : Int) ∧ List.take ((bif decide (U.valB (List.take ((4 : Nat).sub (0 : Nat)) (List.drop (0 : Nat) l)) > (4611686018427387904 : Int)) then (-1 : Int) else U.valB (List.take ((4 : Nat).sub (0 : Nat)) (List.drop (0 : Nat) l))).toNat.sub (0 : Nat)) (List.drop (0 : Nat) (List.take ((↑l.length : Int).toNat.sub (4
 : Nat)) (List.drop (4 : Nat) l))) = (U.rText (l, e)).1 ∧ List.take ((↑(List.take ((↑l.length : Int).toNat.sub (4 : Nat)) (List.drop (4 : Nat) l)).length : Int).toNat.sub (bif decide (U.valB (List.take ((4 : Nat).sub (0 : Nat)) (List.drop (0 : Nat) l)) > (4611686018427387904 : Int)) then (-1 : Int) else U.valB (List.take ((4 : Nat).sub (0 : Nat)) (List.drop (0 : Nat) l))).toNat) (List.drop (bif
 decide (U.valB (List.take ((4 : Nat).sub (0 : Nat)) (List.drop (0 : Nat) l)) > (4611686018427387904 : Int)) then (-1 : Int) else U.valB (List.take ((4 : Nat).sub (0 : Nat)) (List.drop (0 : Nat) l))).toNat (List.take ((↑l.length : Int).toNat.sub (4 : Nat)) (List.drop (4 : Nat) l))) = (U.rText (l, e)).2.1 ∧ (4 : Int) = (U.rText (l, e)).2.2 ∧ True else bif e != (0 : Int) then [] = (U.rText (l, e)).1 ∧
 List.take ((↑l.length : Int).toNat.sub (4 : Nat)) (List.drop (4 : Nat) l) = (U.rText (l, e)).2.1 ∧ e = (U.rText (l, e)).2.2 ∧ True else bif bif decide (e = (0 : Int)) then decide ((↑(List.take ((↑l.length : Int).toNat.sub (4 : Nat)) (List.drop (4 : Nat) l)).length : Int) < bif decide (U.valB (List.take ((4 : Nat).sub (0 : Nat)) (List.drop (0 : Nat) l)) > (4611686018427387904 : Int)) then (-1 : Int)
 else U.valB (List.take ((4 : Nat).sub (0 : Nat)) (List.drop (0 : Nat) l))) else false then bif (2 : Int) != (0 : Int) then [] = (U.rText (l, e)).1 ∧ List.take ((↑l.length : Int).toNat.sub (4 : Nat)) (List.drop (4 : Nat) l) = (U.rText (l, e)).2.1 ∧ (2 : Int) = (U.rText (l, e)).2.2 ∧ True else (0 : Int) ≤ (0 : Int) ∧ ((0 : Int) ≤ bif decide (U.valB (List.take ((4 : Nat).sub (0 : Nat)) (List.drop (0 :
 Nat) l)) > (4611686018427387904 : Int)) then (-1 : Int) else U.valB (List.take ((4 : Nat).sub (0 : Nat)) (List.drop (0 : Nat) l))) ∧ (bif decide (U.valB (List.take ((4 : Nat).sub (0 : Nat)) (List.drop (0 : Nat) l)) > (4611686018427387904 : Int)) then (-1 : Int) else U.valB (List.take ((4 : Nat).sub (0 : Nat)) (List.drop (0 : Nat) l))) ≤ (↑(List.take ((↑l.length : Int).toNat.sub (4 : Nat))
 (List.drop (4 : Nat) l)).length : Int) ∧ ((0 : Int) ≤ bif decide (U.valB (List.take ((4 : Nat).sub (0 : Nat)) (List.drop (0 : Nat) l)) > (4611686018427387904 : Int)) then (-1 : Int) else U.valB (List.take ((4 : Nat).sub (0 : Nat)) (List.drop (0 : Nat) l))) ∧ (bif decide (U.valB (List.take ((4 : Nat).sub (0 : Nat)) (List.drop (0 : Nat) l)) > (4611686018427387904 : Int)) then (-1 : Int) else U.valB
 (List.take ((4 : Nat).sub (0 : Nat)) (List.drop (0 : Nat) l))) ≤ (↑(List.take ((↑l.length : Int).toNat.sub (4 : Nat)) (List.drop (4 : Nat) l)).length : Int) ∧ (↑(List.take ((↑l.length : Int).toNat.sub (4 : Nat)) (List.drop (4 : Nat) l)).length : Int) ≤ (↑(List.take ((↑l.length : Int).toNat.sub (4 : Nat)) (List.drop (4 : Nat) l)).length : Int) ∧ List.take ((bif decide (U.valB (List.take ((4 :
 Nat).sub (0 : Nat)) (List.drop (0 : Nat) l)) > (4611686018427387904 : Int)) then (-1 : Int) else U.valB (List.take ((4 : Nat).sub (0 : Nat)) (List.drop (0 : Nat) l))).toNat.sub (0 : Nat)) (List.drop (0 : Nat) (List.take ((↑l.length : Int).toNat.sub (4 : Nat)) (List.drop (4 : Nat) l))) = (U.rText (l, e)).1 ∧ List.take ((↑(List.take ((↑l.length : Int).toNat.sub (4 : Nat)) (List.drop (4 : Nat)
 l)).length : Int).toNat.sub (bif decide (U.valB (List.take ((4 : Nat).sub (0 : Nat)) (List.drop (0 : Nat) l)) > (4611686018427387904 : Int)) then (-1 : Int) else U.valB (List.take ((4 : Nat).sub (0 : Nat)) (List.drop (0 : Nat) l))).toNat) (List.drop (bif decide (U.valB (List.take ((4 : Nat).sub (0 : Nat)) (List.drop (0 : Nat) l)) > (4611686018427387904 : Int)) then (-1 : Int) else U.valB (List.take
 ((4 : Nat).sub (0 : Nat)) (List.drop (0 : Nat) l))).toNat (List.take ((↑l.length : Int).toNat.sub (4 : Nat)) (List.drop (4 : Nat) l))) = (U.rText (l, e)).2.1 ∧ (2 : Int) = (U.rText (l, e)).2.2 ∧ True else bif e != (0 : Int) then [] = (U.rText (l, e)).1 ∧ List.take ((↑l.length : Int).toNat.sub (4 : Nat)) (List.drop (4 : Nat) l) = (U.rText (l, e)).2.1 ∧ e = (U.rText (l, e)).2.2 ∧ True else (0 : Int)
 ≤ (0 : Int) ∧ ((0 : Int) ≤ bif decide (U.valB (List.take ((4 : Nat).sub (0 : Nat)) (List.drop (0 : Nat) l)) > (4611686018427387904 : Int)) then (-1 : Int) else U.valB (List.take ((4 : Nat).sub (0 : Nat)) (List.drop (0 : Nat) l))) ∧ (bif decide (U.valB (List.take ((4 : Nat).sub (0 : Nat)) (List.drop (0 : Nat) l)) > (4611686018427387904 : Int)) then (-1 : Int) else U.valB (List.take ((4 : Nat).sub (0
 : Nat)) (List.drop (0 : Nat) l))) ≤ (↑(List.take ((↑l.length : Int).toNat.sub (4 : Nat)) (List.drop (4 : Nat) l)).length : Int) ∧ ((0 : Int) ≤ bif decide (U.valB (List.take ((4 : Nat).sub (0 : Nat)) (List.drop (0 : Nat) l)) > (4611686018427387904 : Int)) then (-1 : Int) else U.valB (List.take ((4 : Nat).sub (0 : Nat)) (List.drop (0 : Nat) l))) ∧ (bif decide (U.valB (List.take ((4 : Nat).sub (0 :
 Nat)) (List.drop (0 : Nat) l)) > (4611686018427387904 : Int)) then (-1 : Int) else U.valB (List.take ((4 : Nat).sub (0 : Nat)) (List.drop (0 : Nat) l))) ≤ (↑(List.take ((↑l.length : Int).toNat.sub (4 : Nat)) (List.drop (4 : Nat) l)).length : Int) ∧ (↑(List.take ((↑l.length : Int).toNat.sub (4 : Nat)) (List.drop (4 : Nat) l)).length : Int) ≤ (↑(List.take ((↑l.length : Int).toNat.sub (4 : Nat))
 (List.drop (4 : Nat) l)).length : Int) ∧ List.take ((bif decide (U.valB (List.take ((4 : Nat).sub (0 : Nat)) (List.drop (0 : Nat) l)) > (4611686018427387904 : Int)) then (-1 : Int) else U.valB (List.take ((4 : Nat).sub (0 : Nat)) (List.drop (0 : Nat) l))).toNat.sub (0 : Nat)) (List.drop (0 : Nat) (List.take ((↑l.length : Int).toNat.sub (4 : Nat)) (List.drop (4 : Nat) l))) = (U.rText (l, e)).1 ∧
 List.take ((↑(List.take ((↑l.length : Int).toNat.sub (4 : Nat)) (List.drop (4 : Nat) l)).length : Int).toNat.sub (bif decide (U.valB (List.take ((4 : Nat).sub (0 : Nat)) (List.drop (0 : Nat) l)) > (4611686018427387904 : Int)) then (-1 : Int) else U.valB (List.take ((4 : Nat).sub (0 : Nat)) (List.drop (0 : Nat) l))).toNat) (List.drop (bif decide (U.valB (List.take ((4 : Nat).sub (0 : Nat))
 (List.drop (0 : Nat) l)) > (4611686018427387904 : Int)) then (-1 : Int) else U.valB (List.take ((4 : Nat).sub (0 : Nat)) (List.drop (0 : Nat) l))).toNat (List.take ((↑l.length : Int).toNat.sub (4 : Nat)) (List.drop (4 : Nat) l))) = (U.rText (l, e)).2.1 ∧ e = (U.rText (l, e)).2.2 ∧ True
def vcref03_Reader_CountR (l : List Int) (e : Int) (m : Int) : Prop := bif bif decide ((U.rNum (l, e)).2.2 = (0 : Int)) then decide ((U.rNum (l, e)).1 > m) else false then bif (4 : Int) != (0 : Int) then (0 : Int) = (U.rCount m (l, e)).1 ∧ (U.rNum (l, e)).2.1 = (U.rCount m (l, e)).2.1 ∧ (4 : Int) = (U.rCount m (l, e)).2.2 ∧ True else (U.rNum (l, e)).1 = (U.rCount m (l, e)).1 ∧ (U.rNum (l, e)).2.1 =
 (U.rCount m (l, e)).2.1 ∧ (4 : Int) = (U.rCount m (l, e)).2.2 ∧ True else bif (U.rNum (l, e)).2.2 != (0 : Int) then (0 : Int) = (U.rCount m (l, e)).1 ∧ (U.rNum (l, e)).2.1 = (U.rCount m (l, e)).2.1 ∧ (U.rNum (l, e)).2.2 = (U.rCount m (l, e)).2.2 ∧ True else (U.rNum (l, e)).1 = (U.rCount m (l, e)).1 ∧ (U.rNum (l, e)).2.1 = (U.rCount m (l, e)).2.1 ∧ (U.rNum (l, e)).2.2 = (U.rCount m (l, e)).2.2 ∧
 True
def vcref03_Reader_FailR (l : List Int) (e : Int) (x : Bool) : Prop := bif bif decide (e = (0 : Int)) then x else false then l = (U.rFail x (l, e)).1 ∧ (3 : Int) = (U.rFail x (l, e)).2 ∧ True else l = (U.rFail x (l, e)).1 ∧ e = (U.rFail x (l, e)).2 ∧ True
def vcpack_Reader_DoneR (l : List Int) (e : Int) : Prop := (U.rFail (decide ((↑l.length : Int) > (0 : Int))) (l, e)).2 = U.rDone (l, e) ∧ (U.rFail (decide ((↑l.length : Int) > (0 : Int))) (l, e)).1 = (U.rFail (decide (l.length > (0 : Nat))) (l, e)).1 ∧ (U.rFail (decide ((↑l.length : Int) > (0 : Int))) (l, e)).2 = (U.rFail (decide (l.length > (0 : Nat))) (l, e)).2 ∧ True
def vcref03_Reader_DoneR (l : List Int) (e : Int) : Prop := bif bif decide (e = (0 : Int)) then decide ((↑l.length : Int) > (0 : Int)) else false then (3 : Int) = U.rDone (l, e) ∧ l = l ∧ e = e ∧ True else e = U.rDone (l, e) ∧ l = l ∧ e = e ∧ True
def vcref03_bytes (n : Int) (size : Int) : Prop := (0 : Int) ≤ size ∧ size ≤ size ∧ size.mul (↑(1 : Nat) : Int) ≤ (140737488355328 : Int) ∧ size ≤ (9223372036854775807 : Int) ∧ ∃ (x0 : List Int × Int × Int), (U.stref03_bytes_3 n size (List.replicate size.toNat (0 : Int)) n (IntKind.i64.wrap (size.sub (1 : Int))) = U.stref03_bytes_3 n size x0.1 x0.2.1 x0.2.2 ∧ U.Iref03_bytes_3 n size x0.1 x0.2.1
 x0.2.2) ∧ ∀ (x : List Int × Int × Int), U.Iref03_bytes_3 n size x.1 x.2.1 x.2.2 → bif decide (x.2.2 ≥ (0 : Int)) then (256 : Int) ≠ (0 : Int) ∧ (0 : Int) ≤ x.2.2 ∧ x.2.2 < (↑x.1.length : Int) ∧ x.2.2.toNat < x.1.length ∧ (256 : Int) ≠ (0 : Int) ∧ ∃ (y : List Int × Int × Int), U.stref03_bytes_3 n size (x.1.set x.2.2.toNat (IntKind.u8.wrap (x.2.1.tmod (256 : Int)))) (IntKind.i64.wrap (x.2.1.tdiv (256
 : Int))) (IntKind.i64.wrap (x.2.2.sub (1 : Int))) = U.stref03_bytes_3 n size y.1 y.2.1 y.2.2 ∧ U.Iref03_bytes_3 n size y.1 y.2.1 y.2.2 ∧ (y.2.2.add (1 : Int)).toNat < (x.2.2.add (1 : Int)).toNat else x.1 = U.beN size.toNat n ∧ True
def vcref03_Num (b : List Int) (n : Int) : Prop := (Nat.add (0 : Nat) b.length).mul (1 : Nat) ≤ (140737488355328 : Nat) ∧ Nat.add (0 : Nat) b.length ≤ maxLen ∧ ((1 : Int) ≤ (8 : Int) ∧ (8 : Int) ≤ (8 : Int)) ∧ (0 : Int) ≤ minI (maxI n (0 : Int)) (4611686018427387904 : Int) ∧ (b.length.add (U.beN (8 : Nat) (minI (maxI n (0 : Int)) (4611686018427387904 : Int))).length).mul (1 : Nat) ≤
 (140737488355328 : Nat) ∧ b.length.add (U.beN (8 : Nat) (minI (maxI n (0 : Int)) (4611686018427387904 : Int))).length ≤ maxLen ∧ b.append (U.beN (8 : Nat) (minI (maxI n (0 : Int)) (4611686018427387904 : Int))) = b.append (U.num1 n) ∧ True
def vcref03_Text (b : List Int) (s : List Int) : Prop := bif decide ((↑s.length : Int) > (4096 : Int)) then (0 : Int) ≤ (0 : Int) ∧ (0 : Int) ≤ (4096 : Int) ∧ (4096 : Int) ≤ (↑s.length : Int) ∧ (Nat.add (0 : Nat) b.length).mul (1 : Nat) ≤ (140737488355328 : Nat) ∧ Nat.add (0 : Nat) b.length ≤ maxLen ∧ ((1 : Int) ≤ (4 : Int) ∧ (4 : Int) ≤ (8 : Int)) ∧ (0 : Int) ≤ (↑(List.take ((4096 : Nat).sub (0 :
 Nat)) (List.drop (0 : Nat) s)).length : Int) ∧ (b.length.add (U.beN (4 : Nat) (↑(List.take ((4096 : Nat).sub (0 : Nat)) (List.drop (0 : Nat) s)).length : Int)).length).mul (1 : Nat) ≤ (140737488355328 : Nat) ∧ b.length.add (U.beN (4 : Nat) (↑(List.take ((4096 : Nat).sub (0 : Nat)) (List.drop (0 : Nat) s)).length : Int)).length ≤ maxLen ∧ ((b.append (U.beN (4 : Nat) (↑(List.take ((4096 : Nat).sub (0
 : Nat)) (List.drop (0 : Nat) s)).length : Int))).length.add (List.take ((4096 : Nat).sub (0 : Nat)) (List.drop (0 : Nat) s)).length).mul (1 : Nat) ≤ (140737488355328 : Nat) ∧ (b.append (U.beN (4 : Nat) (↑(List.take ((4096 : Nat).sub (0 : Nat)) (List.drop (0 : Nat) s)).length : Int))).length.add (List.take ((4096 : Nat).sub (0 : Nat)) (List.drop (0 : Nat) s)).length ≤ maxLen ∧ (b.append (U.beN (4 :
 Nat) (↑(List.take ((4096 : Nat).sub (0 : Nat)) (List.drop (0 : Nat) s)).length : Int))).append (List.take ((4096 : Nat).sub (0 : Nat)) (List.drop (0 : Nat) s)) = b.append (U.text1 s) ∧ True else (Nat.add (0 : Nat) b.length).mul (1 : Nat) ≤ (140737488355328 : Nat) ∧ Nat.add (0 : Nat) b.length ≤ maxLen ∧ ((1 : Int) ≤ (4 : Int) ∧ (4 : Int) ≤ (8 : Int)) ∧ (0 : Int) ≤ (↑s.length : Int) ∧ (b.length.add
 (U.beN (4 : Nat) (↑s.length : Int)).length).mul (1 : Nat) ≤ (140737488355328 : Nat) ∧ b.length.add (U.beN (4 : Nat) (↑s.length : Int)).length ≤ maxLen ∧ ((b.append (U.beN (4 : Nat) (↑s.length : Int))).length.add s.length).mul (1 : Nat) ≤ (140737488355328 : Nat) ∧ (b.append (U.beN (4 : Nat) (↑s.length : Int))).length.add s.length ≤ maxLen ∧ (b.append (U.beN (4 : Nat) (↑s.length : Int))).append s =
 b.append (U.text1 s) ∧ True
def vcref03_Same (a : List Int) (b : List Int) : Prop := a.beq b = decide (a = b) ∧ True
end Go.Proofs.YtllmhikoaklpbaaDoor

set_option linter.unusedSimpArgs false
set_option linter.unusedVariables false
set_option maxRecDepth 100000
namespace Go.Proofs.YtllmhikoaklpbaaDoor
open Go.Vc
open Go.Vc.T
theorem beN_len (k : Nat) (n : Int) : (U.beN k n).length = k := by simp [U.beN]
theorem beN_get (k : Nat) (n : Int) (j : Nat) (h : j < (U.beN k n).length) : (U.beN k n)[j] = n / 2 ^ (8 * (k - 1 - j)) % 256 := by simp [U.beN]
theorem hp1 {a : Prop} {l : List Prop} (h : ∀ p ∈ a :: l, p) : a ∧ ∀ p ∈ l, p := ⟨h _ (.head _), fun p hp => h p (List.mem_cons_of_mem _ hp)⟩
theorem num1_len (n : Int) : (U.num1 n).length = 8 := beN_len 8 _
theorem nums_c (x : Int) (l : List Int) : U.nums (x :: l) = U.num1 x ++ U.nums l := by simp [U.nums]
theorem nums_len : ∀ l : List Int, (U.nums l).length = 8 * l.length
  | [] => rfl
  | x :: l => by rw [nums_c, List.length_append, num1_len, nums_len l, List.length_cons]; omega
theorem nums_snoc (l : List Int) (x : Int) : U.nums (l ++ [x]) = U.nums l ++ U.num1 x := by simp [U.nums]
theorem text1_len (s : List Int) : (U.text1 s).length ≤ 4100 := by
  unfold U.text1; rw [List.length_append, beN_len, List.length_take]; omega
theorem texts_snoc (l : List (List Int)) (x : List Int) : U.texts (l ++ [x]) = U.texts l ++ U.text1 x := by simp [U.texts]
theorem texts_len : ∀ l : List (List Int), (U.texts l).length ≤ 4100 * l.length
  | [] => Nat.le_refl _
  | x :: l => by
    have := text1_len x
    have := texts_len l
    have : U.texts (x :: l) = U.text1 x ++ U.texts l := by simp [U.texts]
    rw [this, List.length_append, List.length_cons]; omega
theorem clamp_bd (n : Int) : 0 ≤ U.clamp n ∧ U.clamp n ≤ 4611686018427387904 := by unfold U.clamp minI maxI; split <;> split <;> omega
theorem valB_app (a : List Int) (x : Int) : U.valB (a ++ [x]) = U.valB a * 256 + x := by simp [U.valB, List.foldl_append]
theorem snoc_of {l : List Int} {n : Nat} (h : l.length = n + 1) : ∃ a x, l = a ++ [x] ∧ a.length = n := by
  refine ⟨l.take n, l[n], ?_, by rw [List.length_take]; omega⟩
  rw [← List.take_succ_eq_append_getElem (by omega), List.take_of_length_le (by omega)]
theorem valB_low : ∀ (n : Nat) (l : List Int), l.length = n → (∀ x ∈ l, Byte x) → 0 ≤ U.valB l ∧ U.valB l < 256 ^ n
  | 0, l, h, _ => by
    obtain rfl := List.length_eq_zero_iff.1 h
    exact ⟨Int.le_refl _, by decide⟩
  | n + 1, l, h, hb => by
    obtain ⟨a, x, rfl, ha⟩ := snoc_of h
    have ih := valB_low n a ha fun y hy => hb y (List.mem_append_left _ hy)
    have hx := hb x (by simp)
    have hx0 : 0 ≤ x := hx.1
    have hx1 : x ≤ 255 := by have := hx.2; omega
    rw [valB_app, Int.pow_succ]; omega
theorem byte_of_valid {l : List Int} (h : ∀ x ∈ l, Valid (.int .u8) x) : ∀ x ∈ l, Byte x := fun x hx => byte_of (h x hx)
theorem pow_le {a b : Nat} (h : a ≤ b) : (256 : Int) ^ a ≤ 256 ^ b := by
  have h2 : (256 : Nat) ^ a ≤ 256 ^ b := Nat.pow_le_pow_right (by decide) h
  exact_mod_cast h2
theorem okpack_wideO (b : List Int) (n size : Int) (hp : ∀ p ∈ [1 ≤ size ∧ size ≤ 8, b.length ≤ 2000000000000, 0 ≤ n], p) : vcpack_wideO b n size := by
  obtain ⟨h1, hp⟩ := hp1 hp
  obtain ⟨h2, hp⟩ := hp1 hp
  obtain ⟨h3, _⟩ := hp1 hp
  unfold vcpack_wideO
  simp only [cond_prop, cond_and, cond_or, int_add, int_sub, int_mul, int_neg, nat_add, nat_sub, nat_mul, list_append, list_beq, U.at_, maxLen_eq, decide_eq_true_eq, decide_eq_false_iff_not, bne_iff_ne, bne_eq_false_iff_eq, Bool.not_eq_true', Bool.not_eq_false', Bool.not_eq_eq_eq_not, Bool.not_true, Bool.not_false, beq_eq_false_iff_ne, beq_iff_eq, and_true, true_and, Bool.and_eq_true, Bool.or_eq_true, Bool.and_eq_false_iff, Bool.or_eq_false_iff, U.Ipack_wide_2]
  refine ⟨(b, size - 1), ⟨by rw [wrap_i (by omega) (by omega)], by show -1 ≤ size - 1; omega, by show size - 1 < size; omega, by simp⟩, ?_⟩
  rintro ⟨o, i⟩ ⟨i0, i1, ho⟩
  simp only [] at *
  have hl : (U.beN size.toNat n).length = size.toNat := beN_len _ _
  have hol : o.length ≤ b.length + 8 := by rw [ho, List.length_append, List.length_take]; omega
  refine ⟨fun hi => ?_, fun hi => ?_⟩
  · have w1 : IntKind.i64.wrap (8 * i) = 8 * i := by rw [wrap_i] <;> omega
    refine ⟨by rw [w1]; omega, by omega, by omega, (_, i - 1), by rw [wrap_i (x := i - 1) (by omega) (by omega)], ⟨by show -1 ≤ i - 1; omega, by show i - 1 < size; omega, ?_⟩, by show (i - 1 + 1).toNat < _; omega⟩
    show o ++ [IntKind.u8.wrap _] = _
    rw [w1, wrap_u8]
    have hif : (if (8 * i).toNat ≤ IntKind.u64.bits then (8 * i).toNat else IntKind.u64.bits) = 8 * i.toNat := by
      have : IntKind.u64.bits = 64 := rfl
      rw [this, if_pos (by omega)]; omega
    rw [hif]
    have hf : n.fdiv (Int.pow 2 (8 * i.toNat)) = n / 2 ^ (8 * i.toNat) := Int.fdiv_eq_ediv_of_nonneg _ (Int.le_of_lt (Int.pow_pos (by decide)))
    rw [hf, ho, List.append_assoc, show (size - 1 - (i - 1)).toNat = (size - 1 - i).toNat + 1 by omega, List.take_succ_eq_append_getElem (by omega), beN_get, show size.toNat - 1 - (size - 1 - i).toNat = i.toNat by omega]
  · rw [ho, List.take_of_length_le (by omega)]
theorem okpack_Num (b l : List Int) (h1 : b.length ≤ 1000000000000) (h2 : l.length ≤ 100000000000) : vcpack_Num b l := by
  unfold vcpack_Num
  have key : ∀ x : List Int × Int, U.Ipack_Num_3 b l x.1 x.2 → bif decide (x.snd < (↑l.length : Int)) then
      (0 : Int) ≤ x.snd ∧ x.snd < (↑l.length : Int) ∧ ((1 : Int) ≤ 8 ∧ (8 : Int) ≤ 8) ∧ x.fst.length ≤ 2000000000000 ∧ (0 : Int) ≤ IntKind.u64.wrap (minI (maxI (l.getD x.snd.toNat 0) 0) 4611686018427387904) ∧
        ∃ (y : List Int × Int), U.stpack_Num_3 b l (x.fst.append (U.beN 8 (IntKind.u64.wrap (minI (maxI (l.getD x.snd.toNat 0) 0) 4611686018427387904)))) (IntKind.i64.wrap (x.snd.add 1)) = U.stpack_Num_3 b l y.fst y.snd ∧ U.Ipack_Num_3 b l y.fst y.snd ∧ l.length.sub y.snd.toNat < l.length.sub x.snd.toNat
      else x.fst = b.append (U.nums l) ∧ True := by
    rintro ⟨o, i⟩ ⟨⟨i0, i1⟩, ho⟩
    simp only [cond_prop, cond_and, cond_or, int_add, int_sub, int_mul, int_neg, nat_add, nat_sub, nat_mul, list_append, list_beq, U.at_, maxLen_eq, decide_eq_true_eq, decide_eq_false_iff_not, bne_iff_ne, bne_eq_false_iff_eq, Bool.not_eq_true', Bool.not_eq_false', Bool.not_eq_eq_eq_not, Bool.not_true, Bool.not_false, beq_eq_false_iff_ne, beq_iff_eq, and_true, true_and, Bool.and_eq_true, Bool.or_eq_true, Bool.and_eq_false_iff, Bool.or_eq_false_iff, U.Ipack_Num_3] at *
    have hol : o.length = b.length + 8 * i.toNat := by rw [ho, List.length_append, nums_len, List.length_take]; omega
    have hc := clamp_bd (l.getD i.toNat 0)
    have hw : IntKind.u64.wrap (minI (maxI (l.getD i.toNat 0) 0) 4611686018427387904) = U.clamp (l.getD i.toNat 0) := by
      show IntKind.u64.wrap (U.clamp _) = _
      rw [wrap_u64]; omega
    refine ⟨fun hi => ⟨i0, hi, by omega, by omega, by rw [hw]; omega, (_, i + 1), by rw [wrap_i (x := i + 1) (by omega) (by omega)], ⟨⟨by show 0 ≤ i + 1; omega, by show i + 1 ≤ _; omega⟩, ?_⟩, by show l.length - (i + 1).toNat < _; omega⟩, fun hi => ?_⟩
    · show o ++ U.beN 8 _ = _
      rw [hw, ho, take_at i0 hi, nums_snoc, List.append_assoc, getD_at (by omega)]; rfl
    · rw [ho, take_end (by omega)]
  intro nb hnb _
  simp only [cond_prop, cond_and, cond_or, int_add, int_sub, int_mul, int_neg, nat_add, nat_sub, nat_mul, list_append, list_beq, U.at_, maxLen_eq, decide_eq_true_eq, decide_eq_false_iff_not, bne_iff_ne, bne_eq_false_iff_eq, Bool.not_eq_true', Bool.not_eq_false', Bool.not_eq_eq_eq_not, Bool.not_true, Bool.not_false, beq_eq_false_iff_ne, beq_iff_eq, and_true, true_and, Bool.and_eq_true, Bool.or_eq_true, Bool.and_eq_false_iff, Bool.or_eq_false_iff] at key ⊢
  refine ⟨fun hb => ⟨([], 0), ⟨rfl, ⟨by show (0 : Int) ≤ 0; omega, by show (0 : Int) ≤ _; omega⟩, ?_⟩, key⟩, fun hb => ⟨by omega, by omega, (b, 0), ⟨rfl, ⟨by show (0 : Int) ≤ 0; omega, by show (0 : Int) ≤ _; omega⟩, by simp [U.nums]⟩, key⟩⟩
  rw [List.length_eq_zero_iff.1 (hnb hb)]; rfl
theorem okpack_Text (b : List Int) (l : List (List Int)) (h1 : b.length ≤ 1000000000000) (h2 : l.length ≤ 100000000) : vcpack_Text b l := by
  unfold vcpack_Text
  have hmin : ∀ s : List Int, (minI (s.length : Int) 4096).toNat = min s.length 4096 := fun s => by unfold minI; split <;> omega
  have hcut : ∀ s : List Int, List.take ((minI (s.length : Int) 4096).toNat.sub 0) (List.drop 0 s) = s.take 4096 := fun s => by
    rw [nat_sub, hmin, Nat.sub_zero, List.drop_zero]
    by_cases h : s.length ≤ 4096
    · rw [Nat.min_eq_left h, List.take_length, List.take_of_length_le h]
    · rw [Nat.min_eq_right (by omega)]
  have hlen : ∀ s : List Int, IntKind.u64.wrap (((s.take 4096).length : Nat) : Int) = minI (s.length : Int) 4096 := fun s => by
    rw [wrap_u64, List.length_take]; unfold minI; split <;> omega
  have hb0 : ∀ s : List Int, 0 ≤ minI (s.length : Int) 4096 ∧ minI (s.length : Int) 4096 ≤ s.length := fun s => by unfold minI; split <;> omega
  intro nb hnb _
  simp only [hcut, hlen]
  simp only [cond_prop, cond_and, cond_or, int_add, int_sub, int_mul, int_neg, nat_add, nat_sub, nat_mul, list_append, list_beq, U.at_, maxLen_eq, decide_eq_true_eq, decide_eq_false_iff_not, bne_iff_ne, bne_eq_false_iff_eq, Bool.not_eq_true', Bool.not_eq_false', Bool.not_eq_eq_eq_not, Bool.not_true, Bool.not_false, beq_eq_false_iff_ne, beq_iff_eq, and_true, true_and, Bool.and_eq_true, Bool.or_eq_true, Bool.and_eq_false_iff, Bool.or_eq_false_iff, U.Ipack_Text_3]
  have key : ∀ x : List Int × Int, (0 ≤ x.2 ∧ x.2 ≤ (l.length : Int)) ∧ x.1 = b ++ U.texts (l.take x.2.toNat) → x.1.length ≤ b.length + 4100 * l.length ∧ (x.2 < (l.length : Int) → x.1 ++ U.beN 4 (minI ((l.getD x.2.toNat []).length : Int) 4096) ++ (l.getD x.2.toNat []).take 4096 = b ++ U.texts (l.take (x.2 + 1).toNat)) := by
    rintro ⟨o, i⟩ ⟨⟨i0, i1⟩, ho⟩
    simp only [] at *
    have ht := texts_len (l.take i.toNat)
    rw [List.length_take] at ht
    have h4 : 4100 * min i.toNat l.length ≤ 4100 * l.length := Nat.mul_le_mul_left _ (by omega)
    refine ⟨by rw [ho, List.length_append]; omega, fun hi => ?_⟩
    rw [ho, take_at i0 hi, texts_snoc, getD_at (by omega), List.append_assoc, List.append_assoc]; rfl
  have rnd : ∀ x : List Int × Int, (0 ≤ x.2 ∧ x.2 ≤ (l.length : Int)) ∧ x.1 = b ++ U.texts (l.take x.2.toNat) → (x.2 < (l.length : Int) → 0 ≤ x.2 ∧ x.2 < (l.length : Int) ∧ (0 : Int) ≤ 0 ∧ 0 ≤ minI ((l.getD x.2.toNat []).length : Int) 4096 ∧ minI ((l.getD x.2.toNat []).length : Int) 4096 ≤ ((l.getD x.2.toNat []).length : Int) ∧ ((1 : Int) ≤ 4 ∧ (4 : Int) ≤ 8) ∧ x.1.length ≤ 2000000000000 ∧ 0 ≤ minI ((l.getD x.2.toNat []).length : Int) 4096 ∧ ((x.1 ++ U.beN 4 (minI ((l.getD x.2.toNat []).length : Int) 4096)).length + ((l.getD x.2.toNat []).take 4096).length) * 1 ≤ 140737488355328 ∧ (x.1 ++ U.beN 4 (minI ((l.getD x.2.toNat []).length : Int) 4096)).length + ((l.getD x.2.toNat []).take 4096).length ≤ 9223372036854775807 ∧
      ∃ y : List Int × Int, U.stpack_Text_3 b l (x.1 ++ U.beN 4 (minI ((l.getD x.2.toNat []).length : Int) 4096) ++ (l.getD x.2.toNat []).take 4096) (IntKind.i64.wrap (x.2 + 1)) = U.stpack_Text_3 b l y.1 y.2 ∧ ((0 ≤ y.2 ∧ y.2 ≤ (l.length : Int)) ∧ y.1 = b ++ U.texts (l.take y.2.toNat)) ∧ l.length - y.2.toNat < l.length - x.2.toNat) ∧ (¬ x.2 < (l.length : Int) → x.1 = b ++ U.texts l) := by
    rintro ⟨o, i⟩ ⟨⟨i0, i1⟩, ho⟩
    obtain ⟨k1, k2⟩ := key (o, i) ⟨⟨i0, i1⟩, ho⟩
    simp only [] at *
    have hm := hb0 (l.getD i.toNat [])
    refine ⟨fun hi => ⟨i0, hi, by omega, hm.1, hm.2, by omega, by omega, hm.1, ?_, ?_, (_, i + 1), by rw [wrap_i (x := i + 1) (by omega) (by omega)], ⟨⟨by show 0 ≤ i + 1; omega, by show i + 1 ≤ _; omega⟩, k2 hi⟩, by show l.length - (i + 1).toNat < _; omega⟩, fun hi => ?_⟩
    · rw [List.length_append, beN_len, List.length_take]; omega
    · rw [List.length_append, beN_len, List.length_take]; omega
    · rw [ho, take_end (by omega)]
  refine ⟨fun hb => ⟨([], 0), ⟨rfl, ⟨by show (0 : Int) ≤ 0; omega, by show (0 : Int) ≤ _; omega⟩, ?_⟩, rnd⟩, fun hb => ⟨by omega, by omega, (b, 0), ⟨rfl, ⟨by show (0 : Int) ≤ 0; omega, by show (0 : Int) ≤ _; omega⟩, by simp [U.texts]⟩, rnd⟩⟩
  rw [List.length_eq_zero_iff.1 (hnb hb)]; rfl
theorem or_byte {a c : Int} (ha0 : 0 ≤ a) (ha1 : a < 72057594037927936) (hc0 : 0 ≤ c) (hc1 : c ≤ 255) : orK .u64 (a * 256) c = a * 256 + c := by
  obtain ⟨m, rfl⟩ := Int.eq_ofNat_of_zero_le ha0
  obtain ⟨d, rfl⟩ := Int.eq_ofNat_of_zero_le hc0
  unfold orK
  have e1 : BitVec.ofInt IntKind.u64.bits ((m : Int) * 256) = BitVec.ofNat 64 (m * 256) := by
    show BitVec.ofInt 64 _ = _
    rw [show (m : Int) * 256 = ((m * 256 : Nat) : Int) by push_cast; rfl, BitVec.ofInt_natCast]
  have e2 : BitVec.ofInt IntKind.u64.bits (d : Int) = BitVec.ofNat 64 d := BitVec.ofInt_natCast ..
  rw [e1, e2]
  have e3 : ((BitVec.ofNat 64 (m * 256)) ||| (BitVec.ofNat 64 d)).toNat = m * 256 + d := by
    rw [BitVec.toNat_or, BitVec.toNat_ofNat, BitVec.toNat_ofNat, Nat.mod_eq_of_lt (by omega), Nat.mod_eq_of_lt (by omega)]
    have := Nat.two_pow_add_eq_or_of_lt (i := 8) (b := d) (by omega) m
    rw [show m * 256 = 2 ^ 8 * m by omega, ← this]
  show IntKind.u64.wrap (((BitVec.ofNat 64 (m * 256)) ||| (BitVec.ofNat 64 d)).toNat : Int) = _
  rw [e3, wrap_u64]; omega
theorem okpack_number (b : List Int) (hb : ∀ x ∈ b, Valid (.int .u8) x) (h8 : b.length ≤ 8) : vcpack_number b := by
  unfold vcpack_number
  simp only [orK_eq]
  simp only [cond_prop, cond_and, cond_or, int_add, int_sub, int_mul, int_neg, nat_add, nat_sub, nat_mul, list_append, list_beq, U.at_, maxLen_eq, decide_eq_true_eq, decide_eq_false_iff_not, bne_iff_ne, bne_eq_false_iff_eq, Bool.not_eq_true', Bool.not_eq_false', Bool.not_eq_eq_eq_not, Bool.not_true, Bool.not_false, beq_eq_false_iff_ne, beq_iff_eq, and_true, true_and, Bool.and_eq_true, Bool.or_eq_true, Bool.and_eq_false_iff, Bool.or_eq_false_iff, U.Ipack_number_2]
  refine ⟨(0, 0), ⟨rfl, ⟨by show (0 : Int) ≤ 0; omega, by show (0 : Int) ≤ _; omega⟩, rfl⟩, ?_⟩
  rintro ⟨n, i⟩ ⟨⟨i0, i1⟩, hn⟩
  simp only [] at *
  refine ⟨fun hi => ⟨i0, hi, by omega, (_, i + 1), by rw [wrap_i (x := i + 1) (by omega) (by omega)], ⟨⟨by show 0 ≤ i + 1; omega, by show i + 1 ≤ _; omega⟩, ?_⟩, by show b.length - (i + 1).toNat < _; omega⟩, fun hi => ?_⟩
  · have hv := valB_low i.toNat (b.take i.toNat) (by rw [List.length_take]; omega) (fun x hx => byte_of_valid hb x (List.mem_of_mem_take hx))
    rw [← hn] at hv
    have h7 := pow_le (show i.toNat ≤ 7 by omega)
    have hx := vU8 (hb b[i.toNat] (List.getElem_mem (by omega)))
    show orK .u64 (IntKind.u64.wrap (n * Int.pow 2 (if 8 ≤ IntKind.u64.bits then 8 else IntKind.u64.bits))) (IntKind.u64.wrap (b.getD i.toNat 0)) = _
    have hp : (Int.pow 2 (if 8 ≤ IntKind.u64.bits then 8 else IntKind.u64.bits)) = 256 := rfl
    have h72 : (256 : Int) ^ 7 = 72057594037927936 := by decide
    rw [hp, getD_at (by omega), wrap_u64, wrap_u64, show n * 256 % 18446744073709551616 = n * 256 by omega, show b[i.toNat] % 18446744073709551616 = b[i.toNat] by omega, or_byte hv.1 (by omega) hx.1 hx.2, take_at i0 hi, valB_app, hn]
  · rw [hn, take_end (by omega)]
theorem okref03_number (b : List Int) (hb : ∀ x ∈ b, Valid (.int .u8) x) (h8 : b.length ≤ 8) : vcref03_number b := by
  unfold vcref03_number
  simp only [cond_prop, cond_and, cond_or, int_add, int_sub, int_mul, int_neg, nat_add, nat_sub, nat_mul, list_append, list_beq, U.at_, maxLen_eq, decide_eq_true_eq, decide_eq_false_iff_not, bne_iff_ne, bne_eq_false_iff_eq, Bool.not_eq_true', Bool.not_eq_false', Bool.not_eq_eq_eq_not, Bool.not_true, Bool.not_false, beq_eq_false_iff_ne, beq_iff_eq, and_true, true_and, Bool.and_eq_true, Bool.or_eq_true, Bool.and_eq_false_iff, Bool.or_eq_false_iff, U.Iref03_number_3]
  refine ⟨(0, 0), ⟨rfl, ⟨by show (0 : Int) ≤ 0; omega, by show (0 : Int) ≤ _; omega⟩, rfl⟩, ?_⟩
  rintro ⟨n, i⟩ ⟨⟨i0, i1⟩, hn⟩
  simp only [] at *
  have hbb := byte_of_valid hb
  have hv := valB_low i.toNat (b.take i.toNat) (by rw [List.length_take]; omega) (fun x hx => hbb x (List.mem_of_mem_take hx))
  rw [← hn] at hv
  have hv8 := valB_low b.length b rfl hbb
  refine ⟨fun hi => ⟨fun hbig => ?_, fun hsm => ⟨i0, hi, (_, i + 1), by rw [wrap_i (x := i + 1) (by omega) (by omega)], ⟨⟨by show 0 ≤ i + 1; omega, by show i + 1 ≤ _; omega⟩, ?_⟩, by show b.length - (i + 1).toNat < _; omega⟩⟩, fun hi => ?_⟩
  ·
    have hmono : ∀ (m : List Int) (a : Int), (∀ x ∈ m, Byte x) → 0 ≤ a → a ≤ m.foldl (fun a x => a * 256 + x) a := by
      intro m
      induction m with
      | nil => intro a _ _; exact Int.le_refl _
      | cons x m ih =>
        intro a hm ha
        have hx : 0 ≤ x := (hm x (by simp)).1
        have := ih (a * 256 + x) (fun y hy => hm y (List.mem_cons_of_mem _ hy)) (by omega)
        show a ≤ m.foldl (fun a x => a * 256 + x) (a * 256 + x); omega
    have e : U.valB b = (b.drop (i + 1).toNat).foldl (fun a x => a * 256 + x) (n * 256 + b[i.toNat]) := by
      conv => lhs; rw [← List.take_append_drop (i + 1).toNat b]
      unfold U.valB; rw [List.foldl_append, take_at i0 hi, List.foldl_append, hn]; rfl
    have hx : 0 ≤ b[i.toNat] := (hbb _ (List.getElem_mem (by omega))).1
    have := hmono (b.drop (i + 1).toNat) (n * 256 + b[i.toNat]) (fun x hx => hbb x (List.mem_of_mem_drop hx)) (by omega)
    rw [← e] at this
    rw [decide_eq_true (by omega : U.valB b > 4611686018427387904)]; rfl
  · have hx := vU8 (hb b[i.toNat] (List.getElem_mem (by omega)))
    show IntKind.i64.wrap (IntKind.i64.wrap (n * 256) + IntKind.i64.wrap (b.getD i.toNat 0)) = _
    rw [getD_at (by omega), wrap_i (x := n * 256) (by omega) (by omega), wrap_i (x := b[i.toNat]) (by omega) (by omega), wrap_i (by omega) (by omega), take_at i0 hi, valB_app, hn]
  · rw [take_end (by omega)] at hn
    subst hn
    refine ⟨fun h => by rw [decide_eq_true h]; rfl, fun h => by rw [decide_eq_false h]; rfl⟩
theorem rs_val {l : List Int} {e : Int} (he : EVal (.obj [.psl false tU8 l, .int .i64 e])) : (∀ x ∈ l, Valid (.int .u8) x) ∧ l.length ≤ maxLen := by
  have := he _ (.head _); exact this
theorem cut8 (l : List Int) (k : Nat) : List.take (k - 0) (List.drop 0 l) = l.take k := by rw [List.drop_zero, Nat.sub_zero]
theorem rest8 (l : List Int) (k : Nat) : List.take ((l.length : Int).toNat - k) (List.drop k l) = l.drop k := List.take_of_length_le (by rw [List.length_drop]; omega)
theorem okpack_Reader_NumR (l : List Int) (e : Int) (he : EVal (.obj [.psl false tU8 l, .int .i64 e])) : vcpack_Reader_NumR l e := by
  obtain ⟨hb, hl⟩ := rs_val he
  have hbb := byte_of_valid hb
  unfold vcpack_Reader_NumR U.rNum
  simp only [nat_sub, cut8, rest8, cond_and]
  by_cases h8 : l.length < 8
  · have h8' : ((l.length : Int) < 8) := by omega
    by_cases h0 : e = 0
    · simp [h8, h8', h0]
    · simp [h8, h8', h0]
  · have h8' : ¬ ((l.length : Int) < 8) := by omega
    have hv := valB_low 8 (l.take 8) (by rw [List.length_take]; omega) (fun x hx => hbb x (List.mem_of_mem_take hx))
    by_cases h0 : e = 0
    · by_cases hg : U.valB (l.take 8) > 4611686018427387904
      · simp [h8, h8', h0, hg]; omega
      · rw [wrap_i (x := U.valB (l.take 8)) (by omega) (by omega)]
        simp [h8, h8', h0, hg]; omega
    · simp [h8, h8', h0]
theorem valB_nil : U.valB [] = 0 := rfl
theorem okref03_Reader_NumR (l : List Int) (e : Int) (he : EVal (.obj [.psl false tU8 l, .int .i64 e])) : vcref03_Reader_NumR l e := by
  obtain ⟨hb, hl⟩ := rs_val he
  have hbb := byte_of_valid hb
  unfold vcref03_Reader_NumR U.rNum
  simp only [nat_sub, cut8, rest8, cond_and, valB_nil]
  by_cases h8 : l.length < 8
  · have h8' : ((l.length : Int) < 8) := by omega
    by_cases h0 : e = 0
    · simp [h8, h8', h0]
    · simp [h8, h8', h0]
  · have h8' : ¬ ((l.length : Int) < 8) := by omega
    have hv := valB_low 8 (l.take 8) (by rw [List.length_take]; omega) (fun x hx => hbb x (List.mem_of_mem_take hx))
    by_cases h0 : e = 0
    · by_cases hg : U.valB (l.take 8) > 4611686018427387904
      · simp [h8, h8', h0, hg]; omega
      · simp [h8, h8', h0, hg, show ¬ U.valB (l.take 8) < 0 by omega]; omega
    · simp [h8, h8', h0]
theorem okpack_Reader_TextR (l : List Int) (e : Int) (he : EVal (.obj [.psl false tU8 l, .int .i64 e])) : vcpack_Reader_TextR l e := by
  obtain ⟨hb, hl⟩ := rs_val he
  have hbb := byte_of_valid hb
  unfold vcpack_Reader_TextR U.rText
  simp only [nat_sub, cut8, rest8, cond_and]
  by_cases h4 : l.length < 4
  · have h4' : ((l.length : Int) < 4) := by omega
    by_cases h0 : e = 0
    · simp [h4, h4', h0]
    · simp [h4, h4', h0]
  · have h4' : ¬ ((l.length : Int) < 4) := by omega
    have hv := valB_low 4 (l.take 4) (by rw [List.length_take]; omega) (fun x hx => hbb x (List.mem_of_mem_take hx))
    have h44 : (256 : Int) ^ 4 = 4294967296 := by decide
    by_cases h0 : e = 0
    · rw [wrap_i (x := U.valB (l.take 4)) (by omega) (by omega)]
      have hdl : (l.drop 4).length = l.length - 4 := List.length_drop
      generalize hD : l.drop 4 = D at *
      generalize hV : U.valB (l.take 4) = v at *
      by_cases hg : v > 4096
      · simp [h4, h4', h0, hg]; omega
      · by_cases hs : D.length < v.toNat
        · have hs' : ((D.length : Int) < v) := by omega
          simp [h4, h4', h0, hg, hs, hs']; omega
        · have hs' : ¬ ((D.length : Int) < v) := by omega
          have e1 : List.take (v.toNat - 0) (List.drop 0 D) = D.take v.toNat := cut8 D _
          have e2 : List.take ((D.length : Int).toNat - v.toNat) (D.drop v.toNat) = D.drop v.toNat := rest8 D _
          simp [h4, h4', h0, hg, hs, hs']; omega
    · simp [h4, h4', h0]
theorem okref03_Reader_TextR (l : List Int) (e : Int) (he : EVal (.obj [.psl false tU8 l, .int .i64 e])) : vcref03_Reader_TextR l e := by
  obtain ⟨hb, hl⟩ := rs_val he
  have hbb := byte_of_valid hb
  unfold vcref03_Reader_TextR U.rText
  simp only [nat_sub, cut8, rest8, cond_and, valB_nil]
  by_cases h4 : l.length < 4
  · have h4' : ((l.length : Int) < 4) := by omega
    by_cases h0 : e = 0
    · simp [h4, h4', h0]
    · simp [h4, h4', h0]
  · have h4' : ¬ ((l.length : Int) < 4) := by omega
    have hv := valB_low 4 (l.take 4) (by rw [List.length_take]; omega) (fun x hx => hbb x (List.mem_of_mem_take hx))
    have h44 : (256 : Int) ^ 4 = 4294967296 := by decide
    by_cases h0 : e = 0
    · have hdl : (l.drop 4).length = l.length - 4 := List.length_drop
      rw [show decide (U.valB (l.take 4) > 4611686018427387904) = false by rw [decide_eq_false_iff_not]; omega]
      simp only [cond_false]
      generalize hD : l.drop 4 = D at *
      generalize hV : U.valB (l.take 4) = v at *
      by_cases hg : v > 4096
      · simp [h4, h4', h0, hg]; omega
      · by_cases hs : D.length < v.toNat
        · have hs' : ((D.length : Int) < v) := by omega
          simp [h4, h4', h0, hg, hs, hs']; omega
        · have hs' : ¬ ((D.length : Int) < v) := by omega
          have e1 : List.take (v.toNat - 0) (List.drop 0 D) = D.take v.toNat := cut8 D _
          have e2 : List.take ((D.length : Int).toNat - v.toNat) (D.drop v.toNat) = D.drop v.toNat := rest8 D _
          simp [h4, h4', h0, hg, hs, hs']; omega
    · simp [h4, h4', h0]
theorem count_neg {l : List Int} {e m : Int} (h : (U.rNum (l, e)).2.2 ≠ 0) : (U.rNum (l, e)).1 = 0 := by
  unfold U.rNum at *
  by_cases h0 : e = 0
  · by_cases h8 : l.length < 8
    · simp [h0, h8]
    · by_cases hg : U.valB (l.take 8) > 4611686018427387904
      · simp [h0, h8, hg]
      · simp [h0, h8, hg] at h
  · simp [h0]
theorem okpack_Reader_CountR (l : List Int) (e m : Int) (he : EVal (.obj [.psl false tU8 l, .int .i64 e])) : vcpack_Reader_CountR l e m := by
  unfold vcpack_Reader_CountR U.rCount
  have hn := count_neg (l := l) (e := e) (m := m)
  generalize U.rNum (l, e) = r at *
  obtain ⟨v, l', e'⟩ := r
  simp only [] at *
  by_cases h0 : e' = 0 <;> by_cases hg : v > m <;> simp [h0, hg] <;> first | (exact (hn h0).symm) | skip
theorem okref03_Reader_CountR (l : List Int) (e m : Int) (he : EVal (.obj [.psl false tU8 l, .int .i64 e])) : vcref03_Reader_CountR l e m := by
  unfold vcref03_Reader_CountR U.rCount
  have hn := count_neg (l := l) (e := e) (m := m)
  generalize U.rNum (l, e) = r at *
  obtain ⟨v, l', e'⟩ := r
  simp only [] at *
  by_cases h0 : e' = 0 <;> by_cases hg : v > m <;> simp [h0, hg] <;> first | (exact (hn h0).symm) | skip
theorem okpack_Reader_FailR (l : List Int) (e : Int) (x : Bool) (he : EVal (.obj [.psl false tU8 l, .int .i64 e])) : vcpack_Reader_FailR l e x := by
  unfold vcpack_Reader_FailR U.rFail
  by_cases h0 : e = 0 <;> cases x <;> simp [h0]
theorem okref03_Reader_FailR (l : List Int) (e : Int) (x : Bool) (he : EVal (.obj [.psl false tU8 l, .int .i64 e])) : vcref03_Reader_FailR l e x := by
  unfold vcref03_Reader_FailR U.rFail
  by_cases h0 : e = 0 <;> cases x <;> simp [h0]
theorem okpack_Reader_DoneR (l : List Int) (e : Int) (he : EVal (.obj [.psl false tU8 l, .int .i64 e])) : vcpack_Reader_DoneR l e := by
  unfold vcpack_Reader_DoneR U.rDone
  have : decide ((l.length : Int) > 0) = decide (l.length > 0) := by rw [decide_eq_decide]; omega
  rw [this]; exact ⟨rfl, rfl, rfl, trivial⟩
theorem okref03_Reader_DoneR (l : List Int) (e : Int) (he : EVal (.obj [.psl false tU8 l, .int .i64 e])) : vcref03_Reader_DoneR l e := by
  unfold vcref03_Reader_DoneR U.rDone U.rFail
  have : decide ((l.length : Int) > 0) = decide (l.length > 0) := by rw [decide_eq_decide]; omega
  rw [this]
  by_cases h0 : e = 0 <;> by_cases hl : l.length > 0 <;> simp [h0, hl]
theorem okref03_bytes (n size : Int) (hN : n ≤ 9223372036854775807) (h1 : 1 ≤ size ∧ size ≤ 8) (h0 : 0 ≤ n) : vcref03_bytes n size := by
  unfold vcref03_bytes
  simp only [cond_prop, cond_and, cond_or, int_add, int_sub, int_mul, int_neg, nat_add, nat_sub, nat_mul, list_append, list_beq, U.at_, maxLen_eq, decide_eq_true_eq, decide_eq_false_iff_not, bne_iff_ne, bne_eq_false_iff_eq, Bool.not_eq_true', Bool.not_eq_false', Bool.not_eq_eq_eq_not, Bool.not_true, Bool.not_false, beq_eq_false_iff_ne, beq_iff_eq, and_true, true_and, Bool.and_eq_true, Bool.or_eq_true, Bool.and_eq_false_iff, Bool.or_eq_false_iff, U.Iref03_bytes_3]
  have hbl : (U.beN size.toNat n).length = size.toNat := beN_len _ _
  have hw : IntKind.i64.wrap (size - 1) = size - 1 := by rw [wrap_i] <;> omega
  rw [hw]
  refine ⟨by omega, by omega, by omega, by omega, (List.replicate size.toNat 0, n, size - 1), ⟨rfl, by show -1 ≤ size - 1; omega, by show size - 1 < size; omega, ?_, ?_⟩, ?_⟩
  · show n = n / 2 ^ (8 * (size - 1 - (size - 1)).toNat)
    rw [show (size - 1 - (size - 1)).toNat = 0 by omega]; simp
  · show List.replicate size.toNat 0 = List.replicate (size - 1 + 1).toNat 0 ++ (U.beN size.toNat n).drop (size - 1 + 1).toNat
    rw [show size - 1 + 1 = size by omega, List.drop_eq_nil_of_le (by omega), List.append_nil]
  rintro ⟨o, m, i⟩ ⟨i0, i1, hm, ho⟩
  simp only [] at *
  have hol : o.length = size.toNat := by rw [ho, List.length_append, List.length_replicate, List.length_drop]; omega
  have hm0 : 0 ≤ m := by rw [hm]; exact Int.ediv_nonneg h0 (Int.le_of_lt (Int.pow_pos (by decide)))
  refine ⟨fun hi => ⟨by omega, hi, by omega, by omega, by omega, (_, _, i - 1), by rw [wrap_i (x := i - 1) (by omega) (by omega)], ⟨by show -1 ≤ i - 1; omega, by show i - 1 < size; omega, ?_, ?_⟩, by show (i - 1 + 1).toNat < _; omega⟩, fun hi => ?_⟩
  · have hml : m ≤ n := by rw [hm]; exact Int.ediv_le_self _ h0
    show IntKind.i64.wrap (m.tdiv 256) = n / 2 ^ (8 * (size - 1 - (i - 1)).toNat)
    rw [Int.tdiv_eq_ediv_of_nonneg hm0]
    have hn := hN
    rw [wrap_i (by omega) (by omega), hm, show 8 * (size - 1 - (i - 1)).toNat = 8 * (size - 1 - i).toNat + 8 by omega, Int.pow_add, Int.ediv_ediv_of_nonneg (Int.le_of_lt (Int.pow_pos (by decide)))]; rfl
  · show o.set i.toNat (IntKind.u8.wrap (m.tmod 256)) = List.replicate (i - 1 + 1).toNat 0 ++ (U.beN size.toNat n).drop (i - 1 + 1).toNat
    rw [Int.tmod_eq_emod_of_nonneg hm0, wrap_u8, show m % 256 % 256 = m % 256 by omega, ho, show (i + 1).toNat = i.toNat + 1 by omega, show i - 1 + 1 = i by omega, List.drop_eq_getElem_cons (l := U.beN size.toNat n) (i := i.toNat) (by omega), beN_get, show size.toNat - 1 - i.toNat = (size - 1 - i).toNat by omega, ← hm, List.replicate_succ', List.append_assoc, List.set_append_right _ _ (by simp)]
    simp
  · rw [ho, show (i + 1).toNat = 0 by omega]; rfl
theorem okref03_Num (b : List Int) (n : Int) (h : b.length ≤ 1000000000000) : vcref03_Num b n := by
  unfold vcref03_Num
  have hc := clamp_bd n
  refine ⟨by simp only [nat_add, nat_mul, beN_len]; omega, by simp only [nat_add, maxLen_eq, beN_len]; omega, by omega, hc.1, by simp only [nat_add, nat_mul, beN_len]; omega, by simp only [nat_add, maxLen_eq, beN_len]; omega, rfl, trivial⟩
theorem okref03_Text (b s : List Int) (h : b.length ≤ 1000000000000) : vcref03_Text b s := by
  unfold vcref03_Text
  simp only [nat_sub, cut8]
  simp only [cond_prop, cond_and, cond_or, int_add, int_sub, int_mul, int_neg, nat_add, nat_sub, nat_mul, list_append, list_beq, U.at_, maxLen_eq, decide_eq_true_eq, decide_eq_false_iff_not, bne_iff_ne, bne_eq_false_iff_eq, Bool.not_eq_true', Bool.not_eq_false', Bool.not_eq_eq_eq_not, Bool.not_true, Bool.not_false, beq_eq_false_iff_ne, beq_iff_eq, and_true, true_and, Bool.and_eq_true, Bool.or_eq_true, Bool.and_eq_false_iff, Bool.or_eq_false_iff]
  refine ⟨fun hs => ?_, fun hs => ?_⟩
  · have hl : (s.take 4096).length = 4096 := by rw [List.length_take]; omega
    rw [hl]
    simp only [beN_len]
    refine ⟨by omega, by omega, by omega, by omega, by omega, by omega, by omega, by omega, by omega, by rw [List.length_append, beN_len]; omega, by rw [List.length_append, beN_len]; omega, ?_⟩
    unfold U.text1 minI
    rw [if_pos (by omega), List.append_assoc]; rfl
  · simp only [beN_len]
    refine ⟨by omega, by omega, by omega, by omega, by omega, by omega, by rw [List.length_append, beN_len]; omega, by rw [List.length_append, beN_len]; omega, ?_⟩
    unfold U.text1 minI
    rw [if_neg (by omega), List.append_assoc, List.take_of_length_le (by omega)]
theorem okref03_Same (a b : List Int) : vcref03_Same a b := by unfold vcref03_Same; simp only [list_beq, and_true]; rw [Bool.eq_iff_iff]; simp
end Go.Proofs.YtllmhikoaklpbaaDoor

set_option linter.unusedSimpArgs false
set_option maxRecDepth 100000
set_option linter.unusedVariables false
namespace Go.Proofs.YtllmhikoaklpbaaDoor
open Go.Vc
theorem wpack_wideO (b : List Int) (n : Int) (size : Int) : Owes Tryd.prog (cfgOf Qref10_Right) (Lpack_wideO b n size) 55 (arpack_wideO b n size) (espack_wideO b n size) (dpack_wideO b n size) = vcpack_wideO b n size := by kernel_rfl
theorem qpack_wide : GenOk Tryd.prog gl 55 Fpack_wide := by
  refine pkg (l := Qref10_Right) aQref10_Right (fun args es d h => ?_) (fun args es d h hv he hp => ?_)
  · unfold Fpack_wide at h
    rcases orE_some h with h | h
    · obtain ⟨b, n, size, rfl, rfl, rfl⟩ := alpack_wideO_eq h
      rfl
    cases h
  · unfold Fpack_wide at h
    rcases orE_some h with h | h
    · obtain ⟨b, n, size, rfl, rfl, rfl⟩ := alpack_wideO_eq h
      refine ⟨Lpack_wideO b n size, ?_⟩
      rw [wpack_wideO]
      exact okpack_wideO b n size hp
    cases h
theorem ppack_wide : SumOk Tryd.prog gl 55 spack_wide := qpack_wide
theorem aQpack_wide : AllOk Qpack_wide := .cons ppack_wide aQref10_Right
theorem wpack_Num (x : DenL [tBytes, tInts]) : Owes Tryd.prog (cfgOf Qpack_wide) (Lpack_Num x.1 x.2) 29 (argVs [tBytes, tInts] x) [] (dpack_Num x.1 x.2) = vcpack_Num x.1 x.2 := by kernel_rfl
theorem qpack_Num : Pok 29 [tBytes, tInts] (fun x => dpack_Num x.1 x.2) := by
  refine pk (L := fun x => Lpack_Num x.1 x.2) (l := Qpack_wide) aQpack_wide (fun _ => rfl) ?_
  intro x hv hp
  rw [wpack_Num]
  exact okpack_Num x.1 x.2 (hp (List.length x.1 ≤ 1000000000000) (by simp [dpack_Num])) (hp (List.length x.2 ≤ 100000000000) (by simp [dpack_Num]))
theorem ppack_Num : SumOk Tryd.prog gl 29 spack_Num := qpack_Num
theorem aQpack_Num : AllOk Qpack_Num := .cons ppack_Num aQpack_wide
theorem wpack_Text (x : DenL [tBytes, tStrs]) : Owes Tryd.prog (cfgOf Qpack_Num) (Lpack_Text x.1 x.2) 56 (argVs [tBytes, tStrs] x) [] (dpack_Text x.1 x.2) = vcpack_Text x.1 x.2 := by kernel_rfl
theorem qpack_Text : Pok 56 [tBytes, tStrs] (fun x => dpack_Text x.1 x.2) := by
  refine pk (L := fun x => Lpack_Text x.1 x.2) (l := Qpack_Num) aQpack_Num (fun _ => rfl) ?_
  intro x hv hp
  rw [wpack_Text]
  exact okpack_Text x.1 x.2 (hp (List.length x.1 ≤ 1000000000000) (by simp [dpack_Text])) (hp (List.length x.2 ≤ 100000000) (by simp [dpack_Text]))
theorem ppack_Text : SumOk Tryd.prog gl 56 spack_Text := qpack_Text
theorem aQpack_Text : AllOk Qpack_Text := .cons ppack_Text aQpack_Num
theorem wpack_number (x : DenL [tBytes]) : Owes Tryd.prog (cfgOf Qpack_Text) (Lpack_number x) 46 (argVs [tBytes] x) [] (dpack_number x) = vcpack_number x := by kernel_rfl
theorem qpack_number : Pok 46 [tBytes] (fun x => dpack_number x) := by
  refine pk (L := fun x => Lpack_number x) (l := Qpack_Text) aQpack_Text (fun _ => rfl) ?_
  intro x hv hp
  rw [wpack_number]
  exact okpack_number x hv.1 (hp (List.length x ≤ 8) (by simp [dpack_number]))
theorem ppack_number : SumOk Tryd.prog gl 46 spack_number := qpack_number
theorem aQpack_number : AllOk Qpack_number := .cons ppack_number aQpack_Text
theorem wpack_Reader_NumR (l : List Int) (e : Int) : Owes Tryd.prog (cfgOf Qpack_number) (Lpack_Reader_NumR l e) 21 (arpack_Reader_NumR l e) (espack_Reader_NumR l e) (dpack_Reader_NumR l e) = vcpack_Reader_NumR l e := by kernel_rfl
theorem qpack_Reader_Num : GenOk Tryd.prog gl 21 Fpack_Reader_Num := by
  refine pkg (l := Qpack_number) aQpack_number (fun args es d h => ?_) (fun args es d h hv he hp => ?_)
  · unfold Fpack_Reader_Num at h
    rcases orE_some h with h | h
    · obtain ⟨l, e, rfl, rfl, rfl⟩ := alpack_Reader_NumR_eq h
      rfl
    cases h
  · unfold Fpack_Reader_Num at h
    rcases orE_some h with h | h
    · obtain ⟨l, e, rfl, rfl, rfl⟩ := alpack_Reader_NumR_eq h
      refine ⟨Lpack_Reader_NumR l e, ?_⟩
      rw [wpack_Reader_NumR]
      exact okpack_Reader_NumR l e (he _ (.head _))
    cases h
theorem ppack_Reader_Num : SumOk Tryd.prog gl 21 spack_Reader_Num := qpack_Reader_Num
theorem aQpack_Reader_Num : AllOk Qpack_Reader_Num := .cons ppack_Reader_Num aQpack_number
theorem wpack_Reader_TextR (l : List Int) (e : Int) : Owes Tryd.prog (cfgOf Qpack_Reader_Num) (Lpack_Reader_TextR l e) 48 (arpack_Reader_TextR l e) (espack_Reader_TextR l e) (dpack_Reader_TextR l e) = vcpack_Reader_TextR l e := by kernel_rfl
theorem qpack_Reader_Text : GenOk Tryd.prog gl 48 Fpack_Reader_Text := by
  refine pkg (l := Qpack_Reader_Num) aQpack_Reader_Num (fun args es d h => ?_) (fun args es d h hv he hp => ?_)
  · unfold Fpack_Reader_Text at h
    rcases orE_some h with h | h
    · obtain ⟨l, e, rfl, rfl, rfl⟩ := alpack_Reader_TextR_eq h
      rfl
    cases h
  · unfold Fpack_Reader_Text at h
    rcases orE_some h with h | h
    · obtain ⟨l, e, rfl, rfl, rfl⟩ := alpack_Reader_TextR_eq h
      refine ⟨Lpack_Reader_TextR l e, ?_⟩
      rw [wpack_Reader_TextR]
      exact okpack_Reader_TextR l e (he _ (.head _))
    cases h
theorem ppack_Reader_Text : SumOk Tryd.prog gl 48 spack_Reader_Text := qpack_Reader_Text
theorem aQpack_Reader_Text : AllOk Qpack_Reader_Text := .cons ppack_Reader_Text aQpack_Reader_Num
theorem wpack_Reader_CountR (l : List Int) (e : Int) (m : Int) : Owes Tryd.prog (cfgOf Qpack_Reader_Text) (Lpack_Reader_CountR l e m) 49 (arpack_Reader_CountR l e m) (espack_Reader_CountR l e m) (dpack_Reader_CountR l e m) = vcpack_Reader_CountR l e m := by kernel_rfl
theorem qpack_Reader_Count : GenOk Tryd.prog gl 49 Fpack_Reader_Count := by
  refine pkg (l := Qpack_Reader_Text) aQpack_Reader_Text (fun args es d h => ?_) (fun args es d h hv he hp => ?_)
  · unfold Fpack_Reader_Count at h
    rcases orE_some h with h | h
    · obtain ⟨l, e, m, rfl, rfl, rfl⟩ := alpack_Reader_CountR_eq h
      rfl
    cases h
  · unfold Fpack_Reader_Count at h
    rcases orE_some h with h | h
    · obtain ⟨l, e, m, rfl, rfl, rfl⟩ := alpack_Reader_CountR_eq h
      refine ⟨Lpack_Reader_CountR l e m, ?_⟩
      rw [wpack_Reader_CountR]
      exact okpack_Reader_CountR l e m (he _ (.head _))
    cases h
theorem ppack_Reader_Count : SumOk Tryd.prog gl 49 spack_Reader_Count := qpack_Reader_Count
theorem aQpack_Reader_Count : AllOk Qpack_Reader_Count := .cons ppack_Reader_Count aQpack_Reader_Text
theorem wpack_Reader_FailR (l : List Int) (e : Int) (x : Bool) : Owes Tryd.prog (cfgOf Qpack_Reader_Count) (Lpack_Reader_FailR l e x) 22 (arpack_Reader_FailR l e x) (espack_Reader_FailR l e x) (dpack_Reader_FailR l e x) = vcpack_Reader_FailR l e x := by kernel_rfl
theorem qpack_Reader_Fail : GenOk Tryd.prog gl 22 Fpack_Reader_Fail := by
  refine pkg (l := Qpack_Reader_Count) aQpack_Reader_Count (fun args es d h => ?_) (fun args es d h hv he hp => ?_)
  · unfold Fpack_Reader_Fail at h
    rcases orE_some h with h | h
    · obtain ⟨l, e, x, rfl, rfl, rfl⟩ := alpack_Reader_FailR_eq h
      rfl
    cases h
  · unfold Fpack_Reader_Fail at h
    rcases orE_some h with h | h
    · obtain ⟨l, e, x, rfl, rfl, rfl⟩ := alpack_Reader_FailR_eq h
      refine ⟨Lpack_Reader_FailR l e x, ?_⟩
      rw [wpack_Reader_FailR]
      exact okpack_Reader_FailR l e x (he _ (.head _))
    cases h
theorem ppack_Reader_Fail : SumOk Tryd.prog gl 22 spack_Reader_Fail := qpack_Reader_Fail
theorem aQpack_Reader_Fail : AllOk Qpack_Reader_Fail := .cons ppack_Reader_Fail aQpack_Reader_Count
theorem wref03_number (x : DenL [tBytes]) : Owes Tryd.prog (cfgOf Qpack_Reader_Fail) (Lref03_number x) 65 (argVs [tBytes] x) [] (dref03_number x) = vcref03_number x := by kernel_rfl
theorem qref03_number : Pok 65 [tBytes] (fun x => dref03_number x) := by
  refine pk (L := fun x => Lref03_number x) (l := Qpack_Reader_Fail) aQpack_Reader_Fail (fun _ => rfl) ?_
  intro x hv hp
  rw [wref03_number]
  exact okref03_number x hv.1 (hp (List.length x ≤ 8) (by simp [dref03_number]))
theorem pref03_number : SumOk Tryd.prog gl 65 sref03_number := qref03_number
theorem aQref03_number : AllOk Qref03_number := .cons pref03_number aQpack_Reader_Fail
theorem wref03_Reader_NumR (l : List Int) (e : Int) : Owes Tryd.prog (cfgOf Qref03_number) (Lref03_Reader_NumR l e) 50 (arref03_Reader_NumR l e) (esref03_Reader_NumR l e) (dref03_Reader_NumR l e) = vcref03_Reader_NumR l e := by kernel_rfl
theorem qref03_Reader_Num : GenOk Tryd.prog gl 50 Fref03_Reader_Num := by
  refine pkg (l := Qref03_number) aQref03_number (fun args es d h => ?_) (fun args es d h hv he hp => ?_)
  · unfold Fref03_Reader_Num at h
    rcases orE_some h with h | h
    · obtain ⟨l, e, rfl, rfl, rfl⟩ := alref03_Reader_NumR_eq h
      rfl
    cases h
  · unfold Fref03_Reader_Num at h
    rcases orE_some h with h | h
    · obtain ⟨l, e, rfl, rfl, rfl⟩ := alref03_Reader_NumR_eq h
      refine ⟨Lref03_Reader_NumR l e, ?_⟩
      rw [wref03_Reader_NumR]
      exact okref03_Reader_NumR l e (he _ (.head _))
    cases h
theorem pref03_Reader_Num : SumOk Tryd.prog gl 50 sref03_Reader_Num := qref03_Reader_Num
theorem aQref03_Reader_Num : AllOk Qref03_Reader_Num := .cons pref03_Reader_Num aQref03_number
theorem wref03_Reader_TextR (l : List Int) (e : Int) : Owes Tryd.prog (cfgOf Qref03_Reader_Num) (Lref03_Reader_TextR l e) 52 (arref03_Reader_TextR l e) (esref03_Reader_TextR l e) (dref03_Reader_TextR l e) = vcref03_Reader_TextR l e := by kernel_rfl
theorem qref03_Reader_Text : GenOk Tryd.prog gl 52 Fref03_Reader_Text := by
  refine pkg (l := Qref03_Reader_Num) aQref03_Reader_Num (fun args es d h => ?_) (fun args es d h hv he hp => ?_)
  · unfold Fref03_Reader_Text at h
    rcases orE_some h with h | h
    · obtain ⟨l, e, rfl, rfl, rfl⟩ := alref03_Reader_TextR_eq h
      rfl
    cases h
  · unfold Fref03_Reader_Text at h
    rcases orE_some h with h | h
    · obtain ⟨l, e, rfl, rfl, rfl⟩ := alref03_Reader_TextR_eq h
      refine ⟨Lref03_Reader_TextR l e, ?_⟩
      rw [wref03_Reader_TextR]
      exact okref03_Reader_TextR l e (he _ (.head _))
    cases h
theorem pref03_Reader_Text : SumOk Tryd.prog gl 52 sref03_Reader_Text := qref03_Reader_Text
theorem aQref03_Reader_Text : AllOk Qref03_Reader_Text := .cons pref03_Reader_Text aQref03_Reader_Num
theorem wref03_Reader_CountR (l : List Int) (e : Int) (m : Int) : Owes Tryd.prog (cfgOf Qref03_Reader_Text) (Lref03_Reader_CountR l e m) 53 (arref03_Reader_CountR l e m) (esref03_Reader_CountR l e m) (dref03_Reader_CountR l e m) = vcref03_Reader_CountR l e m := by kernel_rfl
theorem qref03_Reader_Count : GenOk Tryd.prog gl 53 Fref03_Reader_Count := by
  refine pkg (l := Qref03_Reader_Text) aQref03_Reader_Text (fun args es d h => ?_) (fun args es d h hv he hp => ?_)
  · unfold Fref03_Reader_Count at h
    rcases orE_some h with h | h
    · obtain ⟨l, e, m, rfl, rfl, rfl⟩ := alref03_Reader_CountR_eq h
      rfl
    cases h
  · unfold Fref03_Reader_Count at h
    rcases orE_some h with h | h
    · obtain ⟨l, e, m, rfl, rfl, rfl⟩ := alref03_Reader_CountR_eq h
      refine ⟨Lref03_Reader_CountR l e m, ?_⟩
      rw [wref03_Reader_CountR]
      exact okref03_Reader_CountR l e m (he _ (.head _))
    cases h
theorem pref03_Reader_Count : SumOk Tryd.prog gl 53 sref03_Reader_Count := qref03_Reader_Count
theorem aQref03_Reader_Count : AllOk Qref03_Reader_Count := .cons pref03_Reader_Count aQref03_Reader_Text
theorem wref03_Reader_FailR (l : List Int) (e : Int) (x : Bool) : Owes Tryd.prog (cfgOf Qref03_Reader_Count) (Lref03_Reader_FailR l e x) 51 (arref03_Reader_FailR l e x) (esref03_Reader_FailR l e x) (dref03_Reader_FailR l e x) = vcref03_Reader_FailR l e x := by kernel_rfl
theorem qref03_Reader_Fail : GenOk Tryd.prog gl 51 Fref03_Reader_Fail := by
  refine pkg (l := Qref03_Reader_Count) aQref03_Reader_Count (fun args es d h => ?_) (fun args es d h hv he hp => ?_)
  · unfold Fref03_Reader_Fail at h
    rcases orE_some h with h | h
    · obtain ⟨l, e, x, rfl, rfl, rfl⟩ := alref03_Reader_FailR_eq h
      rfl
    cases h
  · unfold Fref03_Reader_Fail at h
    rcases orE_some h with h | h
    · obtain ⟨l, e, x, rfl, rfl, rfl⟩ := alref03_Reader_FailR_eq h
      refine ⟨Lref03_Reader_FailR l e x, ?_⟩
      rw [wref03_Reader_FailR]
      exact okref03_Reader_FailR l e x (he _ (.head _))
    cases h
theorem pref03_Reader_Fail : SumOk Tryd.prog gl 51 sref03_Reader_Fail := qref03_Reader_Fail
theorem aQref03_Reader_Fail : AllOk Qref03_Reader_Fail := .cons pref03_Reader_Fail aQref03_Reader_Count
theorem wpack_Reader_DoneR (l : List Int) (e : Int) : Owes Tryd.prog (cfgOf Qref03_Reader_Fail) (Lpack_Reader_DoneR l e) 24 (arpack_Reader_DoneR l e) (espack_Reader_DoneR l e) (dpack_Reader_DoneR l e) = vcpack_Reader_DoneR l e := by kernel_rfl
theorem qpack_Reader_Done : GenOk Tryd.prog gl 24 Fpack_Reader_Done := by
  refine pkg (l := Qref03_Reader_Fail) aQref03_Reader_Fail (fun args es d h => ?_) (fun args es d h hv he hp => ?_)
  · unfold Fpack_Reader_Done at h
    rcases orE_some h with h | h
    · obtain ⟨l, e, rfl, rfl, rfl⟩ := alpack_Reader_DoneR_eq h
      rfl
    cases h
  · unfold Fpack_Reader_Done at h
    rcases orE_some h with h | h
    · obtain ⟨l, e, rfl, rfl, rfl⟩ := alpack_Reader_DoneR_eq h
      refine ⟨Lpack_Reader_DoneR l e, ?_⟩
      rw [wpack_Reader_DoneR]
      exact okpack_Reader_DoneR l e (he _ (.head _))
    cases h
theorem ppack_Reader_Done : SumOk Tryd.prog gl 24 spack_Reader_Done := qpack_Reader_Done
theorem aQpack_Reader_Done : AllOk Qpack_Reader_Done := .cons ppack_Reader_Done aQref03_Reader_Fail
theorem wref03_Reader_DoneR (l : List Int) (e : Int) : Owes Tryd.prog (cfgOf Qpack_Reader_Done) (Lref03_Reader_DoneR l e) 26 (arref03_Reader_DoneR l e) (esref03_Reader_DoneR l e) (dref03_Reader_DoneR l e) = vcref03_Reader_DoneR l e := by kernel_rfl
theorem qref03_Reader_Done : GenOk Tryd.prog gl 26 Fref03_Reader_Done := by
  refine pkg (l := Qpack_Reader_Done) aQpack_Reader_Done (fun args es d h => ?_) (fun args es d h hv he hp => ?_)
  · unfold Fref03_Reader_Done at h
    rcases orE_some h with h | h
    · obtain ⟨l, e, rfl, rfl, rfl⟩ := alref03_Reader_DoneR_eq h
      rfl
    cases h
  · unfold Fref03_Reader_Done at h
    rcases orE_some h with h | h
    · obtain ⟨l, e, rfl, rfl, rfl⟩ := alref03_Reader_DoneR_eq h
      refine ⟨Lref03_Reader_DoneR l e, ?_⟩
      rw [wref03_Reader_DoneR]
      exact okref03_Reader_DoneR l e (he _ (.head _))
    cases h
theorem pref03_Reader_Done : SumOk Tryd.prog gl 26 sref03_Reader_Done := qref03_Reader_Done
theorem aQref03_Reader_Done : AllOk Qref03_Reader_Done := .cons pref03_Reader_Done aQpack_Reader_Done
theorem wref03_bytes (x : DenL [.int .i64, .int .i64]) : Owes Tryd.prog (cfgOf Qref03_Reader_Done) (Lref03_bytes x.1 x.2) 57 (argVs [.int .i64, .int .i64] x) [] (dref03_bytes x.1 x.2) = vcref03_bytes x.1 x.2 := by kernel_rfl
theorem qref03_bytes : Pok 57 [.int .i64, .int .i64] (fun x => dref03_bytes x.1 x.2) := by
  refine pk (L := fun x => Lref03_bytes x.1 x.2) (l := Qref03_Reader_Done) aQref03_Reader_Done (fun _ => rfl) ?_
  intro x hv hp
  rw [wref03_bytes]
  exact okref03_bytes x.1 x.2 (T.vI64 hv.1).2 (hp (1 ≤ x.2 ∧ x.2 ≤ 8) (by simp [dref03_bytes])) (hp (0 ≤ x.1) (by simp [dref03_bytes]))
theorem pref03_bytes : SumOk Tryd.prog gl 57 sref03_bytes := qref03_bytes
theorem aQref03_bytes : AllOk Qref03_bytes := .cons pref03_bytes aQref03_Reader_Done
theorem wref03_Num (x : DenL [tBytes, .int .i64]) : Owes Tryd.prog (cfgOf Qref03_bytes) (Lref03_Num x.1 x.2) 31 (argVs [tBytes, .int .i64] x) [] (dref03_Num x.1 x.2) = vcref03_Num x.1 x.2 := by kernel_rfl
theorem qref03_Num : Pok 31 [tBytes, .int .i64] (fun x => dref03_Num x.1 x.2) := by
  refine pk (L := fun x => Lref03_Num x.1 x.2) (l := Qref03_bytes) aQref03_bytes (fun _ => rfl) ?_
  intro x hv hp
  rw [wref03_Num]
  exact okref03_Num x.1 x.2 (hp (List.length x.1 ≤ 1000000000000) (by simp [dref03_Num]))
theorem pref03_Num : SumOk Tryd.prog gl 31 sref03_Num := qref03_Num
theorem aQref03_Num : AllOk Qref03_Num := .cons pref03_Num aQref03_bytes
theorem wref03_Text (x : DenL [tBytes, .str]) : Owes Tryd.prog (cfgOf Qref03_Num) (Lref03_Text x.1 x.2) 33 (argVs [tBytes, .str] x) [] (dref03_Text x.1 x.2) = vcref03_Text x.1 x.2 := by kernel_rfl
theorem qref03_Text : Pok 33 [tBytes, .str] (fun x => dref03_Text x.1 x.2) := by
  refine pk (L := fun x => Lref03_Text x.1 x.2) (l := Qref03_Num) aQref03_Num (fun _ => rfl) ?_
  intro x hv hp
  rw [wref03_Text]
  exact okref03_Text x.1 x.2 (hp (List.length x.1 ≤ 1000000000000) (by simp [dref03_Text]))
theorem pref03_Text : SumOk Tryd.prog gl 33 sref03_Text := qref03_Text
theorem aQref03_Text : AllOk Qref03_Text := .cons pref03_Text aQref03_Num
theorem wref03_Same (x : DenL [tBytes, tBytes]) : Owes Tryd.prog (cfgOf Qref03_Text) (Lref03_Same x.1 x.2) 13 (argVs [tBytes, tBytes] x) [] (dref03_Same x.1 x.2) = vcref03_Same x.1 x.2 := by kernel_rfl
theorem qref03_Same : Pok 13 [tBytes, tBytes] (fun x => dref03_Same x.1 x.2) := by
  refine pk (L := fun x => Lref03_Same x.1 x.2) (l := Qref03_Text) aQref03_Text (fun _ => rfl) ?_
  intro x hv hp
  rw [wref03_Same]
  exact okref03_Same x.1 x.2
theorem pref03_Same : SumOk Tryd.prog gl 13 sref03_Same := qref03_Same
theorem aQref03_Same : AllOk Qref03_Same := .cons pref03_Same aQref03_Text
end Go.Proofs.YtllmhikoaklpbaaDoor
