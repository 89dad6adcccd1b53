/- What functions of this seat compute, in plain Lean. -/
import Derived.Test.YtllmhikoaklpbaaDoorZ
import Derived.Test.YtllmhikoaklpbaaDoorVcF
import Derived.Test.YtllmhikoaklpbaaDoorS
set_option linter.unusedVariables false
set_option linter.unusedSimpArgs false
set_option maxRecDepth 100000
namespace Go.Proofs.YtllmhikoaklpbaaDoor
open Go.Vc
abbrev tStrs : Ty := .slice .str
namespace U
def split (c : Int) : List Int → List (List Int)
  | [] => [[]]
  | x :: r => if x = c then [] :: split c r else (x :: (split c r).headD []) :: (split c r).tail
def idxS (x : List Int) : List (List Int) → Int → Int
  | [], _ => -1
  | y :: r, i => if y = x then i else idxS x r (i + 1)
end U
namespace U
def ststrings_genSplit_11 (s t : List Int) (r : List Int) (sv : Int) (n : Int) (a : List (List Int)) (i : Int) : St2 := ⟨⟨[sS r] ++ [sS t] ++ [sI sv] ++ [sI n] ++ U.n 5 ++ [own 0] ++ [sI i] ++ U.n 55, [], [(0, .row 9 .str true true a)]⟩, 1, []⟩
def Istrings_genSplit_11 (s t : List Int)  (r : List Int) (sv : Int) (n : Int) (a : List (List Int)) (i : Int) : Prop := r.length ≤ s.length ∧ sv = 0 ∧ n = cntB s (t.getD 0 0) ∧ 0 ≤ i ∧ i ≤ n ∧ split (t.getD 0 0) r = (split (t.getD 0 0) s).drop i.toNat ∧ a = (split (t.getD 0 0) s).take i.toNat ++ List.replicate (n + 1 - i).toNat []
def stslices_Index_string_string_2 (l : List (List Int)) (z : List Int) (i : Int) : St2 := ⟨⟨[sL false .str l] ++ [sS z] ++ U.n 5 ++ [sI l.length] ++ [sI i] ++ U.n 10, [], []⟩, 0, []⟩
def Islices_Index_string_string_2 (l : List (List Int)) (z : List Int)  (i : Int) : Prop := at_ l i ∧ idxS z (l.drop i.toNat) i = idxS z l 0
end U
def lpstrings_genSplit_11 (s t : List Int) : Vc.Loop := ⟨{ keep := [0, 1, 2, 3, 9, 10] }, List Int × Int × Int × List (List Int) × Int, fun x => U.ststrings_genSplit_11 s t x.1 x.2.1 x.2.2.1 x.2.2.2.1 x.2.2.2.2, fun x0 x => U.Istrings_genSplit_11 s t  x.1 x.2.1 x.2.2.1 x.2.2.2.1 x.2.2.2.2, fun x => (x.2.2.1 - x.2.2.2.2).toNat⟩
def lpslices_Index_string_string_2 (l : List (List Int)) (z : List Int) : Vc.Loop := ⟨{ keep := [0, 1, 7, 8] }, Int, fun x => U.stslices_Index_string_string_2 l z x, fun x0 x => U.Islices_Index_string_string_2 l z  x, fun x => l.length - x.toNat⟩
def sstrings_IndexByte : Vc.Sum := .pure [.str, .int .u8] false fun x => dIdxB x.1 x.2
def Qstrings_IndexByte : List (Nat × Ent) := (36, .sum sstrings_IndexByte) :: []
def sinternal_stringslite_IndexByte : Vc.Sum := .pure [.str, .int .u8] false fun x => dIdxB x.1 x.2
def Qinternal_stringslite_IndexByte : List (Nat × Ent) := (62, .sum sinternal_stringslite_IndexByte) :: Qstrings_IndexByte
def sstrings_Count : Vc.Sum := .pure [.str, .str] false fun x => dCount x.1 x.2
def Qstrings_Count : List (Nat × Ent) := (92, .sum sstrings_Count) :: Qinternal_stringslite_IndexByte
def sstrings_EqualFold : Vc.Sum := .pure [.str, .str] false fun x => dEqualFold x.1 x.2
def Qstrings_EqualFold : List (Nat × Ent) := (74, .sum sstrings_EqualFold) :: Qstrings_Count
def dinternal_stringslite_Index (s : List Int) (t : List Int) : Done := ⟨[t.length = 1], .one (.int .i64 (idxB s (t.getD 0 0))), [], []⟩
def sinternal_stringslite_Index : Vc.Sum := .pure [.str, .str] false fun x => dinternal_stringslite_Index x.1 x.2
def Linternal_stringslite_Index (s : List Int) (t : List Int) : Nat → List V → Nat → Option Vc.Loop := noKeep
def Qinternal_stringslite_Index : List (Nat × Ent) := (87, .sum sinternal_stringslite_Index) :: Qstrings_EqualFold
def dstrings_genSplit (s : List Int) (t : List Int) (sv : Int) (n : Int) : Done := ⟨[t.length = 1, sv = 0, n = -1, s.length ≤ 1000000000000], .one (.psl true .str (U.split (t.getD 0 0) s)), [], []⟩
def sstrings_genSplit : Vc.Sum := .pure [.str, .str, .int .i64, .int .i64] false fun x => dstrings_genSplit x.1 x.2.1 x.2.2.1 x.2.2.2
def Lstrings_genSplit (s : List Int) (t : List Int) (sv : Int) (n : Int) : Nat → List V → Nat → Option Vc.Loop := fun f v k => cond (Nat.beq f 84 && Nat.beq k 11) (some (lpstrings_genSplit_11 s t)) <| none
def Qstrings_genSplit : List (Nat × Ent) := (84, .sum sstrings_genSplit) :: Qinternal_stringslite_Index
def dslices_Index_string_string (l : List (List Int)) (z : List Int) : Done := ⟨[], .one (.int .i64 (U.idxS z l 0)), [], []⟩
def sslices_Index_string_string : Vc.Sum := .pure [tStrs, .str] false fun x => dslices_Index_string_string x.1 x.2
def Lslices_Index_string_string (l : List (List Int)) (z : List Int) : Nat → List V → Nat → Option Vc.Loop := fun f v k => cond (Nat.beq f 85 && Nat.beq k 2) (some (lpslices_Index_string_string_2 l z)) <| none
def Qslices_Index_string_string : List (Nat × Ent) := (85, .sum sslices_Index_string_string) :: Qstrings_genSplit
end Go.Proofs.YtllmhikoaklpbaaDoor

set_option maxRecDepth 100000
set_option linter.unusedVariables false
namespace Go.Proofs.YtllmhikoaklpbaaDoor
open Go.Vc
def vcinternal_stringslite_Index (s : List Int) (t : List Int) : Prop := bif bif decide ((↑t.length : Int) = (0 : Int)) then true else t.beq s then (0 : Int) = idxB s (t.getD (0 : Nat) (0 : Int)) ∧ True else bif decide ((↑t.length : Int) = (1 : Int)) then (0 : Int) ≤ (0 : Int) ∧ (0 : Int) < (↑t.length : Int) ∧ idxB s (t.getD (0 : Nat) (0 : Int)) = idxB s (t.getD (0 : Nat) (0 : Int)) ∧ True else bif
 decide ((↑t.length : Int) ≥ (↑s.length : Int)) then (-1 : Int) = idxB s (t.getD (0 : Nat) (0 : Int)) ∧ True else False
def vcstrings_genSplit (s : List Int) (t : List Int) (sv : Int) (n : Int) : Prop := bif decide (n = (0 : Int)) then [] = U.split (t.getD (0 : Nat) (0 : Int)) s ∧ True else bif t.beq [] then False else bif decide (n < (0 : Int)) then t.length = (1 : Nat) ∧ (0 : Int) ≤ minI (IntKind.i64.wrap ((↑(List.filter (fun (x : Int) => decide (x = t.getD (0 : Nat) (0 : Int))) s).length : Int).add (1 : Int)))
 (IntKind.i64.wrap ((↑s.length : Int).add (1 : Int))) ∧ minI (IntKind.i64.wrap ((↑(List.filter (fun (x : Int) => decide (x = t.getD (0 : Nat) (0 : Int))) s).length : Int).add (1 : Int))) (IntKind.i64.wrap ((↑s.length : Int).add (1 : Int))) ≤ minI (IntKind.i64.wrap ((↑(List.filter (fun (x : Int) => decide (x = t.getD (0 : Nat) (0 : Int))) s).length : Int).add (1 : Int))) (IntKind.i64.wrap ((↑s.length
 : Int).add (1 : Int))) ∧ (minI (IntKind.i64.wrap ((↑(List.filter (fun (x : Int) => decide (x = t.getD (0 : Nat) (0 : Int))) s).length : Int).add (1 : Int))) (IntKind.i64.wrap ((↑s.length : Int).add (1 : Int)))).mul (↑(16 : Nat) : Int) ≤ (140737488355328 : Int) ∧ minI (IntKind.i64.wrap ((↑(List.filter (fun (x : Int) => decide (x = t.getD (0 : Nat) (0 : Int))) s).length : Int).add (1 : Int)))
 (IntKind.i64.wrap ((↑s.length : Int).add (1 : Int))) ≤ (9223372036854775807 : Int) ∧ ∃ (x0 : List Int × Int × Int × List (List Int) × Int), (U.ststrings_genSplit_11 s t s sv (IntKind.i64.wrap ((minI (IntKind.i64.wrap ((↑(List.filter (fun (x : Int) => decide (x = t.getD (0 : Nat) (0 : Int))) s).length : Int).add (1 : Int))) (IntKind.i64.wrap ((↑s.length : Int).add (1 : Int)))).sub (1 : Int)))
 (List.replicate (minI (IntKind.i64.wrap ((↑(List.filter (fun (x : Int) => decide (x = t.getD (0 : Nat) (0 : Int))) s).length : Int).add (1 : Int))) (IntKind.i64.wrap ((↑s.length : Int).add (1 : Int)))).toNat []) (0 : Int) = U.ststrings_genSplit_11 s t x0.1 x0.2.1 x0.2.2.1 x0.2.2.2.1 x0.2.2.2.2 ∧ U.Istrings_genSplit_11 s t x0.1 x0.2.1 x0.2.2.1 x0.2.2.2.1 x0.2.2.2.2) ∧ ∀ (x : List Int × Int × Int ×
 List (List Int) × Int), U.Istrings_genSplit_11 s t x.1 x.2.1 x.2.2.1 x.2.2.2.1 x.2.2.2.2 → bif decide (x.2.2.2.2 < x.2.2.1) then t.length = (1 : Nat) ∧ bif decide (idxB x.1 (t.getD (0 : Nat) (0 : Int)) < (0 : Int)) then (0 : Int) ≤ x.2.2.2.2 ∧ x.2.2.2.2 < (↑x.2.2.2.1.length : Int) ∧ x.2.2.2.2.toNat < x.2.2.2.1.length ∧ (0 : Int) ≤ (0 : Int) ∧ (0 : Int) ≤ IntKind.i64.wrap (x.2.2.2.2.add (1 : Int)) ∧
 IntKind.i64.wrap (x.2.2.2.2.add (1 : Int)) ≤ (↑(x.2.2.2.1.set x.2.2.2.2.toNat x.1).length : Int) ∧ List.take ((IntKind.i64.wrap (x.2.2.2.2.add (1 : Int))).toNat.sub (0 : Nat)) (List.drop (0 : Nat) (x.2.2.2.1.set x.2.2.2.2.toNat x.1)) = U.split (t.getD (0 : Nat) (0 : Int)) s ∧ True else (0 : Int) ≤ (0 : Int) ∧ (0 : Int) ≤ IntKind.i64.wrap ((idxB x.1 (t.getD (0 : Nat) (0 : Int))).add x.2.1) ∧
 IntKind.i64.wrap ((idxB x.1 (t.getD (0 : Nat) (0 : Int))).add x.2.1) ≤ (↑x.1.length : Int) ∧ (0 : Int) ≤ x.2.2.2.2 ∧ x.2.2.2.2 < (↑x.2.2.2.1.length : Int) ∧ x.2.2.2.2.toNat < x.2.2.2.1.length ∧ (0 : Int) ≤ IntKind.i64.wrap ((idxB x.1 (t.getD (0 : Nat) (0 : Int))).add (↑t.length : Int)) ∧ IntKind.i64.wrap ((idxB x.1 (t.getD (0 : Nat) (0 : Int))).add (↑t.length : Int)) ≤ (↑x.1.length : Int) ∧
 (↑x.1.length : Int) ≤ (↑x.1.length : Int) ∧ ∃ (y : List Int × Int × Int × List (List Int) × Int), U.ststrings_genSplit_11 s t (List.take ((↑x.1.length : Int).toNat.sub (IntKind.i64.wrap ((idxB x.1 (t.getD (0 : Nat) (0 : Int))).add (↑t.length : Int))).toNat) (List.drop (IntKind.i64.wrap ((idxB x.1 (t.getD (0 : Nat) (0 : Int))).add (↑t.length : Int))).toNat x.1)) x.2.1 x.2.2.1 (x.2.2.2.1.set
 x.2.2.2.2.toNat (List.take ((IntKind.i64.wrap ((idxB x.1 (t.getD (0 : Nat) (0 : Int))).add x.2.1)).toNat.sub (0 : Nat)) (List.drop (0 : Nat) x.1))) (IntKind.i64.wrap (x.2.2.2.2.add (1 : Int))) = U.ststrings_genSplit_11 s t y.1 y.2.1 y.2.2.1 y.2.2.2.1 y.2.2.2.2 ∧ U.Istrings_genSplit_11 s t y.1 y.2.1 y.2.2.1 y.2.2.2.1 y.2.2.2.2 ∧ (y.2.2.1.sub y.2.2.2.2).toNat < (x.2.2.1.sub x.2.2.2.2).toNat else (0 :
 Int) ≤ x.2.2.2.2 ∧ x.2.2.2.2 < (↑x.2.2.2.1.length : Int) ∧ x.2.2.2.2.toNat < x.2.2.2.1.length ∧ (0 : Int) ≤ (0 : Int) ∧ (0 : Int) ≤ IntKind.i64.wrap (x.2.2.2.2.add (1 : Int)) ∧ IntKind.i64.wrap (x.2.2.2.2.add (1 : Int)) ≤ (↑(x.2.2.2.1.set x.2.2.2.2.toNat x.1).length : Int) ∧ List.take ((IntKind.i64.wrap (x.2.2.2.2.add (1 : Int))).toNat.sub (0 : Nat)) (List.drop (0 : Nat) (x.2.2.2.1.set
 x.2.2.2.2.toNat x.1)) = U.split (t.getD (0 : Nat) (0 : Int)) s ∧ True else (0 : Int) ≤ minI n (IntKind.i64.wrap ((↑s.length : Int).add (1 : Int))) ∧ minI n (IntKind.i64.wrap ((↑s.length : Int).add (1 : Int))) ≤ minI n (IntKind.i64.wrap ((↑s.length : Int).add (1 : Int))) ∧ (minI n (IntKind.i64.wrap ((↑s.length : Int).add (1 : Int)))).mul (↑(16 : Nat) : Int) ≤ (140737488355328 : Int) ∧ minI n
 (IntKind.i64.wrap ((↑s.length : Int).add (1 : Int))) ≤ (9223372036854775807 : Int) ∧ ∃ (x0 : List Int × Int × Int × List (List Int) × Int), (U.ststrings_genSplit_11 s t s sv (IntKind.i64.wrap ((minI n (IntKind.i64.wrap ((↑s.length : Int).add (1 : Int)))).sub (1 : Int))) (List.replicate (minI n (IntKind.i64.wrap ((↑s.length : Int).add (1 : Int)))).toNat []) (0 : Int) = U.ststrings_genSplit_11 s t
 x0.1 x0.2.1 x0.2.2.1 x0.2.2.2.1 x0.2.2.2.2 ∧ U.Istrings_genSplit_11 s t x0.1 x0.2.1 x0.2.2.1 x0.2.2.2.1 x0.2.2.2.2) ∧ ∀ (x : List Int × Int × Int × List (List Int) × Int), U.Istrings_genSplit_11 s t x.1 x.2.1 x.2.2.1 x.2.2.2.1 x.2.2.2.2 → bif decide (x.2.2.2.2 < x.2.2.1) then t.length = (1 : Nat) ∧ bif decide (idxB x.1 (t.getD (0 : Nat) (0 : Int)) < (0 : Int)) then (0 : Int) ≤ x.2.2.2.2 ∧ x.2.2.2.2
 < (↑x.2.2.2.1.length : Int) ∧ x.2.2.2.2.toNat < x.2.2.2.1.length ∧ (0 : Int) ≤ (0 : Int) ∧ (0 : Int) ≤ IntKind.i64.wrap (x.2.2.2.2.add (1 : Int)) ∧ IntKind.i64.wrap (x.2.2.2.2.add (1 : Int)) ≤ (↑(x.2.2.2.1.set x.2.2.2.2.toNat x.1).length : Int) ∧ List.take ((IntKind.i64.wrap (x.2.2.2.2.add (1 : Int))).toNat.sub (0 : Nat)) (List.drop (0 : Nat) (x.2.2.2.1.set x.2.2.2.2.toNat x.1)) = U.split (t.getD
 (0 : Nat) (0 : Int)) s ∧ True else (0 : Int) ≤ (0 : Int) ∧ (0 : Int) ≤ IntKind.i64.wrap ((idxB x.1 (t.getD (0 : Nat) (0 : Int))).add x.2.1) ∧ IntKind.i64.wrap ((idxB x.1 (t.getD (0 : Nat) (0 : Int))).add x.2.1) ≤ (↑x.1.length : Int) ∧ (0 : Int) ≤ x.2.2.2.2 ∧ x.2.2.2.2 < (↑x.2.2.2.1.length : Int) ∧ x.2.2.2.2.toNat < x.2.2.2.1.length ∧ (0 : Int) ≤ IntKind.i64.wrap ((idxB x.1 (t.getD (0 : Nat) (0 :
 Int))).add (↑t.length : Int)) ∧ IntKind.i64.wrap ((idxB x.1 (t.getD (0 : Nat) (0 : Int))).add (↑t.length : Int)) ≤ (↑x.1.length : Int) ∧ (↑x.1.length : Int) ≤ (↑x.1.length : Int) ∧ ∃ (y : List Int × Int × Int × List (List Int) × Int), U.ststrings_genSplit_11 s t (List.take ((↑x.1.length : Int).toNat.sub (IntKind.i64.wrap ((idxB x.1 (t.getD (0 : Nat) (0 : Int))).add (↑t.length : Int))).toNat)
 (List.drop (IntKind.i64.wrap ((idxB x.1 (t.getD (0 : Nat) (0 : Int))).add (↑t.length : Int))).toNat x.1)) x.2.1 x.2.2.1 (x.2.2.2.1.set x.2.2.2.2.toNat (List.take ((IntKind.i64.wrap ((idxB x.1 (t.getD (0 : Nat) (0 : Int))).add x.2.1)).toNat.sub (0 : Nat)) (List.drop (0 : Nat) x.1))) (IntKind.i64.wrap (x.2.2.2.2.add (1 : Int))) = U.ststrings_genSplit_11 s t y.1 y.2.1 y.2.2.1 y.2.2.2.1 y.2.2.2.2 ∧
 U.Istrings_genSplit_11 s t y.1 y.2.1 y.2.2.1 y.2.2.2.1 y.2.2.2.2 ∧ (y.2.2.1.sub y.2.2.2.2).toNat < (x.2.2.1.sub x.2.2.2.2).toNat else (0 : Int) ≤ x.2.2.2.2 ∧ x.2.2.2.2 < (↑x.2.2.2.1.length : Int) ∧ x.2.2.2.2.toNat < x.2.2.2.1.length ∧ (0 : Int) ≤ (0 : Int) ∧ (0 : Int) ≤ IntKind.i64.wrap (x.2.2.2.2.add (1 : Int)) ∧ IntKind.i64.wrap (x.2.2.2.2.add (1 : Int)) ≤ (↑(x.2.2.2.1.set x.2.2.2.2.toNat
 x.1).length : Int) ∧ List.take ((IntKind.i64.wrap (x.2.2.2.2.add (1 : Int))).toNat.sub (0 : Nat)) (List.drop (0 : Nat) (x.2.2.2.1.set x.2.2.2.2.toNat x.1)) = U.split (t.getD (0 : Nat) (0 : Int)) s ∧ True
def vcslices_Index_string_string (l : List (List Int)) (z : List Int) : Prop := ∃ (x0 : Int), (U.stslices_Index_string_string_2 l z (0 : Int) = U.stslices_Index_string_string_2 l z x0 ∧ U.Islices_Index_string_string_2 l z x0) ∧ ∀ (x : Int), U.Islices_Index_string_string_2 l z x → bif decide (x < (↑l.length : Int)) then (0 : Int) ≤ x ∧ x < (↑l.length : Int) ∧ bif z.beq (l.getD x.toNat []) then x =
 U.idxS z l (0 : Int) ∧ True else ∃ (y : Int), U.stslices_Index_string_string_2 l z (IntKind.i64.wrap (x.add (1 : Int))) = U.stslices_Index_string_string_2 l z y ∧ U.Islices_Index_string_string_2 l z y ∧ l.length.sub y.toNat < l.length.sub x.toNat else (-1 : Int) = U.idxS z l (0 : Int) ∧ True
end Go.Proofs.YtllmhikoaklpbaaDoor

set_option linter.unusedSimpArgs false
set_option linter.unusedVariables false
set_option maxRecDepth 100000
namespace Go.Proofs.YtllmhikoaklpbaaDoor
open Go.Vc
open Go.Vc.T
theorem okinternal_stringslite_Index (s t : List Int) (h1 : t.length = 1) : vcinternal_stringslite_Index s t := by
  unfold vcinternal_stringslite_Index
  match t, h1 with
  | [c], _ =>
    simp only [cond_prop, cond_or, int_neg, decide_eq_true_eq, decide_eq_false_iff_not, list_beq]
    refine ⟨fun h => ⟨?_, trivial⟩, fun _ => ⟨fun _ => ⟨by omega, by simp, trivial, trivial⟩, fun h => (h (by rfl)).elim⟩⟩
    have h : [c] = s := by simpa using h
    subst h
    simp [idxB]
theorem split_nil (c : Int) : U.split c [] = [[]] := rfl
theorem split_cons (c x : Int) (r : List Int) : U.split c (x :: r) = if x = c then [] :: U.split c r else (x :: (U.split c r).headD []) :: (U.split c r).tail := rfl
theorem split_ne (c : Int) : ∀ s, U.split c s ≠ []
  | [] => by simp [U.split]
  | x :: r => by rw [split_cons]; split <;> simp
theorem split_len (c : Int) : ∀ s, (U.split c s).length = cntB s c + 1
  | [] => rfl
  | x :: r => by
    have ih := split_len c r
    rw [split_cons]
    unfold cntB at *
    rw [List.filter_cons]
    by_cases h : x = c
    · rw [if_pos h, if_pos (by simpa using h), List.length_cons, List.length_cons, ih]
    · rw [if_neg h, if_neg (by simpa using h), List.length_cons, List.length_tail, ih]; omega
theorem split_no (c : Int) : ∀ s, idxB s c < 0 → U.split c s = [s]
  | [], _ => rfl
  | x :: r, h => by
    have hb := idxB_bounds r c
    unfold idxB at h
    by_cases hx : x = c
    · simp [hx] at h
    · by_cases hi : idxB r c = -1
      · have ih := split_no c r (by omega)
        rw [split_cons, if_neg hx, ih]; rfl
      · simp [hx, hi] at h; omega
theorem split_yes (c : Int) : ∀ (s : List Int), 0 ≤ idxB s c → U.split c s = s.take (idxB s c).toNat :: U.split c (s.drop ((idxB s c).toNat + 1))
  | [], h => by simp [idxB] at h
  | x :: r, h => by
    have hb := idxB_bounds r c
    by_cases hx : x = c
    · simp [split_cons, idxB, hx]
    · by_cases hi : idxB r c = -1
      · simp [idxB, hx, hi] at h
      · have e : idxB (x :: r) c = idxB r c + 1 := by simp [idxB, hx, hi]
        have ih := split_yes c r (by omega)
        rw [e, show (idxB r c + 1).toNat = (idxB r c).toNat + 1 by omega]
        rw [split_cons, if_neg hx, ih]; rfl
theorem set_at {α : Type} {a b : List α} {x y : α} {n : Nat} (h : a.length = n) : (a ++ x :: b).set n y = a ++ y :: b := by
  subst h; rw [List.set_append, if_neg (by omega), Nat.sub_self]; rfl
theorem okstrings_genSplit (s t : List Int) (sv n : Int) (h1 : t.length = 1) (h2 : sv = 0) (h3 : n = -1) (h4 : s.length ≤ 1000000000000) : vcstrings_genSplit s t sv n := by
  subst h2 h3
  unfold vcstrings_genSplit
  match t, h1 with
  | [c], _ =>
    have hl := split_len c s
    have hc := cntB_le s c
    have hg : [c].getD 0 0 = c := rfl
    rw [hg, show (List.filter (fun x => decide (x = c)) s).length = cntB s c from rfl]
    have w1 : IntKind.i64.wrap (Int.add (cntB s c : Int) 1) = (cntB s c : Int) + 1 := by rw [wrap_i64, int_add]; omega
    have w2 : IntKind.i64.wrap (Int.add (s.length : Int) 1) = (s.length : Int) + 1 := by rw [wrap_i64, int_add]; omega
    have w3 : minI ((cntB s c : Int) + 1) ((s.length : Int) + 1) = (cntB s c : Int) + 1 := by rw [minI_eq]; omega
    have w4 : IntKind.i64.wrap (Int.sub ((cntB s c : Int) + 1) 1) = (cntB s c : Int) := by rw [wrap_i64, int_sub]; omega
    rw [w1, w2, w3, w4, show decide ((-1 : Int) = 0) = false from rfl, show ([c].beq []) = false from rfl, show decide ((-1 : Int) < 0) = true from rfl, cond_false, cond_false, cond_true]
    simp only [cond_prop, decide_eq_true_eq, decide_eq_false_iff_not, int_add, int_sub, int_mul, nat_sub, U.Istrings_genSplit_11, hg]
    refine ⟨rfl, by omega, by omega, by omega, by omega, (_, _, _, _, _), ⟨rfl, Nat.le_refl _, rfl, rfl, by simp, by simp, rfl, ?_⟩, ?_⟩
    · simp only []; rw [show ((cntB s c : Int) + 1 - 0).toNat = ((cntB s c : Int) + 1).toNat by omega]; rfl
    rintro ⟨r, sv, n, a, i⟩ ⟨hrs, e1, e2, h0, h1, hr, ha⟩
    simp only [] at *
    subst e1 e2
    have hal : a.length = cntB s c + 1 := by rw [ha, List.length_append, List.length_take, List.length_replicate]; omega
    have hrl := congrArg List.length hr
    rw [List.length_drop, hl, split_len c r] at hrl
    have htl : ((U.split c s).take i.toNat).length = i.toNat := by rw [List.length_take]; omega
    have wi : IntKind.i64.wrap (i + 1) = i + 1 := by rw [wrap_i64]; omega
    have hb := idxB_bounds r c
    have hrep : List.replicate ((cntB s c : Int) + 1 - i).toNat ([] : List Int) = [] :: List.replicate ((cntB s c : Int) + 1 - (i + 1)).toNat [] := by
      rw [show ((cntB s c : Int) + 1 - i).toNat = ((cntB s c : Int) + 1 - (i + 1)).toNat + 1 by omega, List.replicate_succ]
    have fin : i = cntB s c → List.take ((i + 1).toNat - 0) (List.drop 0 (a.set i.toNat r)) = U.split c s := by
      intro hi
      have hri : U.split c r = [r] := by
        refine split_no c r ?_
        rcases Int.lt_or_le (idxB r c) 0 with h | h
        · exact h
        · have := split_yes c r h
          have h5 := congrArg List.length this
          rw [List.length_cons, split_len, split_len] at h5
          omega
      have hd : U.split c s = (U.split c s).take i.toNat ++ [r] := by
        conv => lhs; rw [← List.take_append_drop i.toNat (U.split c s), ← hr, hri]
      rw [List.drop_zero, ha, hrep, set_at htl, show ((cntB s c : Int) + 1 - (i + 1)).toNat = 0 by omega, List.replicate_zero, ← hd, List.take_of_length_le (by omega)]
    rw [wi]
    refine ⟨fun hlt => ⟨rfl, fun hneg => ?_, fun hpos => ?_⟩, fun hge => ⟨by omega, by omega, by omega, by omega, by omega, by rw [List.length_set]; omega, fin (by omega), trivial⟩⟩
    · have := split_no c r hneg
      have h5 := congrArg List.length this
      rw [split_len] at h5
      have : [r].length = 1 := rfl
      omega
    · have hy := split_yes c r (by omega)
      have v1 : IntKind.i64.wrap (idxB r c + 0) = idxB r c := by rw [wrap_i64]; omega
      have v2 : IntKind.i64.wrap (idxB r c + (([c].length : Nat) : Int)) = idxB r c + 1 := by rw [wrap_i64]; show (idxB r c + 1 + _) % _ - _ = _; omega
      have hdl : (r.drop (idxB r c + 1).toNat).length = r.length - (idxB r c + 1).toNat := List.length_drop
      rw [v1, v2, show ((r.length : Int)).toNat = r.length by omega, List.take_of_length_le (l := r.drop (idxB r c + 1).toNat) (by omega), List.drop_zero, Nat.sub_zero]
      refine ⟨by omega, by omega, by omega, by omega, by omega, by omega, by omega, by omega, by omega, (_, _, _, _, _), rfl, ⟨by show (r.drop _).length ≤ _; omega, rfl, rfl, by show 0 ≤ i + 1; omega, by show i + 1 ≤ (cntB s c : Int); omega, ?_, ?_⟩, ?_⟩
      · show U.split c (r.drop (idxB r c + 1).toNat) = (U.split c s).drop (i + 1).toNat
        have h5 := congrArg (List.drop 1) hr
        rw [hy, List.drop_succ_cons, List.drop_zero, List.drop_drop] at h5
        rw [show (idxB r c + 1).toNat = (idxB r c).toNat + 1 by omega, h5]; congr 1; omega
      · show a.set i.toNat (r.take (idxB r c).toNat) = (U.split c s).take (i + 1).toNat ++ List.replicate ((cntB s c : Int) + 1 - (i + 1)).toNat []
        rw [ha, hrep, set_at htl, show (i + 1).toNat = i.toNat + 1 by omega, List.take_succ_eq_append_getElem (by omega)]
        have h6 : (U.split c s)[i.toNat] = r.take (idxB r c).toNat := by
          have h7 := congrArg (fun l => l[0]?) hr
          simp only [hy, List.getElem?_cons_zero, List.getElem?_drop, Nat.add_zero] at h7
          rw [List.getElem?_eq_getElem (by omega)] at h7
          exact (Option.some.inj h7).symm
        rw [h6]; simp
      · show ((cntB s c : Int) - (i + 1)).toNat < ((cntB s c : Int) - i).toNat
        omega
theorem okslices_Index_string_string (l : List (List Int)) (z : List Int) (hl : l.length ≤ maxLen) : vcslices_Index_string_string l z := by
  unfold vcslices_Index_string_string
  rw [maxLen_eq] at hl
  simp only [cond_prop, int_add, int_neg, nat_sub, list_beq, U.Islices_Index_string_string_2, U.at_, wrap_i64, decide_eq_true_eq, decide_eq_false_iff_not, beq_iff_eq, beq_eq_false_iff_ne]
  refine ⟨0, ⟨rfl, ⟨by omega, by omega⟩, rfl⟩, ?_⟩
  rintro i ⟨⟨h0, h1⟩, h2⟩
  refine ⟨fun hi => ⟨h0, hi, fun he => ⟨?_, trivial⟩, fun he => ⟨i + 1, ?_, ⟨⟨by omega, by omega⟩, ?_⟩, by omega⟩⟩, fun hi => ⟨?_, trivial⟩⟩
  · rw [drop_at h0 hi] at h2
    rw [getD_at (by omega)] at he
    rw [← h2, U.idxS, if_pos he.symm]
  · rw [show (i + 1 + 9223372036854775808) % 18446744073709551616 - 9223372036854775808 = i + 1 by omega]
  · rw [drop_at h0 hi] at h2
    rw [getD_at (by omega)] at he
    rw [← h2, U.idxS, if_neg (fun h => he h.symm)]
  · rw [drop_end (by omega)] at h2
    rw [← h2]; rfl
end Go.Proofs.YtllmhikoaklpbaaDoor

set_option linter.unusedSimpArgs false
set_option maxRecDepth 100000
set_option linter.unusedVariables false
namespace Go.Proofs.YtllmhikoaklpbaaDoor
open Go.Vc
theorem pstrings_IndexByte : SumOk Tryd.prog gl 36 sstrings_IndexByte := idxB_of (fn := Tryd.f36) (by kernel_rfl) (by kernel_rfl) (by kernel_rfl) Tryd.strings_IndexByte
theorem aQstrings_IndexByte : AllOk Qstrings_IndexByte := .cons pstrings_IndexByte allNil
theorem pinternal_stringslite_IndexByte : SumOk Tryd.prog gl 62 sinternal_stringslite_IndexByte := idxB_of (fn := Tryd.f62) (by kernel_rfl) (by kernel_rfl) (by kernel_rfl) Tryd.stringslite_IndexByte
theorem aQinternal_stringslite_IndexByte : AllOk Qinternal_stringslite_IndexByte := .cons pinternal_stringslite_IndexByte aQstrings_IndexByte
theorem pstrings_Count : SumOk Tryd.prog gl 92 sstrings_Count := count_of (fn := Tryd.f92) (by kernel_rfl) (by kernel_rfl) (by kernel_rfl) Tryd.strings_Count_one
theorem aQstrings_Count : AllOk Qstrings_Count := .cons pstrings_Count aQinternal_stringslite_IndexByte
theorem pstrings_EqualFold : SumOk Tryd.prog gl 74 sstrings_EqualFold := equalFold_of (fn := Tryd.f74) (by kernel_rfl) (by kernel_rfl) (by kernel_rfl) Tryd.strings_EqualFold
theorem aQstrings_EqualFold : AllOk Qstrings_EqualFold := .cons pstrings_EqualFold aQstrings_Count
theorem winternal_stringslite_Index (x : DenL [.str, .str]) : Owes Tryd.prog (cfgOf Qstrings_EqualFold) (Linternal_stringslite_Index x.1 x.2) 87 (argVs [.str, .str] x) [] (dinternal_stringslite_Index x.1 x.2) = vcinternal_stringslite_Index x.1 x.2 := by kernel_rfl
theorem qinternal_stringslite_Index : Pok 87 [.str, .str] (fun x => dinternal_stringslite_Index x.1 x.2) := by
  refine pk (L := fun x => Linternal_stringslite_Index x.1 x.2) (l := Qstrings_EqualFold) aQstrings_EqualFold (fun _ => rfl) ?_
  intro x hv hp
  rw [winternal_stringslite_Index]
  exact okinternal_stringslite_Index x.1 x.2 (hp (List.length x.2 = 1) (by simp [dinternal_stringslite_Index]))
theorem pinternal_stringslite_Index : SumOk Tryd.prog gl 87 sinternal_stringslite_Index := qinternal_stringslite_Index
theorem aQinternal_stringslite_Index : AllOk Qinternal_stringslite_Index := .cons pinternal_stringslite_Index aQstrings_EqualFold
theorem wstrings_genSplit (x : DenL [.str, .str, .int .i64, .int .i64]) : Owes Tryd.prog (cfgOf Qinternal_stringslite_Index) (Lstrings_genSplit x.1 x.2.1 x.2.2.1 x.2.2.2) 84 (argVs [.str, .str, .int .i64, .int .i64] x) [] (dstrings_genSplit x.1 x.2.1 x.2.2.1 x.2.2.2) = vcstrings_genSplit x.1 x.2.1 x.2.2.1 x.2.2.2 := by kernel_rfl
theorem qstrings_genSplit : Pok 84 [.str, .str, .int .i64, .int .i64] (fun x => dstrings_genSplit x.1 x.2.1 x.2.2.1 x.2.2.2) := by
  refine pk (L := fun x => Lstrings_genSplit x.1 x.2.1 x.2.2.1 x.2.2.2) (l := Qinternal_stringslite_Index) aQinternal_stringslite_Index (fun _ => rfl) ?_
  intro x hv hp
  rw [wstrings_genSplit]
  exact okstrings_genSplit x.1 x.2.1 x.2.2.1 x.2.2.2 (hp (List.length x.2.1 = 1) (by simp [dstrings_genSplit])) (hp (x.2.2.1 = 0) (by simp [dstrings_genSplit])) (hp (x.2.2.2 = -1) (by simp [dstrings_genSplit])) (hp (List.length x.1 ≤ 1000000000000) (by simp [dstrings_genSplit]))
theorem pstrings_genSplit : SumOk Tryd.prog gl 84 sstrings_genSplit := qstrings_genSplit
theorem aQstrings_genSplit : AllOk Qstrings_genSplit := .cons pstrings_genSplit aQinternal_stringslite_Index
theorem wslices_Index_string_string (x : DenL [tStrs, .str]) : Owes Tryd.prog (cfgOf Qstrings_genSplit) (Lslices_Index_string_string x.1 x.2) 85 (argVs [tStrs, .str] x) [] (dslices_Index_string_string x.1 x.2) = vcslices_Index_string_string x.1 x.2 := by kernel_rfl
theorem qslices_Index_string_string : Pok 85 [tStrs, .str] (fun x => dslices_Index_string_string x.1 x.2) := by
  refine pk (L := fun x => Lslices_Index_string_string x.1 x.2) (l := Qstrings_genSplit) aQstrings_genSplit (fun _ => rfl) ?_
  intro x hv hp
  rw [wslices_Index_string_string]
  exact okslices_Index_string_string x.1 x.2 hv.1.2
theorem pslices_Index_string_string : SumOk Tryd.prog gl 85 sslices_Index_string_string := qslices_Index_string_string
theorem aQslices_Index_string_string : AllOk Qslices_Index_string_string := .cons pslices_Index_string_string aQstrings_genSplit
end Go.Proofs.YtllmhikoaklpbaaDoor
