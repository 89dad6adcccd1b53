/- The functions' summaries hold of the program. -/
import Derived.Test.YtddakledpipanaaP3
import Derived.Test.YtddakledpipanaaP9
set_option linter.unusedSimpArgs false
set_option maxRecDepth 100000
set_option linter.unusedVariables false
namespace Go.Proofs.Ytddakledpipanaa
open Go.Vc
theorem w51 (x : DenL [.int .i64]) : Owes Try.prog (cfgOf Q4) (noKeep) 51 (argVs [.int .i64] x) [] (rB (U.five x)) = vc51 x := by kernel_rfl
theorem q51 : PureOk Try.prog 51 [.int .i64] (fun x => rB (U.five x)) := by
  refine pk (L := fun x => noKeep) (l := Q4) aQ4 (fun _ => rfl) ?_
  intro x hv hp
  rw [w51]
  exact ok51 x
theorem p51 : SumOk Try.prog 51 s51 := q51
theorem w42 (x : DenL [.int .i64, .int .i64, .int .i64]) : Owes Try.prog (cfgOf Q4) (noKeep) 42 (argVs [.int .i64, .int .i64, .int .i64] x) [] (d42 x.1 x.2.1 x.2.2) = vc42 x.1 x.2.1 x.2.2 := by kernel_rfl
theorem q42 : PureOk Try.prog 42 [.int .i64, .int .i64, .int .i64] (fun x => d42 x.1 x.2.1 x.2.2) := by
  refine pk (L := fun x => noKeep) (l := Q4) aQ4 (fun _ => rfl) ?_
  intro x hv hp
  rw [w42]
  exact ok42 x.1 x.2.1 x.2.2 (T.vI64 hv.1) (T.vI64 hv.2.2)
theorem p42 : SumOk Try.prog 42 s42 := q42
theorem w55 (x : DenL [tBytes, tBytes]) : Owes Try.prog (cfgOf Q4) (noKeep) 55 (argVs [tBytes, tBytes] x) [] (rB (U.eqB x.1 x.2)) = vc55 x.1 x.2 := by kernel_rfl
theorem q55 : PureOk Try.prog 55 [tBytes, tBytes] (fun x => rB (U.eqB x.1 x.2)) := by
  refine pk (L := fun x => noKeep) (l := Q4) aQ4 (fun _ => rfl) ?_
  intro x hv hp
  rw [w55]
  exact ok55 x.1 x.2
theorem p55 : SumOk Try.prog 55 s55 := q55
theorem w31 (x : DenL [tInts, tInts]) : Owes Try.prog (cfgOf Q4) (lp31 x.1 x.2) 31 (argVs [tInts, tInts] x) [] (rB (U.eqI x.1 x.2)) = vc31 x.1 x.2 := by kernel_rfl
theorem q31 : PureOk Try.prog 31 [tInts, tInts] (fun x => rB (U.eqI x.1 x.2)) := by
  refine pk (L := fun x => lp31 x.1 x.2) (l := Q4) aQ4 (fun _ => rfl) ?_
  intro x hv hp
  rw [w31]
  exact ok31 x.1 x.2 hv.1.2
theorem p31 : SumOk Try.prog 31 s31 := q31
theorem w34 (x : DenL [tMsg]) : Owes Try.prog (cfgOf Q4) (noKeep) 34 (argVs [tMsg] x) [] (⟨[List.length x.2.2.2 ≤ 5000], .v (.of true tMsg x), [], []⟩) = vc34 x := by kernel_rfl
theorem q34 : PureOk Try.prog 34 [tMsg] (fun x => ⟨[List.length x.2.2.2 ≤ 5000], .v (.of true tMsg x), [], []⟩) := by
  refine pk (L := fun x => noKeep) (l := Q4) aQ4 (fun _ => rfl) ?_
  intro x hv hp
  rw [w34]
  exact ok34 x (hp _ (by simp))
theorem p34 : SumOk Try.prog 34 s34 := q34
theorem w25 (x : DenL [tBox, .int .i64]) : Owes Try.prog (cfgOf Q4) (noKeep) 25 (argVs [tBox, .int .i64] x) [] (d25 x.1 x.2) = vc25 x.1 x.2 := by kernel_rfl
theorem q25 : PureOk Try.prog 25 [tBox, .int .i64] (fun x => d25 x.1 x.2) := by
  refine pk (L := fun x => noKeep) (l := Q4) aQ4 (fun _ => rfl) ?_
  intro x hv hp
  rw [w25]
  exact ok25 x.1 x.2 hv.1.2.2.2.2 (hp (U.small x.1.2.2.2) (by simp [d25]))
theorem p25 : SumOk Try.prog 25 s25 := q25
theorem w19 (x : DenL [tBox]) : Owes Try.prog (cfgOf Q4) (lp19 x) 19 (argVs [tBox] x) [] (d19 x) = vc19 x := by kernel_rfl
theorem q19 : PureOk Try.prog 19 [tBox] (fun x => d19 x) := by
  refine pk (L := fun x => lp19 x) (l := Q4) aQ4 (fun _ => rfl) ?_
  intro x hv hp
  rw [w19]
  exact ok19 x (hp (List.length x.2.2.2 ≤ 5000) (by simp [d19]))
theorem p19 : SumOk Try.prog 19 s19 := q19
theorem w29 (x : DenL [tBox, .int .i64]) : Owes Try.prog (cfgOf Q4) (lp29 x.1 x.2) 29 (argVs [tBox, .int .i64] x) [] (rI (U.place x.1.2.2.2 x.2)) = vc29 x.1 x.2 := by kernel_rfl
theorem q29 : PureOk Try.prog 29 [tBox, .int .i64] (fun x => rI (U.place x.1.2.2.2 x.2)) := by
  refine pk (L := fun x => lp29 x.1 x.2) (l := Q4) aQ4 (fun _ => rfl) ?_
  intro x hv hp
  rw [w29]
  exact ok29 x.1 x.2 hv.1.2.2.2.2
theorem p29 : SumOk Try.prog 29 s29 := q29
theorem w30 (x : DenL [tBox, .int .i64]) : Owes Try.prog (cfgOf Q4) (lp30 x.1 x.2) 30 (argVs [tBox, .int .i64] x) [] (rI (U.countGo x.2 x.1.2.2.2 0)) = vc30 x.1 x.2 := by kernel_rfl
theorem q30 : PureOk Try.prog 30 [tBox, .int .i64] (fun x => rI (U.countGo x.2 x.1.2.2.2 0)) := by
  refine pk (L := fun x => lp30 x.1 x.2) (l := Q4) aQ4 (fun _ => rfl) ?_
  intro x hv hp
  rw [w30]
  exact ok30 x.1 x.2 hv.1.2.2.2.2
theorem p30 : SumOk Try.prog 30 s30 := q30
theorem w32 (x : DenL [tBox]) : Owes Try.prog (cfgOf Q4) (lp32 x) 32 (argVs [tBox] x) [] (d19 x) = vc32 x := by kernel_rfl
theorem q32 : PureOk Try.prog 32 [tBox] (fun x => d19 x) := by
  refine pk (L := fun x => lp32 x) (l := Q4) aQ4 (fun _ => rfl) ?_
  intro x hv hp
  rw [w32]
  exact ok32 x (hp (List.length x.2.2.2 ≤ 5000) (by simp [d19]))
theorem p32 : SumOk Try.prog 32 s19 := q32
theorem aQA : AllOk QA := .cons p51 (.cons p42 (.cons p55 (.cons p31 (.cons p34 (.cons p25 (.cons p19 (.cons p29 (.cons p30 (.cons p32 aQ4)))))))))
theorem w43 (x : DenL [.int .i64, .int .i64, .int .i64]) : Owes Try.prog (cfgOf QA) (noKeep) 43 (argVs [.int .i64, .int .i64, .int .i64] x) [] (d42 x.1 x.2.1 x.2.2) = vc43 x.1 x.2.1 x.2.2 := by kernel_rfl
theorem q43 : PureOk Try.prog 43 [.int .i64, .int .i64, .int .i64] (fun x => d42 x.1 x.2.1 x.2.2) := by
  refine pk (L := fun x => noKeep) (l := QA) aQA (fun _ => rfl) ?_
  intro x hv hp
  rw [w43]
  exact ok43 x.1 x.2.1 x.2.2
theorem p43 : SumOk Try.prog 43 s42 := q43
theorem w38 (x : DenL [tMsg]) : Owes Try.prog (cfgOf QA) (noKeep) 38 (argVs [tMsg] x) [] (rB (U.mayN x)) = vc38 x := by kernel_rfl
theorem q38 : PureOk Try.prog 38 [tMsg] (fun x => rB (U.mayN x)) := by
  refine pk (L := fun x => noKeep) (l := QA) aQA (fun _ => rfl) ?_
  intro x hv hp
  rw [w38]
  exact ok38 x (T.vI64 hv.2.1)
theorem p38 : SumOk Try.prog 38 s38 := q38
theorem w48 (x : DenL [tMsg, tMsg]) : Owes Try.prog (cfgOf QA) (noKeep) 48 (argVs [tMsg, tMsg] x) [] (rB (U.eqM x.1 x.2)) = vc48 x.1 x.2 := by kernel_rfl
theorem q48 : PureOk Try.prog 48 [tMsg, tMsg] (fun x => rB (U.eqM x.1 x.2)) := by
  refine pk (L := fun x => noKeep) (l := QA) aQA (fun _ => rfl) ?_
  intro x hv hp
  rw [w48]
  exact ok48 x.1 x.2
theorem p48 : SumOk Try.prog 48 s48 := q48
theorem w11 (x : DenL [tBox]) : Owes Try.prog (cfgOf QA) (lp11 x) 11 (argVs [tBox] x) [] (d27 x) = vc11 x := by kernel_rfl
theorem q11 : PureOk Try.prog 11 [tBox] (fun x => d27 x) := by
  refine pk (L := fun x => lp11 x) (l := QA) aQA (fun _ => rfl) ?_
  intro x hv hp
  rw [w11]
  exact ok11 x (hp (U.small x.2.2.2) (by simp [d27]))
theorem p11 : SumOk Try.prog 11 s27 := q11
theorem w44 (x : DenL [tBox, tInts]) : Owes Try.prog (cfgOf QA) (lp44 x.1 x.2) 44 (argVs [tBox, tInts] x) [] (rB (!U.missing x.1.2.2.2 x.2)) = vc44 x.1 x.2 := by kernel_rfl
theorem q44 : PureOk Try.prog 44 [tBox, tInts] (fun x => rB (!U.missing x.1.2.2.2 x.2)) := by
  refine pk (L := fun x => lp44 x.1 x.2) (l := QA) aQA (fun _ => rfl) ?_
  intro x hv hp
  rw [w44]
  exact ok44 x.1 x.2 hv.2.2
theorem p44 : SumOk Try.prog 44 s44 := q44
theorem w26 (x : DenL [tBox, .int .i64]) : Owes Try.prog (cfgOf QA) (noKeep) 26 (argVs [tBox, .int .i64] x) [] (d25 x.1 x.2) = vc26 x.1 x.2 := by kernel_rfl
theorem q26 : PureOk Try.prog 26 [tBox, .int .i64] (fun x => d25 x.1 x.2) := by
  refine pk (L := fun x => noKeep) (l := QA) aQA (fun _ => rfl) ?_
  intro x hv hp
  rw [w26]
  exact ok26 x.1 x.2 hv.1.2.2.2.2 (hp (U.small x.1.2.2.2) (by simp [d25]))
theorem p26 : SumOk Try.prog 26 s25 := q26
theorem aQB : AllOk QB := .cons p43 (.cons p38 (.cons p48 (.cons p11 (.cons p44 (.cons p26 aQA)))))
theorem w16 (x : DenL [tBox]) : Owes Try.prog (cfgOf QB) (lp16 x) 16 (argVs [tBox] x) [] (rB (U.right x)) = vc16 x := by kernel_rfl
theorem q16 : PureOk Try.prog 16 [tBox] (fun x => rB (U.right x)) := by
  refine pk (L := fun x => lp16 x) (l := QB) aQB (fun _ => rfl) ?_
  intro x hv hp
  rw [w16]
  exact ok16 x
theorem p16 : SumOk Try.prog 16 s15 := q16
theorem w33 (x : DenL [tBox, tBox]) : Owes Try.prog (cfgOf QB) (lp33 x.1 x.2) 33 (argVs [tBox, tBox] x) [] (rB (U.eqBox x.1 x.2)) = vc33 x.1 x.2 := by kernel_rfl
theorem q33 : PureOk Try.prog 33 [tBox, tBox] (fun x => rB (U.eqBox x.1 x.2)) := by
  refine pk (L := fun x => lp33 x.1 x.2) (l := QB) aQB (fun _ => rfl) ?_
  intro x hv hp
  rw [w33]
  exact ok33 x.1 x.2 hv.1.2.2.2.2
theorem p33 : SumOk Try.prog 33 s14 := q33
theorem aQC : AllOk QC := .cons p16 (.cons p33 aQB)
theorem w13 (x : DenL [tBox, tMsg]) : Owes Try.prog (cfgOf QC) (noKeep) 13 (argVs [tBox, tMsg] x) [] (d12 x.1 x.2) = vc13 x.1 x.2 := by kernel_rfl
theorem q13 : PureOk Try.prog 13 [tBox, tMsg] (fun x => d12 x.1 x.2) := by
  refine pk (L := fun x => noKeep) (l := QC) aQC (fun _ => rfl) ?_
  intro x hv hp
  rw [w13]
  exact ok13 x.1 x.2
theorem p13 : SumOk Try.prog 13 s12 := q13
theorem w20 (x : DenL [tBox, tInts, .int .i64, .int .i64]) : Owes Try.prog (cfgOf QC) (lp20 x.1 x.2.1 x.2.2.1 x.2.2.2) 20 (argVs [tBox, tInts, .int .i64, .int .i64] x) [] (d20 x.1 x.2.1 x.2.2.1 x.2.2.2) = vc20 x.1 x.2.1 x.2.2.1 x.2.2.2 := by kernel_rfl
theorem q20 : PureOk Try.prog 20 [tBox, tInts, .int .i64, .int .i64] (fun x => d20 x.1 x.2.1 x.2.2.1 x.2.2.2) := by
  refine pk (L := fun x => lp20 x.1 x.2.1 x.2.2.1 x.2.2.2) (l := QC) aQC (fun _ => rfl) ?_
  intro x hv hp
  rw [w20]
  exact ok20 x.1 x.2.1 x.2.2.1 x.2.2.2 hv.2.1.2
theorem p20 : SumOk Try.prog 20 s20 := q20
theorem w21 (x : DenL [tBox, tInts, .int .i64, .int .i64]) : Owes Try.prog (cfgOf QC) (lp21 x.1 x.2.1 x.2.2.1 x.2.2.2) 21 (argVs [tBox, tInts, .int .i64, .int .i64] x) [] (d20 x.1 x.2.1 x.2.2.1 x.2.2.2) = vc21 x.1 x.2.1 x.2.2.1 x.2.2.2 := by kernel_rfl
theorem q21 : PureOk Try.prog 21 [tBox, tInts, .int .i64, .int .i64] (fun x => d20 x.1 x.2.1 x.2.2.1 x.2.2.2) := by
  refine pk (L := fun x => lp21 x.1 x.2.1 x.2.2.1 x.2.2.2) (l := QC) aQC (fun _ => rfl) ?_
  intro x hv hp
  rw [w21]
  exact ok21 x.1 x.2.1 x.2.2.1 x.2.2.2 hv.2.1.2
theorem p21 : SumOk Try.prog 21 s20 := q21
theorem w22 (x : DenL [tBox, tInts]) : Owes Try.prog (cfgOf QC) (lp22 x.1 x.2) 22 (argVs [tBox, tInts] x) [] (d17 x.1 x.2) = vc22 x.1 x.2 := by kernel_rfl
theorem q22 : PureOk Try.prog 22 [tBox, tInts] (fun x => d17 x.1 x.2) := by
  refine pk (L := fun x => lp22 x.1 x.2) (l := QC) aQC (fun _ => rfl) ?_
  intro x hv hp
  rw [w22]
  exact ok22 x.1 x.2 hv.2.2
theorem p22 : SumOk Try.prog 22 s17 := q22
theorem aQD : AllOk QD := .cons p13 (.cons p20 (.cons p21 (.cons p22 aQC)))
theorem aQE : AllOk QE := .cons p9 aQD
end Go.Proofs.Ytddakledpipanaa
