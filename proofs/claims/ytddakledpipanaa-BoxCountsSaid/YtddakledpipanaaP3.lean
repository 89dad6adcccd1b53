/- The functions' summaries hold of the program. -/
import Derived.Test.YtddakledpipanaaP2
import Derived.Test.YtddakledpipanaaVcLaw
set_option linter.unusedSimpArgs false
set_option maxRecDepth 100000
set_option linter.unusedVariables false
namespace Go.Proofs.Ytddakledpipanaa
open Go.Vc
theorem tab_all : ((List.range 88).all fun T => match tab T with | some t => tiB Try.prog T t | none => true) = true := by kernel_rfl
theorem tabOk (l : List (Nat × Vc.Sum)) : TabOk Try.prog (cfgOf l) := by
  intro T t h
  have h : cond (Nat.blt T 88) (tab T) none = some t := h
  cases hb : Nat.blt T 88 with
  | false => rw [hb] at h; cases h
  | true =>
    rw [hb] at h
    have h : tab T = some t := h
    have := List.all_eq_true.1 tab_all T (List.mem_range.2 (by simpa [Nat.blt_eq] using hb))
    rw [h] at this
    exact tiB_ok this
theorem mixed : Try.prog.follows .mixedOrders = true := by kernel_rfl
abbrev AllOk (l : List (Nat × Vc.Sum)) : Prop := ∀ p ∈ l, SumOk Try.prog p.1 p.2
theorem lk_mem {f : Nat} {s : Vc.Sum} : ∀ {l : List (Nat × Vc.Sum)}, lk l f = some s → (f, s) ∈ l
  | [], h => by cases h
  | (i, t) :: r, h => by
    unfold lk at h
    cases hb : Nat.beq i f with
    | true =>
      rw [hb] at h
      have h : some t = some s := h
      cases h
      rw [Nat.eq_of_beq_eq_true hb]; simp
    | false => rw [hb] at h; exact List.mem_cons_of_mem _ (lk_mem h)
theorem sums_of {l : List (Nat × Vc.Sum)} (h : AllOk l) : SumsOk Try.prog (cfgOf l) := fun _ _ hs => h _ (lk_mem hs)
theorem allNil : AllOk [] := fun p hp => by cases hp
theorem AllOk.cons {f : Nat} {s : Vc.Sum} {l : List (Nat × Vc.Sum)} (h : SumOk Try.prog f s) (hl : AllOk l) : AllOk ((f, s) :: l) := fun p hp => by
  rcases List.mem_cons.1 hp with rfl | hp
  · exact h
  · exact hl p hp
theorem pk {f : Nat} {ts : List Ty} {F : DenL ts → Done} {L : DenL ts → Nat → Nat → Option Vc.Loop} {l : List (Nat × Vc.Sum)} (hl : AllOk l) (hback : ∀ x, (F x).back = [])
    (h : ∀ x, ValidL ts x → (∀ p ∈ (F x).pre, p) → Owes Try.prog (cfgOf l) (L x) f (argVs ts x) [] (F x)) : PureOk Try.prog f ts F :=
  pureOk_of (tabOk l) (sums_of hl) mixed (fun w S => ⟨fun g t x h => by cases h⟩) hback h
theorem w36 (x : DenL [.int .i64]) : Owes Try.prog (cfgOf []) (noKeep) 36 (argVs [.int .i64] x) [] (rB (U.numbered x)) = vc36 x := by kernel_rfl
theorem q36 : PureOk Try.prog 36 [.int .i64] (fun x => rB (U.numbered x)) := by
  refine pk (L := fun x => noKeep) (l := []) allNil (fun _ => rfl) ?_
  intro x hv hp
  rw [w36]
  exact ok36 x
theorem p36 : SumOk Try.prog 36 s36 := q36
theorem w49 (x : DenL [.int .i64]) : Owes Try.prog (cfgOf []) (noKeep) 49 (argVs [.int .i64] x) [] (rB (U.flagRight x)) = vc49 x := by kernel_rfl
theorem q49 : PureOk Try.prog 49 [.int .i64] (fun x => rB (U.flagRight x)) := by
  refine pk (L := fun x => noKeep) (l := []) allNil (fun _ => rfl) ?_
  intro x hv hp
  rw [w49]
  exact ok49 x
theorem p49 : SumOk Try.prog 49 s49 := q49
theorem w50 (x : DenL [tBytes]) : Owes Try.prog (cfgOf []) (noKeep) 50 (argVs [tBytes] x) [] (⟨[List.length x ≤ 5000], .one (.psl true (.int .u8) x), [], []⟩) = vc50 x := by kernel_rfl
theorem q50 : PureOk Try.prog 50 [tBytes] (fun x => ⟨[List.length x ≤ 5000], .one (.psl true (.int .u8) x), [], []⟩) := by
  refine pk (L := fun x => noKeep) (l := []) allNil (fun _ => rfl) ?_
  intro x hv hp
  rw [w50]
  exact ok50 x (hp _ (by simp))
theorem p50 : SumOk Try.prog 50 s50 := q50
theorem w41 (x : DenL [tBytes, tBytes]) : Owes Try.prog (cfgOf []) (noKeep) 41 (argVs [tBytes, tBytes] x) [] (rB (U.eqB x.1 x.2)) = vc41 x.1 x.2 := by kernel_rfl
theorem q41 : PureOk Try.prog 41 [tBytes, tBytes] (fun x => rB (U.eqB x.1 x.2)) := by
  refine pk (L := fun x => noKeep) (l := []) allNil (fun _ => rfl) ?_
  intro x hv hp
  rw [w41]
  exact ok41 x.1 x.2
theorem p41 : SumOk Try.prog 41 s41 := q41
theorem w54 (x : DenL [tInts, .int .i64]) : Owes Try.prog (cfgOf []) (lp54 x.1 x.2) 54 (argVs [tInts, .int .i64] x) [] (rI (U.idx1 (fun u => decide (x.2 = u)) x.1 0)) = vc54 x.1 x.2 := by kernel_rfl
theorem q54 : PureOk Try.prog 54 [tInts, .int .i64] (fun x => rI (U.idx1 (fun u => decide (x.2 = u)) x.1 0)) := by
  refine pk (L := fun x => lp54 x.1 x.2) (l := []) allNil (fun _ => rfl) ?_
  intro x hv hp
  rw [w54]
  exact ok54 x.1 x.2 hv.1.2
theorem p54 : SumOk Try.prog 54 s54 := q54
theorem aQ1 : AllOk Q1 := .cons p36 (.cons p49 (.cons p50 (.cons p41 (.cons p54 allNil))))
theorem w35 (x : DenL [tMsg]) : Owes Try.prog (cfgOf Q1) (noKeep) 35 (argVs [tMsg] x) [] (rB (U.may x)) = vc35 x := by kernel_rfl
theorem q35 : PureOk Try.prog 35 [tMsg] (fun x => rB (U.may x)) := by
  refine pk (L := fun x => noKeep) (l := Q1) aQ1 (fun _ => rfl) ?_
  intro x hv hp
  rw [w35]
  exact ok35 x
theorem p35 : SumOk Try.prog 35 s35 := q35
theorem w37 (x : DenL [tMsg]) : Owes Try.prog (cfgOf Q1) (noKeep) 37 (argVs [tMsg] x) [] (⟨[List.length x.2.2.2 ≤ 5000], .v (.of true tMsg x), [], []⟩) = vc37 x := by kernel_rfl
theorem q37 : PureOk Try.prog 37 [tMsg] (fun x => ⟨[List.length x.2.2.2 ≤ 5000], .v (.of true tMsg x), [], []⟩) := by
  refine pk (L := fun x => noKeep) (l := Q1) aQ1 (fun _ => rfl) ?_
  intro x hv hp
  rw [w37]
  exact ok37 x (hp _ (by simp))
theorem p37 : SumOk Try.prog 37 s37 := q37
theorem w18 (x : DenL [tMsg, tMsg]) : Owes Try.prog (cfgOf Q1) (noKeep) 18 (argVs [tMsg, tMsg] x) [] (rB (U.eqM x.1 x.2)) = vc18 x.1 x.2 := by kernel_rfl
theorem q18 : PureOk Try.prog 18 [tMsg, tMsg] (fun x => rB (U.eqM x.1 x.2)) := by
  refine pk (L := fun x => noKeep) (l := Q1) aQ1 (fun _ => rfl) ?_
  intro x hv hp
  rw [w18]
  exact ok18 x.1 x.2
theorem p18 : SumOk Try.prog 18 s18 := q18
theorem w28 (x : DenL [tBox, .int .i64]) : Owes Try.prog (cfgOf Q1) (lp45 x.1 x.2) 28 (argVs [tBox, .int .i64] x) [] (rI (U.place x.1.2.2.2 x.2)) = vc28 x.1 x.2 := by kernel_rfl
theorem q28 : PureOk Try.prog 28 [tBox, .int .i64] (fun x => rI (U.place x.1.2.2.2 x.2)) := by
  refine pk (L := fun x => lp45 x.1 x.2) (l := Q1) aQ1 (fun _ => rfl) ?_
  intro x hv hp
  rw [w28]
  exact ok28 x.1 x.2 hv.1.2.2.2.2
theorem p28 : SumOk Try.prog 28 s28 := q28
theorem w40 (x : DenL [tInts, .int .i64]) : Owes Try.prog (cfgOf Q1) (noKeep) 40 (argVs [tInts, .int .i64] x) [] (rB (U.contains x.1 x.2)) = vc40 x.1 x.2 := by kernel_rfl
theorem q40 : PureOk Try.prog 40 [tInts, .int .i64] (fun x => rB (U.contains x.1 x.2)) := by
  refine pk (L := fun x => noKeep) (l := Q1) aQ1 (fun _ => rfl) ?_
  intro x hv hp
  rw [w40]
  exact ok40 x.1 x.2
theorem p40 : SumOk Try.prog 40 s40 := q40
theorem aQ2 : AllOk Q2 := .cons p35 (.cons p37 (.cons p18 (.cons p28 (.cons p40 aQ1))))
theorem w15 (x : DenL [tBox]) : Owes Try.prog (cfgOf Q2) (lp15 x) 15 (argVs [tBox] x) [] (rB (U.right x)) = vc15 x := by kernel_rfl
theorem q15 : PureOk Try.prog 15 [tBox] (fun x => rB (U.right x)) := by
  refine pk (L := fun x => lp15 x) (l := Q2) aQ2 (fun _ => rfl) ?_
  intro x hv hp
  rw [w15]
  exact ok15 x hv.2.2.2.2
theorem p15 : SumOk Try.prog 15 s15 := q15
theorem w27 (x : DenL [tBox]) : Owes Try.prog (cfgOf Q2) (lp27 x) 27 (argVs [tBox] x) [] (d27 x) = vc27 x := by kernel_rfl
theorem q27 : PureOk Try.prog 27 [tBox] (fun x => d27 x) := by
  refine pk (L := fun x => lp27 x) (l := Q2) aQ2 (fun _ => rfl) ?_
  intro x hv hp
  rw [w27]
  exact ok27 x (hp (U.small x.2.2.2) (by simp [d27]))
theorem p27 : SumOk Try.prog 27 s27 := q27
theorem w23 (x : DenL [tMsgs, tMsgs]) : Owes Try.prog (cfgOf Q2) (lp23 x.1 x.2) 23 (argVs [tMsgs, tMsgs] x) [] (rB (U.eqMs x.1 x.2)) = vc23 x.1 x.2 := by kernel_rfl
theorem q23 : PureOk Try.prog 23 [tMsgs, tMsgs] (fun x => rB (U.eqMs x.1 x.2)) := by
  refine pk (L := fun x => lp23 x.1 x.2) (l := Q2) aQ2 (fun _ => rfl) ?_
  intro x hv hp
  rw [w23]
  exact ok23 x.1 x.2 hv.1.2
theorem p23 : SumOk Try.prog 23 s23 := q23
theorem w39 (x : DenL [tBox, tInts]) : Owes Try.prog (cfgOf Q2) (lp56 x.1 x.2) 39 (argVs [tBox, tInts] x) [] (rB (U.missing x.1.2.2.2 x.2)) = vc39 x.1 x.2 := by kernel_rfl
theorem q39 : PureOk Try.prog 39 [tBox, tInts] (fun x => rB (U.missing x.1.2.2.2 x.2)) := by
  refine pk (L := fun x => lp56 x.1 x.2) (l := Q2) aQ2 (fun _ => rfl) ?_
  intro x hv hp
  rw [w39]
  exact ok39 x.1 x.2 hv.2.2
theorem p39 : SumOk Try.prog 39 s39 := q39
theorem w24 (x : DenL [tBox, .int .i64]) : Owes Try.prog (cfgOf Q2) (lp24 x.1 x.2) 24 (argVs [tBox, .int .i64] x) [] (rI (U.countGo x.2 x.1.2.2.2 0)) = vc24 x.1 x.2 := by kernel_rfl
theorem q24 : PureOk Try.prog 24 [tBox, .int .i64] (fun x => rI (U.countGo x.2 x.1.2.2.2 0)) := by
  refine pk (L := fun x => lp24 x.1 x.2) (l := Q2) aQ2 (fun _ => rfl) ?_
  intro x hv hp
  rw [w24]
  exact ok24 x.1 x.2 hv.1.2.2.2.2
theorem p24 : SumOk Try.prog 24 s24 := q24
theorem w10 (x : DenL [tBox]) : Owes Try.prog (cfgOf Q2) (lp10 x) 10 (argVs [tBox] x) [] (rB (U.great x)) = vc10 x := by kernel_rfl
theorem q10 : PureOk Try.prog 10 [tBox] (fun x => rB (U.great x)) := by
  refine pk (L := fun x => lp10 x) (l := Q2) aQ2 (fun _ => rfl) ?_
  intro x hv hp
  rw [w10]
  exact ok10 x hv.2.2.2.2
theorem p10 : SumOk Try.prog 10 s10 := q10
theorem aQ3 : AllOk Q3 := .cons p15 (.cons p27 (.cons p23 (.cons p39 (.cons p24 (.cons p10 aQ2)))))
theorem w14 (x : DenL [tBox, tBox]) : Owes Try.prog (cfgOf Q3) (noKeep) 14 (argVs [tBox, tBox] x) [] (rB (U.eqBox x.1 x.2)) = vc14 x.1 x.2 := by kernel_rfl
theorem q14 : PureOk Try.prog 14 [tBox, tBox] (fun x => rB (U.eqBox x.1 x.2)) := by
  refine pk (L := fun x => noKeep) (l := Q3) aQ3 (fun _ => rfl) ?_
  intro x hv hp
  rw [w14]
  exact ok14 x.1 x.2
theorem p14 : SumOk Try.prog 14 s14 := q14
theorem w12 (x : DenL [tBox, tMsg]) : Owes Try.prog (cfgOf Q3) (noKeep) 12 (argVs [tBox, tMsg] x) [] (d12 x.1 x.2) = vc12 x.1 x.2 := by kernel_rfl
theorem q12 : PureOk Try.prog 12 [tBox, tMsg] (fun x => d12 x.1 x.2) := by
  refine pk (L := fun x => noKeep) (l := Q3) aQ3 (fun _ => rfl) ?_
  intro x hv hp
  rw [w12]
  exact ok12 x.1 x.2
theorem p12 : SumOk Try.prog 12 s12 := q12
theorem w17 (x : DenL [tBox, tInts]) : Owes Try.prog (cfgOf Q3) (lp17 x.1 x.2) 17 (argVs [tBox, tInts] x) [] (d17 x.1 x.2) = vc17 x.1 x.2 := by kernel_rfl
theorem q17 : PureOk Try.prog 17 [tBox, tInts] (fun x => d17 x.1 x.2) := by
  refine pk (L := fun x => lp17 x.1 x.2) (l := Q3) aQ3 (fun _ => rfl) ?_
  intro x hv hp
  rw [w17]
  exact ok17 x.1 x.2
theorem p17 : SumOk Try.prog 17 s17 := q17
theorem aQ4 : AllOk Q4 := .cons p14 (.cons p12 (.cons p17 aQ3))
theorem w9 (x : DenL []) : Owes Try.prog (cfgOf Q4) (noKeep) 9 (argVs [] x) [] (rB true) = vc9  := by kernel_rfl
theorem q9 : PureOk Try.prog 9 [] (fun x => rB true) := by
  refine pk (L := fun x => noKeep) (l := Q4) aQ4 (fun _ => rfl) ?_
  intro x hv hp
  rw [w9]
  exact ok9 
theorem p9 : SumOk Try.prog 9 s9 := q9
theorem aQ5 : AllOk Q5 := .cons p9 aQ4
theorem w4 (x : DenL [tBox, tInts]) : Owes Try.prog (cfgOf Q5) (lp4 x.1 x.2) 4 (argVs [tBox, tInts] x) [] (sayTrue [tBox, tInts] x) = vc4 x.1 x.2 := by kernel_rfl
theorem q4 : PureOk Try.prog 4 [tBox, tInts] (fun x => sayTrue [tBox, tInts] x) := by
  refine pk (L := fun x => lp4 x.1 x.2) (l := Q5) aQ5 (fun _ => rfl) ?_
  intro x hv hp
  rw [w4]
  exact ok4 x.1 x.2
end Go.Proofs.Ytddakledpipanaa
