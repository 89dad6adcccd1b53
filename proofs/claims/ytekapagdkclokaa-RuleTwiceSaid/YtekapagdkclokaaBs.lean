/- What the texts of this seat build on: the type table holds of the program; lists of summaries. -/
import Derived.Test.YtekapagdkclokaaVcF
import Derived.Test.YtekapagdkclokaaTab
set_option linter.unusedVariables false
set_option linter.unusedSimpArgs false
set_option maxRecDepth 100000
namespace Go.Proofs.Ytekapagdkclokaa
open Go.Vc
def lk : List (Nat × Vc.Sum) → Nat → Option Vc.Sum
  | [], _ => none
  | (i, s) :: r, f => cond (Nat.beq i f) (some s) (lk r f)
def tabL (T : Nat) : Option TI := cond (Nat.blt T 88) (tab T) none
def zer (T : Nat) : Option (List Leaf) := cond (Nat.blt T 56) (cond (Nat.blt T 36) (cond (Nat.blt T 19) (cond (Nat.blt T 16) (cond (Nat.blt T 15) (cond (Nat.beq T 1) (some [.nilf]) none) (cond (Nat.beq T 15) (some [.nilp]) none)) (cond (Nat.blt T 17) (cond (Nat.beq T 16) (some [.nilp]) none) (cond (Nat.blt T 18) (cond (Nat.beq T 17) (some [.nilp]) none) (cond (Nat.beq T 18) (some [.nilp]) none)))) (cond (Nat.blt T 28) (cond (Nat.blt T 20) (cond (Nat.beq T 19) (some [.nilp]) none) (cond (Nat.blt T 27) (cond (Nat.beq T 20) (some [.nili]) none) (cond (Nat.beq T 27) (some [.nilf]) none))) (cond (Nat.blt T 34) (cond (Nat.beq T 28) (some [.nilf]) none) (cond (Nat.blt T 35) (cond (Nat.beq T 34) (some [.nilf]) none) (cond (Nat.beq T 35) (some [.nilf]) none))))) (cond (Nat.blt T 42) (cond (Nat.blt T 38) (cond (Nat.blt T 37) (cond (Nat.beq T 36) (some [.nilf]) none) (cond (Nat.beq T 37) (some [.nilf]) none)) (cond (Nat.blt T 40) (cond (Nat.beq T 38) (some [.nilf]) none) (cond (Nat.blt T 41) (cond (Nat.beq T 40) (some [.nilf]) none) (cond (Nat.beq T 41) (some [.nilf]) none)))) (cond (Nat.blt T 45) (cond (Nat.blt T 43) (cond (Nat.beq T 42) (some [.nilf]) none) (cond (Nat.blt T 44) (cond (Nat.beq T 43) (some [.nilf]) none) (cond (Nat.beq T 44) (some [.nilf]) none))) (cond (Nat.blt T 52) (cond (Nat.beq T 45) (some [.nilf]) none) (cond (Nat.blt T 55) (cond (Nat.beq T 52) (some [.nilf]) none) (cond (Nat.beq T 55) (some [.nilf]) none)))))) (cond (Nat.blt T 67) (cond (Nat.blt T 61) (cond (Nat.blt T 58) (cond (Nat.blt T 57) (cond (Nat.beq T 56) (some [.nilf]) none) (cond (Nat.beq T 57) (some [.nilf]) none)) (cond (Nat.blt T 59) (cond (Nat.beq T 58) (some [.nilf]) none) (cond (Nat.blt T 60) (cond (Nat.beq T 59) (some [.nilf]) none) (cond (Nat.beq T 60) (some [.nilf]) none)))) (cond (Nat.blt T 64) (cond (Nat.blt T 62) (cond (Nat.beq T 61) (some [.nilf]) none) (cond (Nat.blt T 63) (cond (Nat.beq T 62) (some [.nilf]) none) (cond (Nat.beq T 63) (some [.nilf]) none))) (cond (Nat.blt T 65) (cond (Nat.beq T 64) (some [.nilf]) none) (cond (Nat.blt T 66) (cond (Nat.beq T 65) (some [.nilf]) none) (cond (Nat.beq T 66) (some [.nilf]) none))))) (cond (Nat.blt T 73) (cond (Nat.blt T 70) (cond (Nat.blt T 68) (cond (Nat.beq T 67) (some [.nilf]) none) (cond (Nat.blt T 69) (cond (Nat.beq T 68) (some [.nilf]) none) (cond (Nat.beq T 69) (some [.nilf]) none))) (cond (Nat.blt T 71) (cond (Nat.beq T 70) (some [.nilf]) none) (cond (Nat.blt T 72) (cond (Nat.beq T 71) (some [.nilf]) none) (cond (Nat.beq T 72) (some [.nilp, .nilp, .nilp, .str []]) none)))) (cond (Nat.blt T 82) (cond (Nat.blt T 77) (cond (Nat.beq T 73) (some [.nilp, .nilp, .nilp, .str []]) none) (cond (Nat.blt T 81) (cond (Nat.beq T 77) (some [.nilf]) none) (cond (Nat.beq T 81) (some [.nilf]) none))) (cond (Nat.blt T 85) (cond (Nat.beq T 82) (some [.nilp]) none) (cond (Nat.blt T 86) (cond (Nat.beq T 85) (some [.int .u64 0, .int .u64 0, .int .u32 0, .int .u8 0, .int .u8 0, .int .u8 0, .int .u8 0, .nilf, .nilp, .int .i32 0, .int .i32 0]) none) (cond (Nat.beq T 86) (some [.int .u64 0, .int .u64 0, .int .u32 0, .int .u8 0, .int .u8 0, .int .u8 0, .int .u8 0, .nilf, .nilp, .int .i32 0, .int .i32 0]) none))))))
def gl : Nat → Option (Sigma Ty.den) := fun _ => none
def xpT (f : Nat) : List Nat := cond (Nat.beq f 34) [0] <| []
def eqsT (T : Nat) : Bool := cond (Nat.blt T 54) (cond (Nat.beq T 48) (true) false) (cond (Nat.beq T 54) (true) false)
def cfgOf (l : List (Nat × Vc.Sum)) : Cfg := ⟨tabL, lk l, gl, fun T => cond (Nat.blt T 88) (zer T) none, xpT, fun T => cond (Nat.blt T 88) (eqsT T) false⟩
def rI (x : Int) : Done := ⟨[], .one (.int .i64 x), [], []⟩
def rB (x : Bool) : Done := ⟨[], .one (.bool x), [], []⟩
def lpOf (f k : Nat) (l : Vc.Loop) : Nat → List V → Nat → Option Vc.Loop := fun f' _ k' => cond (Nat.beq f f' && Nat.beq k k') (some l) none
def lpOf2 (f k : Nat) (l : Vc.Loop) (k2 : Nat) (l2 : Vc.Loop) : Nat → List V → Nat → Option Vc.Loop := fun f' _ k' => cond (Nat.beq f f') (cond (Nat.beq k k') (some l) (cond (Nat.beq k2 k') (some l2) none)) none
def lpOr (a b : Nat → List V → Nat → Option Vc.Loop) : Nat → List V → Nat → Option Vc.Loop := fun f v k => match a f v k with
  | some l => some l
  | none => b f v k
def kp (l : List Nat) : Keep := { keep := l }
def kw (l : List Nat) (a : List (Nat × Nat)) (b : List (Nat × Nat × Nat)) : Keep := { keep := l, wake := a, wakeO := b }
namespace U
def n (k : Nat) : List (Option SV) := List.replicate k none
def sI (x : Int) : Option SV := some (.one (.int .i64 x))
def sK (k : IntKind) (x : Int) : Option SV := some (.one (.int k x))
def sB (b : Bool) : Option SV := some (.one (.bool b))
def sS (l : List Int) : Option SV := some (.one (.str l))
def sL (fr : Bool) (t : Ty) (l : List t.den) : Option SV := some (.one (.psl fr t l))
def sP (i o : Nat) : Option SV := some (.one (.ptr i o))
def own (k : Nat) : Option SV := some (.one (.own k))
def shN : List V → Bool
  | ⟨false, [.nils]⟩ :: _ => true
  | _ => false
def shO : List V → Bool
  | ⟨false, [.own _]⟩ :: _ => true
  | _ => false
def shS : List V → Bool
  | ⟨false, [.sl _ _ _]⟩ :: _ => true
  | ⟨false, [.sf _ _ _]⟩ :: _ => true
  | _ => false
def nil_ : Option SV := some (.one .nils)
def slc (k lo n : Nat) : Option SV := some (.one (.sl k lo n))
def sfc (k lo n : Nat) : Option SV := some (.one (.sf k lo n))
def clo (f : Nat) : List V → Bool
  | [] => false
  | ⟨false, [.fn g _]⟩ :: r => cond (Nat.beq f g) true (clo f r)
  | _ :: r => clo f r
def sF (f : Nat) (c : List Nat) : Option SV := some (.one (.fn f c))
def at_ {α : Type} (l : List α) (i : Int) : Prop := 0 ≤ i ∧ i ≤ l.length
end U
theorem tab_all : ((List.range 88).all fun T => match tab T with | some t => tiB Try.prog T t | none => true) = true := by kernel_rfl
theorem zer_all : ((List.range 88).all fun T => match zer T with | some ls => zeroB Try.prog T ls | none => true) = true := by kernel_rfl
theorem eqs_all : ((List.range 88).all fun T => cond (eqsT T) (eqB Try.prog T) true) = true := by kernel_rfl
theorem tabOk0 (l : List (Nat × Vc.Sum)) : ∀ T t, (cfgOf l).ti T = some t → TiOk Try.prog T t := by
  intro T t h
  have h : cond (Nat.blt T 88) (tab T) none = some t := h
  cases hb : Nat.blt T 88 with
  | false => rw [hb] at h; cases h
  | true =>
    rw [hb] at h
    have h : tab T = some t := h
    have := List.all_eq_true.1 tab_all T (List.mem_range.2 (by simpa [Nat.blt_eq] using hb))
    rw [h] at this
    exact tiB_ok this
theorem tabOk (l : List (Nat × Vc.Sum)) : TabOk Try.prog (cfgOf l) := by
  refine ⟨tabOk0 l, fun T ls h => ?_, fun T h => ?_⟩
  rotate_left
  · have h : cond (Nat.blt T 88) (eqsT T) false = true := h
    cases hb : Nat.blt T 88 with
    | false => rw [hb] at h; cases h
    | true =>
      rw [hb] at h
      have h : eqsT T = true := h
      have := List.all_eq_true.1 eqs_all T (List.mem_range.2 (by simpa [Nat.blt_eq] using hb))
      rw [h] at this
      exact eqB_ok this
  have h : cond (Nat.blt T 88) (zer T) none = some ls := h
  cases hb : Nat.blt T 88 with
  | false => rw [hb] at h; cases h
  | true =>
    rw [hb] at h
    have h : zer T = some ls := h
    have := List.all_eq_true.1 zer_all T (List.mem_range.2 (by simpa [Nat.blt_eq] using hb))
    rw [h] at this
    exact zeroB_ok this
theorem mixed : Try.prog.follows .mixedOrders = true := by kernel_rfl
abbrev AllOk (l : List (Nat × Vc.Sum)) : Prop := ∀ p ∈ l, SumOk Try.prog gl p.1 p.2
theorem lk_mem {f : Nat} {s : Vc.Sum} : ∀ {l : List (Nat × Vc.Sum)}, lk l f = some s → (f, s) ∈ l
  | [], h => by cases h
  | (i, t) :: r, h => by
    unfold lk at h
    cases hb : Nat.beq i f with
    | true =>
      rw [hb] at h
      have h : some t = some s := h
      cases h
      rw [Nat.eq_of_beq_eq_true hb]; simp
    | false => rw [hb] at h; exact List.mem_cons_of_mem _ (lk_mem h)
theorem sums_of {l : List (Nat × Vc.Sum)} (h : AllOk l) : SumsOk Try.prog (cfgOf l) := fun _ _ hs => h _ (lk_mem hs)
theorem allNil : AllOk [] := fun p hp => by cases hp
theorem AllOk.cons {f : Nat} {s : Vc.Sum} {l : List (Nat × Vc.Sum)} (h : SumOk Try.prog gl f s) (hl : AllOk l) : AllOk ((f, s) :: l) := fun p hp => by
  rcases List.mem_cons.1 hp with rfl | hp
  · exact h
  · exact hl p hp
abbrev Pok (f : Nat) (ts : List Ty) (F : DenL ts → Done) : Prop := PureOk Try.prog gl f ts F
theorem pk {f : Nat} {ts : List Ty} {F : DenL ts → Done} {L : DenL ts → Nat → List V → Nat → Option Vc.Loop} {l : List (Nat × Vc.Sum)} (hl : AllOk l) (hback : ∀ x, (F x).back = [])
    (h : ∀ x, ValidL ts x → (∀ p ∈ (F x).pre, p) → Owes Try.prog (cfgOf l) (L x) f (argVs ts x) [] (F x)) : Pok f ts F :=
  pureOk_of (cfg := cfgOf l) (tabOk l) (sums_of hl) mixed hback h
theorem pkc {f : Nat} {ts cs : List Ty} {F : DenL ts → DenL cs → Done} {L : DenL ts → DenL cs → Nat → List V → Nat → Option Vc.Loop} {l : List (Nat × Vc.Sum)} (hl : AllOk l) (hback : ∀ x y, (F x y).back = [])
    (h : ∀ x y, ValidL ts x → ValidL cs y → (∀ p ∈ (F x y).pre, p) → Owes Try.prog (cfgOf l) (L x y) f (argVs ts x ++ ptrVs cs y) [] (F x y)) : CloOk Try.prog gl f ts cs F :=
  cloOk_of (cfg := cfgOf l) (tabOk l) (sums_of hl) mixed hback h
def orE : Option Done → Option Done → Option Done
  | some d, _ => some d
  | none, y => y
theorem orE_some {a b : Option Done} {d : Done} (h : orE a b = some d) : a = some d ∨ b = some d := by
  cases a with
  | none => exact .inr h
  | some x => exact .inl h
theorem cond_some {b : Bool} {x d : Done} (h : cond b (some x) none = some d) : b = true ∧ d = x := by
  cases b with
  | false => cases h
  | true => cases h; exact ⟨rfl, rfl⟩
theorem pkg {f : Nat} {F : List V → List Entry → Option Done} {l : List (Nat × Vc.Sum)} (hl : AllOk l) (hlen : ∀ args es d, F args es = some d → d.back.length = es.length)
    (h : ∀ args es d, F args es = some d → (∀ v ∈ args, ∀ l ∈ v.ls, LVal l) → (∀ e ∈ es, EVal e) → (∀ p ∈ d.pre, p) → ∃ L, Owes Try.prog (cfgOf l) L f args es d) : GenOk Try.prog gl f F :=
  genOk_of (cfg := cfgOf l) (tabOk l) (sums_of hl) mixed hlen h
end Go.Proofs.Ytekapagdkclokaa
