/- The types of the seat's program, as a table (made by gentab.py). -/
import Derived.Test.YtoecpaccpcnkcaaDoorProg
import Derived.Test.YtoecpaccpcnkcaaDoorVcA
import Derived.Test.YtoecpaccpcnkcaaDoorVcF
set_option linter.unusedVariables false
set_option linter.unusedSimpArgs false
set_option maxRecDepth 100000
namespace Go.Proofs.YtoecpaccpcnkcaaDoor
open Go.Vc
def tab (T : Nat) : Option TI := cond (Nat.blt T 38) (cond (Nat.blt T 19) (cond (Nat.blt T 10) (cond (Nat.blt T 5) (cond (Nat.blt T 3) (cond (Nat.blt T 2) (cond (Nat.beq T 1) (some ⟨.func, 1, 8, none⟩) none) (cond (Nat.beq T 2) (some ⟨(.int .i64), 1, 8, some (.int .i64)⟩) none)) (cond (Nat.blt T 4) (cond (Nat.beq T 3) (some ⟨(.int .i64), 1, 8, some (.int .i64)⟩) none) (cond (Nat.beq T 4) (some ⟨.bool, 1, 1, some .bool⟩) none))) (cond (Nat.blt T 7) (cond (Nat.blt T 6) (cond (Nat.beq T 5) (some ⟨(.int .u8), 1, 1, some (.int .u8)⟩) none) (cond (Nat.beq T 6) (some ⟨(.int .u8), 1, 1, some (.int .u8)⟩) none)) (cond (Nat.blt T 8) (cond (Nat.beq T 7) (some ⟨(.struct [(0, 2), (1, 3), (2, 4), (3, 6)]), 4, 24, some (.pair (.int .i64) (.pair (.int .i64) (.pair .bool (.int .u8))))⟩) none) (cond (Nat.blt T 9) (cond (Nat.beq T 8) (some ⟨(.struct [(0, 2), (1, 3), (2, 4), (3, 6)]), 4, 24, some (.pair (.int .i64) (.pair (.int .i64) (.pair .bool (.int .u8))))⟩) none) (cond (Nat.beq T 9) (some ⟨.str, 1, 16, some .str⟩) none))))) (cond (Nat.blt T 14) (cond (Nat.blt T 12) (cond (Nat.blt T 11) (cond (Nat.beq T 10) (some ⟨.str, 1, 16, some .str⟩) none) (cond (Nat.beq T 11) (some ⟨.str, 1, 16, some .str⟩) none)) (cond (Nat.blt T 13) (cond (Nat.beq T 12) (some ⟨(.int .u64), 1, 8, some (.int .u64)⟩) none) (cond (Nat.beq T 13) (some ⟨(.struct [(0, 9), (1, 12)]), 2, 24, some (.pair .str (.int .u64))⟩) none))) (cond (Nat.blt T 16) (cond (Nat.blt T 15) (cond (Nat.beq T 14) (some ⟨(.struct [(0, 9), (1, 12)]), 2, 24, some (.pair .str (.int .u64))⟩) none) (cond (Nat.beq T 15) (some ⟨(.ptr 63), 1, 8, none⟩) none)) (cond (Nat.blt T 17) (cond (Nat.beq T 16) (some ⟨(.ptr 66), 1, 8, none⟩) none) (cond (Nat.blt T 18) (cond (Nat.beq T 17) (some ⟨(.ptr 75), 1, 8, none⟩) none) (cond (Nat.beq T 18) (some ⟨(.struct [(0, 17)]), 1, 8, none⟩) none)))))) (cond (Nat.blt T 28) (cond (Nat.blt T 23) (cond (Nat.blt T 21) (cond (Nat.blt T 20) (cond (Nat.beq T 19) (some ⟨(.struct [(0, 17)]), 1, 8, none⟩) none) (cond (Nat.beq T 20) (some ⟨.iface, 1, 16, none⟩) none)) (cond (Nat.blt T 22) (cond (Nat.beq T 21) (some ⟨(.int .i32), 1, 4, some (.int .i32)⟩) none) (cond (Nat.beq T 22) (some ⟨(.slice 5), 1, 24, some (.slice (.int .u8))⟩) none))) (cond (Nat.blt T 25) (cond (Nat.blt T 24) (cond (Nat.beq T 23) (some ⟨.func, 1, 8, none⟩) none) (cond (Nat.beq T 24) (some ⟨.func, 1, 8, none⟩) none)) (cond (Nat.blt T 26) (cond (Nat.beq T 25) (some ⟨.func, 1, 8, none⟩) none) (cond (Nat.blt T 27) (cond (Nat.beq T 26) (some ⟨(.slice 22), 1, 24, some (.slice (.slice (.int .u8)))⟩) none) (cond (Nat.beq T 27) (some ⟨(.array 32 5), 32, 32, some (.arr 32 (.int .u8))⟩) none))))) (cond (Nat.blt T 33) (cond (Nat.blt T 30) (cond (Nat.blt T 29) (cond (Nat.beq T 28) (some ⟨.func, 1, 8, none⟩) none) (cond (Nat.beq T 29) (some ⟨.func, 1, 8, none⟩) none)) (cond (Nat.blt T 31) (cond (Nat.beq T 30) (some ⟨.func, 1, 8, none⟩) none) (cond (Nat.blt T 32) (cond (Nat.beq T 31) (some ⟨(.int .u32), 1, 4, some (.int .u32)⟩) none) (cond (Nat.beq T 32) (some ⟨(.array 8 31), 8, 32, some (.arr 8 (.int .u32))⟩) none)))) (cond (Nat.blt T 35) (cond (Nat.blt T 34) (cond (Nat.beq T 33) (some ⟨.func, 1, 8, none⟩) none) (cond (Nat.beq T 34) (some ⟨(.array 64 5), 64, 64, some (.arr 64 (.int .u8))⟩) none)) (cond (Nat.blt T 36) (cond (Nat.beq T 35) (some ⟨.func, 1, 8, none⟩) none) (cond (Nat.blt T 37) (cond (Nat.beq T 36) (some ⟨(.int .u64), 1, 8, some (.int .u64)⟩) none) (cond (Nat.beq T 37) (some ⟨.func, 1, 8, none⟩) none))))))) (cond (Nat.blt T 57) (cond (Nat.blt T 47) (cond (Nat.blt T 42) (cond (Nat.blt T 40) (cond (Nat.blt T 39) (cond (Nat.beq T 38) (some ⟨.func, 1, 8, none⟩) none) (cond (Nat.beq T 39) (some ⟨.func, 1, 8, none⟩) none)) (cond (Nat.blt T 41) (cond (Nat.beq T 40) (some ⟨.func, 1, 8, none⟩) none) (cond (Nat.beq T 41) (some ⟨(.int .u64), 1, 8, some (.int .u64)⟩) none))) (cond (Nat.blt T 44) (cond (Nat.blt T 43) (cond (Nat.beq T 42) (some ⟨.func, 1, 8, none⟩) none) (cond (Nat.beq T 43) (some ⟨.func, 1, 8, none⟩) none)) (cond (Nat.blt T 45) (cond (Nat.beq T 44) (some ⟨.func, 1, 8, none⟩) none) (cond (Nat.blt T 46) (cond (Nat.beq T 45) (some ⟨.func, 1, 8, none⟩) none) (cond (Nat.beq T 46) (some ⟨(.slice 41), 1, 24, some (.slice (.int .u64))⟩) none))))) (cond (Nat.blt T 51) (cond (Nat.blt T 49) (cond (Nat.blt T 48) (cond (Nat.beq T 47) (some ⟨.func, 1, 8, none⟩) none) (cond (Nat.beq T 48) (some ⟨.func, 1, 8, none⟩) none)) (cond (Nat.blt T 50) (cond (Nat.beq T 49) (some ⟨(.array 64 31), 64, 256, some (.arr 64 (.int .u32))⟩) none) (cond (Nat.beq T 50) (some ⟨.func, 1, 8, none⟩) none))) (cond (Nat.blt T 53) (cond (Nat.blt T 52) (cond (Nat.beq T 51) (some ⟨.func, 1, 8, none⟩) none) (cond (Nat.beq T 52) (some ⟨.func, 1, 8, none⟩) none)) (cond (Nat.blt T 54) (cond (Nat.beq T 53) (some ⟨.func, 1, 8, none⟩) none) (cond (Nat.blt T 55) (cond (Nat.beq T 54) (some ⟨.func, 1, 8, none⟩) none) (cond (Nat.beq T 55) (some ⟨.func, 1, 8, none⟩) none)))))) (cond (Nat.blt T 66) (cond (Nat.blt T 61) (cond (Nat.blt T 59) (cond (Nat.blt T 58) (cond (Nat.beq T 57) (some ⟨.func, 1, 8, none⟩) none) (cond (Nat.beq T 58) (some ⟨.func, 1, 8, none⟩) none)) (cond (Nat.blt T 60) (cond (Nat.beq T 59) (some ⟨.func, 1, 8, none⟩) none) (cond (Nat.beq T 60) (some ⟨.func, 1, 8, none⟩) none))) (cond (Nat.blt T 63) (cond (Nat.blt T 62) (cond (Nat.beq T 61) (some ⟨.func, 1, 8, none⟩) none) (cond (Nat.beq T 62) (some ⟨(.struct [(0, 17), (1, 17), (2, 17), (3, 9)]), 4, 40, none⟩) none)) (cond (Nat.blt T 64) (cond (Nat.beq T 63) (some ⟨(.struct [(0, 17), (1, 17), (2, 17), (3, 9)]), 4, 40, none⟩) none) (cond (Nat.blt T 65) (cond (Nat.beq T 64) (some ⟨(.array 0 16), 0, 0, none⟩) none) (cond (Nat.beq T 65) (some ⟨(.struct [(0, 64)]), 0, 0, none⟩) none))))) (cond (Nat.blt T 71) (cond (Nat.blt T 68) (cond (Nat.blt T 67) (cond (Nat.beq T 66) (some ⟨(.struct [(0, 64)]), 0, 0, none⟩) none) (cond (Nat.beq T 67) (some ⟨.func, 1, 8, none⟩) none)) (cond (Nat.blt T 69) (cond (Nat.beq T 68) (some ⟨(.int .u8), 1, 1, some (.int .u8)⟩) none) (cond (Nat.blt T 70) (cond (Nat.beq T 69) (some ⟨(.int .u8), 1, 1, some (.int .u8)⟩) none) (cond (Nat.beq T 70) (some ⟨.func, 1, 8, none⟩) none)))) (cond (Nat.blt T 73) (cond (Nat.blt T 72) (cond (Nat.beq T 71) (some ⟨(.ptr 5), 1, 8, none⟩) none) (cond (Nat.beq T 72) (some ⟨(.int .i32), 1, 4, some (.int .i32)⟩) none)) (cond (Nat.blt T 74) (cond (Nat.beq T 73) (some ⟨(.int .i32), 1, 4, some (.int .i32)⟩) none) (cond (Nat.blt T 75) (cond (Nat.beq T 74) (some ⟨(.struct [(0, 12), (1, 12), (2, 31), (3, 68), (4, 5), (5, 5), (6, 69), (7, 70), (8, 71), (9, 72), (10, 73)]), 11, 48, none⟩) none) (cond (Nat.beq T 75) (some ⟨(.struct [(0, 12), (1, 12), (2, 31), (3, 68), (4, 5), (5, 5), (6, 69), (7, 70), (8, 71), (9, 72), (10, 73)]), 11, 48, none⟩) none)))))))
end Go.Proofs.YtoecpaccpcnkcaaDoor
/- What the texts of this seat build on: the type table holds of the program; lists of summaries. -/
set_option linter.unusedVariables false
set_option linter.unusedSimpArgs false
set_option maxRecDepth 100000
namespace Go.Proofs.YtoecpaccpcnkcaaDoor
open Go.Vc
inductive Ent where
  | sum (s : Vc.Sum)
  | seq (q : SeqD)
def lk : List (Nat × Ent) → Nat → Option Vc.Sum
  | [], _ => none
  | (i, .sum s) :: r, f => cond (Nat.beq i f) (some s) (lk r f)
  | (_, .seq _) :: r, f => lk r f
def lkq : List (Nat × Ent) → Nat → Option SeqD
  | [], _ => none
  | (i, .seq s) :: r, f => cond (Nat.beq i f) (some s) (lkq r f)
  | (_, .sum _) :: r, f => lkq r f
def tabL (T : Nat) : Option TI := cond (Nat.blt T 77) (tab T) none
def zer (T : Nat) : Option (List Leaf) := cond (Nat.blt T 44) (cond (Nat.blt T 28) (cond (Nat.blt T 19) (cond (Nat.blt T 16) (cond (Nat.blt T 15) (cond (Nat.beq T 1) (some [.nilf]) none) (cond (Nat.beq T 15) (some [.nilp]) none)) (cond (Nat.blt T 17) (cond (Nat.beq T 16) (some [.nilp]) none) (cond (Nat.blt T 18) (cond (Nat.beq T 17) (some [.nilp]) none) (cond (Nat.beq T 18) (some [.nilp]) none)))) (cond (Nat.blt T 23) (cond (Nat.blt T 20) (cond (Nat.beq T 19) (some [.nilp]) none) (cond (Nat.beq T 20) (some [.nili]) none)) (cond (Nat.blt T 24) (cond (Nat.beq T 23) (some [.nilf]) none) (cond (Nat.blt T 25) (cond (Nat.beq T 24) (some [.nilf]) none) (cond (Nat.beq T 25) (some [.nilf]) none))))) (cond (Nat.blt T 37) (cond (Nat.blt T 30) (cond (Nat.blt T 29) (cond (Nat.beq T 28) (some [.nilf]) none) (cond (Nat.beq T 29) (some [.nilf]) none)) (cond (Nat.blt T 33) (cond (Nat.beq T 30) (some [.nilf]) none) (cond (Nat.blt T 35) (cond (Nat.beq T 33) (some [.nilf]) none) (cond (Nat.beq T 35) (some [.nilf]) none)))) (cond (Nat.blt T 40) (cond (Nat.blt T 38) (cond (Nat.beq T 37) (some [.nilf]) none) (cond (Nat.blt T 39) (cond (Nat.beq T 38) (some [.nilf]) none) (cond (Nat.beq T 39) (some [.nilf]) none))) (cond (Nat.blt T 42) (cond (Nat.beq T 40) (some [.nilf]) none) (cond (Nat.blt T 43) (cond (Nat.beq T 42) (some [.nilf]) none) (cond (Nat.beq T 43) (some [.nilf]) none)))))) (cond (Nat.blt T 58) (cond (Nat.blt T 51) (cond (Nat.blt T 47) (cond (Nat.blt T 45) (cond (Nat.beq T 44) (some [.nilf]) none) (cond (Nat.beq T 45) (some [.nilf]) none)) (cond (Nat.blt T 48) (cond (Nat.beq T 47) (some [.nilf]) none) (cond (Nat.blt T 50) (cond (Nat.beq T 48) (some [.nilf]) none) (cond (Nat.beq T 50) (some [.nilf]) none)))) (cond (Nat.blt T 54) (cond (Nat.blt T 52) (cond (Nat.beq T 51) (some [.nilf]) none) (cond (Nat.blt T 53) (cond (Nat.beq T 52) (some [.nilf]) none) (cond (Nat.beq T 53) (some [.nilf]) none))) (cond (Nat.blt T 55) (cond (Nat.beq T 54) (some [.nilf]) none) (cond (Nat.blt T 57) (cond (Nat.beq T 55) (some [.nilf]) none) (cond (Nat.beq T 57) (some [.nilf]) none))))) (cond (Nat.blt T 63) (cond (Nat.blt T 60) (cond (Nat.blt T 59) (cond (Nat.beq T 58) (some [.nilf]) none) (cond (Nat.beq T 59) (some [.nilf]) none)) (cond (Nat.blt T 61) (cond (Nat.beq T 60) (some [.nilf]) none) (cond (Nat.blt T 62) (cond (Nat.beq T 61) (some [.nilf]) none) (cond (Nat.beq T 62) (some [.nilp, .nilp, .nilp, .str []]) none)))) (cond (Nat.blt T 71) (cond (Nat.blt T 67) (cond (Nat.beq T 63) (some [.nilp, .nilp, .nilp, .str []]) none) (cond (Nat.blt T 70) (cond (Nat.beq T 67) (some [.nilf]) none) (cond (Nat.beq T 70) (some [.nilf]) none))) (cond (Nat.blt T 74) (cond (Nat.beq T 71) (some [.nilp]) none) (cond (Nat.blt T 75) (cond (Nat.beq T 74) (some [.int .u64 0, .int .u64 0, .int .u32 0, .int .u8 0, .int .u8 0, .int .u8 0, .int .u8 0, .nilf, .nilp, .int .i32 0, .int .i32 0]) none) (cond (Nat.beq T 75) (some [.int .u64 0, .int .u64 0, .int .u32 0, .int .u8 0, .int .u8 0, .int .u8 0, .int .u8 0, .nilf, .nilp, .int .i32 0, .int .i32 0]) none))))))
def shaFirst : List Int := [1779033703, 3144134277, 1013904242, 2773480762, 1359893119, 2600822924, 528734635, 1541459225]
def shaRoots : List Int := [1116352408, 1899447441, 3049323471, 3921009573, 961987163, 1508970993, 2453635748, 2870763221, 3624381080, 310598401, 607225278, 1426881987, 1925078388, 2162078206, 2614888103, 3248222580, 3835390401, 4022224774, 264347078, 604807628, 770255983, 1249150122, 1555081692, 1996064986, 2554220882, 2821834349, 2952996808, 3210313671, 3336571891, 3584528711, 113926993, 338241895, 666307205, 773529912, 1294757372, 1396182291, 1695183700, 1986661051, 2177026350, 2456956037, 2730485921, 2820302411, 3259730800, 3345764771, 3516065817, 3600352804, 4094571909, 275423344, 430227734, 506948616, 659060556, 883997877, 958139571, 1322822218, 1537002063, 1747873779, 1955562222, 2024104815, 2227730452, 2361852424, 2428436474, 2756734187, 3204031479, 3329325298]
def gl : Nat → Option (Sigma Ty.den) := fun g => cond (Nat.beq g 0) (some ⟨.arr 8 (.int .u32), shaFirst⟩) (cond (Nat.beq g 1) (some ⟨.arr 64 (.int .u32), shaRoots⟩) none)
def xpT (f : Nat) : List Nat := []
def eqsT (T : Nat) : Bool := cond (Nat.blt T 34) (cond (Nat.blt T 32) (cond (Nat.beq T 27) (true) false) (cond (Nat.beq T 32) (true) false)) (cond (Nat.blt T 49) (cond (Nat.beq T 34) (true) false) (cond (Nat.beq T 49) (true) false))
def cfgOf (l : List (Nat × Ent)) : Cfg := ⟨tabL, lk l, gl, fun T => cond (Nat.blt T 77) (zer T) none, xpT, fun T => cond (Nat.blt T 77) (eqsT T) false, lkq l, none⟩
def rI (x : Int) : Done := ⟨[], .one (.int .i64 x), [], []⟩
def rB (x : Bool) : Done := ⟨[], .one (.bool x), [], []⟩
def lpOf (f k : Nat) (l : Vc.Loop) : Nat → List V → Nat → Option Vc.Loop := fun f' _ k' => cond (Nat.beq f f' && Nat.beq k k') (some l) none
def lpOf2 (f k : Nat) (l : Vc.Loop) (k2 : Nat) (l2 : Vc.Loop) : Nat → List V → Nat → Option Vc.Loop := fun f' _ k' => cond (Nat.beq f f') (cond (Nat.beq k k') (some l) (cond (Nat.beq k2 k') (some l2) none)) none
def lpOr (a b : Nat → List V → Nat → Option Vc.Loop) : Nat → List V → Nat → Option Vc.Loop := fun f v k => match a f v k with
  | some l => some l
  | none => b f v k
def kp (l : List Nat) : Keep := { keep := l }
def kw (l : List Nat) (a : List (Nat × Nat)) (b : List (Nat × Nat × Nat)) : Keep := { keep := l, wake := a, wakeO := b }
namespace U
def n (k : Nat) : List (Option SV) := List.replicate k none
def sI (x : Int) : Option SV := some (.one (.int .i64 x))
def sK (k : IntKind) (x : Int) : Option SV := some (.one (.int k x))
def sB (b : Bool) : Option SV := some (.one (.bool b))
def sS (l : List Int) : Option SV := some (.one (.str l))
def sL (fr : Bool) (t : Ty) (l : List t.den) : Option SV := some (.one (.psl fr t l))
def sP (i o : Nat) : Option SV := some (.one (.ptr i o))
def own (k : Nat) : Option SV := some (.one (.own k))
def shN : List V → Bool
  | ⟨false, [.nils]⟩ :: _ => true
  | _ => false
def shO : List V → Bool
  | ⟨false, [.own _]⟩ :: _ => true
  | _ => false
def shS : List V → Bool
  | ⟨false, [.sl _ _ _]⟩ :: _ => true
  | ⟨false, [.sf _ _ _]⟩ :: _ => true
  | _ => false
def nil_ : Option SV := some (.one .nils)
def slc (k lo n : Nat) : Option SV := some (.one (.sl k lo n))
def sfc (k lo n : Nat) : Option SV := some (.one (.sf k lo n))
def clo (f : Nat) : List V → Bool
  | [] => false
  | ⟨false, [.fn g _]⟩ :: r => cond (Nat.beq f g) true (clo f r)
  | _ :: r => clo f r
def sF (f : Nat) (c : List Nat) : Option SV := some (.one (.fn f c))
def at_ {α : Type} (l : List α) (i : Int) : Prop := 0 ≤ i ∧ i ≤ l.length
end U
theorem tab_all : ((List.range 77).all fun T => match tab T with | some t => tiB Tryd.prog T t | none => true) = true := by kernel_rfl
theorem zer_all : ((List.range 77).all fun T => match zer T with | some ls => zeroB Tryd.prog T ls | none => true) = true := by kernel_rfl
theorem eqs_all : ((List.range 77).all fun T => cond (eqsT T) (eqB Tryd.prog T) true) = true := by kernel_rfl
theorem tabOk0 (l : List (Nat × Ent)) : ∀ T t, (cfgOf l).ti T = some t → TiOk Tryd.prog T t := by
  intro T t h
  have h : cond (Nat.blt T 77) (tab T) none = some t := h
  cases hb : Nat.blt T 77 with
  | false => rw [hb] at h; cases h
  | true =>
    rw [hb] at h
    have h : tab T = some t := h
    have := List.all_eq_true.1 tab_all T (List.mem_range.2 (by simpa [Nat.blt_eq] using hb))
    rw [h] at this
    exact tiB_ok this
theorem tabOk (l : List (Nat × Ent)) : TabOk Tryd.prog (cfgOf l) := by
  refine ⟨tabOk0 l, fun T ls h => ?_, fun T h => ?_⟩
  rotate_left
  · have h : cond (Nat.blt T 77) (eqsT T) false = true := h
    cases hb : Nat.blt T 77 with
    | false => rw [hb] at h; cases h
    | true =>
      rw [hb] at h
      have h : eqsT T = true := h
      have := List.all_eq_true.1 eqs_all T (List.mem_range.2 (by simpa [Nat.blt_eq] using hb))
      rw [h] at this
      exact eqB_ok this
  have h : cond (Nat.blt T 77) (zer T) none = some ls := h
  cases hb : Nat.blt T 77 with
  | false => rw [hb] at h; cases h
  | true =>
    rw [hb] at h
    have h : zer T = some ls := h
    have := List.all_eq_true.1 zer_all T (List.mem_range.2 (by simpa [Nat.blt_eq] using hb))
    rw [h] at this
    exact zeroB_ok this
theorem mixed : Tryd.prog.follows .mixedOrders = true := by kernel_rfl
def EntOk (f : Nat) : Ent → Prop
  | .sum s => SumOk Tryd.prog gl f s
  | .seq q => SeqOk Tryd.prog gl f q
abbrev AllOk (l : List (Nat × Ent)) : Prop := ∀ p ∈ l, EntOk p.1 p.2
theorem lk_mem {f : Nat} {s : Vc.Sum} : ∀ {l : List (Nat × Ent)}, lk l f = some s → (f, .sum s) ∈ l
  | [], h => by cases h
  | (i, .sum t) :: r, h => by
    unfold lk at h
    cases hb : Nat.beq i f with
    | true =>
      rw [hb] at h
      have h : some t = some s := h
      cases h
      rw [Nat.eq_of_beq_eq_true hb]; simp
    | false => rw [hb] at h; exact List.mem_cons_of_mem _ (lk_mem h)
  | (_, .seq _) :: r, h => List.mem_cons_of_mem _ (lk_mem (l := r) h)
theorem lkq_mem {f : Nat} {s : SeqD} : ∀ {l : List (Nat × Ent)}, lkq l f = some s → (f, .seq s) ∈ l
  | [], h => by cases h
  | (i, .seq t) :: r, h => by
    unfold lkq at h
    cases hb : Nat.beq i f with
    | true =>
      rw [hb] at h
      have h : some t = some s := h
      cases h
      rw [Nat.eq_of_beq_eq_true hb]; simp
    | false => rw [hb] at h; exact List.mem_cons_of_mem _ (lkq_mem h)
  | (_, .sum _) :: r, h => List.mem_cons_of_mem _ (lkq_mem (l := r) h)
theorem sums_of {l : List (Nat × Ent)} (h : AllOk l) : SumsOk Tryd.prog (cfgOf l) := fun _ _ hs => h _ (lk_mem hs)
theorem seqs_of {l : List (Nat × Ent)} (h : AllOk l) : SeqsOk Tryd.prog (cfgOf l) := fun _ _ hs => h _ (lkq_mem hs)
theorem allNil : AllOk [] := fun p hp => by cases hp
theorem AllOk.cons {f : Nat} {s : Ent} {l : List (Nat × Ent)} (h : EntOk f s) (hl : AllOk l) : AllOk ((f, s) :: l) := fun p hp => by
  rcases List.mem_cons.1 hp with rfl | hp
  · exact h
  · exact hl p hp
abbrev Pok (f : Nat) (ts : List Ty) (F : DenL ts → Done) : Prop := PureOk Tryd.prog gl f ts F
theorem pk {f : Nat} {ts : List Ty} {F : DenL ts → Done} {L : DenL ts → Nat → List V → Nat → Option Vc.Loop} {l : List (Nat × Ent)} (hl : AllOk l) (hback : ∀ x, (F x).back = [])
    (h : ∀ x, ValidL ts x → (∀ p ∈ (F x).pre, p) → Owes Tryd.prog (cfgOf l) (L x) f (argVs ts x) [] (F x)) : Pok f ts F :=
  pureOk_of (cfg := cfgOf l) rfl (tabOk l) (sums_of hl) (seqs_of hl) mixed hback h
theorem pkc {f : Nat} {ts cs : List Ty} {F : DenL ts → DenL cs → Done} {L : DenL ts → DenL cs → Nat → List V → Nat → Option Vc.Loop} {l : List (Nat × Ent)} (hl : AllOk l) (hback : ∀ x y, (F x y).back = [])
    (h : ∀ x y, ValidL ts x → ValidL cs y → (∀ p ∈ (F x y).pre, p) → Owes Tryd.prog (cfgOf l) (L x y) f (argVs ts x ++ ptrVs cs y) [] (F x y)) : CloOk Tryd.prog gl f ts cs F :=
  cloOk_of (cfg := cfgOf l) rfl (tabOk l) (sums_of hl) (seqs_of hl) mixed hback h
def orE : Option Done → Option Done → Option Done
  | some d, _ => some d
  | none, y => y
theorem orE_some {a b : Option Done} {d : Done} (h : orE a b = some d) : a = some d ∨ b = some d := by
  cases a with
  | none => exact .inr h
  | some x => exact .inl h
theorem cond_some {b : Bool} {x d : Done} (h : cond b (some x) none = some d) : b = true ∧ d = x := by
  cases b with
  | false => cases h
  | true => cases h; exact ⟨rfl, rfl⟩
theorem pkg {f : Nat} {F : List V → List Entry → Option Done} {l : List (Nat × Ent)} (hl : AllOk l) (hlen : ∀ args es d, F args es = some d → d.back.length = es.length)
    (h : ∀ args es d, F args es = some d → (∀ v ∈ args, ∀ l ∈ v.ls, LVal l) → (∀ e ∈ es, EVal e) → (∀ p ∈ d.pre, p) → ∃ L, Owes Tryd.prog (cfgOf l) L f args es d) : GenOk Tryd.prog gl f F :=
  genOk_of (cfg := cfgOf l) rfl (tabOk l) (sums_of hl) (seqs_of hl) mixed hlen h
theorem pkq {f : Nat} {q : SeqD} {L : DenL q.cs → Nat → List V → Nat → Option Vc.Loop} {l : List (Nat × Ent)} (hl : AllOk l) (hhas : hasBody Tryd.prog f = true)
    (h : ∀ y, ValidL q.cs y → (∀ p ∈ q.pre y, p) → OwesSeq Tryd.prog (cfgOf l) (L y) f q y) : SeqOk Tryd.prog gl f q :=
  seqOk_of (cfg := cfgOf l) rfl (tabOk l) (sums_of hl) (seqs_of hl) mixed hhas h
end Go.Proofs.YtoecpaccpcnkcaaDoor
