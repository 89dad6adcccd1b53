/- The types of the seat's program, as a table (made by gentab.py). -/
import Derived.Test.YtlmkekoenfelcaaDoorProg
import Derived.Test.YtlmkekoenfelcaaDoorCVcA
import Derived.Test.YtlmkekoenfelcaaDoorCVcF
set_option linter.unusedVariables false
set_option linter.unusedSimpArgs false
set_option maxRecDepth 100000
namespace Go.Proofs.YtlmkekoenfelcaaDoor
open Go.Vc
def tab (T : Nat) : Option TI := cond (Nat.blt T 46) (cond (Nat.blt T 23) (cond (Nat.blt T 12) (cond (Nat.blt T 6) (cond (Nat.blt T 3) (cond (Nat.blt T 2) (cond (Nat.beq T 1) (some ⟨.func, 1, 8, none⟩) none) (cond (Nat.beq T 2) (some ⟨(.int .i64), 1, 8, some (.int .i64)⟩) none)) (cond (Nat.blt T 4) (cond (Nat.beq T 3) (some ⟨(.int .i64), 1, 8, some (.int .i64)⟩) none) (cond (Nat.blt T 5) (cond (Nat.beq T 4) (some ⟨.bool, 1, 1, some .bool⟩) none) (cond (Nat.beq T 5) (some ⟨(.int .u8), 1, 1, some (.int .u8)⟩) none)))) (cond (Nat.blt T 9) (cond (Nat.blt T 7) (cond (Nat.beq T 6) (some ⟨(.int .u8), 1, 1, some (.int .u8)⟩) none) (cond (Nat.blt T 8) (cond (Nat.beq T 7) (some ⟨(.struct [(0, 2), (1, 3), (2, 4), (3, 6)]), 4, 24, some (.pair (.int .i64) (.pair (.int .i64) (.pair .bool (.int .u8))))⟩) none) (cond (Nat.beq T 8) (some ⟨(.struct [(0, 2), (1, 3), (2, 4), (3, 6)]), 4, 24, some (.pair (.int .i64) (.pair (.int .i64) (.pair .bool (.int .u8))))⟩) none))) (cond (Nat.blt T 10) (cond (Nat.beq T 9) (some ⟨.str, 1, 16, some .str⟩) none) (cond (Nat.blt T 11) (cond (Nat.beq T 10) (some ⟨.str, 1, 16, some .str⟩) none) (cond (Nat.beq T 11) (some ⟨.str, 1, 16, some .str⟩) none))))) (cond (Nat.blt T 17) (cond (Nat.blt T 14) (cond (Nat.blt T 13) (cond (Nat.beq T 12) (some ⟨(.int .u64), 1, 8, some (.int .u64)⟩) none) (cond (Nat.beq T 13) (some ⟨(.struct [(0, 9), (1, 12)]), 2, 24, some (.pair .str (.int .u64))⟩) none)) (cond (Nat.blt T 15) (cond (Nat.beq T 14) (some ⟨(.struct [(0, 9), (1, 12)]), 2, 24, some (.pair .str (.int .u64))⟩) none) (cond (Nat.blt T 16) (cond (Nat.beq T 15) (some ⟨(.ptr 84), 1, 8, none⟩) none) (cond (Nat.beq T 16) (some ⟨(.ptr 87), 1, 8, none⟩) none)))) (cond (Nat.blt T 20) (cond (Nat.blt T 18) (cond (Nat.beq T 17) (some ⟨(.ptr 95), 1, 8, none⟩) none) (cond (Nat.blt T 19) (cond (Nat.beq T 18) (some ⟨(.struct [(0, 17)]), 1, 8, none⟩) none) (cond (Nat.beq T 19) (some ⟨(.struct [(0, 17)]), 1, 8, none⟩) none))) (cond (Nat.blt T 21) (cond (Nat.beq T 20) (some ⟨.iface, 1, 16, none⟩) none) (cond (Nat.blt T 22) (cond (Nat.beq T 21) (some ⟨(.int .i32), 1, 4, some (.int .i32)⟩) none) (cond (Nat.beq T 22) (some ⟨.func, 1, 8, none⟩) none)))))) (cond (Nat.blt T 34) (cond (Nat.blt T 28) (cond (Nat.blt T 25) (cond (Nat.blt T 24) (cond (Nat.beq T 23) (some ⟨(.slice 30), 1, 24, some (.slice (.pair .str (.pair .str .str)))⟩) none) (cond (Nat.beq T 24) (some ⟨.func, 1, 8, none⟩) none)) (cond (Nat.blt T 26) (cond (Nat.beq T 25) (some ⟨.func, 1, 8, none⟩) none) (cond (Nat.blt T 27) (cond (Nat.beq T 26) (some ⟨(.slice 9), 1, 24, some (.slice .str)⟩) none) (cond (Nat.beq T 27) (some ⟨.func, 1, 8, none⟩) none)))) (cond (Nat.blt T 31) (cond (Nat.blt T 29) (cond (Nat.beq T 28) (some ⟨.func, 1, 8, none⟩) none) (cond (Nat.blt T 30) (cond (Nat.beq T 29) (some ⟨(.struct [(0, 9), (1, 9), (2, 9)]), 3, 48, some (.pair .str (.pair .str .str))⟩) none) (cond (Nat.beq T 30) (some ⟨(.struct [(0, 9), (1, 9), (2, 9)]), 3, 48, some (.pair .str (.pair .str .str))⟩) none))) (cond (Nat.blt T 32) (cond (Nat.beq T 31) (some ⟨.func, 1, 8, none⟩) none) (cond (Nat.blt T 33) (cond (Nat.beq T 32) (some ⟨.func, 1, 8, none⟩) none) (cond (Nat.beq T 33) (some ⟨.func, 1, 8, none⟩) none))))) (cond (Nat.blt T 40) (cond (Nat.blt T 37) (cond (Nat.blt T 35) (cond (Nat.beq T 34) (some ⟨.func, 1, 8, none⟩) none) (cond (Nat.blt T 36) (cond (Nat.beq T 35) (some ⟨(.slice 37), 1, 24, some (.slice (.int .u8))⟩) none) (cond (Nat.beq T 36) (some ⟨.func, 1, 8, none⟩) none))) (cond (Nat.blt T 38) (cond (Nat.beq T 37) (some ⟨(.int .u8), 1, 1, some (.int .u8)⟩) none) (cond (Nat.blt T 39) (cond (Nat.beq T 38) (some ⟨(.slice 5), 1, 24, some (.slice (.int .u8))⟩) none) (cond (Nat.beq T 39) (some ⟨.func, 1, 8, none⟩) none)))) (cond (Nat.blt T 43) (cond (Nat.blt T 41) (cond (Nat.beq T 40) (some ⟨(.ptr 42), 1, 8, none⟩) none) (cond (Nat.blt T 42) (cond (Nat.beq T 41) (some ⟨(.struct [(0, 40), (1, 38)]), 2, 32, none⟩) none) (cond (Nat.beq T 42) (some ⟨(.struct [(0, 40), (1, 38)]), 2, 32, none⟩) none))) (cond (Nat.blt T 44) (cond (Nat.beq T 43) (some ⟨.iface, 1, 16, none⟩) none) (cond (Nat.blt T 45) (cond (Nat.beq T 44) (some ⟨.iface, 1, 16, none⟩) none) (cond (Nat.beq T 45) (some ⟨.func, 1, 8, none⟩) none))))))) (cond (Nat.blt T 72) (cond (Nat.blt T 59) (cond (Nat.blt T 52) (cond (Nat.blt T 48) (cond (Nat.blt T 47) (cond (Nat.beq T 46) (some ⟨.func, 1, 8, none⟩) none) (cond (Nat.beq T 47) (some ⟨.func, 1, 8, none⟩) none)) (cond (Nat.blt T 50) (cond (Nat.beq T 48) (some ⟨.func, 1, 8, none⟩) none) (cond (Nat.blt T 51) (cond (Nat.beq T 50) (some ⟨.func, 1, 8, none⟩) none) (cond (Nat.beq T 51) (some ⟨.func, 1, 8, none⟩) none)))) (cond (Nat.blt T 55) (cond (Nat.blt T 53) (cond (Nat.beq T 52) (some ⟨(.struct [(0, 37), (1, 3), (2, 4)]), 3, 24, some (.pair (.int .u8) (.pair (.int .i64) .bool))⟩) none) (cond (Nat.blt T 54) (cond (Nat.beq T 53) (some ⟨(.struct [(0, 37), (1, 3), (2, 4)]), 3, 24, some (.pair (.int .u8) (.pair (.int .i64) .bool))⟩) none) (cond (Nat.beq T 54) (some ⟨.func, 1, 8, none⟩) none))) (cond (Nat.blt T 56) (cond (Nat.beq T 55) (some ⟨.func, 1, 8, none⟩) none) (cond (Nat.blt T 57) (cond (Nat.beq T 56) (some ⟨(.array 256 4), 256, 256, some (.arr 256 .bool)⟩) none) (cond (Nat.beq T 57) (some ⟨(.array 256 4), 256, 256, some (.arr 256 .bool)⟩) none))))) (cond (Nat.blt T 64) (cond (Nat.blt T 61) (cond (Nat.blt T 60) (cond (Nat.beq T 59) (some ⟨.func, 1, 8, none⟩) none) (cond (Nat.beq T 60) (some ⟨.func, 1, 8, none⟩) none)) (cond (Nat.blt T 62) (cond (Nat.beq T 61) (some ⟨(.ptr 57), 1, 8, none⟩) none) (cond (Nat.blt T 63) (cond (Nat.beq T 62) (some ⟨(.ptr 5), 1, 8, none⟩) none) (cond (Nat.beq T 63) (some ⟨(.ptr 53), 1, 8, none⟩) none)))) (cond (Nat.blt T 69) (cond (Nat.blt T 66) (cond (Nat.beq T 64) (some ⟨.func, 1, 8, none⟩) none) (cond (Nat.blt T 67) (cond (Nat.beq T 66) (some ⟨.func, 1, 8, none⟩) none) (cond (Nat.beq T 67) (some ⟨.func, 1, 8, none⟩) none))) (cond (Nat.blt T 70) (cond (Nat.beq T 69) (some ⟨.func, 1, 8, none⟩) none) (cond (Nat.blt T 71) (cond (Nat.beq T 70) (some ⟨.func, 1, 8, none⟩) none) (cond (Nat.beq T 71) (some ⟨.func, 1, 8, none⟩) none)))))) (cond (Nat.blt T 84) (cond (Nat.blt T 77) (cond (Nat.blt T 74) (cond (Nat.blt T 73) (cond (Nat.beq T 72) (some ⟨.func, 1, 8, none⟩) none) (cond (Nat.beq T 73) (some ⟨.func, 1, 8, none⟩) none)) (cond (Nat.blt T 75) (cond (Nat.beq T 74) (some ⟨(.int .u64), 1, 8, some (.int .u64)⟩) none) (cond (Nat.blt T 76) (cond (Nat.beq T 75) (some ⟨(.array 256 5), 256, 256, some (.arr 256 (.int .u8))⟩) none) (cond (Nat.beq T 76) (some ⟨(.struct [(0, 5), (1, 5)]), 2, 2, some (.pair (.int .u8) (.int .u8))⟩) none)))) (cond (Nat.blt T 80) (cond (Nat.blt T 78) (cond (Nat.beq T 77) (some ⟨(.struct [(0, 5), (1, 5)]), 2, 2, some (.pair (.int .u8) (.int .u8))⟩) none) (cond (Nat.blt T 79) (cond (Nat.beq T 78) (some ⟨(.array 16 77), 32, 32, some (.arr 16 (.pair (.int .u8) (.int .u8)))⟩) none) (cond (Nat.beq T 79) (some ⟨.func, 1, 8, none⟩) none))) (cond (Nat.blt T 82) (cond (Nat.beq T 80) (some ⟨(.int .u32), 1, 4, some (.int .u32)⟩) none) (cond (Nat.blt T 83) (cond (Nat.beq T 82) (some ⟨.func, 1, 8, none⟩) none) (cond (Nat.beq T 83) (some ⟨(.struct [(0, 17), (1, 17), (2, 17), (3, 9)]), 4, 40, none⟩) none))))) (cond (Nat.blt T 90) (cond (Nat.blt T 87) (cond (Nat.blt T 85) (cond (Nat.beq T 84) (some ⟨(.struct [(0, 17), (1, 17), (2, 17), (3, 9)]), 4, 40, none⟩) none) (cond (Nat.blt T 86) (cond (Nat.beq T 85) (some ⟨(.array 0 16), 0, 0, none⟩) none) (cond (Nat.beq T 86) (some ⟨(.struct [(0, 85)]), 0, 0, none⟩) none))) (cond (Nat.blt T 88) (cond (Nat.beq T 87) (some ⟨(.struct [(0, 85)]), 0, 0, none⟩) none) (cond (Nat.blt T 89) (cond (Nat.beq T 88) (some ⟨.func, 1, 8, none⟩) none) (cond (Nat.beq T 89) (some ⟨(.int .u8), 1, 1, some (.int .u8)⟩) none)))) (cond (Nat.blt T 93) (cond (Nat.blt T 91) (cond (Nat.beq T 90) (some ⟨(.int .u8), 1, 1, some (.int .u8)⟩) none) (cond (Nat.blt T 92) (cond (Nat.beq T 91) (some ⟨.func, 1, 8, none⟩) none) (cond (Nat.beq T 92) (some ⟨(.int .i32), 1, 4, some (.int .i32)⟩) none))) (cond (Nat.blt T 94) (cond (Nat.beq T 93) (some ⟨(.int .i32), 1, 4, some (.int .i32)⟩) none) (cond (Nat.blt T 95) (cond (Nat.beq T 94) (some ⟨(.struct [(0, 12), (1, 12), (2, 80), (3, 89), (4, 5), (5, 5), (6, 90), (7, 91), (8, 62), (9, 92), (10, 93)]), 11, 48, none⟩) none) (cond (Nat.beq T 95) (some ⟨(.struct [(0, 12), (1, 12), (2, 80), (3, 89), (4, 5), (5, 5), (6, 90), (7, 91), (8, 62), (9, 92), (10, 93)]), 11, 48, none⟩) none)))))))
end Go.Proofs.YtlmkekoenfelcaaDoor
set_option linter.unusedVariables false
set_option linter.unusedSimpArgs false
set_option maxRecDepth 100000
namespace Go.Proofs.YtlmkekoenfelcaaDoor
open Go.Vc
inductive Ent where
 | sum (s : Vc.Sum)
 | seq (q : Ey)
def lk : List (Nat × Ent) -> Nat -> Option Vc.Sum
 | [], _ => none
 | (i, .sum s) :: r, f => cond (Nat.beq i f) (some s) (lk r f)
 | (_, .seq _) :: r, f => lk r f
def lkq : List (Nat × Ent) -> Nat -> Option Ey
 | [], _ => none
 | (i, .seq s) :: r, f => cond (Nat.beq i f) (some s) (lkq r f)
 | (_, .sum _) :: r, f => lkq r f
def SN (T : Nat) : Option TI := cond (Nat.blt T 96) (tab T) none
def zer (T : Nat) : Option (List Leaf) := cond (Nat.blt T 48) (cond (Nat.blt T 32) (cond (Nat.blt T 20) (cond (Nat.blt T 17) (cond (Nat.blt T 15) (cond (Nat.beq T 1) (some [.bJ]) none) (cond (Nat.blt T 16) (cond (Nat.beq T 15) (some [.bI]) none) (cond (Nat.beq T 16) (some [.bI]) none))) (cond (Nat.blt T 18) (cond (Nat.beq T 17) (some [.bI]) none) (cond (Nat.blt T 19) (cond (Nat.beq T 18) (some [.bI]) none) (cond (Nat.beq T 19) (some [.bI]) none)))) (cond (Nat.blt T 25) (cond (Nat.blt T 22) (cond (Nat.beq T 20) (some [.mD]) none) (cond (Nat.blt T 24) (cond (Nat.beq T 22) (some [.bJ]) none) (cond (Nat.beq T 24) (some [.bJ]) none))) (cond (Nat.blt T 28) (cond (Nat.blt T 27) (cond (Nat.beq T 25) (some [.bJ]) none) (cond (Nat.beq T 27) (some [.bJ]) none)) (cond (Nat.blt T 31) (cond (Nat.beq T 28) (some [.bJ]) none) (cond (Nat.beq T 31) (some [.bJ]) none))))) (cond (Nat.blt T 41) (cond (Nat.blt T 36) (cond (Nat.blt T 33) (cond (Nat.beq T 32) (some [.bJ]) none) (cond (Nat.blt T 34) (cond (Nat.beq T 33) (some [.bJ]) none) (cond (Nat.beq T 34) (some [.bJ]) none))) (cond (Nat.blt T 39) (cond (Nat.beq T 36) (some [.bJ]) none) (cond (Nat.blt T 40) (cond (Nat.beq T 39) (some [.bJ]) none) (cond (Nat.beq T 40) (some [.bI]) none)))) (cond (Nat.blt T 44) (cond (Nat.blt T 42) (cond (Nat.beq T 41) (some [.bI, .bK]) none) (cond (Nat.blt T 43) (cond (Nat.beq T 42) (some [.bI, .bK, .arr 0 true (.arr 42 .unit) []]) none) (cond (Nat.beq T 43) (some [.mD]) none))) (cond (Nat.blt T 46) (cond (Nat.blt T 45) (cond (Nat.beq T 44) (some [.mD]) none) (cond (Nat.beq T 45) (some [.bJ]) none)) (cond (Nat.blt T 47) (cond (Nat.beq T 46) (some [.bJ]) none) (cond (Nat.beq T 47) (some [.bJ]) none)))))) (cond (Nat.blt T 69) (cond (Nat.blt T 60) (cond (Nat.blt T 54) (cond (Nat.blt T 50) (cond (Nat.beq T 48) (some [.bJ]) none) (cond (Nat.blt T 51) (cond (Nat.beq T 50) (some [.bJ]) none) (cond (Nat.beq T 51) (some [.bJ]) none))) (cond (Nat.blt T 55) (cond (Nat.beq T 54) (some [.bJ]) none) (cond (Nat.blt T 59) (cond (Nat.beq T 55) (some [.bJ]) none) (cond (Nat.beq T 59) (some [.bJ]) none)))) (cond (Nat.blt T 63) (cond (Nat.blt T 61) (cond (Nat.beq T 60) (some [.bJ]) none) (cond (Nat.blt T 62) (cond (Nat.beq T 61) (some [.bI]) none) (cond (Nat.beq T 62) (some [.bI]) none))) (cond (Nat.blt T 66) (cond (Nat.blt T 64) (cond (Nat.beq T 63) (some [.bI]) none) (cond (Nat.beq T 64) (some [.bJ]) none)) (cond (Nat.blt T 67) (cond (Nat.beq T 66) (some [.bJ]) none) (cond (Nat.beq T 67) (some [.bJ]) none))))) (cond (Nat.blt T 82) (cond (Nat.blt T 72) (cond (Nat.blt T 70) (cond (Nat.beq T 69) (some [.bJ]) none) (cond (Nat.blt T 71) (cond (Nat.beq T 70) (some [.bJ]) none) (cond (Nat.beq T 71) (some [.bJ]) none))) (cond (Nat.blt T 73) (cond (Nat.beq T 72) (some [.bJ]) none) (cond (Nat.blt T 79) (cond (Nat.beq T 73) (some [.bJ]) none) (cond (Nat.beq T 79) (some [.bJ]) none)))) (cond (Nat.blt T 88) (cond (Nat.blt T 83) (cond (Nat.beq T 82) (some [.bJ]) none) (cond (Nat.blt T 84) (cond (Nat.beq T 83) (some [.bI, .bI, .bI, .str []]) none) (cond (Nat.beq T 84) (some [.bI, .bI, .bI, .str []]) none))) (cond (Nat.blt T 94) (cond (Nat.blt T 91) (cond (Nat.beq T 88) (some [.bJ]) none) (cond (Nat.beq T 91) (some [.bJ]) none)) (cond (Nat.blt T 95) (cond (Nat.beq T 94) (some [.int .u64 0, .int .u64 0, .int .u32 0, .int .u8 0, .int .u8 0, .int .u8 0, .int .u8 0, .bJ, .bI, .int .i32 0, .int .i32 0]) none) (cond (Nat.beq T 95) (some [.int .u64 0, .int .u64 0, .int .u32 0, .int .u8 0, .int .u8 0, .int .u8 0, .int .u8 0, .bJ, .bI, .int .i32 0, .int .i32 0]) none))))))
def gl : Nat -> Option (Sigma Ty.den) := fun _ => none
def xpT (f : Nat) : List Nat := []
def NJ (T : Nat) : Bool := cond (Nat.blt T 75) (cond (Nat.blt T 53) (cond (Nat.beq T 30) (true) false) (cond (Nat.beq T 53) (true) false)) (cond (Nat.blt T 77) (cond (Nat.beq T 75) (true) false) (cond (Nat.beq T 77) (true) false))
def dS (l : List (Nat × Ent)) : Cfg := ⟨SN, lk l, gl, fun T => cond (Nat.blt T 96) (zer T) none, xpT, fun T => cond (Nat.blt T 96) (NJ T) false, lkq l, none⟩
def rI (x : Int) : Done := ⟨[], .one (.int .i64 x), [], []⟩
def rB (x : Bool) : Done := ⟨[], .one (.bool x), [], []⟩
def kp (l : List Nat) : Keep := { keep := l }
namespace U
def n (k : Nat) : List (Option SV) := List.replicate k none
def sI (x : Int) : Option SV := some (.one (.int .i64 x))
def sK (k : IntKind) (x : Int) : Option SV := some (.one (.int k x))
def sB (b : Bool) : Option SV := some (.one (.bool b))
def sS (l : List Int) : Option SV := some (.one (.str l))
def sL (fr : Bool) (t : Ty) (l : List t.den) : Option SV := some (.one (.psl fr t l))
def sP (i o : Nat) : Option SV := some (.one (.ptr i o))
def own (k : Nat) : Option SV := some (.one (.own k))
def clo (f : Nat) : List V -> Bool
 | [] => false
 | ⟨false, [.fn g _]⟩ :: r => cond (Nat.beq f g) true (clo f r)
 | _ :: r => clo f r
def at_ {α : Type} (l : List α) (i : Int) : Prop := 0 <= i /\ i <= l.length
end U
theorem Qy : ((List.range 96).all fun T => match tab T with | some t => tiB Tryd.prog T t | none => true) = true := by kernel_rfl
theorem Qz : ((List.range 96).all fun T => match zer T with | some ls => MB Tryd.prog T ls | none => true) = true := by kernel_rfl
theorem QA : ((List.range 96).all fun T => cond (NJ T) (eqB Tryd.prog T) true) = true := by kernel_rfl
theorem Rl (l : List (Nat × Ent)) : ∀ T t, (dS l).ti T = some t -> kK Tryd.prog T t := by
 intro T t h
 have h : cond (Nat.blt T 96) (tab T) none = some t := h
 cases hb : Nat.blt T 96 with
 | false => rw [hb] at h; cases h
 | true =>
   rw [hb] at h
   have h : tab T = some t := h
   have := List.all_eq_true.1 Qy T (List.mem_range.2 (by simpa [Nat.blt_eq] using hb))
   rw [h] at this
   exact QS this
theorem RY (l : List (Nat × Ent)) : aJ Tryd.prog (dS l) := by
 refine ⟨Rl l, fun T ls h => ?_, fun T h => ?_⟩
 rotate_left
 ·have h : cond (Nat.blt T 96) (NJ T) false = true := h
  cases hb : Nat.blt T 96 with
  | false => rw [hb] at h; cases h
  | true =>
    rw [hb] at h
    have h : NJ T = true := h
    have := List.all_eq_true.1 QA T (List.mem_range.2 (by simpa [Nat.blt_eq] using hb))
    rw [h] at this
    exact QU this
 have h : cond (Nat.blt T 96) (zer T) none = some ls := h
 cases hb : Nat.blt T 96 with
 | false => rw [hb] at h; cases h
 | true =>
   rw [hb] at h
   have h : zer T = some ls := h
   have := List.all_eq_true.1 Qz T (List.mem_range.2 (by simpa [Nat.blt_eq] using hb))
   rw [h] at this
   exact OZ this
theorem mixed : Tryd.prog.follows .mixedOrders = true := by kernel_rfl
def P8 (f : Nat) : Ent -> Prop
 | .sum s => dZ Tryd.prog gl f s
 | .seq q => PX Tryd.prog gl f q
abbrev dh (l : List (Nat × Ent)) : Prop := ∀ p ∈ l, P8 p.1 p.2
theorem Jy {f : Nat} {s : Vc.Sum} : ∀ {l : List (Nat × Ent)}, lk l f = some s -> (f, .sum s) ∈ l
 | [], h => by cases h
 | (i, .sum t) :: r, h => by
   unfold lk at h
   cases hb : Nat.beq i f with
   | true =>
     rw [hb] at h
     have h : some t = some s := h
     cases h
     rw [Nat.eq_of_beq_eq_true hb]; simp
   | false => rw [hb] at h; exact List.mem_cons_of_mem _ (Jy h)
 | (_, .seq _) :: r, h => List.mem_cons_of_mem _ (Jy (l := r) h)
theorem Fa {f : Nat} {s : Ey} : ∀ {l : List (Nat × Ent)}, lkq l f = some s -> (f, .seq s) ∈ l
 | [], h => by cases h
 | (i, .seq t) :: r, h => by
   unfold lkq at h
   cases hb : Nat.beq i f with
   | true =>
     rw [hb] at h
     have h : some t = some s := h
     cases h
     rw [Nat.eq_of_beq_eq_true hb]; simp
   | false => rw [hb] at h; exact List.mem_cons_of_mem _ (Fa h)
 | (_, .sum _) :: r, h => List.mem_cons_of_mem _ (Fa (l := r) h)
theorem QB {l : List (Nat × Ent)} (h : dh l) : fU Tryd.prog (dS l) := fun _ _ hs => h _ (Jy hs)
theorem QC {l : List (Nat × Ent)} (h : dh l) : sG Tryd.prog (dS l) := fun _ _ hs => h _ (Fa hs)
theorem Rn : dh [] := fun p hp => by cases hp
theorem dh.cons {f : Nat} {s : Ent} {l : List (Nat × Ent)} (h : P8 f s) (hl : dh l) : dh ((f, s) :: l) := fun p hp => by
 rcases List.mem_cons.1 hp with rfl | hp
 ·exact h
 ·exact hl p hp
abbrev Pok (f : Nat) (ts : List Ty) (F : aU ts -> Done) : Prop := vS Tryd.prog gl f ts F
theorem pk {f : Nat} {ts : List Ty} {F : aU ts -> Done} {L : aU ts -> Nat -> List V -> Nat -> Option Vc.Loop} {l : List (Nat × Ent)} (hl : dh l) (hback : ∀ x, (F x).back = [])
 (h : ∀ x, pF ts x -> (∀ p ∈ (F x).pre, p) -> iL Tryd.prog (dS l) (L x) f (fC ts x) [] (F x)) : Pok f ts F :=
 OB (cfg := dS l) rfl (RY l) (QB hl) (QC hl) mixed hback h
end Go.Proofs.YtlmkekoenfelcaaDoor
