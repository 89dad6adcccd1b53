/- The types of the seat's program, as a table (made by gentab.py). -/
import Derived.Test.YtggccomebfpfpaaDoorProg
import Derived.Test.YtggccomebfpfpaaDoorDVcA
import Derived.Test.YtggccomebfpfpaaDoorDVcF
set_option linter.unusedVariables false
set_option linter.unusedSimpArgs false
set_option maxRecDepth 100000
namespace Go.Proofs.YtggccomebfpfpaaDoor
open Go.Vc
def tab (T : Nat) : Option TI := cond (Nat.blt T 53) (cond (Nat.blt T 27) (cond (Nat.blt T 13) (cond (Nat.blt T 7) (cond (Nat.blt T 4) (cond (Nat.blt T 2) (cond (Nat.beq T 1) (some ⟨.func, 1, 8, none⟩) none) (cond (Nat.blt T 3) (cond (Nat.beq T 2) (some ⟨(.int .i64), 1, 8, some (.int .i64)⟩) none) (cond (Nat.beq T 3) (some ⟨(.int .i64), 1, 8, some (.int .i64)⟩) none))) (cond (Nat.blt T 5) (cond (Nat.beq T 4) (some ⟨.bool, 1, 1, some .bool⟩) none) (cond (Nat.blt T 6) (cond (Nat.beq T 5) (some ⟨(.int .u8), 1, 1, some (.int .u8)⟩) none) (cond (Nat.beq T 6) (some ⟨(.int .u8), 1, 1, some (.int .u8)⟩) none)))) (cond (Nat.blt T 10) (cond (Nat.blt T 8) (cond (Nat.beq T 7) (some ⟨(.struct [(0, 2), (1, 3), (2, 4), (3, 6)]), 4, 24, some (.pair (.int .i64) (.pair (.int .i64) (.pair .bool (.int .u8))))⟩) none) (cond (Nat.blt T 9) (cond (Nat.beq T 8) (some ⟨(.struct [(0, 2), (1, 3), (2, 4), (3, 6)]), 4, 24, some (.pair (.int .i64) (.pair (.int .i64) (.pair .bool (.int .u8))))⟩) none) (cond (Nat.beq T 9) (some ⟨.str, 1, 16, some .str⟩) none))) (cond (Nat.blt T 11) (cond (Nat.beq T 10) (some ⟨.str, 1, 16, some .str⟩) none) (cond (Nat.blt T 12) (cond (Nat.beq T 11) (some ⟨.str, 1, 16, some .str⟩) none) (cond (Nat.beq T 12) (some ⟨(.int .u64), 1, 8, some (.int .u64)⟩) none))))) (cond (Nat.blt T 19) (cond (Nat.blt T 16) (cond (Nat.blt T 14) (cond (Nat.beq T 13) (some ⟨(.struct [(0, 9), (1, 12)]), 2, 24, some (.pair .str (.int .u64))⟩) none) (cond (Nat.blt T 15) (cond (Nat.beq T 14) (some ⟨(.struct [(0, 9), (1, 12)]), 2, 24, some (.pair .str (.int .u64))⟩) none) (cond (Nat.beq T 15) (some ⟨(.ptr 95), 1, 8, none⟩) none))) (cond (Nat.blt T 17) (cond (Nat.beq T 16) (some ⟨(.ptr 98), 1, 8, none⟩) none) (cond (Nat.blt T 18) (cond (Nat.beq T 17) (some ⟨(.ptr 107), 1, 8, none⟩) none) (cond (Nat.beq T 18) (some ⟨(.struct [(0, 17)]), 1, 8, none⟩) none)))) (cond (Nat.blt T 22) (cond (Nat.blt T 20) (cond (Nat.beq T 19) (some ⟨(.struct [(0, 17)]), 1, 8, none⟩) none) (cond (Nat.blt T 21) (cond (Nat.beq T 20) (some ⟨.iface, 1, 16, none⟩) none) (cond (Nat.beq T 21) (some ⟨(.int .i32), 1, 4, some (.int .i32)⟩) none))) (cond (Nat.blt T 25) (cond (Nat.blt T 23) (cond (Nat.beq T 22) (some ⟨(.slice 5), 1, 24, some (.slice (.int .u8))⟩) none) (cond (Nat.beq T 23) (some ⟨.func, 1, 8, none⟩) none)) (cond (Nat.blt T 26) (cond (Nat.beq T 25) (some ⟨.func, 1, 8, none⟩) none) (cond (Nat.beq T 26) (some ⟨.func, 1, 8, none⟩) none)))))) (cond (Nat.blt T 39) (cond (Nat.blt T 33) (cond (Nat.blt T 30) (cond (Nat.blt T 28) (cond (Nat.beq T 27) (some ⟨(.slice 35), 1, 24, some (.slice (.pair .str (.pair .str (.pair (.int .i64) (.int .i64)))))⟩) none) (cond (Nat.blt T 29) (cond (Nat.beq T 28) (some ⟨.func, 1, 8, none⟩) none) (cond (Nat.beq T 29) (some ⟨.func, 1, 8, none⟩) none))) (cond (Nat.blt T 31) (cond (Nat.beq T 30) (some ⟨.func, 1, 8, none⟩) none) (cond (Nat.blt T 32) (cond (Nat.beq T 31) (some ⟨(.slice 9), 1, 24, some (.slice .str)⟩) none) (cond (Nat.beq T 32) (some ⟨.func, 1, 8, none⟩) none)))) (cond (Nat.blt T 36) (cond (Nat.blt T 34) (cond (Nat.beq T 33) (some ⟨.func, 1, 8, none⟩) none) (cond (Nat.blt T 35) (cond (Nat.beq T 34) (some ⟨(.struct [(0, 9), (1, 9), (2, 3), (3, 3)]), 4, 48, some (.pair .str (.pair .str (.pair (.int .i64) (.int .i64))))⟩) none) (cond (Nat.beq T 35) (some ⟨(.struct [(0, 9), (1, 9), (2, 3), (3, 3)]), 4, 48, some (.pair .str (.pair .str (.pair (.int .i64) (.int .i64))))⟩) none))) (cond (Nat.blt T 37) (cond (Nat.beq T 36) (some ⟨.func, 1, 8, none⟩) none) (cond (Nat.blt T 38) (cond (Nat.beq T 37) (some ⟨.func, 1, 8, none⟩) none) (cond (Nat.beq T 38) (some ⟨.func, 1, 8, none⟩) none))))) (cond (Nat.blt T 46) (cond (Nat.blt T 42) (cond (Nat.blt T 40) (cond (Nat.beq T 39) (some ⟨.func, 1, 8, none⟩) none) (cond (Nat.blt T 41) (cond (Nat.beq T 40) (some ⟨(.struct [(0, 27), (1, 22), (2, 3), (3, 3)]), 4, 64, some (.pair (.slice (.pair .str (.pair .str (.pair (.int .i64) (.int .i64))))) (.pair (.slice (.int .u8)) (.pair (.int .i64) (.int .i64))))⟩) none) (cond (Nat.beq T 41) (some ⟨(.struct [(0, 27), (1, 22), (2, 3), (3, 3)]), 4, 64, some (.pair (.slice (.pair .str (.pair .str (.pair (.int .i64) (.int .i64))))) (.pair (.slice (.int .u8)) (.pair (.int .i64) (.int .i64))))⟩) none))) (cond (Nat.blt T 43) (cond (Nat.beq T 42) (some ⟨(.ptr 41), 1, 8, none⟩) none) (cond (Nat.blt T 45) (cond (Nat.beq T 43) (some ⟨.func, 1, 8, none⟩) none) (cond (Nat.beq T 45) (some ⟨.func, 1, 8, none⟩) none)))) (cond (Nat.blt T 49) (cond (Nat.blt T 47) (cond (Nat.beq T 46) (some ⟨.func, 1, 8, none⟩) none) (cond (Nat.blt T 48) (cond (Nat.beq T 47) (some ⟨.func, 1, 8, none⟩) none) (cond (Nat.beq T 48) (some ⟨.func, 1, 8, none⟩) none))) (cond (Nat.blt T 51) (cond (Nat.blt T 50) (cond (Nat.beq T 49) (some ⟨.func, 1, 8, none⟩) none) (cond (Nat.beq T 50) (some ⟨.func, 1, 8, none⟩) none)) (cond (Nat.blt T 52) (cond (Nat.beq T 51) (some ⟨.func, 1, 8, none⟩) none) (cond (Nat.beq T 52) (some ⟨.func, 1, 8, none⟩) none))))))) (cond (Nat.blt T 82) (cond (Nat.blt T 66) (cond (Nat.blt T 59) (cond (Nat.blt T 56) (cond (Nat.blt T 54) (cond (Nat.beq T 53) (some ⟨.func, 1, 8, none⟩) none) (cond (Nat.blt T 55) (cond (Nat.beq T 54) (some ⟨.func, 1, 8, none⟩) none) (cond (Nat.beq T 55) (some ⟨.func, 1, 8, none⟩) none))) (cond (Nat.blt T 57) (cond (Nat.beq T 56) (some ⟨.func, 1, 8, none⟩) none) (cond (Nat.blt T 58) (cond (Nat.beq T 57) (some ⟨.func, 1, 8, none⟩) none) (cond (Nat.beq T 58) (some ⟨.func, 1, 8, none⟩) none)))) (cond (Nat.blt T 63) (cond (Nat.blt T 60) (cond (Nat.beq T 59) (some ⟨.func, 1, 8, none⟩) none) (cond (Nat.blt T 61) (cond (Nat.beq T 60) (some ⟨.func, 1, 8, none⟩) none) (cond (Nat.beq T 61) (some ⟨.func, 1, 8, none⟩) none))) (cond (Nat.blt T 64) (cond (Nat.beq T 63) (some ⟨.func, 1, 8, none⟩) none) (cond (Nat.blt T 65) (cond (Nat.beq T 64) (some ⟨.func, 1, 8, none⟩) none) (cond (Nat.beq T 65) (some ⟨(.ptr 35), 1, 8, none⟩) none))))) (cond (Nat.blt T 74) (cond (Nat.blt T 69) (cond (Nat.blt T 67) (cond (Nat.beq T 66) (some ⟨.func, 1, 8, none⟩) none) (cond (Nat.blt T 68) (cond (Nat.beq T 67) (some ⟨.func, 1, 8, none⟩) none) (cond (Nat.beq T 68) (some ⟨.func, 1, 8, none⟩) none))) (cond (Nat.blt T 71) (cond (Nat.beq T 69) (some ⟨(.int .u64), 1, 8, some (.int .u64)⟩) none) (cond (Nat.blt T 73) (cond (Nat.beq T 71) (some ⟨.func, 1, 8, none⟩) none) (cond (Nat.beq T 73) (some ⟨.func, 1, 8, none⟩) none)))) (cond (Nat.blt T 77) (cond (Nat.blt T 75) (cond (Nat.beq T 74) (some ⟨.func, 1, 8, none⟩) none) (cond (Nat.blt T 76) (cond (Nat.beq T 75) (some ⟨.func, 1, 8, none⟩) none) (cond (Nat.beq T 76) (some ⟨.func, 1, 8, none⟩) none))) (cond (Nat.blt T 79) (cond (Nat.blt T 78) (cond (Nat.beq T 77) (some ⟨.func, 1, 8, none⟩) none) (cond (Nat.beq T 78) (some ⟨(.array 256 4), 256, 256, some (.arr 256 .bool)⟩) none)) (cond (Nat.blt T 81) (cond (Nat.beq T 79) (some ⟨(.array 256 4), 256, 256, some (.arr 256 .bool)⟩) none) (cond (Nat.beq T 81) (some ⟨.func, 1, 8, none⟩) none)))))) (cond (Nat.blt T 95) (cond (Nat.blt T 89) (cond (Nat.blt T 86) (cond (Nat.blt T 83) (cond (Nat.beq T 82) (some ⟨.func, 1, 8, none⟩) none) (cond (Nat.blt T 84) (cond (Nat.beq T 83) (some ⟨(.ptr 79), 1, 8, none⟩) none) (cond (Nat.beq T 84) (some ⟨(.int .u32), 1, 4, some (.int .u32)⟩) none))) (cond (Nat.blt T 87) (cond (Nat.beq T 86) (some ⟨.func, 1, 8, none⟩) none) (cond (Nat.blt T 88) (cond (Nat.beq T 87) (some ⟨.func, 1, 8, none⟩) none) (cond (Nat.beq T 88) (some ⟨.func, 1, 8, none⟩) none)))) (cond (Nat.blt T 92) (cond (Nat.blt T 90) (cond (Nat.beq T 89) (some ⟨(.array 256 5), 256, 256, some (.arr 256 (.int .u8))⟩) none) (cond (Nat.blt T 91) (cond (Nat.beq T 90) (some ⟨(.struct [(0, 5), (1, 5)]), 2, 2, some (.pair (.int .u8) (.int .u8))⟩) none) (cond (Nat.beq T 91) (some ⟨(.struct [(0, 5), (1, 5)]), 2, 2, some (.pair (.int .u8) (.int .u8))⟩) none))) (cond (Nat.blt T 93) (cond (Nat.beq T 92) (some ⟨(.array 16 91), 32, 32, some (.arr 16 (.pair (.int .u8) (.int .u8)))⟩) none) (cond (Nat.blt T 94) (cond (Nat.beq T 93) (some ⟨.func, 1, 8, none⟩) none) (cond (Nat.beq T 94) (some ⟨(.struct [(0, 17), (1, 17), (2, 17), (3, 9)]), 4, 40, none⟩) none))))) (cond (Nat.blt T 101) (cond (Nat.blt T 98) (cond (Nat.blt T 96) (cond (Nat.beq T 95) (some ⟨(.struct [(0, 17), (1, 17), (2, 17), (3, 9)]), 4, 40, none⟩) none) (cond (Nat.blt T 97) (cond (Nat.beq T 96) (some ⟨(.array 0 16), 0, 0, none⟩) none) (cond (Nat.beq T 97) (some ⟨(.struct [(0, 96)]), 0, 0, none⟩) none))) (cond (Nat.blt T 99) (cond (Nat.beq T 98) (some ⟨(.struct [(0, 96)]), 0, 0, none⟩) none) (cond (Nat.blt T 100) (cond (Nat.beq T 99) (some ⟨.func, 1, 8, none⟩) none) (cond (Nat.beq T 100) (some ⟨(.int .u8), 1, 1, some (.int .u8)⟩) none)))) (cond (Nat.blt T 104) (cond (Nat.blt T 102) (cond (Nat.beq T 101) (some ⟨(.int .u8), 1, 1, some (.int .u8)⟩) none) (cond (Nat.blt T 103) (cond (Nat.beq T 102) (some ⟨.func, 1, 8, none⟩) none) (cond (Nat.beq T 103) (some ⟨(.ptr 5), 1, 8, none⟩) none))) (cond (Nat.blt T 106) (cond (Nat.blt T 105) (cond (Nat.beq T 104) (some ⟨(.int .i32), 1, 4, some (.int .i32)⟩) none) (cond (Nat.beq T 105) (some ⟨(.int .i32), 1, 4, some (.int .i32)⟩) none)) (cond (Nat.blt T 107) (cond (Nat.beq T 106) (some ⟨(.struct [(0, 12), (1, 12), (2, 84), (3, 100), (4, 5), (5, 5), (6, 101), (7, 102), (8, 103), (9, 104), (10, 105)]), 11, 48, none⟩) none) (cond (Nat.beq T 107) (some ⟨(.struct [(0, 12), (1, 12), (2, 84), (3, 100), (4, 5), (5, 5), (6, 101), (7, 102), (8, 103), (9, 104), (10, 105)]), 11, 48, none⟩) none)))))))
end Go.Proofs.YtggccomebfpfpaaDoor
set_option linter.unusedVariables false
set_option linter.unusedSimpArgs false
set_option maxRecDepth 100000
namespace Go.Proofs.YtggccomebfpfpaaDoor
open Go.Vc
inductive Ent where
 | sum (s : Vc.Sum)
 | seq (q : wu)
def lk : List (Nat × Ent) -> Nat -> Option Vc.Sum
 | [], _ => none
 | (i, .sum s) :: r, f => cond (Nat.beq i f) (some s) (lk r f)
 | (_, .seq _) :: r, f => lk r f
def lkq : List (Nat × Ent) -> Nat -> Option wu
 | [], _ => none
 | (i, .seq s) :: r, f => cond (Nat.beq i f) (some s) (lkq r f)
 | (_, .sum _) :: r, f => lkq r f
def U5 (T : Nat) : Option TI := cond (Nat.blt T 109) (tab T) none
def zer (T : Nat) : Option (List Leaf) := cond (Nat.blt T 56) (cond (Nat.blt T 37) (cond (Nat.blt T 25) (cond (Nat.blt T 18) (cond (Nat.blt T 16) (cond (Nat.blt T 15) (cond (Nat.beq T 1) (some [.aU]) none) (cond (Nat.beq T 15) (some [.dH]) none)) (cond (Nat.blt T 17) (cond (Nat.beq T 16) (some [.dH]) none) (cond (Nat.beq T 17) (some [.dH]) none))) (cond (Nat.blt T 20) (cond (Nat.blt T 19) (cond (Nat.beq T 18) (some [.dH]) none) (cond (Nat.beq T 19) (some [.dH]) none)) (cond (Nat.blt T 23) (cond (Nat.beq T 20) (some [.qh]) none) (cond (Nat.beq T 23) (some [.aU]) none)))) (cond (Nat.blt T 30) (cond (Nat.blt T 28) (cond (Nat.blt T 26) (cond (Nat.beq T 25) (some [.aU]) none) (cond (Nat.beq T 26) (some [.aU]) none)) (cond (Nat.blt T 29) (cond (Nat.beq T 28) (some [.aU]) none) (cond (Nat.beq T 29) (some [.aU]) none))) (cond (Nat.blt T 33) (cond (Nat.blt T 32) (cond (Nat.beq T 30) (some [.aU]) none) (cond (Nat.beq T 32) (some [.aU]) none)) (cond (Nat.blt T 36) (cond (Nat.beq T 33) (some [.aU]) none) (cond (Nat.beq T 36) (some [.aU]) none))))) (cond (Nat.blt T 48) (cond (Nat.blt T 43) (cond (Nat.blt T 39) (cond (Nat.blt T 38) (cond (Nat.beq T 37) (some [.aU]) none) (cond (Nat.beq T 38) (some [.aU]) none)) (cond (Nat.blt T 42) (cond (Nat.beq T 39) (some [.aU]) none) (cond (Nat.beq T 42) (some [.dH]) none))) (cond (Nat.blt T 46) (cond (Nat.blt T 45) (cond (Nat.beq T 43) (some [.aU]) none) (cond (Nat.beq T 45) (some [.aU]) none)) (cond (Nat.blt T 47) (cond (Nat.beq T 46) (some [.aU]) none) (cond (Nat.beq T 47) (some [.aU]) none)))) (cond (Nat.blt T 52) (cond (Nat.blt T 50) (cond (Nat.blt T 49) (cond (Nat.beq T 48) (some [.aU]) none) (cond (Nat.beq T 49) (some [.aU]) none)) (cond (Nat.blt T 51) (cond (Nat.beq T 50) (some [.aU]) none) (cond (Nat.beq T 51) (some [.aU]) none))) (cond (Nat.blt T 54) (cond (Nat.blt T 53) (cond (Nat.beq T 52) (some [.aU]) none) (cond (Nat.beq T 53) (some [.aU]) none)) (cond (Nat.blt T 55) (cond (Nat.beq T 54) (some [.aU]) none) (cond (Nat.beq T 55) (some [.aU]) none)))))) (cond (Nat.blt T 76) (cond (Nat.blt T 65) (cond (Nat.blt T 60) (cond (Nat.blt T 58) (cond (Nat.blt T 57) (cond (Nat.beq T 56) (some [.aU]) none) (cond (Nat.beq T 57) (some [.aU]) none)) (cond (Nat.blt T 59) (cond (Nat.beq T 58) (some [.aU]) none) (cond (Nat.beq T 59) (some [.aU]) none))) (cond (Nat.blt T 63) (cond (Nat.blt T 61) (cond (Nat.beq T 60) (some [.aU]) none) (cond (Nat.beq T 61) (some [.aU]) none)) (cond (Nat.blt T 64) (cond (Nat.beq T 63) (some [.aU]) none) (cond (Nat.beq T 64) (some [.aU]) none)))) (cond (Nat.blt T 71) (cond (Nat.blt T 67) (cond (Nat.blt T 66) (cond (Nat.beq T 65) (some [.dH]) none) (cond (Nat.beq T 66) (some [.aU]) none)) (cond (Nat.blt T 68) (cond (Nat.beq T 67) (some [.aU]) none) (cond (Nat.beq T 68) (some [.aU]) none))) (cond (Nat.blt T 74) (cond (Nat.blt T 73) (cond (Nat.beq T 71) (some [.aU]) none) (cond (Nat.beq T 73) (some [.aU]) none)) (cond (Nat.blt T 75) (cond (Nat.beq T 74) (some [.aU]) none) (cond (Nat.beq T 75) (some [.aU]) none))))) (cond (Nat.blt T 93) (cond (Nat.blt T 83) (cond (Nat.blt T 81) (cond (Nat.blt T 77) (cond (Nat.beq T 76) (some [.aU]) none) (cond (Nat.beq T 77) (some [.aU]) none)) (cond (Nat.blt T 82) (cond (Nat.beq T 81) (some [.aU]) none) (cond (Nat.beq T 82) (some [.aU]) none))) (cond (Nat.blt T 87) (cond (Nat.blt T 86) (cond (Nat.beq T 83) (some [.dH]) none) (cond (Nat.beq T 86) (some [.aU]) none)) (cond (Nat.blt T 88) (cond (Nat.beq T 87) (some [.aU]) none) (cond (Nat.beq T 88) (some [.aU]) none)))) (cond (Nat.blt T 102) (cond (Nat.blt T 95) (cond (Nat.blt T 94) (cond (Nat.beq T 93) (some [.aU]) none) (cond (Nat.beq T 94) (some [.dH, .dH, .dH, .str []]) none)) (cond (Nat.blt T 99) (cond (Nat.beq T 95) (some [.dH, .dH, .dH, .str []]) none) (cond (Nat.beq T 99) (some [.aU]) none))) (cond (Nat.blt T 106) (cond (Nat.blt T 103) (cond (Nat.beq T 102) (some [.aU]) none) (cond (Nat.beq T 103) (some [.dH]) none)) (cond (Nat.blt T 107) (cond (Nat.beq T 106) (some [.int .u64 0, .int .u64 0, .int .u32 0, .int .u8 0, .int .u8 0, .int .u8 0, .int .u8 0, .aU, .dH, .int .i32 0, .int .i32 0]) none) (cond (Nat.beq T 107) (some [.int .u64 0, .int .u64 0, .int .u32 0, .int .u8 0, .int .u8 0, .int .u8 0, .int .u8 0, .aU, .dH, .int .i32 0, .int .i32 0]) none))))))
def gl : Nat -> Option (Sigma Ty.den) := fun _ => none
def xpT (f : Nat) : List Nat := []
def PV (T : Nat) : Bool := cond (Nat.blt T 89) (cond (Nat.beq T 35) (true) false) (cond (Nat.blt T 91) (cond (Nat.beq T 89) (true) false) (cond (Nat.beq T 91) (true) false))
def bM (l : List (Nat × Ent)) : Cfg := ⟨U5, lk l, gl, fun T => cond (Nat.blt T 109) (zer T) none, xpT, fun T => cond (Nat.blt T 109) (PV T) false, lkq l, none⟩
def rI (x : Int) : Done := ⟨[], .one (.int .i64 x), [], []⟩
def rB (x : Bool) : Done := ⟨[], .one (.bool x), [], []⟩
def kp (l : List Nat) : Keep := { keep := l }
namespace U
def n (k : Nat) : List (Option SV) := List.replicate k none
def sI (x : Int) : Option SV := some (.one (.int .i64 x))
def sB (b : Bool) : Option SV := some (.one (.bool b))
def sS (l : List Int) : Option SV := some (.one (.str l))
def sL (fr : Bool) (t : Ty) (l : List t.den) : Option SV := some (.one (.psl fr t l))
def sP (i o : Nat) : Option SV := some (.one (.ptr i o))
def own (k : Nat) : Option SV := some (.one (.own k))
def slc (k lo n : Nat) : Option SV := some (.one (.sl k lo n))
def clo (f : Nat) : List V -> Bool
 | [] => false
 | ⟨false, [.fn g _]⟩ :: r => cond (Nat.beq f g) true (clo f r)
 | _ :: r => clo f r
def sF (f : Nat) (c : List Nat) : Option SV := some (.one (.fn f c))
def at_ {α : Type} (l : List α) (i : Int) : Prop := 0 <= i /\ i <= l.length
end U
theorem TN : ((List.range 109).all fun T => match tab T with | some t => tiB Tryd.prog T t | none => true) = true := by kernel_rfl
theorem TP : ((List.range 109).all fun T => match zer T with | some ls => OQ Tryd.prog T ls | none => true) = true := by kernel_rfl
theorem TQ : ((List.range 109).all fun T => cond (PV T) (eqB Tryd.prog T) true) = true := by kernel_rfl
theorem Ux (l : List (Nat × Ent)) : ∀ T t, (bM l).ti T = some t -> kS Tryd.prog T t := by
 intro T t h
 have h : cond (Nat.blt T 109) (tab T) none = some t := h
 cases hb : Nat.blt T 109 with
 | false => rw [hb] at h; cases h
 | true =>
   rw [hb] at h
   have h : tab T = some t := h
   have := List.all_eq_true.1 TN T (List.mem_range.2 (by simpa [Nat.blt_eq] using hb))
   rw [h] at this
   exact Uf this
theorem PW (l : List (Nat × Ent)) : aI Tryd.prog (bM l) := by
 refine ⟨Ux l, fun T ls h => ?_, fun T h => ?_⟩
 rotate_left
 ·have h : cond (Nat.blt T 109) (PV T) false = true := h
  cases hb : Nat.blt T 109 with
  | false => rw [hb] at h; cases h
  | true =>
    rw [hb] at h
    have h : PV T = true := h
    have := List.all_eq_true.1 TQ T (List.mem_range.2 (by simpa [Nat.blt_eq] using hb))
    rw [h] at this
    exact Uh this
 have h : cond (Nat.blt T 109) (zer T) none = some ls := h
 cases hb : Nat.blt T 109 with
 | false => rw [hb] at h; cases h
 | true =>
   rw [hb] at h
   have h : zer T = some ls := h
   have := List.all_eq_true.1 TP T (List.mem_range.2 (by simpa [Nat.blt_eq] using hb))
   rw [h] at this
   exact Rk this
theorem mixed : Tryd.prog.follows .mixedOrders = true := by kernel_rfl
def SY (f : Nat) : Ent -> Prop
 | .sum s => dw Tryd.prog gl f s
 | .seq q => Gl Tryd.prog gl f q
abbrev bP (l : List (Nat × Ent)) : Prop := ∀ p ∈ l, SY p.1 p.2
theorem LX {f : Nat} {s : Vc.Sum} : ∀ {l : List (Nat × Ent)}, lk l f = some s -> (f, .sum s) ∈ l
 | [], h => by cases h
 | (i, .sum t) :: r, h => by
   unfold lk at h
   cases hb : Nat.beq i f with
   | true =>
     rw [hb] at h
     have h : some t = some s := h
     cases h
     rw [Nat.eq_of_beq_eq_true hb]; simp
   | false => rw [hb] at h; exact List.mem_cons_of_mem _ (LX h)
 | (_, .seq _) :: r, h => List.mem_cons_of_mem _ (LX (l := r) h)
theorem Ie {f : Nat} {s : wu} : ∀ {l : List (Nat × Ent)}, lkq l f = some s -> (f, .seq s) ∈ l
 | [], h => by cases h
 | (i, .seq t) :: r, h => by
   unfold lkq at h
   cases hb : Nat.beq i f with
   | true =>
     rw [hb] at h
     have h : some t = some s := h
     cases h
     rw [Nat.eq_of_beq_eq_true hb]; simp
   | false => rw [hb] at h; exact List.mem_cons_of_mem _ (Ie h)
 | (_, .sum _) :: r, h => List.mem_cons_of_mem _ (Ie (l := r) h)
theorem Ig {l : List (Nat × Ent)} (h : bP l) : eX Tryd.prog (bM l) := fun _ _ hs => h _ (LX hs)
theorem Ih {l : List (Nat × Ent)} (h : bP l) : nG Tryd.prog (bM l) := fun _ _ hs => h _ (Ie hs)
theorem Uy : bP [] := fun p hp => by cases hp
theorem bP.cons {f : Nat} {s : Ent} {l : List (Nat × Ent)} (h : SY f s) (hl : bP l) : bP ((f, s) :: l) := fun p hp => by
 rcases List.mem_cons.1 hp with rfl | hp
 ·exact h
 ·exact hl p hp
abbrev Pok (f : Nat) (ts : List Ty) (F : aO ts -> Done) : Prop := ng Tryd.prog gl f ts F
theorem pk {f : Nat} {ts : List Ty} {F : aO ts -> Done} {L : aO ts -> Nat -> List V -> Nat -> Option Vc.Loop} {l : List (Nat × Ent)} (hl : bP l) (hback : ∀ x, (F x).back = [])
 (h : ∀ x, nD ts x -> (∀ p ∈ (F x).pre, p) -> dR Tryd.prog (bM l) (L x) f (dF ts x) [] (F x)) : Pok f ts F :=
 QO (cfg := bM l) rfl (PW l) (Ig hl) (Ih hl) mixed hback h
def orE : Option Done -> Option Done -> Option Done
 | some d, _ => some d
 | none, y => y
theorem yV {a b : Option Done} {d : Done} (h : orE a b = some d) : a = some d ∨ b = some d := by
 cases a with
 | none => exact .inr h
 | some x => exact .inl h
theorem I5 {b : Bool} {x d : Done} (h : cond b (some x) none = some d) : b = true /\ d = x := by
 cases b with
 | false => cases h
 | true => cases h; exact ⟨rfl, rfl⟩
theorem pkg {f : Nat} {F : List V -> List Entry -> Option Done} {l : List (Nat × Ent)} (hl : bP l) (hlen : ∀ args es d, F args es = some d -> d.back.length = es.length)
 (h : ∀ args es d, F args es = some d -> (∀ v ∈ args, ∀ l ∈ v.ls, LVal l) -> (∀ e ∈ es, Rx e) -> (∀ p ∈ d.pre, p) -> ∃ L, dR Tryd.prog (bM l) L f args es d) : JQ Tryd.prog gl f F :=
 RP (cfg := bM l) rfl (PW l) (Ig hl) (Ih hl) mixed hlen h
theorem pkq {f : Nat} {q : wu} {L : aO q.cs -> Nat -> List V -> Nat -> Option Vc.Loop} {l : List (Nat × Ent)} (hl : bP l) (hhas : CJ Tryd.prog f = true)
 (h : ∀ y, nD q.cs y -> (∀ p ∈ q.pre y, p) -> BX Tryd.prog (bM l) (L y) f q y) : Gl Tryd.prog gl f q :=
 RQ (cfg := bM l) rfl (PW l) (Ig hl) (Ih hl) mixed hhas h
end Go.Proofs.YtggccomebfpfpaaDoor
