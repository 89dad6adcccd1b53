/- The types of the seat's program, as a table (made by gentab.py). -/
import Derived.Test.YtllmhikoaklpbaaDoorProg
import Derived.Test.YtllmhikoaklpbaaDoorVcA
import Derived.Test.YtllmhikoaklpbaaDoorVcF
set_option linter.unusedVariables false
set_option linter.unusedSimpArgs false
set_option maxRecDepth 100000
namespace Go.Proofs.YtllmhikoaklpbaaDoor
open Go.Vc
def tab (T : Nat) : Option TI := cond (Nat.blt T 71) (cond (Nat.blt T 36) (cond (Nat.blt T 17) (cond (Nat.blt T 9) (cond (Nat.blt T 5) (cond (Nat.blt T 3) (cond (Nat.blt T 2) (cond (Nat.beq T 1) (some ⟨.func, 1, 8, none⟩) none) (cond (Nat.beq T 2) (some ⟨(.int .i64), 1, 8, some (.int .i64)⟩) none)) (cond (Nat.blt T 4) (cond (Nat.beq T 3) (some ⟨(.int .i64), 1, 8, some (.int .i64)⟩) none) (cond (Nat.beq T 4) (some ⟨.bool, 1, 1, some .bool⟩) none))) (cond (Nat.blt T 7) (cond (Nat.blt T 6) (cond (Nat.beq T 5) (some ⟨(.int .u8), 1, 1, some (.int .u8)⟩) none) (cond (Nat.beq T 6) (some ⟨(.int .u8), 1, 1, some (.int .u8)⟩) none)) (cond (Nat.blt T 8) (cond (Nat.beq T 7) (some ⟨(.struct [(0, 2), (1, 3), (2, 4), (3, 6)]), 4, 24, some (.pair (.int .i64) (.pair (.int .i64) (.pair .bool (.int .u8))))⟩) none) (cond (Nat.beq T 8) (some ⟨(.struct [(0, 2), (1, 3), (2, 4), (3, 6)]), 4, 24, some (.pair (.int .i64) (.pair (.int .i64) (.pair .bool (.int .u8))))⟩) none)))) (cond (Nat.blt T 13) (cond (Nat.blt T 11) (cond (Nat.blt T 10) (cond (Nat.beq T 9) (some ⟨.str, 1, 16, some .str⟩) none) (cond (Nat.beq T 10) (some ⟨.str, 1, 16, some .str⟩) none)) (cond (Nat.blt T 12) (cond (Nat.beq T 11) (some ⟨.str, 1, 16, some .str⟩) none) (cond (Nat.beq T 12) (some ⟨(.int .u64), 1, 8, some (.int .u64)⟩) none))) (cond (Nat.blt T 15) (cond (Nat.blt T 14) (cond (Nat.beq T 13) (some ⟨(.struct [(0, 9), (1, 12)]), 2, 24, some (.pair .str (.int .u64))⟩) none) (cond (Nat.beq T 14) (some ⟨(.struct [(0, 9), (1, 12)]), 2, 24, some (.pair .str (.int .u64))⟩) none)) (cond (Nat.blt T 16) (cond (Nat.beq T 15) (some ⟨(.ptr 131), 1, 8, none⟩) none) (cond (Nat.beq T 16) (some ⟨(.ptr 134), 1, 8, none⟩) none))))) (cond (Nat.blt T 25) (cond (Nat.blt T 21) (cond (Nat.blt T 19) (cond (Nat.blt T 18) (cond (Nat.beq T 17) (some ⟨(.ptr 142), 1, 8, none⟩) none) (cond (Nat.beq T 18) (some ⟨(.struct [(0, 17)]), 1, 8, none⟩) none)) (cond (Nat.blt T 20) (cond (Nat.beq T 19) (some ⟨(.struct [(0, 17)]), 1, 8, none⟩) none) (cond (Nat.beq T 20) (some ⟨.iface, 1, 16, none⟩) none))) (cond (Nat.blt T 23) (cond (Nat.blt T 22) (cond (Nat.beq T 21) (some ⟨(.int .i32), 1, 4, some (.int .i32)⟩) none) (cond (Nat.beq T 22) (some ⟨(.slice 5), 1, 24, some (.slice (.int .u8))⟩) none)) (cond (Nat.blt T 24) (cond (Nat.beq T 23) (some ⟨.func, 1, 8, none⟩) none) (cond (Nat.beq T 24) (some ⟨(.slice 3), 1, 24, some (.slice (.int .i64))⟩) none)))) (cond (Nat.blt T 30) (cond (Nat.blt T 27) (cond (Nat.blt T 26) (cond (Nat.beq T 25) (some ⟨(.slice 61), 1, 24, some (.slice (.pair (.int .i64) (.int .i64)))⟩) none) (cond (Nat.beq T 26) (some ⟨(.struct [(0, 3), (1, 3), (2, 9), (3, 9), (4, 24), (5, 25), (6, 3), (7, 3), (8, 3), (9, 3), (10, 22)]), 11, 152, some (.pair (.int .i64) (.pair (.int .i64) (.pair .str (.pair .str (.pair (.slice (.int .i64)) (.pair (.slice (.pair (.int .i64) (.int .i64))) (.pair (.int .i64) (.pair (.int .i64) (.pair (.int .i64) (.pair (.int .i64) (.slice (.int .u8))))))))))))⟩) none)) (cond (Nat.blt T 28) (cond (Nat.beq T 27) (some ⟨(.struct [(0, 3), (1, 3), (2, 9), (3, 9), (4, 24), (5, 25), (6, 3), (7, 3), (8, 3), (9, 3), (10, 22)]), 11, 152, some (.pair (.int .i64) (.pair (.int .i64) (.pair .str (.pair .str (.pair (.slice (.int .i64)) (.pair (.slice (.pair (.int .i64) (.int .i64))) (.pair (.int .i64) (.pair (.int .i64) (.pair (.int .i64) (.pair (.int .i64) (.slice (.int .u8))))))))))))⟩) none) (cond (Nat.beq T 28) (some ⟨(.int .i64), 1, 8, some (.int .i64)⟩) none))) (cond (Nat.blt T 32) (cond (Nat.blt T 31) (cond (Nat.beq T 30) (some ⟨.func, 1, 8, none⟩) none) (cond (Nat.beq T 31) (some ⟨.func, 1, 8, none⟩) none)) (cond (Nat.blt T 33) (cond (Nat.beq T 32) (some ⟨.func, 1, 8, none⟩) none) (cond (Nat.blt T 35) (cond (Nat.beq T 33) (some ⟨.func, 1, 8, none⟩) none) (cond (Nat.beq T 35) (some ⟨.func, 1, 8, none⟩) none))))))) (cond (Nat.blt T 53) (cond (Nat.blt T 44) (cond (Nat.blt T 40) (cond (Nat.blt T 38) (cond (Nat.blt T 37) (cond (Nat.beq T 36) (some ⟨.func, 1, 8, none⟩) none) (cond (Nat.beq T 37) (some ⟨.func, 1, 8, none⟩) none)) (cond (Nat.blt T 39) (cond (Nat.beq T 38) (some ⟨(.int .u16), 1, 2, some (.int .u16)⟩) none) (cond (Nat.beq T 39) (some ⟨.func, 1, 8, none⟩) none))) (cond (Nat.blt T 42) (cond (Nat.blt T 41) (cond (Nat.beq T 40) (some ⟨.func, 1, 8, none⟩) none) (cond (Nat.beq T 41) (some ⟨.func, 1, 8, none⟩) none)) (cond (Nat.blt T 43) (cond (Nat.beq T 42) (some ⟨(.ptr 74), 1, 8, none⟩) none) (cond (Nat.beq T 43) (some ⟨.func, 1, 8, none⟩) none)))) (cond (Nat.blt T 48) (cond (Nat.blt T 46) (cond (Nat.blt T 45) (cond (Nat.beq T 44) (some ⟨.func, 1, 8, none⟩) none) (cond (Nat.beq T 45) (some ⟨.func, 1, 8, none⟩) none)) (cond (Nat.blt T 47) (cond (Nat.beq T 46) (some ⟨.func, 1, 8, none⟩) none) (cond (Nat.beq T 47) (some ⟨(.ptr 27), 1, 8, none⟩) none))) (cond (Nat.blt T 50) (cond (Nat.blt T 49) (cond (Nat.beq T 48) (some ⟨.func, 1, 8, none⟩) none) (cond (Nat.beq T 49) (some ⟨(.ptr 51), 1, 8, none⟩) none)) (cond (Nat.blt T 51) (cond (Nat.beq T 50) (some ⟨(.struct [(0, 22), (1, 28)]), 2, 32, some (.pair (.slice (.int .u8)) (.int .i64))⟩) none) (cond (Nat.blt T 52) (cond (Nat.beq T 51) (some ⟨(.struct [(0, 22), (1, 28)]), 2, 32, some (.pair (.slice (.int .u8)) (.int .i64))⟩) none) (cond (Nat.beq T 52) (some ⟨.func, 1, 8, none⟩) none)))))) (cond (Nat.blt T 61) (cond (Nat.blt T 57) (cond (Nat.blt T 55) (cond (Nat.blt T 54) (cond (Nat.beq T 53) (some ⟨.func, 1, 8, none⟩) none) (cond (Nat.beq T 54) (some ⟨.func, 1, 8, none⟩) none)) (cond (Nat.blt T 56) (cond (Nat.beq T 55) (some ⟨.func, 1, 8, none⟩) none) (cond (Nat.beq T 56) (some ⟨.func, 1, 8, none⟩) none))) (cond (Nat.blt T 59) (cond (Nat.blt T 58) (cond (Nat.beq T 57) (some ⟨.func, 1, 8, none⟩) none) (cond (Nat.beq T 58) (some ⟨.func, 1, 8, none⟩) none)) (cond (Nat.blt T 60) (cond (Nat.beq T 59) (some ⟨.func, 1, 8, none⟩) none) (cond (Nat.beq T 60) (some ⟨(.struct [(0, 3), (1, 3)]), 2, 16, some (.pair (.int .i64) (.int .i64))⟩) none)))) (cond (Nat.blt T 66) (cond (Nat.blt T 63) (cond (Nat.blt T 62) (cond (Nat.beq T 61) (some ⟨(.struct [(0, 3), (1, 3)]), 2, 16, some (.pair (.int .i64) (.int .i64))⟩) none) (cond (Nat.beq T 62) (some ⟨(.array 4 3), 4, 32, some (.arr 4 (.int .i64))⟩) none)) (cond (Nat.blt T 65) (cond (Nat.beq T 63) (some ⟨.func, 1, 8, none⟩) none) (cond (Nat.beq T 65) (some ⟨.func, 1, 8, none⟩) none))) (cond (Nat.blt T 68) (cond (Nat.blt T 67) (cond (Nat.beq T 66) (some ⟨.func, 1, 8, none⟩) none) (cond (Nat.beq T 67) (some ⟨.func, 1, 8, none⟩) none)) (cond (Nat.blt T 69) (cond (Nat.beq T 68) (some ⟨.func, 1, 8, none⟩) none) (cond (Nat.blt T 70) (cond (Nat.beq T 69) (some ⟨.func, 1, 8, none⟩) none) (cond (Nat.beq T 70) (some ⟨.func, 1, 8, none⟩) none)))))))) (cond (Nat.blt T 108) (cond (Nat.blt T 89) (cond (Nat.blt T 80) (cond (Nat.blt T 76) (cond (Nat.blt T 73) (cond (Nat.blt T 72) (cond (Nat.beq T 71) (some ⟨(.array 9 4), 9, 9, some (.arr 9 .bool)⟩) none) (cond (Nat.beq T 72) (some ⟨(.array 15 9), 15, 240, some (.arr 15 .str)⟩) none)) (cond (Nat.blt T 74) (cond (Nat.beq T 73) (some ⟨(.struct [(0, 22), (1, 28)]), 2, 32, some (.pair (.slice (.int .u8)) (.int .i64))⟩) none) (cond (Nat.beq T 74) (some ⟨(.struct [(0, 22), (1, 28)]), 2, 32, some (.pair (.slice (.int .u8)) (.int .i64))⟩) none))) (cond (Nat.blt T 78) (cond (Nat.blt T 77) (cond (Nat.beq T 76) (some ⟨.func, 1, 8, none⟩) none) (cond (Nat.beq T 77) (some ⟨(.int .u64), 1, 8, some (.int .u64)⟩) none)) (cond (Nat.blt T 79) (cond (Nat.beq T 78) (some ⟨.func, 1, 8, none⟩) none) (cond (Nat.beq T 79) (some ⟨.func, 1, 8, none⟩) none)))) (cond (Nat.blt T 84) (cond (Nat.blt T 82) (cond (Nat.blt T 81) (cond (Nat.beq T 80) (some ⟨.func, 1, 8, none⟩) none) (cond (Nat.beq T 81) (some ⟨.func, 1, 8, none⟩) none)) (cond (Nat.blt T 83) (cond (Nat.beq T 82) (some ⟨.func, 1, 8, none⟩) none) (cond (Nat.beq T 83) (some ⟨.func, 1, 8, none⟩) none))) (cond (Nat.blt T 87) (cond (Nat.blt T 85) (cond (Nat.beq T 84) (some ⟨.func, 1, 8, none⟩) none) (cond (Nat.beq T 85) (some ⟨.func, 1, 8, none⟩) none)) (cond (Nat.blt T 88) (cond (Nat.beq T 87) (some ⟨.func, 1, 8, none⟩) none) (cond (Nat.beq T 88) (some ⟨(.int .u64), 1, 8, some (.int .u64)⟩) none))))) (cond (Nat.blt T 98) (cond (Nat.blt T 93) (cond (Nat.blt T 91) (cond (Nat.blt T 90) (cond (Nat.beq T 89) (some ⟨.func, 1, 8, none⟩) none) (cond (Nat.beq T 90) (some ⟨.func, 1, 8, none⟩) none)) (cond (Nat.blt T 92) (cond (Nat.beq T 91) (some ⟨(.slice 9), 1, 24, some (.slice .str)⟩) none) (cond (Nat.beq T 92) (some ⟨.func, 1, 8, none⟩) none))) (cond (Nat.blt T 96) (cond (Nat.blt T 95) (cond (Nat.beq T 93) (some ⟨.func, 1, 8, none⟩) none) (cond (Nat.beq T 95) (some ⟨.func, 1, 8, none⟩) none)) (cond (Nat.blt T 97) (cond (Nat.beq T 96) (some ⟨.func, 1, 8, none⟩) none) (cond (Nat.beq T 97) (some ⟨.func, 1, 8, none⟩) none)))) (cond (Nat.blt T 103) (cond (Nat.blt T 100) (cond (Nat.blt T 99) (cond (Nat.beq T 98) (some ⟨.func, 1, 8, none⟩) none) (cond (Nat.beq T 99) (some ⟨.func, 1, 8, none⟩) none)) (cond (Nat.blt T 101) (cond (Nat.beq T 100) (some ⟨.func, 1, 8, none⟩) none) (cond (Nat.beq T 101) (some ⟨.func, 1, 8, none⟩) none))) (cond (Nat.blt T 105) (cond (Nat.blt T 104) (cond (Nat.beq T 103) (some ⟨.func, 1, 8, none⟩) none) (cond (Nat.beq T 104) (some ⟨.func, 1, 8, none⟩) none)) (cond (Nat.blt T 106) (cond (Nat.beq T 105) (some ⟨.func, 1, 8, none⟩) none) (cond (Nat.blt T 107) (cond (Nat.beq T 106) (some ⟨.func, 1, 8, none⟩) none) (cond (Nat.beq T 107) (some ⟨.func, 1, 8, none⟩) none))))))) (cond (Nat.blt T 125) (cond (Nat.blt T 116) (cond (Nat.blt T 112) (cond (Nat.blt T 110) (cond (Nat.blt T 109) (cond (Nat.beq T 108) (some ⟨.func, 1, 8, none⟩) none) (cond (Nat.beq T 109) (some ⟨(.array 128 38), 128, 256, some (.arr 128 (.int .u16))⟩) none)) (cond (Nat.blt T 111) (cond (Nat.beq T 110) (some ⟨(.slice 112), 1, 24, some (.slice (.pair (.int .u16) (.int .u16)))⟩) none) (cond (Nat.beq T 111) (some ⟨(.struct [(0, 38), (1, 38)]), 2, 4, some (.pair (.int .u16) (.int .u16))⟩) none))) (cond (Nat.blt T 114) (cond (Nat.blt T 113) (cond (Nat.beq T 112) (some ⟨(.struct [(0, 38), (1, 38)]), 2, 4, some (.pair (.int .u16) (.int .u16))⟩) none) (cond (Nat.beq T 113) (some ⟨(.ptr 126), 1, 8, none⟩) none)) (cond (Nat.blt T 115) (cond (Nat.beq T 114) (some ⟨.func, 1, 8, none⟩) none) (cond (Nat.beq T 115) (some ⟨(.slice 126), 1, 24, some (.slice (.pair (.int .u32) (.pair (.int .u32) (.arr 3 (.int .i32)))))⟩) none)))) (cond (Nat.blt T 120) (cond (Nat.blt T 118) (cond (Nat.blt T 117) (cond (Nat.beq T 116) (some ⟨.func, 1, 8, none⟩) none) (cond (Nat.beq T 117) (some ⟨.func, 1, 8, none⟩) none)) (cond (Nat.blt T 119) (cond (Nat.beq T 118) (some ⟨(.array 256 5), 256, 256, some (.arr 256 (.int .u8))⟩) none) (cond (Nat.beq T 119) (some ⟨(.struct [(0, 5), (1, 5)]), 2, 2, some (.pair (.int .u8) (.int .u8))⟩) none))) (cond (Nat.blt T 122) (cond (Nat.blt T 121) (cond (Nat.beq T 120) (some ⟨(.struct [(0, 5), (1, 5)]), 2, 2, some (.pair (.int .u8) (.int .u8))⟩) none) (cond (Nat.beq T 121) (some ⟨(.array 16 120), 32, 32, some (.arr 16 (.pair (.int .u8) (.int .u8)))⟩) none)) (cond (Nat.blt T 123) (cond (Nat.beq T 122) (some ⟨(.int .u32), 1, 4, some (.int .u32)⟩) none) (cond (Nat.blt T 124) (cond (Nat.beq T 123) (some ⟨(.array 3 21), 3, 12, some (.arr 3 (.int .i32))⟩) none) (cond (Nat.beq T 124) (some ⟨(.array 3 21), 3, 12, some (.arr 3 (.int .i32))⟩) none)))))) (cond (Nat.blt T 134) (cond (Nat.blt T 130) (cond (Nat.blt T 127) (cond (Nat.blt T 126) (cond (Nat.beq T 125) (some ⟨(.struct [(0, 122), (1, 122), (2, 124)]), 5, 20, some (.pair (.int .u32) (.pair (.int .u32) (.arr 3 (.int .i32))))⟩) none) (cond (Nat.beq T 126) (some ⟨(.struct [(0, 122), (1, 122), (2, 124)]), 5, 20, some (.pair (.int .u32) (.pair (.int .u32) (.arr 3 (.int .i32))))⟩) none)) (cond (Nat.blt T 129) (cond (Nat.beq T 127) (some ⟨.func, 1, 8, none⟩) none) (cond (Nat.beq T 129) (some ⟨.func, 1, 8, none⟩) none))) (cond (Nat.blt T 132) (cond (Nat.blt T 131) (cond (Nat.beq T 130) (some ⟨(.struct [(0, 17), (1, 17), (2, 17), (3, 9)]), 4, 40, none⟩) none) (cond (Nat.beq T 131) (some ⟨(.struct [(0, 17), (1, 17), (2, 17), (3, 9)]), 4, 40, none⟩) none)) (cond (Nat.blt T 133) (cond (Nat.beq T 132) (some ⟨(.array 0 16), 0, 0, none⟩) none) (cond (Nat.beq T 133) (some ⟨(.struct [(0, 132)]), 0, 0, none⟩) none)))) (cond (Nat.blt T 138) (cond (Nat.blt T 136) (cond (Nat.blt T 135) (cond (Nat.beq T 134) (some ⟨(.struct [(0, 132)]), 0, 0, none⟩) none) (cond (Nat.beq T 135) (some ⟨(.int .u8), 1, 1, some (.int .u8)⟩) none)) (cond (Nat.blt T 137) (cond (Nat.beq T 136) (some ⟨(.int .u8), 1, 1, some (.int .u8)⟩) none) (cond (Nat.beq T 137) (some ⟨.func, 1, 8, none⟩) none))) (cond (Nat.blt T 140) (cond (Nat.blt T 139) (cond (Nat.beq T 138) (some ⟨(.ptr 5), 1, 8, none⟩) none) (cond (Nat.beq T 139) (some ⟨(.int .i32), 1, 4, some (.int .i32)⟩) none)) (cond (Nat.blt T 141) (cond (Nat.beq T 140) (some ⟨(.int .i32), 1, 4, some (.int .i32)⟩) none) (cond (Nat.blt T 142) (cond (Nat.beq T 141) (some ⟨(.struct [(0, 12), (1, 12), (2, 122), (3, 135), (4, 5), (5, 5), (6, 136), (7, 137), (8, 138), (9, 139), (10, 140)]), 11, 48, none⟩) none) (cond (Nat.beq T 142) (some ⟨(.struct [(0, 12), (1, 12), (2, 122), (3, 135), (4, 5), (5, 5), (6, 136), (7, 137), (8, 138), (9, 139), (10, 140)]), 11, 48, none⟩) none))))))))
end Go.Proofs.YtllmhikoaklpbaaDoor

set_option linter.unusedVariables false
set_option linter.unusedSimpArgs false
set_option maxRecDepth 100000
namespace Go.Proofs.YtllmhikoaklpbaaDoor
open Go.Vc
inductive Ent where
  | sum (s : Vc.Sum)
  | seq (q : SeqD)
def lk : List (Nat × Ent) → Nat → Option Vc.Sum
  | [], _ => none
  | (i, .sum s) :: r, f => cond (Nat.beq i f) (some s) (lk r f)
  | (_, .seq _) :: r, f => lk r f
def lkq : List (Nat × Ent) → Nat → Option SeqD
  | [], _ => none
  | (i, .seq s) :: r, f => cond (Nat.beq i f) (some s) (lkq r f)
  | (_, .sum _) :: r, f => lkq r f
def tabL (T : Nat) : Option TI := cond (Nat.blt T 144) (tab T) none
def zer (T : Nat) : Option (List Leaf) := cond (Nat.blt T 70) (cond (Nat.blt T 44) (cond (Nat.blt T 32) (cond (Nat.blt T 19) (cond (Nat.blt T 16) (cond (Nat.blt T 15) (cond (Nat.beq T 1) (some [.nilf]) none) (cond (Nat.beq T 15) (some [.nilp]) none)) (cond (Nat.blt T 17) (cond (Nat.beq T 16) (some [.nilp]) none) (cond (Nat.blt T 18) (cond (Nat.beq T 17) (some [.nilp]) none) (cond (Nat.beq T 18) (some [.nilp]) none)))) (cond (Nat.blt T 23) (cond (Nat.blt T 20) (cond (Nat.beq T 19) (some [.nilp]) none) (cond (Nat.beq T 20) (some [.nili]) none)) (cond (Nat.blt T 30) (cond (Nat.beq T 23) (some [.nilf]) none) (cond (Nat.blt T 31) (cond (Nat.beq T 30) (some [.nilf]) none) (cond (Nat.beq T 31) (some [.nilf]) none))))) (cond (Nat.blt T 39) (cond (Nat.blt T 35) (cond (Nat.blt T 33) (cond (Nat.beq T 32) (some [.nilf]) none) (cond (Nat.beq T 33) (some [.nilf]) none)) (cond (Nat.blt T 36) (cond (Nat.beq T 35) (some [.nilf]) none) (cond (Nat.blt T 37) (cond (Nat.beq T 36) (some [.nilf]) none) (cond (Nat.beq T 37) (some [.nilf]) none)))) (cond (Nat.blt T 41) (cond (Nat.blt T 40) (cond (Nat.beq T 39) (some [.nilf]) none) (cond (Nat.beq T 40) (some [.nilf]) none)) (cond (Nat.blt T 42) (cond (Nat.beq T 41) (some [.nilf]) none) (cond (Nat.blt T 43) (cond (Nat.beq T 42) (some [.nilp]) none) (cond (Nat.beq T 43) (some [.nilf]) none)))))) (cond (Nat.blt T 56) (cond (Nat.blt T 49) (cond (Nat.blt T 46) (cond (Nat.blt T 45) (cond (Nat.beq T 44) (some [.nilf]) none) (cond (Nat.beq T 45) (some [.nilf]) none)) (cond (Nat.blt T 47) (cond (Nat.beq T 46) (some [.nilf]) none) (cond (Nat.blt T 48) (cond (Nat.beq T 47) (some [.nilp]) none) (cond (Nat.beq T 48) (some [.nilf]) none)))) (cond (Nat.blt T 53) (cond (Nat.blt T 52) (cond (Nat.beq T 49) (some [.nilp]) none) (cond (Nat.beq T 52) (some [.nilf]) none)) (cond (Nat.blt T 54) (cond (Nat.beq T 53) (some [.nilf]) none) (cond (Nat.blt T 55) (cond (Nat.beq T 54) (some [.nilf]) none) (cond (Nat.beq T 55) (some [.nilf]) none))))) (cond (Nat.blt T 65) (cond (Nat.blt T 58) (cond (Nat.blt T 57) (cond (Nat.beq T 56) (some [.nilf]) none) (cond (Nat.beq T 57) (some [.nilf]) none)) (cond (Nat.blt T 59) (cond (Nat.beq T 58) (some [.nilf]) none) (cond (Nat.blt T 63) (cond (Nat.beq T 59) (some [.nilf]) none) (cond (Nat.beq T 63) (some [.nilf]) none)))) (cond (Nat.blt T 67) (cond (Nat.blt T 66) (cond (Nat.beq T 65) (some [.nilf]) none) (cond (Nat.beq T 66) (some [.nilf]) none)) (cond (Nat.blt T 68) (cond (Nat.beq T 67) (some [.nilf]) none) (cond (Nat.blt T 69) (cond (Nat.beq T 68) (some [.nilf]) none) (cond (Nat.beq T 69) (some [.nilf]) none))))))) (cond (Nat.blt T 100) (cond (Nat.blt T 87) (cond (Nat.blt T 81) (cond (Nat.blt T 78) (cond (Nat.blt T 76) (cond (Nat.beq T 70) (some [.nilf]) none) (cond (Nat.beq T 76) (some [.nilf]) none)) (cond (Nat.blt T 79) (cond (Nat.beq T 78) (some [.nilf]) none) (cond (Nat.blt T 80) (cond (Nat.beq T 79) (some [.nilf]) none) (cond (Nat.beq T 80) (some [.nilf]) none)))) (cond (Nat.blt T 83) (cond (Nat.blt T 82) (cond (Nat.beq T 81) (some [.nilf]) none) (cond (Nat.beq T 82) (some [.nilf]) none)) (cond (Nat.blt T 84) (cond (Nat.beq T 83) (some [.nilf]) none) (cond (Nat.blt T 85) (cond (Nat.beq T 84) (some [.nilf]) none) (cond (Nat.beq T 85) (some [.nilf]) none))))) (cond (Nat.blt T 95) (cond (Nat.blt T 90) (cond (Nat.blt T 89) (cond (Nat.beq T 87) (some [.nilf]) none) (cond (Nat.beq T 89) (some [.nilf]) none)) (cond (Nat.blt T 92) (cond (Nat.beq T 90) (some [.nilf]) none) (cond (Nat.blt T 93) (cond (Nat.beq T 92) (some [.nilf]) none) (cond (Nat.beq T 93) (some [.nilf]) none)))) (cond (Nat.blt T 97) (cond (Nat.blt T 96) (cond (Nat.beq T 95) (some [.nilf]) none) (cond (Nat.beq T 96) (some [.nilf]) none)) (cond (Nat.blt T 98) (cond (Nat.beq T 97) (some [.nilf]) none) (cond (Nat.blt T 99) (cond (Nat.beq T 98) (some [.nilf]) none) (cond (Nat.beq T 99) (some [.nilf]) none)))))) (cond (Nat.blt T 116) (cond (Nat.blt T 106) (cond (Nat.blt T 103) (cond (Nat.blt T 101) (cond (Nat.beq T 100) (some [.nilf]) none) (cond (Nat.beq T 101) (some [.nilf]) none)) (cond (Nat.blt T 104) (cond (Nat.beq T 103) (some [.nilf]) none) (cond (Nat.blt T 105) (cond (Nat.beq T 104) (some [.nilf]) none) (cond (Nat.beq T 105) (some [.nilf]) none)))) (cond (Nat.blt T 108) (cond (Nat.blt T 107) (cond (Nat.beq T 106) (some [.nilf]) none) (cond (Nat.beq T 107) (some [.nilf]) none)) (cond (Nat.blt T 113) (cond (Nat.beq T 108) (some [.nilf]) none) (cond (Nat.blt T 114) (cond (Nat.beq T 113) (some [.nilp]) none) (cond (Nat.beq T 114) (some [.nilf]) none))))) (cond (Nat.blt T 131) (cond (Nat.blt T 127) (cond (Nat.blt T 117) (cond (Nat.beq T 116) (some [.nilf]) none) (cond (Nat.beq T 117) (some [.nilf]) none)) (cond (Nat.blt T 129) (cond (Nat.beq T 127) (some [.nilf]) none) (cond (Nat.blt T 130) (cond (Nat.beq T 129) (some [.nilf]) none) (cond (Nat.beq T 130) (some [.nilp, .nilp, .nilp, .str []]) none)))) (cond (Nat.blt T 138) (cond (Nat.blt T 137) (cond (Nat.beq T 131) (some [.nilp, .nilp, .nilp, .str []]) none) (cond (Nat.beq T 137) (some [.nilf]) none)) (cond (Nat.blt T 141) (cond (Nat.beq T 138) (some [.nilp]) none) (cond (Nat.blt T 142) (cond (Nat.beq T 141) (some [.int .u64 0, .int .u64 0, .int .u32 0, .int .u8 0, .int .u8 0, .int .u8 0, .int .u8 0, .nilf, .nilp, .int .i32 0, .int .i32 0]) none) (cond (Nat.beq T 142) (some [.int .u64 0, .int .u64 0, .int .u32 0, .int .u8 0, .int .u8 0, .int .u8 0, .int .u8 0, .nilf, .nilp, .int .i32 0, .int .i32 0]) none)))))))
def gEventParts : List (List Int) := [[], [98], [98], [98, 116], [98], [98], [98, 102, 100, 121], [98, 105, 109, 102], [98, 116, 105], [98, 105], [110], [98, 110], [98, 115], [110], [105]]
def gl : Nat → Option (Sigma Ty.den) := fun g => cond (Nat.beq g 0) (some ⟨.arr 15 (.str), gEventParts⟩) (none)
def xpT (f : Nat) : List Nat := []
def eqsT (T : Nat) : Bool := cond (Nat.blt T 118) (cond (Nat.blt T 62) (cond (Nat.beq T 61) (true) false) (cond (Nat.blt T 109) (cond (Nat.beq T 62) (true) false) (cond (Nat.beq T 109) (true) false))) (cond (Nat.blt T 123) (cond (Nat.blt T 120) (cond (Nat.beq T 118) (true) false) (cond (Nat.beq T 120) (true) false)) (cond (Nat.blt T 124) (cond (Nat.beq T 123) (true) false) (cond (Nat.beq T 124) (true) false)))
def cfgOf (l : List (Nat × Ent)) : Cfg := ⟨tabL, lk l, gl, fun T => cond (Nat.blt T 144) (zer T) none, xpT, fun T => cond (Nat.blt T 144) (eqsT T) false, lkq l, none⟩
def rI (x : Int) : Done := ⟨[], .one (.int .i64 x), [], []⟩
def rB (x : Bool) : Done := ⟨[], .one (.bool x), [], []⟩
def lpOf (f k : Nat) (l : Vc.Loop) : Nat → List V → Nat → Option Vc.Loop := fun f' _ k' => cond (Nat.beq f f' && Nat.beq k k') (some l) none
def lpOf2 (f k : Nat) (l : Vc.Loop) (k2 : Nat) (l2 : Vc.Loop) : Nat → List V → Nat → Option Vc.Loop := fun f' _ k' => cond (Nat.beq f f') (cond (Nat.beq k k') (some l) (cond (Nat.beq k2 k') (some l2) none)) none
def lpOr (a b : Nat → List V → Nat → Option Vc.Loop) : Nat → List V → Nat → Option Vc.Loop := fun f v k => match a f v k with
  | some l => some l
  | none => b f v k
def kp (l : List Nat) : Keep := { keep := l }
def kw (l : List Nat) (a : List (Nat × Nat)) (b : List (Nat × Nat × Nat)) : Keep := { keep := l, wake := a, wakeO := b }
namespace U
def n (k : Nat) : List (Option SV) := List.replicate k none
def sI (x : Int) : Option SV := some (.one (.int .i64 x))
def sK (k : IntKind) (x : Int) : Option SV := some (.one (.int k x))
def sB (b : Bool) : Option SV := some (.one (.bool b))
def sS (l : List Int) : Option SV := some (.one (.str l))
def sL (fr : Bool) (t : Ty) (l : List t.den) : Option SV := some (.one (.psl fr t l))
def sP (i o : Nat) : Option SV := some (.one (.ptr i o))
def own (k : Nat) : Option SV := some (.one (.own k))
def shN : List V → Bool
  | ⟨false, [.nils]⟩ :: _ => true
  | _ => false
def shO : List V → Bool
  | ⟨false, [.own _]⟩ :: _ => true
  | _ => false
def shS : List V → Bool
  | ⟨false, [.sl _ _ _]⟩ :: _ => true
  | ⟨false, [.sf _ _ _]⟩ :: _ => true
  | _ => false
def nil_ : Option SV := some (.one .nils)
def slc (k lo n : Nat) : Option SV := some (.one (.sl k lo n))
def sfc (k lo n : Nat) : Option SV := some (.one (.sf k lo n))
def clo (f : Nat) : List V → Bool
  | [] => false
  | ⟨false, [.fn g _]⟩ :: r => cond (Nat.beq f g) true (clo f r)
  | _ :: r => clo f r
def sF (f : Nat) (c : List Nat) : Option SV := some (.one (.fn f c))
def at_ {α : Type} (l : List α) (i : Int) : Prop := 0 ≤ i ∧ i ≤ l.length
end U
theorem tab_all : ((List.range 144).all fun T => match tab T with | some t => tiB Tryd.prog T t | none => true) = true := by kernel_rfl
theorem zer_all : ((List.range 144).all fun T => match zer T with | some ls => zeroB Tryd.prog T ls | none => true) = true := by kernel_rfl
theorem eqs_all : ((List.range 144).all fun T => cond (eqsT T) (eqB Tryd.prog T) true) = true := by kernel_rfl
theorem tabOk0 (l : List (Nat × Ent)) : ∀ T t, (cfgOf l).ti T = some t → TiOk Tryd.prog T t := by
  intro T t h
  have h : cond (Nat.blt T 144) (tab T) none = some t := h
  cases hb : Nat.blt T 144 with
  | false => rw [hb] at h; cases h
  | true =>
    rw [hb] at h
    have h : tab T = some t := h
    have := List.all_eq_true.1 tab_all T (List.mem_range.2 (by simpa [Nat.blt_eq] using hb))
    rw [h] at this
    exact tiB_ok this
theorem tabOk (l : List (Nat × Ent)) : TabOk Tryd.prog (cfgOf l) := by
  refine ⟨tabOk0 l, fun T ls h => ?_, fun T h => ?_⟩
  rotate_left
  · have h : cond (Nat.blt T 144) (eqsT T) false = true := h
    cases hb : Nat.blt T 144 with
    | false => rw [hb] at h; cases h
    | true =>
      rw [hb] at h
      have h : eqsT T = true := h
      have := List.all_eq_true.1 eqs_all T (List.mem_range.2 (by simpa [Nat.blt_eq] using hb))
      rw [h] at this
      exact eqB_ok this
  have h : cond (Nat.blt T 144) (zer T) none = some ls := h
  cases hb : Nat.blt T 144 with
  | false => rw [hb] at h; cases h
  | true =>
    rw [hb] at h
    have h : zer T = some ls := h
    have := List.all_eq_true.1 zer_all T (List.mem_range.2 (by simpa [Nat.blt_eq] using hb))
    rw [h] at this
    exact zeroB_ok this
theorem mixed : Tryd.prog.follows .mixedOrders = true := by kernel_rfl
def EntOk (f : Nat) : Ent → Prop
  | .sum s => SumOk Tryd.prog gl f s
  | .seq q => SeqOk Tryd.prog gl f q
abbrev AllOk (l : List (Nat × Ent)) : Prop := ∀ p ∈ l, EntOk p.1 p.2
theorem lk_mem {f : Nat} {s : Vc.Sum} : ∀ {l : List (Nat × Ent)}, lk l f = some s → (f, .sum s) ∈ l
  | [], h => by cases h
  | (i, .sum t) :: r, h => by
    unfold lk at h
    cases hb : Nat.beq i f with
    | true =>
      rw [hb] at h
      have h : some t = some s := h
      cases h
      rw [Nat.eq_of_beq_eq_true hb]; simp
    | false => rw [hb] at h; exact List.mem_cons_of_mem _ (lk_mem h)
  | (_, .seq _) :: r, h => List.mem_cons_of_mem _ (lk_mem (l := r) h)
theorem lkq_mem {f : Nat} {s : SeqD} : ∀ {l : List (Nat × Ent)}, lkq l f = some s → (f, .seq s) ∈ l
  | [], h => by cases h
  | (i, .seq t) :: r, h => by
    unfold lkq at h
    cases hb : Nat.beq i f with
    | true =>
      rw [hb] at h
      have h : some t = some s := h
      cases h
      rw [Nat.eq_of_beq_eq_true hb]; simp
    | false => rw [hb] at h; exact List.mem_cons_of_mem _ (lkq_mem h)
  | (_, .sum _) :: r, h => List.mem_cons_of_mem _ (lkq_mem (l := r) h)
theorem sums_of {l : List (Nat × Ent)} (h : AllOk l) : SumsOk Tryd.prog (cfgOf l) := fun _ _ hs => h _ (lk_mem hs)
theorem seqs_of {l : List (Nat × Ent)} (h : AllOk l) : SeqsOk Tryd.prog (cfgOf l) := fun _ _ hs => h _ (lkq_mem hs)
theorem allNil : AllOk [] := fun p hp => by cases hp
theorem AllOk.cons {f : Nat} {s : Ent} {l : List (Nat × Ent)} (h : EntOk f s) (hl : AllOk l) : AllOk ((f, s) :: l) := fun p hp => by
  rcases List.mem_cons.1 hp with rfl | hp
  · exact h
  · exact hl p hp
abbrev Pok (f : Nat) (ts : List Ty) (F : DenL ts → Done) : Prop := PureOk Tryd.prog gl f ts F
theorem pk {f : Nat} {ts : List Ty} {F : DenL ts → Done} {L : DenL ts → Nat → List V → Nat → Option Vc.Loop} {l : List (Nat × Ent)} (hl : AllOk l) (hback : ∀ x, (F x).back = [])
    (h : ∀ x, ValidL ts x → (∀ p ∈ (F x).pre, p) → Owes Tryd.prog (cfgOf l) (L x) f (argVs ts x) [] (F x)) : Pok f ts F :=
  pureOk_of (cfg := cfgOf l) rfl (tabOk l) (sums_of hl) (seqs_of hl) mixed hback h
theorem pkc {f : Nat} {ts cs : List Ty} {F : DenL ts → DenL cs → Done} {L : DenL ts → DenL cs → Nat → List V → Nat → Option Vc.Loop} {l : List (Nat × Ent)} (hl : AllOk l) (hback : ∀ x y, (F x y).back = [])
    (h : ∀ x y, ValidL ts x → ValidL cs y → (∀ p ∈ (F x y).pre, p) → Owes Tryd.prog (cfgOf l) (L x y) f (argVs ts x ++ ptrVs cs y) [] (F x y)) : CloOk Tryd.prog gl f ts cs F :=
  cloOk_of (cfg := cfgOf l) rfl (tabOk l) (sums_of hl) (seqs_of hl) mixed hback h
def orE : Option Done → Option Done → Option Done
  | some d, _ => some d
  | none, y => y
theorem orE_some {a b : Option Done} {d : Done} (h : orE a b = some d) : a = some d ∨ b = some d := by
  cases a with
  | none => exact .inr h
  | some x => exact .inl h
theorem cond_some {b : Bool} {x d : Done} (h : cond b (some x) none = some d) : b = true ∧ d = x := by
  cases b with
  | false => cases h
  | true => cases h; exact ⟨rfl, rfl⟩
theorem pkg {f : Nat} {F : List V → List Entry → Option Done} {l : List (Nat × Ent)} (hl : AllOk l) (hlen : ∀ args es d, F args es = some d → d.back.length = es.length)
    (h : ∀ args es d, F args es = some d → (∀ v ∈ args, ∀ l ∈ v.ls, LVal l) → (∀ e ∈ es, EVal e) → (∀ p ∈ d.pre, p) → ∃ L, Owes Tryd.prog (cfgOf l) L f args es d) : GenOk Tryd.prog gl f F :=
  genOk_of (cfg := cfgOf l) rfl (tabOk l) (sums_of hl) (seqs_of hl) mixed hlen h
theorem pkq {f : Nat} {q : SeqD} {L : DenL q.cs → Nat → List V → Nat → Option Vc.Loop} {l : List (Nat × Ent)} (hl : AllOk l) (hhas : hasBody Tryd.prog f = true)
    (h : ∀ y, ValidL q.cs y → (∀ p ∈ q.pre y, p) → OwesSeq Tryd.prog (cfgOf l) (L y) f q y) : SeqOk Tryd.prog gl f q :=
  seqOk_of (cfg := cfgOf l) rfl (tabOk l) (sums_of hl) (seqs_of hl) mixed hhas h
end Go.Proofs.YtllmhikoaklpbaaDoor
