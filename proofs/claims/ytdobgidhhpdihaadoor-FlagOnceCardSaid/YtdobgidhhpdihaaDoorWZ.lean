/- The types of the seat's program, as a table (made by gentab.py). -/
import Derived.Test.YtdobgidhhpdihaaDoorProg
import Derived.Test.YtdobgidhhpdihaaDoorWVcA
import Derived.Test.YtdobgidhhpdihaaDoorWVcF
set_option linter.unusedVariables false
set_option linter.unusedSimpArgs false
set_option maxRecDepth 100000
namespace Go.Proofs.YtdobgidhhpdihaaDoor
open Go.Vc
def tab (T : Nat) : Option TI := cond (Nat.blt T 47) (cond (Nat.blt T 22) (cond (Nat.blt T 11) (cond (Nat.blt T 6) (cond (Nat.blt T 3) (cond (Nat.blt T 2) (cond (Nat.beq T 1) (some ⟨.func, 1, 8, none⟩) none) (cond (Nat.beq T 2) (some ⟨(.int .i64), 1, 8, some (.int .i64)⟩) none)) (cond (Nat.blt T 4) (cond (Nat.beq T 3) (some ⟨(.int .i64), 1, 8, some (.int .i64)⟩) none) (cond (Nat.blt T 5) (cond (Nat.beq T 4) (some ⟨.bool, 1, 1, some .bool⟩) none) (cond (Nat.beq T 5) (some ⟨(.int .u8), 1, 1, some (.int .u8)⟩) none)))) (cond (Nat.blt T 8) (cond (Nat.blt T 7) (cond (Nat.beq T 6) (some ⟨(.int .u8), 1, 1, some (.int .u8)⟩) none) (cond (Nat.beq T 7) (some ⟨(.struct [(0, 2), (1, 3), (2, 4), (3, 6)]), 4, 24, some (.pair (.int .i64) (.pair (.int .i64) (.pair .bool (.int .u8))))⟩) none)) (cond (Nat.blt T 9) (cond (Nat.beq T 8) (some ⟨(.struct [(0, 2), (1, 3), (2, 4), (3, 6)]), 4, 24, some (.pair (.int .i64) (.pair (.int .i64) (.pair .bool (.int .u8))))⟩) none) (cond (Nat.blt T 10) (cond (Nat.beq T 9) (some ⟨.str, 1, 16, some .str⟩) none) (cond (Nat.beq T 10) (some ⟨.str, 1, 16, some .str⟩) none))))) (cond (Nat.blt T 16) (cond (Nat.blt T 13) (cond (Nat.blt T 12) (cond (Nat.beq T 11) (some ⟨.str, 1, 16, some .str⟩) none) (cond (Nat.beq T 12) (some ⟨(.int .u64), 1, 8, some (.int .u64)⟩) none)) (cond (Nat.blt T 14) (cond (Nat.beq T 13) (some ⟨(.struct [(0, 9), (1, 12)]), 2, 24, some (.pair .str (.int .u64))⟩) none) (cond (Nat.blt T 15) (cond (Nat.beq T 14) (some ⟨(.struct [(0, 9), (1, 12)]), 2, 24, some (.pair .str (.int .u64))⟩) none) (cond (Nat.beq T 15) (some ⟨(.ptr 81), 1, 8, none⟩) none)))) (cond (Nat.blt T 19) (cond (Nat.blt T 17) (cond (Nat.beq T 16) (some ⟨(.ptr 84), 1, 8, none⟩) none) (cond (Nat.blt T 18) (cond (Nat.beq T 17) (some ⟨(.ptr 92), 1, 8, none⟩) none) (cond (Nat.beq T 18) (some ⟨(.struct [(0, 17)]), 1, 8, none⟩) none))) (cond (Nat.blt T 20) (cond (Nat.beq T 19) (some ⟨(.struct [(0, 17)]), 1, 8, none⟩) none) (cond (Nat.blt T 21) (cond (Nat.beq T 20) (some ⟨.iface, 1, 16, none⟩) none) (cond (Nat.beq T 21) (some ⟨(.int .i32), 1, 4, some (.int .i32)⟩) none)))))) (cond (Nat.blt T 34) (cond (Nat.blt T 28) (cond (Nat.blt T 24) (cond (Nat.blt T 23) (cond (Nat.beq T 22) (some ⟨(.array 3 5), 3, 3, some (.arr 3 (.int .u8))⟩) none) (cond (Nat.beq T 23) (some ⟨.func, 1, 8, none⟩) none)) (cond (Nat.blt T 26) (cond (Nat.beq T 24) (some ⟨(.int .i64), 1, 8, some (.int .i64)⟩) none) (cond (Nat.blt T 27) (cond (Nat.beq T 26) (some ⟨.func, 1, 8, none⟩) none) (cond (Nat.beq T 27) (some ⟨(.slice 5), 1, 24, some (.slice (.int .u8))⟩) none)))) (cond (Nat.blt T 31) (cond (Nat.blt T 29) (cond (Nat.beq T 28) (some ⟨.func, 1, 8, none⟩) none) (cond (Nat.blt T 30) (cond (Nat.beq T 29) (some ⟨.func, 1, 8, none⟩) none) (cond (Nat.beq T 30) (some ⟨(.slice 9), 1, 24, some (.slice .str)⟩) none))) (cond (Nat.blt T 32) (cond (Nat.beq T 31) (some ⟨(.array 3 3), 3, 24, some (.arr 3 (.int .i64))⟩) none) (cond (Nat.blt T 33) (cond (Nat.beq T 32) (some ⟨.func, 1, 8, none⟩) none) (cond (Nat.beq T 33) (some ⟨.func, 1, 8, none⟩) none))))) (cond (Nat.blt T 39) (cond (Nat.blt T 36) (cond (Nat.blt T 35) (cond (Nat.beq T 34) (some ⟨.func, 1, 8, none⟩) none) (cond (Nat.beq T 35) (some ⟨.func, 1, 8, none⟩) none)) (cond (Nat.blt T 37) (cond (Nat.beq T 36) (some ⟨.func, 1, 8, none⟩) none) (cond (Nat.blt T 38) (cond (Nat.beq T 37) (some ⟨(.struct [(0, 9), (1, 3)]), 2, 24, some (.pair .str (.int .i64))⟩) none) (cond (Nat.beq T 38) (some ⟨(.array 5 37), 10, 120, some (.arr 5 (.pair .str (.int .i64)))⟩) none)))) (cond (Nat.blt T 43) (cond (Nat.blt T 40) (cond (Nat.beq T 39) (some ⟨.func, 1, 8, none⟩) none) (cond (Nat.blt T 42) (cond (Nat.beq T 40) (some ⟨(.slice 3), 1, 24, some (.slice (.int .i64))⟩) none) (cond (Nat.beq T 42) (some ⟨.func, 1, 8, none⟩) none))) (cond (Nat.blt T 44) (cond (Nat.beq T 43) (some ⟨.func, 1, 8, none⟩) none) (cond (Nat.blt T 46) (cond (Nat.beq T 44) (some ⟨.func, 1, 8, none⟩) none) (cond (Nat.beq T 46) (some ⟨.func, 1, 8, none⟩) none))))))) (cond (Nat.blt T 70) (cond (Nat.blt T 59) (cond (Nat.blt T 52) (cond (Nat.blt T 49) (cond (Nat.blt T 48) (cond (Nat.beq T 47) (some ⟨.func, 1, 8, none⟩) none) (cond (Nat.beq T 48) (some ⟨(.ptr 50), 1, 8, none⟩) none)) (cond (Nat.blt T 50) (cond (Nat.beq T 49) (some ⟨(.struct [(0, 48), (1, 27)]), 2, 32, none⟩) none) (cond (Nat.blt T 51) (cond (Nat.beq T 50) (some ⟨(.struct [(0, 48), (1, 27)]), 2, 32, none⟩) none) (cond (Nat.beq T 51) (some ⟨.func, 1, 8, none⟩) none)))) (cond (Nat.blt T 56) (cond (Nat.blt T 53) (cond (Nat.beq T 52) (some ⟨.iface, 1, 16, none⟩) none) (cond (Nat.blt T 55) (cond (Nat.beq T 53) (some ⟨.iface, 1, 16, none⟩) none) (cond (Nat.beq T 55) (some ⟨.func, 1, 8, none⟩) none))) (cond (Nat.blt T 57) (cond (Nat.beq T 56) (some ⟨.func, 1, 8, none⟩) none) (cond (Nat.blt T 58) (cond (Nat.beq T 57) (some ⟨(.int .u16), 1, 2, some (.int .u16)⟩) none) (cond (Nat.beq T 58) (some ⟨(.array 128 57), 128, 256, some (.arr 128 (.int .u16))⟩) none))))) (cond (Nat.blt T 64) (cond (Nat.blt T 61) (cond (Nat.blt T 60) (cond (Nat.beq T 59) (some ⟨(.slice 62), 1, 24, some (.slice (.pair (.int .u16) (.int .u16)))⟩) none) (cond (Nat.beq T 60) (some ⟨(.int .u64), 1, 8, some (.int .u64)⟩) none)) (cond (Nat.blt T 62) (cond (Nat.beq T 61) (some ⟨(.struct [(0, 57), (1, 57)]), 2, 4, some (.pair (.int .u16) (.int .u16))⟩) none) (cond (Nat.blt T 63) (cond (Nat.beq T 62) (some ⟨(.struct [(0, 57), (1, 57)]), 2, 4, some (.pair (.int .u16) (.int .u16))⟩) none) (cond (Nat.beq T 63) (some ⟨(.ptr 76), 1, 8, none⟩) none)))) (cond (Nat.blt T 67) (cond (Nat.blt T 65) (cond (Nat.beq T 64) (some ⟨.func, 1, 8, none⟩) none) (cond (Nat.blt T 66) (cond (Nat.beq T 65) (some ⟨(.slice 76), 1, 24, some (.slice (.pair (.int .u32) (.pair (.int .u32) (.arr 3 (.int .i32)))))⟩) none) (cond (Nat.beq T 66) (some ⟨.func, 1, 8, none⟩) none))) (cond (Nat.blt T 68) (cond (Nat.beq T 67) (some ⟨(.ptr 5), 1, 8, none⟩) none) (cond (Nat.blt T 69) (cond (Nat.beq T 68) (some ⟨(.array 256 5), 256, 256, some (.arr 256 (.int .u8))⟩) none) (cond (Nat.beq T 69) (some ⟨(.struct [(0, 5), (1, 5)]), 2, 2, some (.pair (.int .u8) (.int .u8))⟩) none)))))) (cond (Nat.blt T 82) (cond (Nat.blt T 75) (cond (Nat.blt T 72) (cond (Nat.blt T 71) (cond (Nat.beq T 70) (some ⟨(.struct [(0, 5), (1, 5)]), 2, 2, some (.pair (.int .u8) (.int .u8))⟩) none) (cond (Nat.beq T 71) (some ⟨(.array 16 70), 32, 32, some (.arr 16 (.pair (.int .u8) (.int .u8)))⟩) none)) (cond (Nat.blt T 73) (cond (Nat.beq T 72) (some ⟨(.int .u32), 1, 4, some (.int .u32)⟩) none) (cond (Nat.blt T 74) (cond (Nat.beq T 73) (some ⟨(.array 3 21), 3, 12, some (.arr 3 (.int .i32))⟩) none) (cond (Nat.beq T 74) (some ⟨(.array 3 21), 3, 12, some (.arr 3 (.int .i32))⟩) none)))) (cond (Nat.blt T 79) (cond (Nat.blt T 76) (cond (Nat.beq T 75) (some ⟨(.struct [(0, 72), (1, 72), (2, 74)]), 5, 20, some (.pair (.int .u32) (.pair (.int .u32) (.arr 3 (.int .i32))))⟩) none) (cond (Nat.blt T 78) (cond (Nat.beq T 76) (some ⟨(.struct [(0, 72), (1, 72), (2, 74)]), 5, 20, some (.pair (.int .u32) (.pair (.int .u32) (.arr 3 (.int .i32))))⟩) none) (cond (Nat.beq T 78) (some ⟨.func, 1, 8, none⟩) none))) (cond (Nat.blt T 80) (cond (Nat.beq T 79) (some ⟨.func, 1, 8, none⟩) none) (cond (Nat.blt T 81) (cond (Nat.beq T 80) (some ⟨(.struct [(0, 17), (1, 17), (2, 17), (3, 9)]), 4, 40, none⟩) none) (cond (Nat.beq T 81) (some ⟨(.struct [(0, 17), (1, 17), (2, 17), (3, 9)]), 4, 40, none⟩) none))))) (cond (Nat.blt T 87) (cond (Nat.blt T 84) (cond (Nat.blt T 83) (cond (Nat.beq T 82) (some ⟨(.array 0 16), 0, 0, none⟩) none) (cond (Nat.beq T 83) (some ⟨(.struct [(0, 82)]), 0, 0, none⟩) none)) (cond (Nat.blt T 85) (cond (Nat.beq T 84) (some ⟨(.struct [(0, 82)]), 0, 0, none⟩) none) (cond (Nat.blt T 86) (cond (Nat.beq T 85) (some ⟨.func, 1, 8, none⟩) none) (cond (Nat.beq T 86) (some ⟨(.int .u8), 1, 1, some (.int .u8)⟩) none)))) (cond (Nat.blt T 90) (cond (Nat.blt T 88) (cond (Nat.beq T 87) (some ⟨(.int .u8), 1, 1, some (.int .u8)⟩) none) (cond (Nat.blt T 89) (cond (Nat.beq T 88) (some ⟨.func, 1, 8, none⟩) none) (cond (Nat.beq T 89) (some ⟨(.int .i32), 1, 4, some (.int .i32)⟩) none))) (cond (Nat.blt T 91) (cond (Nat.beq T 90) (some ⟨(.int .i32), 1, 4, some (.int .i32)⟩) none) (cond (Nat.blt T 92) (cond (Nat.beq T 91) (some ⟨(.struct [(0, 12), (1, 12), (2, 72), (3, 86), (4, 5), (5, 5), (6, 87), (7, 88), (8, 67), (9, 89), (10, 90)]), 11, 48, none⟩) none) (cond (Nat.beq T 92) (some ⟨(.struct [(0, 12), (1, 12), (2, 72), (3, 86), (4, 5), (5, 5), (6, 87), (7, 88), (8, 67), (9, 89), (10, 90)]), 11, 48, none⟩) none)))))))
end Go.Proofs.YtdobgidhhpdihaaDoor
set_option linter.unusedVariables false
set_option linter.unusedSimpArgs false
set_option maxRecDepth 100000
namespace Go.Proofs.YtdobgidhhpdihaaDoor
open Go.Vc
inductive Ent where
 | sum (s : Vc.Sum)
 | seq (q : CU)
def lk : List (Nat × Ent) -> Nat -> Option Vc.Sum
 | [], _ => none
 | (i, .sum s) :: r, f => cond (Nat.beq i f) (some s) (lk r f)
 | (_, .seq _) :: r, f => lk r f
def lkq : List (Nat × Ent) -> Nat -> Option CU
 | [], _ => none
 | (i, .seq s) :: r, f => cond (Nat.beq i f) (some s) (lkq r f)
 | (_, .sum _) :: r, f => lkq r f
def PW (T : Nat) : Option TI := cond (Nat.blt T 93) (tab T) none
def zer (T : Nat) : Option (List Leaf) := cond (Nat.blt T 47) (cond (Nat.blt T 29) (cond (Nat.blt T 19) (cond (Nat.blt T 16) (cond (Nat.blt T 15) (cond (Nat.beq T 1) (some [.cO]) none) (cond (Nat.beq T 15) (some [.dG]) none)) (cond (Nat.blt T 17) (cond (Nat.beq T 16) (some [.dG]) none) (cond (Nat.blt T 18) (cond (Nat.beq T 17) (some [.dG]) none) (cond (Nat.beq T 18) (some [.dG]) none)))) (cond (Nat.blt T 23) (cond (Nat.blt T 20) (cond (Nat.beq T 19) (some [.dG]) none) (cond (Nat.beq T 20) (some [.l7]) none)) (cond (Nat.blt T 26) (cond (Nat.beq T 23) (some [.cO]) none) (cond (Nat.blt T 28) (cond (Nat.beq T 26) (some [.cO]) none) (cond (Nat.beq T 28) (some [.cO]) none))))) (cond (Nat.blt T 36) (cond (Nat.blt T 33) (cond (Nat.blt T 32) (cond (Nat.beq T 29) (some [.cO]) none) (cond (Nat.beq T 32) (some [.cO]) none)) (cond (Nat.blt T 34) (cond (Nat.beq T 33) (some [.cO]) none) (cond (Nat.blt T 35) (cond (Nat.beq T 34) (some [.cO]) none) (cond (Nat.beq T 35) (some [.cO]) none)))) (cond (Nat.blt T 43) (cond (Nat.blt T 39) (cond (Nat.beq T 36) (some [.cO]) none) (cond (Nat.blt T 42) (cond (Nat.beq T 39) (some [.cO]) none) (cond (Nat.beq T 42) (some [.cO]) none))) (cond (Nat.blt T 44) (cond (Nat.beq T 43) (some [.cO]) none) (cond (Nat.blt T 46) (cond (Nat.beq T 44) (some [.cO]) none) (cond (Nat.beq T 46) (some [.cO]) none)))))) (cond (Nat.blt T 64) (cond (Nat.blt T 52) (cond (Nat.blt T 49) (cond (Nat.blt T 48) (cond (Nat.beq T 47) (some [.cO]) none) (cond (Nat.beq T 48) (some [.dG]) none)) (cond (Nat.blt T 50) (cond (Nat.beq T 49) (some [.dG, .cZ]) none) (cond (Nat.blt T 51) (cond (Nat.beq T 50) (some [.dG, .cZ, .arr 0 true (.arr 50 .unit) []]) none) (cond (Nat.beq T 51) (some [.cO]) none)))) (cond (Nat.blt T 55) (cond (Nat.blt T 53) (cond (Nat.beq T 52) (some [.l7]) none) (cond (Nat.beq T 53) (some [.l7]) none)) (cond (Nat.blt T 56) (cond (Nat.beq T 55) (some [.cO]) none) (cond (Nat.blt T 63) (cond (Nat.beq T 56) (some [.cO]) none) (cond (Nat.beq T 63) (some [.dG]) none))))) (cond (Nat.blt T 80) (cond (Nat.blt T 67) (cond (Nat.blt T 66) (cond (Nat.beq T 64) (some [.cO]) none) (cond (Nat.beq T 66) (some [.cO]) none)) (cond (Nat.blt T 78) (cond (Nat.beq T 67) (some [.dG]) none) (cond (Nat.blt T 79) (cond (Nat.beq T 78) (some [.cO]) none) (cond (Nat.beq T 79) (some [.cO]) none)))) (cond (Nat.blt T 88) (cond (Nat.blt T 81) (cond (Nat.beq T 80) (some [.dG, .dG, .dG, .str []]) none) (cond (Nat.blt T 85) (cond (Nat.beq T 81) (some [.dG, .dG, .dG, .str []]) none) (cond (Nat.beq T 85) (some [.cO]) none))) (cond (Nat.blt T 91) (cond (Nat.beq T 88) (some [.cO]) none) (cond (Nat.blt T 92) (cond (Nat.beq T 91) (some [.int .u64 0, .int .u64 0, .int .u32 0, .int .u8 0, .int .u8 0, .int .u8 0, .int .u8 0, .cO, .dG, .int .i32 0, .int .i32 0]) none) (cond (Nat.beq T 92) (some [.int .u64 0, .int .u64 0, .int .u32 0, .int .u8 0, .int .u8 0, .int .u8 0, .int .u8 0, .cO, .dG, .int .i32 0, .int .i32 0]) none))))))
@[irreducible] def iR : List ((Int) × (Int)) := [(128, 191), (160, 191), (128, 159), (144, 191), (128, 143), (0, 0), (0, 0), (0, 0), (0, 0), (0, 0), (0, 0), (0, 0), (0, 0), (0, 0), (0, 0), (0, 0)]
@[irreducible] def bQ : List (Int) := [0, 1, 2, 3, 4, 5, 6, 7, 8, 9, 10, 11, 12, 13, 14, 15, 16, 17, 18, 19, 20, 21, 22, 23, 24, 25, 26, 27, 28, 29, 30, 31, 32, 33, 34, 35, 36, 37, 38, 39, 40, 41, 42, 43, 44, 45, 46, 47, 48, 49, 50, 51, 52, 53, 54, 55, 56, 57, 58, 59, 60, 61, 62, 63, 64, 97, 98, 99, 100, 101, 102, 103, 104, 105, 106, 107, 108, 109, 110, 111, 112, 113, 114, 115, 116, 117, 118, 119, 120, 121, 122, 91, 92, 93, 94, 95, 96, 65, 66, 67, 68, 69, 70, 71, 72, 73, 74, 8490, 76, 77, 78, 79, 80, 81, 82, 383, 84, 85, 86, 87, 88, 89, 90, 123, 124, 125, 126, 127]
@[irreducible] def aC : List ((Int) × (Int)) := [(75, 107), (83, 115), (107, 8490), (115, 383), (181, 924), (197, 229), (223, 7838), (229, 8491), (304, 304), (305, 305), (383, 83), (452, 453), (453, 454), (454, 452), (455, 456), (456, 457), (457, 455), (458, 459), (459, 460), (460, 458), (497, 498), (498, 499), (499, 497), (837, 921), (912, 8147), (914, 946), (917, 949), (920, 952), (921, 953), (922, 954), (924, 956), (928, 960), (929, 961), (931, 962), (934, 966), (937, 969), (944, 8163), (946, 976), (949, 1013), (952, 977), (953, 8126), (954, 1008), (956, 181), (960, 982), (961, 1009), (962, 963), (963, 931), (966, 981), (969, 8486), (976, 914), (977, 1012), (981, 934), (982, 928), (1008, 922), (1009, 929), (1012, 920), (1013, 917), (1042, 1074), (1044, 1076), (1054, 1086), (1057, 1089), (1058, 1090), (1066, 1098), (1074, 7296), (1076, 7297), (1086, 7298), (1089, 7299), (1090, 7300), (1098, 7302), (1122, 1123), (1123, 7303), (7296, 1042), (7297, 1044), (7298, 1054), (7299, 1057), (7300, 7301), (7301, 1058), (7302, 1066), (7303, 1122), (7304, 42570), (7776, 7777), (7777, 7835), (7835, 7776), (7838, 223), (8126, 837), (8147, 912), (8163, 944), (8486, 937), (8490, 75), (8491, 197), (42570, 42571), (42571, 7304), (64261, 64262), (64262, 64261)]
@[irreducible] def aB : List ((List Int) × (Int)) := [([92, 65, 110, 115, 119, 101, 114, 101, 100], 2), ([92, 70, 108, 97, 103, 103, 101, 100], 4), ([92, 68, 101, 108, 101, 116, 101, 100], 8), ([92, 83, 101, 101, 110], 1), ([92, 68, 114, 97, 102, 116], 16)]
@[irreducible] def aW : List Int := Go.Pinned.utf8FirstZ.map fun (n : Nat) => (n : Int)
def gl : Nat -> Option (Sigma Ty.den) := fun g => cond (Nat.beq g 0) (some ⟨.arr 5 (.pair (.str) (.int .i64)), aB⟩) (cond (Nat.beq g 1) (some ⟨.arr 128 (.int .u16), bQ⟩) (cond (Nat.beq g 2) (some ⟨.slice (.pair (.int .u16) (.int .u16)), aC⟩) (cond (Nat.beq g 4) (some ⟨.arr 256 (.int .u8), aW⟩) (cond (Nat.beq g 5) (some ⟨.arr 16 (.pair (.int .u8) (.int .u8)), iR⟩) (none)))))
def xpT (f : Nat) : List Nat := []
def KC (T : Nat) : Bool := cond (Nat.blt T 68) (cond (Nat.blt T 31) (cond (Nat.beq T 22) (true) false) (cond (Nat.blt T 58) (cond (Nat.beq T 31) (true) false) (cond (Nat.beq T 58) (true) false))) (cond (Nat.blt T 73) (cond (Nat.blt T 70) (cond (Nat.beq T 68) (true) false) (cond (Nat.beq T 70) (true) false)) (cond (Nat.blt T 74) (cond (Nat.beq T 73) (true) false) (cond (Nat.beq T 74) (true) false)))
def iT (l : List (Nat × Ent)) : Cfg := ⟨PW, lk l, gl, fun T => cond (Nat.blt T 93) (zer T) none, xpT, fun T => cond (Nat.blt T 93) (KC T) false, lkq l, none⟩
def rB (x : Bool) : Done := ⟨[], .one (.bool x), [], []⟩
def kp (l : List Nat) : Keep := { keep := l }
namespace U
def n (k : Nat) : List (Option SV) := List.replicate k none
def sI (x : Int) : Option SV := some (.one (.int .i64 x))
def sK (k : IntKind) (x : Int) : Option SV := some (.one (.int k x))
def sS (l : List Int) : Option SV := some (.one (.str l))
def own (k : Nat) : Option SV := some (.one (.own k))
def clo (f : Nat) : List V -> Bool
 | [] => false
 | ⟨false, [.fn g _]⟩ :: r => cond (Nat.beq f g) true (clo f r)
 | _ :: r => clo f r
def at_ {α : Type} (l : List α) (i : Int) : Prop := 0 <= i /\ i <= l.length
end U
theorem N7 : ((List.range 93).all fun T => match tab T with | some t => tiB Tryd.prog T t | none => true) = true := by kernel_rfl
theorem N8 : ((List.range 93).all fun T => match zer T with | some ls => JA Tryd.prog T ls | none => true) = true := by kernel_rfl
theorem N9 : ((List.range 93).all fun T => cond (KC T) (eqB Tryd.prog T) true) = true := by kernel_rfl
theorem OO (l : List (Nat × Ent)) : ∀ T t, (iT l).ti T = some t -> kJ Tryd.prog T t := by
 intro T t h
 have h : cond (Nat.blt T 93) (tab T) none = some t := h
 cases hb : Nat.blt T 93 with
 | false => rw [hb] at h; cases h
 | true =>
   rw [hb] at h
   have h : tab T = some t := h
   have := List.all_eq_true.1 N7 T (List.mem_range.2 (by simpa [Nat.blt_eq] using hb))
   rw [h] at this
   exact Oo this
theorem Pv (l : List (Nat × Ent)) : aH Tryd.prog (iT l) := by
 refine ⟨OO l, fun T ls h => ?_, fun T h => ?_⟩
 rotate_left
 ·have h : cond (Nat.blt T 93) (KC T) false = true := h
  cases hb : Nat.blt T 93 with
  | false => rw [hb] at h; cases h
  | true =>
    rw [hb] at h
    have h : KC T = true := h
    have := List.all_eq_true.1 N9 T (List.mem_range.2 (by simpa [Nat.blt_eq] using hb))
    rw [h] at this
    exact Ot this
 have h : cond (Nat.blt T 93) (zer T) none = some ls := h
 cases hb : Nat.blt T 93 with
 | false => rw [hb] at h; cases h
 | true =>
   rw [hb] at h
   have h : zer T = some ls := h
   have := List.all_eq_true.1 N8 T (List.mem_range.2 (by simpa [Nat.blt_eq] using hb))
   rw [h] at this
   exact LY this
theorem mixed : Tryd.prog.follows .mixedOrders = true := by kernel_rfl
def Nu (f : Nat) : Ent -> Prop
 | .sum s => kU Tryd.prog gl f s
 | .seq q => Nj Tryd.prog gl f q
abbrev iK (l : List (Nat × Ent)) : Prop := ∀ p ∈ l, Nu p.1 p.2
theorem Hf {f : Nat} {s : Vc.Sum} : ∀ {l : List (Nat × Ent)}, lk l f = some s -> (f, .sum s) ∈ l
 | [], h => by cases h
 | (i, .sum t) :: r, h => by
   unfold lk at h
   cases hb : Nat.beq i f with
   | true =>
     rw [hb] at h
     have h : some t = some s := h
     cases h
     rw [Nat.eq_of_beq_eq_true hb]; simp
   | false => rw [hb] at h; exact List.mem_cons_of_mem _ (Hf h)
 | (_, .seq _) :: r, h => List.mem_cons_of_mem _ (Hf (l := r) h)
theorem DJ {f : Nat} {s : CU} : ∀ {l : List (Nat × Ent)}, lkq l f = some s -> (f, .seq s) ∈ l
 | [], h => by cases h
 | (i, .seq t) :: r, h => by
   unfold lkq at h
   cases hb : Nat.beq i f with
   | true =>
     rw [hb] at h
     have h : some t = some s := h
     cases h
     rw [Nat.eq_of_beq_eq_true hb]; simp
   | false => rw [hb] at h; exact List.mem_cons_of_mem _ (DJ h)
 | (_, .sum _) :: r, h => List.mem_cons_of_mem _ (DJ (l := r) h)
theorem Oa {l : List (Nat × Ent)} (h : iK l) : fE Tryd.prog (iT l) := fun _ _ hs => h _ (Hf hs)
theorem Ob {l : List (Nat × Ent)} (h : iK l) : oJ Tryd.prog (iT l) := fun _ _ hs => h _ (DJ hs)
theorem LC : iK [] := fun p hp => by cases hp
theorem iK.cons {f : Nat} {s : Ent} {l : List (Nat × Ent)} (h : Nu f s) (hl : iK l) : iK ((f, s) :: l) := fun p hp => by
 rcases List.mem_cons.1 hp with rfl | hp
 ·exact h
 ·exact hl p hp
abbrev Pok (f : Nat) (ts : List Ty) (F : aX ts -> Done) : Prop := BK Tryd.prog gl f ts F
theorem pk {f : Nat} {ts : List Ty} {F : aX ts -> Done} {L : aX ts -> Nat -> List V -> Nat -> Option Vc.Loop} {l : List (Nat × Ent)} (hl : iK l) (hback : ∀ x, (F x).back = [])
 (h : ∀ x, oI ts x -> (∀ p ∈ (F x).pre, p) -> mJ Tryd.prog (iT l) (L x) f (jF ts x) [] (F x)) : Pok f ts F :=
 Ls (cfg := iT l) rfl (Pv l) (Oa hl) (Ob hl) mixed hback h
end Go.Proofs.YtdobgidhhpdihaaDoor
