/- Contracts of library functions at this program (laid by a tool of the kit). -/
import Derived.Shelf.Small.Strs
import Derived.Shelf.Utf8.RuneCount
import Derived.Shelf.Strings.Search1
import Derived.Shelf.Strings.Search2
import Derived.Shelf.Strings.Search3
import Derived.Shelf.Strings.Cut
import Derived.Shelf.Strings.Count
import Derived.Shelf.LaysM
import Derived.Shelf.Strings.Shaped
import Derived.Shelf.Strings.Split
import Derived.Shelf.Strings.Fold
import Derived.Shelf.Strings.SplitShaped
import Derived.Shelf.Unicode.Decode
import Derived.Shelf.Strings.RuneCount
import Derived.Shelf.Strings.Explode
import Derived.Shelf.Unicode.DecodeSlow
import Derived.Shelf.Unicode.DecodeAny
import Derived.Shelf.Unicode.CaseLookup
import Derived.Shelf.Unicode.CaseConvert
import Derived.Shelf.Slices.Turned
import Derived.Test.YtkhdeldobekciaaDoorProg
namespace Go.Proofs
open Go.Shelf
def Tryd.lays137_ren : Go.Shelf.Ren := ⟨fun | 137 => 45 | 217 => 61 | 266 => 71 | n => n, fun | 9 => 9 | 5 => 5 | 3 => 3 | n => n, fun | n => n⟩
theorem Tryd.lays137 : Go.Proofs.Lays.n137 Tryd.prog Tryd.lays137_ren := {
 mixed := by kernel_rfl
 f137 := Tryd.func45.trans (congrArg some (by kernel_rfl))
 f217 := Tryd.func61.trans (congrArg some (by kernel_rfl))
 f266 := Tryd.func71.trans (congrArg some (by kernel_rfl))
 t3 := Tryd.underlying3
 a3 := Tryd.isAgg3
 z3 := Tryd.sizeOf3
 v3 := Tryd.zeroValue3
 t5 := Tryd.underlying5
 a5 := Tryd.isAgg5
 z5 := Tryd.sizeOf5
 v5 := Tryd.zeroValue5
 t9 := Tryd.underlying9
 a9 := Tryd.isAgg9
 z9 := Tryd.sizeOf9
 v9 := Tryd.zeroValue9 }
open Go.RowKit in
theorem Tryd.strings_IndexByte (s : ByteArray) (c : Int) (w : World) :
 Calls Tryd.prog 45 #[.string s, .int .u8 c] w fun e w' => e = .returned (.int .i64 (Lib.indexByte s.data.toList c.toNat.toUInt8)) /\ w' = w := Any.strings_IndexByte Tryd.lays137 s c w
def Tryd.lays217_ren : Go.Shelf.Ren := ⟨fun | 217 => 61 | 266 => 71 | n => n, fun | 9 => 9 | 5 => 5 | 3 => 3 | n => n, fun | n => n⟩
theorem Tryd.lays217 : Go.Proofs.Lays.n217 Tryd.prog Tryd.lays217_ren := {
 mixed := by kernel_rfl
 f217 := Tryd.func61.trans (congrArg some (by kernel_rfl))
 f266 := Tryd.func71.trans (congrArg some (by kernel_rfl))
 t3 := Tryd.underlying3
 a3 := Tryd.isAgg3
 z3 := Tryd.sizeOf3
 v3 := Tryd.zeroValue3
 t5 := Tryd.underlying5
 a5 := Tryd.isAgg5
 z5 := Tryd.sizeOf5
 v5 := Tryd.zeroValue5
 t9 := Tryd.underlying9
 a9 := Tryd.isAgg9
 z9 := Tryd.sizeOf9
 v9 := Tryd.zeroValue9 }
open Go.RowKit Go.Lib in
theorem Tryd.stringslite_IndexByte (s : ByteArray) (c : Int) (w : World) :
 Calls Tryd.prog 61 #[.string s, .int .u8 c] w fun e w' => e = .returned (.int .i64 (Lib.indexByte s.data.toList c.toNat.toUInt8)) /\ w' = w := Any.stringslite_IndexByte Tryd.lays217 s c w
def Tryd.lays138_ren : Go.Shelf.Ren := ⟨fun | 138 => 94 | 195 => 99 | 218 => 100 | 143 => 95 | 219 => 89 | 217 => 61 | 225 => 96 | 224 => 97 | 267 => 98 | 266 => 71 | 314 => 101 | n => n, fun | 9 => 9 | 3 => 3 | 4 => 4 | 5 => 5 | 0 => 0 | 46 => 102 | 146 => 145 | 51 => 84 | n => n, fun | 1 => 3 | n => n⟩
theorem Tryd.lays138 : Go.Proofs.Lays.n138 Tryd.prog Tryd.lays138_ren := {
 mixed := by kernel_rfl
 f138 := Tryd.func94.trans (congrArg some (by kernel_rfl))
 f143 := Tryd.func95.trans (congrArg some (by kernel_rfl))
 f195 := Tryd.func99.trans (congrArg some (by kernel_rfl))
 f217 := Tryd.func61.trans (congrArg some (by kernel_rfl))
 f218 := Tryd.func100.trans (congrArg some (by kernel_rfl))
 f219 := Tryd.func89.trans (congrArg some (by kernel_rfl))
 f224 := Tryd.func97.trans (congrArg some (by kernel_rfl))
 f225 := Tryd.func96.trans (congrArg some (by kernel_rfl))
 f266 := Tryd.func71.trans (congrArg some (by kernel_rfl))
 f267 := Tryd.func98.trans (congrArg some (by kernel_rfl))
 f314 := Tryd.func101.trans (congrArg some (by kernel_rfl))
 t0 := Tryd.underlying0
 a0 := Tryd.isAgg0
 z0 := Tryd.sizeOf0
 v0 := Tryd.zeroValue0
 t3 := Tryd.underlying3
 a3 := Tryd.isAgg3
 z3 := Tryd.sizeOf3
 v3 := Tryd.zeroValue3
 t4 := Tryd.underlying4
 a4 := Tryd.isAgg4
 z4 := Tryd.sizeOf4
 v4 := Tryd.zeroValue4
 t5 := Tryd.underlying5
 a5 := Tryd.isAgg5
 z5 := Tryd.sizeOf5
 v5 := Tryd.zeroValue5
 t9 := Tryd.underlying9
 a9 := Tryd.isAgg9
 z9 := Tryd.sizeOf9
 v9 := Tryd.zeroValue9
 t46 := Tryd.underlying102
 a46 := Tryd.isAgg102
 z46 := Tryd.sizeOf102
 v46 := Tryd.zeroValue102
 t51 := Tryd.underlying84
 a51 := Tryd.isAgg84
 z51 := Tryd.sizeOf84
 v51 := Tryd.zeroValue84
 t146 := Tryd.underlying145
 a146 := Tryd.isAgg145
 z146 := Tryd.sizeOf145
 v146 := Tryd.zeroValue145
 g1 := by kernel_rfl }
open Go.RowKit Go.Lib in
theorem Tryd.strings_Count_one (s : ByteArray) (c : UInt8) (w : World) :
 Calls Tryd.prog 94 #[.string s, .string ⟨#[c]⟩] w fun e w' => e = .returned (.int .i64 (Lib.countByte s.data.toList c)) /\ w' = w := Any.strings_Count_one Tryd.lays138 s c w
def Tryd.lays164_ren : Go.Shelf.Ren := ⟨fun | 164 => 77 | 197 => 84 | 239 => 85 | 260 => 90 | 274 => 91 | 275 => 92 | n => n, fun | 9 => 9 | 4 => 4 | 3 => 3 | 5 => 5 | 0 => 0 | 21 => 21 | 105 => 119 | 156 => 127 | 49 => 126 | 157 => 128 | 46 => 102 | 159 => 130 | 162 => 133 | 160 => 131 | 119 => 136 | 139 => 139 | 138 => 138 | 208 => 143 | 51 => 84 | 206 => 141 | n => n, fun | 11 => 4 | 12 => 5 | 13 => 6 | 3 => 7 | 4 => 8 | n => n⟩
theorem Tryd.lays164 : Go.Proofs.Lays.n164 Tryd.prog Tryd.lays164_ren := {
 mixed := by kernel_rfl
 f164 := Tryd.func77.trans (congrArg some (by kernel_rfl))
 f197 := Tryd.func84.trans (congrArg some (by kernel_rfl))
 f239 := Tryd.func85.trans (congrArg some (by kernel_rfl))
 f260 := Tryd.func90.trans (congrArg some (by kernel_rfl))
 f274 := Tryd.func91.trans (congrArg some (by kernel_rfl))
 f275 := Tryd.func92.trans (congrArg some (by kernel_rfl))
 t0 := Tryd.underlying0
 a0 := Tryd.isAgg0
 z0 := Tryd.sizeOf0
 v0 := Tryd.zeroValue0
 t3 := Tryd.underlying3
 a3 := Tryd.isAgg3
 z3 := Tryd.sizeOf3
 v3 := Tryd.zeroValue3
 t4 := Tryd.underlying4
 a4 := Tryd.isAgg4
 z4 := Tryd.sizeOf4
 v4 := Tryd.zeroValue4
 t5 := Tryd.underlying5
 a5 := Tryd.isAgg5
 z5 := Tryd.sizeOf5
 v5 := Tryd.zeroValue5
 t9 := Tryd.underlying9
 a9 := Tryd.isAgg9
 z9 := Tryd.sizeOf9
 v9 := Tryd.zeroValue9
 t21 := Tryd.underlying21
 a21 := Tryd.isAgg21
 z21 := Tryd.sizeOf21
 v21 := Tryd.zeroValue21
 t46 := Tryd.underlying102
 a46 := Tryd.isAgg102
 z46 := Tryd.sizeOf102
 v46 := Tryd.zeroValue102
 t49 := Tryd.underlying126
 a49 := Tryd.isAgg126
 z49 := Tryd.sizeOf126
 v49 := Tryd.zeroValue126
 t51 := Tryd.underlying84
 a51 := Tryd.isAgg84
 z51 := Tryd.sizeOf84
 v51 := Tryd.zeroValue84
 t105 := Tryd.underlying119
 a105 := Tryd.isAgg119
 z105 := Tryd.sizeOf119
 v105 := Tryd.zeroValue119
 t119 := Tryd.underlying136
 a119 := Tryd.isAgg136
 z119 := Tryd.sizeOf136
 t138 := Tryd.underlying138
 a138 := Tryd.isAgg138
 z138 := Tryd.sizeOf138
 v138 := Tryd.zeroValue138
 t139 := Tryd.underlying139
 a139 := Tryd.isAgg139
 z139 := Tryd.sizeOf139
 v139 := Tryd.zeroValue139
 t156 := Tryd.underlying127
 a156 := Tryd.isAgg127
 z156 := Tryd.sizeOf127
 t157 := Tryd.underlying128
 a157 := Tryd.isAgg128
 z157 := Tryd.sizeOf128
 v157 := Tryd.zeroValue128
 t159 := Tryd.underlying130
 a159 := Tryd.isAgg130
 z159 := Tryd.sizeOf130
 v159 := Tryd.zeroValue130
 t160 := Tryd.underlying131
 a160 := Tryd.isAgg131
 z160 := Tryd.sizeOf131
 v160 := Tryd.zeroValue131
 t162 := Tryd.underlying133
 a162 := Tryd.isAgg133
 z162 := Tryd.sizeOf133
 v162 := Tryd.zeroValue133
 t206 := Tryd.underlying141
 a206 := Tryd.isAgg141
 z206 := Tryd.sizeOf141
 v206 := Tryd.zeroValue141
 t208 := Tryd.underlying143
 a208 := Tryd.isAgg143
 z208 := Tryd.sizeOf143
 v208 := Tryd.zeroValue143
 g3 := by kernel_rfl
 g4 := by kernel_rfl
 g11 := by kernel_rfl
 g12 := by kernel_rfl
 g13 := by kernel_rfl }
open Go.RowKit Go.Lib in
theorem Tryd.strings_EqualFold (s t : ByteArray) (w : World) (hs : s.size < 4294967281) (has : ∀ (j : Nat) b, s.data.toList[j]? = some b -> b.toNat < 128) (hat : ∀ (j : Nat) b, t.data.toList[j]? = some b -> b.toNat < 128) :
 Calls Tryd.prog 77 #[.string s, .string t] w fun e w' => e = .returned (.bool (Lib.equalFold s.data.toList t.data.toList)) /\ w' = w := Any.strings_EqualFold Tryd.lays164 s t w hs has hat
end Go.Proofs
