/- Small laws by which what is owed is proved in plain Lean. -/
import Derived.Test.YtddakledpipanaaVcLaw
set_option linter.unusedVariables false
set_option linter.unusedSimpArgs false
namespace Go.Vc.T
theorem cond_prop {b : Bool} {p q : Prop} : (bif b then p else q) ↔ (b = true → p) ∧ (b = false → q) := by cases b <;> simp
theorem cond_or {a b : Bool} : (bif a then true else b) = (a || b) := by cases a <;> rfl
theorem cond_and {a b : Bool} : (bif a then b else false) = (a && b) := by cases a <;> rfl
theorem wrap_i64 (x : Int) : IntKind.wrap .i64 x = (x + 9223372036854775808) % 18446744073709551616 - 9223372036854775808 := by
  simp only [IntKind.wrap, IntKind.signed, IntKind.bits]; simp; omega
theorem wrap_i32 (x : Int) : IntKind.wrap .i32 x = (x + 2147483648) % 4294967296 - 2147483648 := by
  simp only [IntKind.wrap, IntKind.signed, IntKind.bits]; simp; omega
theorem wrap_u8 (x : Int) : IntKind.wrap .u8 x = x % 256 := by simp [IntKind.wrap, IntKind.signed, IntKind.bits]
theorem wrap_u16 (x : Int) : IntKind.wrap .u16 x = x % 65536 := by simp [IntKind.wrap, IntKind.signed, IntKind.bits]
theorem wrap_u32 (x : Int) : IntKind.wrap .u32 x = x % 4294967296 := by simp [IntKind.wrap, IntKind.signed, IntKind.bits]
theorem wrap_u64 (x : Int) : IntKind.wrap .u64 x = x % 18446744073709551616 := by simp [IntKind.wrap, IntKind.signed, IntKind.bits]
theorem wrap_i {x : Int} (h1 : -9223372036854775808 ≤ x) (h2 : x ≤ 9223372036854775807) : IntKind.wrap .i64 x = x := by
  rw [wrap_i64]; omega
theorem vI64 {x : Int} (h : Valid (.int .i64) x) : -9223372036854775808 ≤ x ∧ x ≤ 9223372036854775807 := by simpa [Valid, IntKind.min, IntKind.max, IntKind.signed, IntKind.bits] using h
theorem vU8 {x : Int} (h : Valid (.int .u8) x) : 0 ≤ x ∧ x ≤ 255 := by simpa [Valid, IntKind.min, IntKind.max, IntKind.signed, IntKind.bits] using h
theorem vU16 {x : Int} (h : Valid (.int .u16) x) : 0 ≤ x ∧ x ≤ 65535 := by simpa [Valid, IntKind.min, IntKind.max, IntKind.signed, IntKind.bits] using h
theorem vU32 {x : Int} (h : Valid (.int .u32) x) : 0 ≤ x ∧ x ≤ 4294967295 := by simpa [Valid, IntKind.min, IntKind.max, IntKind.signed, IntKind.bits] using h
theorem vU64 {x : Int} (h : Valid (.int .u64) x) : 0 ≤ x ∧ x ≤ 18446744073709551615 := by simpa [Valid, IntKind.min, IntKind.max, IntKind.signed, IntKind.bits] using h
theorem int_neg (x : Int) : Int.neg x = -x := rfl
theorem int_add (x y : Int) : Int.add x y = x + y := rfl
theorem int_sub (x y : Int) : Int.sub x y = x - y := rfl
theorem int_mul (x y : Int) : Int.mul x y = x * y := rfl
theorem nat_add (x y : Nat) : Nat.add x y = x + y := rfl
theorem nat_sub (x y : Nat) : Nat.sub x y = x - y := rfl
theorem nat_mul (x y : Nat) : Nat.mul x y = x * y := rfl
theorem nat_pow (x y : Nat) : Nat.pow x y = x ^ y := rfl
theorem list_append {α : Type} (x y : List α) : List.append x y = x ++ y := rfl
theorem list_beq {α : Type} [BEq α] (x y : List α) : List.beq x y = (x == y) := rfl
/-- bits of two whole numbers of a kind -/
def andK (k : IntKind) (a b : Int) : Int := k.wrap (BitVec.ofInt k.bits a &&& BitVec.ofInt k.bits b).toNat
def orK (k : IntKind) (a b : Int) : Int := k.wrap (BitVec.ofInt k.bits a ||| BitVec.ofInt k.bits b).toNat
def xorK (k : IntKind) (a b : Int) : Int := k.wrap (BitVec.ofInt k.bits a ^^^ BitVec.ofInt k.bits b).toNat
def andNotK (k : IntKind) (a b : Int) : Int := k.wrap (BitVec.ofInt k.bits a &&& ~~~ (BitVec.ofInt k.bits b)).toNat
theorem andK_eq (k : IntKind) (a b : Int) : k.wrap (↑((BitVec.ofInt k.bits a).and (BitVec.ofInt k.bits b)).toNat : Int) = andK k a b := rfl
theorem orK_eq (k : IntKind) (a b : Int) : k.wrap (↑((BitVec.ofInt k.bits a).or (BitVec.ofInt k.bits b)).toNat : Int) = orK k a b := rfl
theorem xorK_eq (k : IntKind) (a b : Int) : k.wrap (↑((BitVec.ofInt k.bits a).xor (BitVec.ofInt k.bits b)).toNat : Int) = xorK k a b := rfl
theorem andNotK_eq (k : IntKind) (a b : Int) : k.wrap (↑((BitVec.ofInt k.bits a).and (BitVec.ofInt k.bits b).not).toNat : Int) = andNotK k a b := rfl
theorem maxLen_eq : maxLen = 9223372036854775807 := rfl
theorem getD_at {α : Type} {l : List α} {k : Nat} {d : α} (h : k < l.length) : l.getD k d = l[k] := by
  rw [List.getD_eq_getElem?_getD, List.getElem?_eq_getElem h]; rfl
theorem drop_at {α : Type} {l : List α} {i : Int} (h0 : 0 ≤ i) (h : i < l.length) : l.drop i.toNat = l[i.toNat] :: l.drop (i + 1).toNat := by
  rw [List.drop_eq_getElem_cons (by omega)]; congr 2; omega
theorem take_at {α : Type} {l : List α} {i : Int} (h0 : 0 ≤ i) (h : i < l.length) : l.take (i + 1).toNat = l.take i.toNat ++ [l[i.toNat]] := by
  rw [show (i + 1).toNat = i.toNat + 1 by omega, List.take_succ_eq_append_getElem (by omega)]
theorem drop_end {α : Type} {l : List α} {i : Int} (h : l.length ≤ i) : l.drop i.toNat = [] := List.drop_eq_nil_of_le (by omega)
theorem take_end {α : Type} {l : List α} {i : Int} (h : l.length ≤ i) : l.take i.toNat = l := List.take_of_length_le (by omega)
end Go.Vc.T
