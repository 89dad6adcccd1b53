/- The type table against the program; constants; operands. -/
import Derived.Test.YtddakledpipanaaVcImp
set_option linter.unusedVariables false
set_option linter.unusedSimpArgs false
namespace Go.Vc

def zcells : Ty → List Value
  | .int k => [.int k 0]
  | .bool => [.bool false]
  | .str => [.string ⟨#[]⟩]
  | .unit => []
  | .slice _ => [.slice none 0 0]
  | .arr n e => (List.replicate n (zcells e)).flatten
  | .pair a b => zcells a ++ zcells b
/-- Two of the values that a zero value is made of. -/
def zeq : Value → Value → Bool
  | .int k a, .int k' b => (k == k') && (a == b)
  | .bool a, .bool b => a == b
  | .string a, .string b => Nat.beq a.size 0 && Nat.beq b.size 0
  | .slice none a b, .slice none c d => Nat.beq a c && Nat.beq b d
  | _, _ => false
def zeqs : List Value → List Value → Bool
  | [], [] => true
  | a :: r, b :: s => zeq a b && zeqs r s
  | _, _ => false
theorem zeq_eq {a b : Value} (h : zeq a b = true) : a = b := by
  cases a <;> cases b <;> simp only [zeq] at h <;> first
    | cases h
    | skip
  · simp at h; rw [h]
  · simp at h; rw [h.1, h.2]
  · rename_i s t
    simp only [Bool.and_eq_true] at h
    have h1 := Nat.eq_of_beq_eq_true h.1
    have h2 := Nat.eq_of_beq_eq_true h.2
    have : s = t := by
      apply ByteArray.ext
      have e1 : s.data = #[] := Array.eq_empty_of_size_eq_zero h1
      have e2 : t.data = #[] := Array.eq_empty_of_size_eq_zero h2
      rw [e1, e2]
    rw [this]
  · rename_i x a b y c d
    cases x <;> cases y <;> first | cases h | skip
    simp only [Bool.and_eq_true] at h
    rw [Nat.eq_of_beq_eq_true h.1, Nat.eq_of_beq_eq_true h.2]
theorem zeqs_eq : ∀ {a b : List Value}, zeqs a b = true → a = b
  | [], [], _ => rfl
  | [], _ :: _, h => by simp [zeqs] at h
  | _ :: _, [], h => by simp [zeqs] at h
  | a :: r, b :: s, h => by
    simp only [zeqs, Bool.and_eq_true] at h
    rw [zeq_eq h.1, zeqs_eq h.2]

def eqList : List (Nat × Nat) → List (Nat × Nat) → Bool
  | [], [] => true
  | a :: r, b :: s => Nat.beq a.1 b.1 && Nat.beq a.2 b.2 && eqList r s
  | _, _ => false
theorem eqList_eq : ∀ {a b : List (Nat × Nat)}, eqList a b = true → a = b
  | [], [], _ => rfl
  | [], _ :: _, h => by simp [eqList] at h
  | _ :: _, [], h => by simp [eqList] at h
  | (a1, a2) :: r, (b1, b2) :: s, h => by
    simp only [eqList, Bool.and_eq_true] at h
    obtain ⟨⟨h1, h2⟩, h3⟩ := h
    have e1 : a1 = b1 := Nat.eq_of_beq_eq_true h1
    have e2 : a2 = b2 := Nat.eq_of_beq_eq_true h2
    rw [e1, e2, eqList_eq h3]

/-- A type's row as the program has it, and as the table has it. -/
def tdB (d : TypeDesc) (t : TD) : Bool := match d, t with
  | .bool, .bool => true
  | .int k, .int k' => k == k'
  | .string, .str => true
  | .slice e, .slice e' => Nat.beq e e'
  | .array n e, .array n' e' => Nat.beq n n' && Nat.beq e e'
  | .struct fs, .struct l => eqList (fs.toList.map fun f => (f.offset, f.type)) l
  | .pointer e, .ptr e' => Nat.beq e e'
  | .map k v, .map k' v' => Nat.beq k k' && Nat.beq v v'
  | .func _ _ _, .func => true
  | .interface _, .iface => true
  | _, _ => false
def TdOk (d : TypeDesc) (t : TD) : Prop := match t with
  | .bool => d = .bool
  | .int k => d = .int k
  | .str => d = .string
  | .slice e => d = .slice e
  | .array n e => d = .array n e
  | .struct l => ∃ fs, d = .struct fs ∧ fs.toList.map (fun f => (f.offset, f.type)) = l
  | .ptr e => d = .pointer e
  | .map k v => d = .map k v
  | .func => ∃ a b v, d = .func a b v
  | .iface => ∃ m, d = .interface m
  | .other => False
theorem tdB_ok {d : TypeDesc} {t : TD} (h : tdB d t = true) : TdOk d t := by
  unfold tdB at h
  split at h <;> first
    | rfl
    | (rw [show TdOk _ _ = (_ = _) from rfl]; simp at h; rw [h])
    | (exact (by rw [Nat.eq_of_beq_eq_true h]; rfl))
    | (simp only [Bool.and_eq_true] at h; exact (by rw [Nat.eq_of_beq_eq_true h.1, Nat.eq_of_beq_eq_true h.2]; rfl))
    | exact ⟨_, rfl, eqList_eq h⟩
    | exact ⟨_, _, _, rfl⟩
    | exact ⟨_, rfl⟩
    | cases h

structure TiOk (P : Program) (T : Nat) (t : TI) : Prop where
  mk ::
  ex : ∃ d i, P.underlying T = some d ∧ P.info? T = some i ∧ i.size = t.size ∧ i.bytes = t.bytes ∧ TdOk d t.d ∧ (t.agg = false → t.size = 1) ∧
    (∀ y, t.ty = some y → y.sz = t.size ∧ y.isAgg = t.agg ∧ ∃ z, i.zero = some z ∧ z.cells.toList = zcells y ∧ (y.isAgg = false → z.oneCell' = true))
def tiB (P : Program) (T : Nat) (t : TI) : Bool := match P.underlying T, P.info? T with
  | some d, some i => (t.agg || Nat.beq t.size 1) && Nat.beq i.size t.size && Nat.beq i.bytes t.bytes && tdB d t.d && (match t.ty with
    | none => true
    | some y => Nat.beq y.sz t.size && (y.isAgg == t.agg) && (match i.zero with
      | some z => zeqs z.cells.toList (zcells y) && (y.isAgg || z.oneCell')
      | none => false))
  | _, _ => false
theorem tiB_ok {P : Program} {T : Nat} {t : TI} (h : tiB P T t = true) : TiOk P T t := by
  unfold tiB at h
  split at h
  · rename_i d i hd hi
    simp only [Bool.and_eq_true] at h
    obtain ⟨⟨⟨⟨h0, h1⟩, h2⟩, h3⟩, h4⟩ := h
    refine ⟨d, i, hd, hi, Nat.eq_of_beq_eq_true h1, Nat.eq_of_beq_eq_true h2, tdB_ok h3, fun ha => ?_, fun y hy => ?_⟩
    · rw [ha, Bool.false_or] at h0; exact Nat.eq_of_beq_eq_true h0
    rw [hy] at h4
    simp only [Bool.and_eq_true] at h4
    obtain ⟨⟨h5, h6⟩, h7⟩ := h4
    refine ⟨Nat.eq_of_beq_eq_true h5, by simpa using h6, ?_⟩
    split at h7
    · rename_i z hz
      simp only [Bool.and_eq_true] at h7
      exact ⟨z, hz, zeqs_eq h7.1, fun ha => by have := h7.2; rw [ha, Bool.false_or] at this; exact this⟩
    · cases h7
  · cases h
/-- The table is the program's. -/
def TabOk (P : Program) (c : Cfg) : Prop := ∀ T t, c.ti T = some t → TiOk P T t

theorem zcells_rep (S : Nat → Prop) (w : World) : ∀ t : Ty, PRep S w t t.dft (zcells t)
  | .int _ => rfl
  | .bool => rfl
  | .str => rfl
  | .unit => rfl
  | .slice _ => PRep.nil_slice _ _ _
  | .arr n e => ⟨by simp [Ty.dft], List.replicate n (zcells e), by simp, rfl, fun i x ec hx he => by
      simp only [Ty.dft, List.getElem?_replicate] at hx he
      by_cases hi : i < n
      · rw [if_pos hi] at hx he
        cases hx; cases he; exact zcells_rep S w e
      · rw [if_neg hi] at hx; cases hx⟩
  | .pair a b => ⟨_, _, rfl, zcells_rep S w a, zcells_rep S w b⟩
theorem zcells_len (t : Ty) : (zcells t).length = t.sz := PRep.len (S := fun _ => True) (w := default) t _ _ (zcells_rep _ _ t)
theorem kind_zero (k : IntKind) : k.min ≤ 0 ∧ 0 ≤ k.max := by cases k <;> decide
theorem dft_valid : ∀ t : Ty, Valid t t.dft
  | .int k => kind_zero k
  | .bool => trivial
  | .str => ⟨fun x hx => (by cases hx), Nat.zero_le _⟩
  | .unit => trivial
  | .slice e => Valid.nil e
  | .arr n e => ⟨fun x hx => (by rw [List.eq_of_mem_replicate hx]; exact dft_valid e), by simp [Ty.dft]⟩
  | .pair a b => ⟨dft_valid a, dft_valid b⟩
theorem explodeZ_rep {c : Ctx} {ι : Gh} {w : World} {M : Store} : ∀ t : Ty, LsRep c ι w M (explodeZ t) (zcells t)
  | .int k => ⟨_, [], by simp [zcells], ⟨rfl, kind_zero k⟩, rfl⟩
  | .bool => ⟨_, [], by simp [zcells], rfl, rfl⟩
  | .str => ⟨[.string ⟨#[]⟩], [], by simp [zcells], ⟨rfl, dft_valid .str⟩, rfl⟩
  | .unit => rfl
  | .slice _ => ⟨_, [], by simp [zcells], rfl, rfl⟩
  | .arr n e => ⟨_, [], by simp [zcells], ⟨zcells_rep _ _ (.arr n e), dft_valid (.arr n e)⟩, rfl⟩
  | .pair a b => (explodeZ_rep a).append (explodeZ_rep b)

/-! ### constants -/
theorem inR_valid {k : IntKind} {n : Int} (h : inR k n = true) : Valid (.int k) n := by
  show k.min ≤ n ∧ n ≤ k.max
  cases n with
  | ofNat m => cases k <;> simp only [inR, Nat.ble_eq] at h <;> simp [IntKind.min, IntKind.max, IntKind.signed, IntKind.bits] <;> omega
  | negSucc m => cases k <;> simp only [inR, Nat.ble_eq, Bool.false_eq_true] at h <;> simp [IntKind.min, IntKind.max, IntKind.signed, IntKind.bits] <;> omega
theorem bs_back (s : ByteArray) : bs (s.data.toList.map fun b => (b.toNat : Int)) = s := by
  apply ByteArray.ext
  apply Array.ext'
  simp only [bs, List.map_map]
  conv => rhs; rw [← List.map_id s.data.toList]
  refine List.map_congr_left fun b _ => ?_
  simp
theorem constL_rep {c : Ctx} {ι : Gh} {w : World} {M : Store} {v : Value} {l : Leaf} (h : constL v = some l) : LRep c ι w M l [v] := by
  cases v <;> simp only [constL] at h <;> first
    | (cases h; done)
    | skip
  · cases h; rfl
  · rename_i k n
    cases hr : inR k n with
    | false => rw [hr] at h; cases h
    | true => rw [hr] at h; cases h; exact ⟨rfl, inR_valid hr⟩
  · rename_i s
    cases hb : Nat.ble s.size maxLen with
    | false => rw [hb] at h; cases h
    | true =>
    rw [hb] at h
    cases h
    refine ⟨by rw [bs_back], fun x hx => ?_, ?_⟩
    · obtain ⟨b, _, rfl⟩ := List.mem_map.1 hx
      have := b.toNat_lt
      exact ⟨by omega, by omega⟩
    · have := (ble_iff _ _).1 hb
      rw [List.length_map, Array.length_toList]; exact this
  · rename_i p; cases p <;> simp only at h <;> cases h; rfl
  · rename_i p a b
    cases p <;> cases a <;> cases b <;> simp only at h <;> first | cases h | skip
    rfl
  · cases h; rfl
  · cases h; rfl

end Go.Vc
