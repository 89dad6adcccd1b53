/- The types of plain data, what a datum of each is in Lean, and how it lies in a world: a library of this project's own, without any program in sight. -/
import Derived.Laws.AppendOwn
import Derived.Laws.OwnMore
import Derived.Laws.MakeOwn
import Derived.Laws.Slices
import Derived.Laws.Strings
import Derived.Laws.Concat
import Derived.Laws.Small
import Derived.Laws.StructEq
import Derived.IntWalk
import Derived.Below
import Derived.KernelRfl
import Derived.Calls
set_option linter.unusedVariables false
set_option linter.unusedSimpArgs false
namespace Go.Vc

/-- A type of plain data. -/
inductive Ty where
  | int (k : IntKind)
  | bool
  | str
  | unit
  | slice (e : Ty)
  | arr (n : Nat) (e : Ty)
  | pair (a b : Ty)
  deriving DecidableEq

/-- What a datum of a type is: whole numbers, Bools, lists; a string is the list of its bytes. -/
@[reducible] def Ty.den : Ty → Type
  | .int _ => Int
  | .bool => Bool
  | .str => List Int
  | .unit => Unit
  | .slice e => List e.den
  | .arr _ e => List e.den
  | .pair a b => a.den × b.den

/-- How many cells a datum takes. -/
def Ty.sz : Ty → Nat
  | .int _ | .bool | .str | .slice _ => 1
  | .unit => 0
  | .arr n e => n * e.sz
  | .pair a b => a.sz + b.sz

def Ty.isAgg : Ty → Bool
  | .unit | .arr _ _ | .pair _ _ => true
  | _ => false

def Ty.dft : (t : Ty) → t.den
  | .int _ => (0 : Int)
  | .bool => false
  | .str => ([] : List Int)
  | .unit => ()
  | .slice _ => []
  | .arr n e => List.replicate n e.dft
  | .pair a b => (a.dft, b.dft)

/-- A string of bytes. -/
def bs (l : List Int) : ByteArray := ⟨(l.map fun x => UInt8.ofNat x.toNat).toArray⟩
def Byte (x : Int) : Prop := 0 ≤ x ∧ x ≤ 255

/-- Each number is one of its kind, each byte a byte, each length an int. -/
def Valid : (t : Ty) → t.den → Prop
  | .int k, x => k.min ≤ x ∧ x ≤ k.max
  | .bool, _ => True
  | .str, l => (∀ x ∈ l, Byte x) ∧ l.length ≤ maxLen
  | .unit, _ => True
  | .slice e, l => (∀ x ∈ l, Valid e x) ∧ l.length ≤ maxLen
  | .arr n e, l => (∀ x ∈ l, Valid e x) ∧ l.length = n
  | .pair a b, x => Valid a x.1 ∧ Valid b x.2

/-- The cells cs lie from ad on, in a block of S. -/
def At (S : Nat → Prop) (w : World) (ad : Addr) (cs : List Value) : Prop :=
  S ad.block ∧ ∀ i v, cs[i]? = some v → w.cell? (ad.add i) = some v

/-- The cells cs, in w, are the datum x; whatever else it leads to lies in blocks of S. -/
def PRep (S : Nat → Prop) (w : World) : (t : Ty) → t.den → List Value → Prop
  | .int k, x, cs => cs = [.int k x]
  | .bool, b, cs => cs = [.bool b]
  | .str, l, cs => cs = [.string (bs l)]
  | .unit, _, cs => cs = []
  | .slice e, l, cs => ∃ a n c, cs = [.slice a n c] ∧ l.length = n ∧ n ≤ c ∧
      (0 < n → ∃ ad, a = some ad ∧ ∀ (i : Nat) x, l[i]? = some x → ∃ ecs, PRep S w e x ecs ∧ At S w (ad.add (i * e.sz)) ecs)
  | .arr n e, l, cs => l.length = n ∧ ∃ ess : List (List Value), ess.length = n ∧ cs = ess.flatten ∧
      ∀ (i : Nat) x ec, l[i]? = some x → ess[i]? = some ec → PRep S w e x ec
  | .pair a b, x, cs => ∃ c1 c2, cs = c1 ++ c2 ∧ PRep S w a x.1 c1 ∧ PRep S w b x.2 c2

theorem At.mono {S S' : Nat → Prop} {w w' : World} {ad : Addr} {cs : List Value} (hS : ∀ b, S b → S' b) (hw : ∀ b, S b → w'.heap[b]? = w.heap[b]?)
    (h : At S w ad cs) : At S' w' ad cs := by
  refine ⟨hS _ h.1, fun i v hv => ?_⟩
  rw [← h.2 i v hv]
  refine World.cell?_of_block (hw _ ?_)
  have : (ad.add i).block = ad.block := by unfold Addr.add; split <;> rfl
  rw [this]; exact h.1

theorem PRep.mono {S S' : Nat → Prop} {w w' : World} (hS : ∀ b, S b → S' b) (hw : ∀ b, S b → w'.heap[b]? = w.heap[b]?) :
    ∀ (t : Ty) (x : t.den) (cs : List Value), PRep S w t x cs → PRep S' w' t x cs := by
  intro t
  induction t with
  | int k => exact fun x cs h => h
  | bool => exact fun x cs h => h
  | str => exact fun x cs h => h
  | unit => exact fun x cs h => h
  | slice e ih =>
    rintro l cs ⟨a, n, c, h1, h2, h3, h4⟩
    refine ⟨a, n, c, h1, h2, h3, fun hn => ?_⟩
    obtain ⟨ad, h5, h6⟩ := h4 hn
    refine ⟨ad, h5, fun i x hx => ?_⟩
    obtain ⟨ecs, h7, h8⟩ := h6 i x hx
    exact ⟨ecs, ih x ecs h7, h8.mono hS hw⟩
  | arr n e ih =>
    rintro l cs ⟨h1, ess, h2, h3, h4⟩
    exact ⟨h1, ess, h2, h3, fun i x ec hx he => ih x ec (h4 i x ec hx he)⟩
  | pair a b iha ihb =>
    rintro x cs ⟨c1, c2, h1, h2, h3⟩
    exact ⟨c1, c2, h1, iha _ _ h2, ihb _ _ h3⟩

theorem length_flatten_const {α : Type} (n : Nat) : ∀ (ess : List (List α)), (∀ ec ∈ ess, ec.length = n) → ess.flatten.length = ess.length * n
  | [], _ => by simp
  | e :: r, h => by
    rw [List.flatten_cons, List.length_append, h e (by simp), length_flatten_const n r (fun ec hec => h ec (by simp [hec])), List.length_cons, Nat.succ_mul]; omega

theorem PRep.len {S : Nat → Prop} {w : World} : ∀ (t : Ty) (x : t.den) (cs : List Value), PRep S w t x cs → cs.length = t.sz := by
  intro t
  induction t with
  | int k => rintro x cs rfl; rfl
  | bool => rintro x cs rfl; rfl
  | str => rintro x cs rfl; rfl
  | unit => rintro x cs rfl; rfl
  | slice e ih => rintro l cs ⟨a, n, c, rfl, _⟩; rfl
  | arr n e ih =>
    rintro l cs ⟨h1, ess, h2, rfl, h4⟩
    rw [length_flatten_const e.sz, h2]; · rfl
    intro ec hec
    obtain ⟨i, hi, rfl⟩ := List.getElem_of_mem hec
    exact ih _ _ (h4 i (l[i]'(by omega)) ess[i] (by simp) (by simp))
  | pair a b iha ihb =>
    rintro x cs ⟨c1, c2, rfl, h2, h3⟩
    rw [List.length_append, iha _ _ h2, ihb _ _ h3]; rfl

/-- No cell of a datum is an aggregate. -/
theorem PRep.one {S : Nat → Prop} {w : World} : ∀ (t : Ty) (x : t.den) (cs : List Value), PRep S w t x cs → ∀ v ∈ cs, v.oneCell' = true := by
  intro t
  induction t with
  | int k => rintro x cs rfl v hv; simp at hv; subst hv; rfl
  | bool => rintro x cs rfl v hv; simp at hv; subst hv; rfl
  | str => rintro x cs rfl v hv; simp at hv; subst hv; rfl
  | unit => rintro x cs rfl v hv; simp at hv
  | slice e ih => rintro l cs ⟨a, n, c, rfl, _⟩ v hv; simp at hv; subst hv; rfl
  | arr n e ih =>
    rintro l cs ⟨h1, ess, h2, rfl, h4⟩ v hv
    obtain ⟨ec, hec, hv⟩ := List.mem_flatten.1 hv
    obtain ⟨i, hi, rfl⟩ := List.getElem_of_mem hec
    exact ih _ _ (h4 i (l[i]'(by omega)) ess[i] (by simp) (by simp)) v hv
  | pair a b iha ihb =>
    rintro x cs ⟨c1, c2, rfl, h2, h3⟩ v hv
    rcases List.mem_append.1 hv with h | h
    · exact iha _ _ h2 v h
    · exact ihb _ _ h3 v h

/-! ### bytes -/
theorem bs_size (l : List Int) : (bs l).size = l.length := by simp [bs, ByteArray.size]
theorem bs_toList (l : List Int) : (bs l).toList = l.map fun x => UInt8.ofNat x.toNat := by simp [bs]
theorem bs_append (l m : List Int) : bs (l ++ m) = bs l ++ bs m := by
  simp only [bs, List.map_append]
  exact (ByteArray.mk_append_mk _ _).symm
theorem byte_back {x : Int} (h : Byte x) : ((UInt8.ofNat x.toNat).toNat : Int) = x := by
  obtain ⟨h0, h1⟩ := h
  simp only [UInt8.toNat_ofNat']
  omega
theorem bs_inj {l m : List Int} (hl : ∀ x ∈ l, Byte x) (hm : ∀ x ∈ m, Byte x) (h : (bs l).toList = (bs m).toList) : l = m := by
  rw [bs_toList, bs_toList] at h
  have back : ∀ (l : List Int), (∀ x ∈ l, Byte x) → (l.map fun x => UInt8.ofNat x.toNat).map (fun u => (u.toNat : Int)) = l := by
    intro l hl
    induction l with
    | nil => rfl
    | cons x r ih =>
      simp only [List.map_cons]
      rw [byte_back (hl x (by simp)), ih (fun y hy => hl y (by simp [hy]))]
  rw [← back l hl, ← back m hm, h]
theorem bs_eql {l m : List Int} (hl : ∀ x ∈ l, Byte x) (hm : ∀ x ∈ m, Byte x) : ((bs l).toList == (bs m).toList) = (l == m) := by
  rw [Bool.eq_iff_iff, beq_iff_eq, beq_iff_eq]
  exact ⟨bs_inj hl hm, fun h => by rw [h]⟩
/-- '<' on strings. -/
def bytesLt : List Int → List Int → Bool
  | _, [] => false
  | [], _ :: _ => true
  | a :: x, b :: y => decide (a < b) || (a == b && bytesLt x y)
theorem bs_lt : ∀ {l m : List Int}, (∀ x ∈ l, Byte x) → (∀ x ∈ m, Byte x) → Op.bytesLess (bs l).toList (bs m).toList = bytesLt l m
  | l, [], _, _ => by rw [bs_toList, bs_toList]; cases l <;> simp [Op.bytesLess, bytesLt]
  | [], b :: y, _, _ => by rw [bs_toList, bs_toList]; simp [Op.bytesLess, bytesLt]
  | a :: x, b :: y, hl, hm => by
    have ih := bs_lt (l := x) (m := y) (fun z hz => hl z (by simp [hz])) (fun z hz => hm z (by simp [hz]))
    rw [bs_toList, bs_toList] at ih ⊢
    have ha := byte_back (hl a (by simp))
    have hb := byte_back (hm b (by simp))
    simp only [List.map_cons, Op.bytesLess, bytesLt]
    rw [ih]
    have e1 : (decide (UInt8.ofNat a.toNat < UInt8.ofNat b.toNat)) = decide (a < b) := by
      rw [decide_eq_decide, UInt8.lt_iff_toNat_lt]
      omega
    have e2 : (UInt8.ofNat a.toNat == UInt8.ofNat b.toNat) = (a == b) := by
      rw [Bool.eq_iff_iff, beq_iff_eq, beq_iff_eq]
      constructor
      · intro h; rw [h] at ha; omega
      · intro h; rw [h]
    rw [e1, e2]
theorem bs_extract (l : List Int) (i j : Nat) : (bs l).extract i j = bs ((l.drop i).take (j - i)) := by
  apply ByteArray.ext
  simp only [bs, ByteArray.data_extract]
  apply Array.ext'
  simp [List.map_drop, List.map_take, List.take_drop]
theorem bs_get (l : List Int) (i : Nat) (hl : ∀ x ∈ l, Byte x) (x : Int) (hx : l[i]? = some x) : ∃ b : UInt8, (bs l)[i]? = some b ∧ (b.toNat : Int) = x := by
  obtain ⟨hi, rfl⟩ := List.getElem?_eq_some_iff.1 hx
  have hi' : i < (bs l).size := by rw [bs_size]; exact hi
  refine ⟨UInt8.ofNat (l[i]).toNat, ?_, byte_back (hl _ (List.getElem_mem hi))⟩
  rw [ByteArray.getElem?_lt' _ _ hi']
  congr 1
  show (bs l).data[i]'_ = _
  simp [bs]

end Go.Vc
