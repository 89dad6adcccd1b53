/- A symbolic evaluator of the dump's code over plain data: what an operation makes of known values, which tests it asks, which memory of its own it makes or changes. -/
import Derived.Test.YtddakledpipanaaVcBase
set_option linter.unusedVariables false
set_option linter.unusedSimpArgs false
namespace Go.Vc

/-- One cell's value (an array in place: its cells). -/
inductive Leaf where
  | int (k : IntKind) (x : Int)
  | bool (b : Bool)
  | kb (b : Bool)
  | str (l : List Int)
  | psl (fr : Bool) (t : Ty) (l : List t.den)
  | arr (n : Nat) (fr : Bool) (t : Ty) (l : List t.den)
  | nils
  | nilp
  | nilf
  | nili
  | own (id : Nat)
  | sl (id lo n : Nat)
  | asl (id off lo n : Nat)
  | ptr (id off : Nat)
  | eptr (id i off : Nat)
  | aptr (id aoff i off : Nat)
  | cst (fr : Bool) (t : Ty) (x : t.den)
  | fn (f : Nat) (caps : List Nat)

def Leaf.width : Leaf → Nat
  | .arr n _ t _ => n * t.sz
  | _ => 1

def Leaf.asB : Leaf → Option Bool
  | .bool b | .kb b => some b
  | _ => none

structure V where
  agg : Bool
  ls : List Leaf

inductive SV where
  | v (x : V)
  | tup (l : List V)

inductive Entry where
  | row (e : Nat) (t : Ty) (fr app : Bool) (l : List t.den)
  | frz (t : Ty) (fr : Bool) (l : List t.den)
  | obj (ls : List Leaf)
  | dead

abbrev Store := List (Nat × Entry)
def Store.get : Store → Nat → Option Entry
  | [], _ => none
  | (i, e) :: r, id => cond (Nat.beq i id) (some e) (Store.get r id)
def Store.set : Store → Nat → Entry → Store
  | [], id, e => [(id, e)]
  | (i, x) :: r, id, e => cond (Nat.beq i id) ((id, e) :: r) ((i, x) :: Store.set r id e)
def Store.upds (M : Store) : List (Nat × Entry) → Store
  | [] => M
  | (i, e) :: r => Store.upds (Store.set M i e) r

/-- What a type is. -/
inductive TD where
  | bool
  | int (k : IntKind)
  | str
  | slice (e : Nat)
  | array (n e : Nat)
  | struct (fs : List (Nat × Nat))
  | ptr (e : Nat)
  | map (k v : Nat)
  | func
  | iface
  | other
structure TI where
  d : TD
  size : Nat
  bytes : Nat
  ty : Option Ty
def TI.agg (t : TI) : Bool := match t.d with
  | .struct _ | .array _ _ => true
  | _ => false

structure Eff where
  pre : List Prop
  sv : SV
  upd : List (Nat × Entry)

/-- What a call does: the tests, what it hands back, the entries that it was handed as they are behind it, entries of its own (numbered behind those). -/
structure Done where
  pre : List Prop
  res : SV
  back : List Entry
  made : List Entry

@[reducible] def DenL : List Ty → Type
  | [] => Unit
  | [t] => t.den
  | t :: u :: r => t.den × DenL (u :: r)
/-- What a call does: of plain data alone (alias: what it hands back may lead to what it was given), or with entries that are handed over. -/
inductive Sum where
  | pure (ts : List Ty) (alias : Bool) (f : DenL ts → Done)
  | gen (f : List V → List Entry → Option Done)
structure Cfg where
  ti : Nat → Option TI
  sum : Nat → Option Sum
  glob : Nat → Option (Sigma Ty.den)

def one (l : Leaf) : V := ⟨false, [l]⟩
def SV.one (l : Leaf) : SV := .v (Vc.one l)
def V.leaf : V → Option Leaf
  | ⟨false, [l]⟩ => some l
  | _ => none

def explode (fr : Bool) : (t : Ty) → t.den → List Leaf
  | .int k, x => [.int k x]
  | .bool, b => [.bool b]
  | .str, l => [.str l]
  | .unit, _ => []
  | .slice e, l => [.psl fr e l]
  | .arr n e, l => [.arr n fr e l]
  | .pair a b, x => explode fr a x.1 ++ explode fr b x.2
/-- The leaves of a type's zero value. -/
def explodeZ : Ty → List Leaf
  | .int k => [.int k 0]
  | .bool => [.kb false]
  | .str => [.str []]
  | .unit => []
  | .slice _ => [.nils]
  | .arr n e => [.arr n true e (List.replicate n e.dft)]
  | .pair a b => explodeZ a ++ explodeZ b
def V.of (fr : Bool) (t : Ty) (x : t.den) : V := ⟨t.isAgg, explode fr t x⟩

structure Im (t : Ty) where
  fr : Bool
  x : t.den
  rest : List Leaf
  frz : List (Nat × Entry)

/-- Leaves as a datum of a type; rows of one's own that it leads to can no longer be changed. -/
def implode (M : Store) : (t : Ty) → List Leaf → Option (Im t)
  | .int k, .int k' x :: r => if k' = k then some ⟨true, x, r, []⟩ else none
  | .bool, .bool b :: r => some ⟨true, b, r, []⟩
  | .bool, .kb b :: r => some ⟨true, b, r, []⟩
  | .str, .str l :: r => some ⟨true, l, r, []⟩
  | .unit, r => some ⟨true, (), r, []⟩
  | .slice e, .psl fr e' l :: r => if h : e' = e then some ⟨fr, (h ▸ l : List e.den), r, []⟩ else none
  | .slice _, .nils :: r => some ⟨true, [], r, []⟩
  | .slice e, .own id :: r => match M.get id with
    | some (.row _ t fr _ l) => if h : t = e then some ⟨fr, (h ▸ l : List e.den), r, [(id, .frz t fr l)]⟩ else none
    | some (.frz t fr l) => if h : t = e then some ⟨fr, (h ▸ l : List e.den), r, []⟩ else none
    | _ => none
  | .slice e, .sl id lo n :: r => match M.get id with
    | some (.row _ t fr _ l) => if h : t = e then some ⟨fr, (h ▸ (l.drop lo).take n : List e.den), r, [(id, .frz t fr l)]⟩ else none
    | some (.frz t fr l) => if h : t = e then some ⟨fr, (h ▸ (l.drop lo).take n : List e.den), r, []⟩ else none
    | _ => none
  | .arr n e, .arr m fr e' l :: r => if h : e' = e then (if m = n then some ⟨fr, (h ▸ l : List e.den), r, []⟩ else none) else none
  | .pair a b, ls => match implode M a ls with
    | some p => match implode M b p.rest with
      | some q => some ⟨p.fr && q.fr, (p.x, q.x), q.rest, p.frz ++ q.frz⟩
      | none => none
    | none => none
  | _, _ => none

/-- The leaves of n cells from off on. -/
def lget : List Leaf → Nat → Nat → Option (List Leaf)
  | ls, 0, n => go ls n
  | [], _ + 1, _ => none
  | l :: r, off + 1, n => cond (Nat.ble l.width (off + 1)) (lget r (off + 1 - l.width) n) none
where
  go : List Leaf → Nat → Option (List Leaf)
    | _, 0 => some []
    | [], _ + 1 => none
    | l :: r, n + 1 => cond (Nat.ble l.width (n + 1)) (match go r (n + 1 - l.width) with | some x => some (l :: x) | none => none) none
/-- ls with n cells from off on replaced by new. -/
def lset : List Leaf → Nat → Nat → List Leaf → Option (List Leaf)
  | ls, 0, n, new => match drop ls n with
    | some r => some (new ++ r)
    | none => none
  | [], _ + 1, _, _ => none
  | l :: r, off + 1, n, new => cond (Nat.ble l.width (off + 1)) (match lset r (off + 1 - l.width) n new with | some x => some (l :: x) | none => none) none
where
  drop : List Leaf → Nat → Option (List Leaf)
    | ls, 0 => some ls
    | [], _ + 1 => none
    | l :: r, n + 1 => cond (Nat.ble l.width (n + 1)) (drop r (n + 1 - l.width)) none
def widths (ls : List Leaf) : Nat := match ls with
  | [] => 0
  | l :: r => l.width + widths r

/-- The leaf that begins at off. -/
def lat : List Leaf → Nat → Option Leaf
  | [], _ => none
  | l :: _, 0 => some l
  | l :: r, off + 1 => cond (Nat.ble l.width (off + 1)) (lat r (off + 1 - l.width)) none

def inR (k : IntKind) (n : Int) : Bool := match n with
  | .ofNat m => Nat.ble m (match k with | .i8 => 127 | .i16 => 32767 | .i32 => 2147483647 | .i64 => 9223372036854775807 | .u8 => 255 | .u16 => 65535 | .u32 => 4294967295 | .u64 => 18446744073709551615)
  | .negSucc m => match k with | .i8 => Nat.ble m 127 | .i16 => Nat.ble m 32767 | .i32 => Nat.ble m 2147483647 | .i64 => Nat.ble m 9223372036854775807 | _ => false

def constL : Value → Option Leaf
  | .int k n => cond (inR k n) (some (.int k n)) none
  | .bool b => some (.kb b)
  | .string s => cond (Nat.ble s.size maxLen) (some (.str (s.data.toList.map fun b => (b.toNat : Int)))) none
  | .slice none 0 0 => some .nils
  | .pointer none => some .nilp
  | .nilFunc => some .nilf
  | .nilIface => some .nili
  | _ => none
def allSome {α : Type} : List (Option α) → Option (List α)
  | [] => some []
  | none :: _ => none
  | some x :: r => match allSome r with
    | some y => some (x :: y)
    | none => none
def constV : Value → Option V
  | .agg cs => match allSome (cs.toList.map constL) with
    | some ls => some ⟨true, ls⟩
    | none => none
  | v => match constL v with
    | some l => some (one l)
    | none => none

/-- What is at offset o of a datum, of type tf. -/
def sub : (t : Ty) → t.den → Nat → (tf : Ty) → Option tf.den
  | .pair a b, x, o, tf => if h : Ty.pair a b = tf ∧ o = 0 then some (h.1 ▸ x : tf.den) else
      cond (Nat.blt o a.sz) (sub a x.1 o tf) (sub b x.2 (o - a.sz) tf)
  | t, x, o, tf => if h : t = tf ∧ o = 0 then some (h.1 ▸ x : tf.den) else none

def idx {t : Ty} (l : List t.den) (i : Nat) : t.den := l.getD i t.dft

/-- The type table. -/
def fieldOf (c : Cfg) (T f : Nat) : Option (Nat × Nat) := match c.ti T with
  | some ⟨.struct fs, _, _, _⟩ => fs[f]?
  | _ => none
def sized (c : Cfg) (T : Nat) : Bool := match c.ti T with
  | some t => Nat.blt 0 t.size
  | none => false
def sizeT (c : Cfg) (T : Nat) : Option Nat := match c.ti T with
  | some t => some t.size
  | none => none

/-- The same places for arrays, one by one. -/
def shapeB : List Leaf → List Leaf → Bool
  | [], [] => true
  | .arr n _ t _ :: r, .arr n' _ t' _ :: s => (if t = t' then Nat.beq n n' else false) && shapeB r s
  | .arr .. :: _, _ => false
  | _, .arr .. :: _ => false
  | _ :: r, _ :: s => shapeB r s
  | _, _ => false

/-- A slice type whose elements take n cells; an array type of m such elements; string. -/
def isSl (c : Cfg) (T n : Nat) : Bool := match c.ti T with
  | some ⟨.slice e, _, _, _⟩ => match c.ti e with
    | some ti => Nat.beq ti.size n
    | none => false
  | _ => false
def isAr (c : Cfg) (T m n : Nat) : Bool := match c.ti T with
  | some ⟨.array m' e, _, _, _⟩ => match c.ti e with
    | some ti => Nat.beq m' m && Nat.beq ti.size n
    | none => false
  | _ => false
def isStr (c : Cfg) (T : Nat) : Bool := match c.ti T with
  | some ⟨.str, _, _, _⟩ => true
  | _ => false

section
variable (c : Cfg) (M : Store)

def evLoad (T : Nat) (x : Leaf) : Option (List Prop × V) := match c.ti T with
  | none => none
  | some ti => match x with
    | .cst fr t y => match ti.ty with
      | some t' => if t' = t then some ([], .of fr t y) else none
      | none => none
    | .ptr id off => match M.get id with
      | some (.obj ls) => match lget ls off ti.size with
        | some r => some ([], ⟨ti.agg, r⟩)
        | none => none
      | _ => none
    | .eptr id i off => match M.get id with
      | some (.row _ t fr _ l) => match lget (explode fr t (idx l i)) off ti.size with
        | some r => some ([i < l.length], ⟨ti.agg, r⟩)
        | none => none
      | some (.frz t fr l) => match lget (explode fr t (idx l i)) off ti.size with
        | some r => some ([i < l.length], ⟨ti.agg, r⟩)
        | none => none
      | _ => none
    | .aptr id aoff i off => match M.get id with
      | some (.obj ls) => match lat ls aoff with
        | some (.arr n fr t l) => match lget (explode fr t (idx l i)) off ti.size with
          | some r => some ([i < n], ⟨ti.agg, r⟩)
          | none => none
        | _ => none
      | _ => none
    | _ => none

def evStore (T : Nat) (x : Leaf) (y : V) : Option (List Prop × List (Nat × Entry)) := match c.ti T with
  | none => none
  | some ti => cond (Nat.beq (widths y.ls) ti.size) (match x with
    | .ptr id off => match M.get id with
      | some (.obj ls) => match lset ls off ti.size y.ls with
        | some r => cond (shapeB ls r) (some ([], [(id, .obj r)])) none
        | none => none
      | _ => none
    | .eptr id i off => match M.get id with
      | some (.row e t fr ap l) => match lset (explode fr t (idx l i)) off ti.size y.ls with
        | some r => match implode M t r with
          | some im => match im.rest with
            | [] => cond (im.frz.all fun p => !(Nat.beq p.1 id)) (some ([i < l.length], im.frz ++ [(id, .row e t (fr && im.fr) ap (l.set i im.x))])) none
            | _ => none
          | none => none
        | none => none
      | _ => none
    | .aptr id aoff i off => match M.get id with
      | some (.obj ls) => match lat ls aoff with
        | some (.arr n fr t l) => match lset (explode fr t (idx l i)) off ti.size y.ls with
          | some r => match implode M t r with
            | some im => match im.rest, lset ls aoff (n * t.sz) [.arr n (fr && im.fr) t (l.set i im.x)] with
              | [], some ls' => cond (shapeB ls ls' && im.frz.all fun p => !(Nat.beq p.1 id)) (some ([i < n], im.frz ++ [(id, .obj ls')])) none
              | _, _ => none
            | none => none
          | none => none
        | _ => none
      | _ => none
    | _ => none) none

def evIndexAddr (T : Nat) (x : Leaf) (i : Int) : Option (List Prop × Leaf) := match x with
    | .psl fr t l => cond (isSl c T t.sz) (some ([0 ≤ i, i < (l.length : Int)], .cst fr t (idx l i.toNat))) none
    | .own id => match M.get id with
      | some (.row _ t _ _ l) => cond (isSl c T t.sz) (some ([0 ≤ i, i < (l.length : Int)], .eptr id i.toNat 0)) none
      | some (.frz t fr l) => cond (isSl c T t.sz) (some ([0 ≤ i, i < (l.length : Int)], .cst fr t (idx l i.toNat))) none
      | _ => none
    | .sl id lo n => match M.get id with
      | some (.row _ t _ _ _) => cond (isSl c T t.sz) (some ([0 ≤ i, i < (n : Int)], .eptr id (lo + i.toNat) 0)) none
      | some (.frz t fr l) => cond (isSl c T t.sz) (some ([0 ≤ i, i < (n : Int)], .cst fr t (idx l (lo + i.toNat)))) none
      | _ => none
    | .asl id off lo n => match M.get id with
      | some (.obj ls) => match lat ls off with
        | some (.arr _ _ t _) => cond (isSl c T t.sz) (some ([0 ≤ i, i < (n : Int)], .aptr id off (lo + i.toNat) 0)) none
        | _ => none
      | _ => none
    | .ptr id off => match M.get id with
      | some (.obj ls) => match lat ls off with
        | some (.arr n _ t _) => cond (isAr c T n t.sz) (some ([0 ≤ i, i < (n : Int)], .aptr id off i.toNat 0)) none
        | _ => none
      | _ => none
    | .cst fr (.arr n t) l => cond (isAr c T n t.sz) (some ([0 ≤ i, i < (n : Int)], .cst fr t (idx l i.toNat))) none
    | _ => none

def isBoolT (c : Cfg) (T : Nat) : Bool := match c.ti T with
  | some ⟨.bool, _, _, _⟩ => true
  | _ => false
def evBin (T : Nat) (op : BinOp) (x y : Leaf) : Option (List Prop × Leaf) := match x, y with
  | .int k a, .int k' b => match op with
    | .shl => some ([0 ≤ b], .int k (k.wrap (a * 2 ^ (min b.toNat k.bits))))
    | .shr => some ([0 ≤ b], .int k (a.fdiv (2 ^ (min b.toNat k.bits))))
    | _ => if k' = k then match op with
      | .add => some ([], .int k (k.wrap (a + b)))
      | .sub => some ([], .int k (k.wrap (a - b)))
      | .mul => some ([], .int k (k.wrap (a * b)))
      | .quo => some ([b ≠ 0], .int k (k.wrap (a.tdiv b)))
      | .rem => some ([b ≠ 0], .int k (a.tmod b))
      | .and => some ([], .int k (k.wrap (BitVec.ofInt k.bits a &&& BitVec.ofInt k.bits b).toNat))
      | .or => some ([], .int k (k.wrap (BitVec.ofInt k.bits a ||| BitVec.ofInt k.bits b).toNat))
      | .xor => some ([], .int k (k.wrap (BitVec.ofInt k.bits a ^^^ BitVec.ofInt k.bits b).toNat))
      | .andNot => some ([], .int k (k.wrap (BitVec.ofInt k.bits a &&& ~~~ (BitVec.ofInt k.bits b)).toNat))
      | .eql => some ([], .bool (a == b))
      | .neq => some ([], .bool (a != b))
      | .lss => some ([], .bool (decide (a < b)))
      | .leq => some ([], .bool (decide (a ≤ b)))
      | .gtr => some ([], .bool (decide (a > b)))
      | .geq => some ([], .bool (decide (a ≥ b)))
      | _ => none else none
  | .str a, .str b => match op with
    | .add => some ([a.length + b.length ≤ 9223372036854775807], .str (a ++ b))
    | .eql => some ([], .bool (a == b))
    | .neq => some ([], .bool (!(a == b)))
    | .lss => some ([], .bool (bytesLt a b))
    | .leq => some ([], .bool (bytesLt a b || a == b))
    | .gtr => some ([], .bool (!(bytesLt a b || a == b)))
    | .geq => some ([], .bool (!(bytesLt a b)))
    | _ => none
  | a, b => match a.asB, b.asB with
    | some a, some b => match op with
      | .eql => cond (isBoolT c T) (some ([], .bool (a == b))) none
      | .neq => cond (isBoolT c T) (some ([], .bool (!(a == b)))) none
      | _ => none
    | _, _ => none

def evUn (op : UnOp) (x : Leaf) : Option Leaf := match op, x with
  | .neg, .int k a => some (.int k (k.wrap (0 - a)))
  | .not, .bool b => some (.bool (!b))
  | .not, .kb b => some (.kb (!b))
  | _, _ => none

/-- The list that a slice reads as (nil: empty). -/
def listOf (e : Ty) : Leaf → Option (Bool × List e.den)
  | .psl fr t l => if h : t = e then some (fr, (h ▸ l : List e.den)) else none
  | .nils => some (true, [])
  | .own id => match M.get id with
    | some (.row _ t fr _ l) | some (.frz t fr l) => if h : t = e then some (fr, (h ▸ l : List e.den)) else none
    | _ => none
  | .sl id lo n => match M.get id with
    | some (.row _ t fr _ l) | some (.frz t fr l) => if h : t = e then some (fr, (h ▸ (l.drop lo).take n : List e.den)) else none
    | _ => none
  | .asl id off lo n => match M.get id with
    | some (.obj ls) => match lat ls off with
      | some (.arr N fr t l) => if h : t = e then cond (Nat.ble N maxLen) (some (fr, (h ▸ (l.drop lo).take n : List e.den))) none else none
      | _ => none
    | _ => none
  | .str l => match e with
    | .int .u8 => some (true, l)
    | _ => none
  | _ => none

def isSlT (c : Cfg) (T : Nat) : Bool := match c.ti T with
  | some ⟨.slice _, _, _, _⟩ => true
  | _ => false
def evLen0 (x : Leaf) : Option Int := match x with
  | .psl _ _ l => some (l.length : Int)
  | .nils => some 0
  | .own id => match M.get id with
    | some (.row _ _ _ _ l) | some (.frz _ _ l) => some (l.length : Int)
    | _ => none
  | .sl id _ n => match M.get id with
    | some (.row ..) | some (.frz ..) => some (n : Int)
    | _ => none
  | .asl id off _ n => match M.get id with
    | some (.obj ls) => match lat ls off with
      | some (.arr N _ _ _) => cond (Nat.ble N maxLen) (some (n : Int)) none
      | _ => none
    | _ => none
  | _ => none
def evLen (T : Nat) (x : Leaf) : Option Int := match x with
  | .str l => cond (isStr c T) (some (l.length : Int)) none
  | x => cond (isSlT c T) (evLen0 M x) none

/-- A type whose data lead nowhere. -/
def flatT : Ty → Bool
  | .slice _ => false
  | .arr _ e => flatT e
  | .pair a b => flatT a && flatT b
  | _ => true
def isStrL : Leaf → Bool
  | .str _ => true
  | _ => false
def evAppend (nid T U : Nat) (x y : Leaf) : Option Eff := match c.ti T with
  | some ⟨.slice e, _, _, _⟩ => match c.ti e with
    | some ⟨_, _, bytes, some te⟩ => match cond (Nat.blt 0 te.sz && cond (isStrL y) (isStr c U && Nat.beq bytes 1) (Nat.beq U T)) (listOf M te y) none with
      | some (fy, m) => match x with
        | .nils => some ⟨[m.length * bytes ≤ 140737488355328, m.length ≤ maxLen], .one (.own nid), [(nid, .row e te (fy || flatT te) true m)]⟩
        | .own id => match M.get id with
          | some (.row e' t fr true l) => if h : t = te then cond (Nat.beq e' e)
              (some ⟨[(l.length + m.length) * bytes ≤ 140737488355328, l.length + m.length ≤ maxLen], .one (.own nid),
                [(id, .dead), (nid, .row e te (fr && (fy || flatT te)) true ((h ▸ l : List te.den) ++ m))]⟩) none else none
          | _ => none
        | _ => none
      | none => none
    | _ => none
  | _ => none

def evSlice (T : Nat) (x : Leaf) (lo hi : Option Int) : Option (List Prop × Leaf) := 
  match x with
  | .str l => cond (isStr c T) (some ([0 ≤ lo.getD 0, lo.getD 0 ≤ hi.getD (l.length : Int), hi.getD (l.length : Int) ≤ (l.length : Int)],
      .str ((l.drop (lo.getD 0).toNat).take ((hi.getD (l.length : Int)).toNat - (lo.getD 0).toNat)))) none
  | .psl fr t l => cond (isSl c T t.sz) (some ([0 ≤ lo.getD 0, lo.getD 0 ≤ hi.getD (l.length : Int), hi.getD (l.length : Int) ≤ (l.length : Int)],
      .psl fr t ((l.drop (lo.getD 0).toNat).take ((hi.getD (l.length : Int)).toNat - (lo.getD 0).toNat)))) none
  | .own id => match lo, hi, M.get id with
    | none, none, some (.row _ t _ _ _) => cond (isSl c T t.sz) (some ([], .own id)) none
    | _, _, some (.row _ t _ _ l) => cond (isSl c T t.sz) (some ([0 ≤ lo.getD 0, lo.getD 0 ≤ hi.getD (l.length : Int), hi.getD (l.length : Int) ≤ (l.length : Int)],
        .sl id (lo.getD 0).toNat ((hi.getD (l.length : Int)).toNat - (lo.getD 0).toNat))) none
    | _, _, some (.frz t fr l) => cond (isSl c T t.sz) (some ([0 ≤ lo.getD 0, lo.getD 0 ≤ hi.getD (l.length : Int), hi.getD (l.length : Int) ≤ (l.length : Int)],
        .psl fr t ((l.drop (lo.getD 0).toNat).take ((hi.getD (l.length : Int)).toNat - (lo.getD 0).toNat)))) none
    | _, _, _ => none
  | .sl id o n => match M.get id with
    | some (.row _ t _ _ _) => cond (isSl c T t.sz) (some ([0 ≤ lo.getD 0, lo.getD 0 ≤ hi.getD (n : Int), hi.getD (n : Int) ≤ (n : Int)],
        .sl id (o + (lo.getD 0).toNat) ((hi.getD (n : Int)).toNat - (lo.getD 0).toNat))) none
    | _ => none
  | .ptr id off => match M.get id with
    | some (.obj ls) => match lat ls off with
      | some (.arr n _ t _) => cond (isAr c T n t.sz) (some ([0 ≤ lo.getD 0, lo.getD 0 ≤ hi.getD (n : Int), hi.getD (n : Int) ≤ (n : Int)],
          .asl id off (lo.getD 0).toNat ((hi.getD (n : Int)).toNat - (lo.getD 0).toNat))) none
      | _ => none
    | _ => none
  | _ => none

def evConvert (nid S T : Nat) (x : Leaf) : Option Eff := match c.ti S, c.ti T with
  | some si, some ti => match x, ti.d with
    | .int _ n, .int k => some ⟨[], .one (.int k (k.wrap n)), []⟩
    | .str l, .str => some ⟨[], .one (.str l), []⟩
    | .str l, .slice e => match c.ti e with
      | some ⟨.int .u8, _, _, _⟩ => some ⟨[], .one (.own nid), [(nid, .row e (.int .u8) true false l)]⟩
      | _ => none
    | .own id, .slice e => match c.ti e with
      | some ⟨.int .u8, _, _, _⟩ => match M.get id with
        | some (.row e' t fr true l) => cond (Nat.beq S T) (some ⟨[0 < l.length], .one (.own id), [(id, .row e' t fr false l)]⟩) none
        | _ => none
      | _ => none
    | _, .str => match si.d with
      | .slice e => match c.ti e with
        | some ⟨.int .u8, _, _, _⟩ => match listOf M (.int .u8) x with
          | some (_, l) => some ⟨[], .one (.str l), []⟩
          | none => none
        | _ => none
      | _ => none
    | _, _ => none
  | _, _ => none

/-- Two values of one struct, leaf by leaf. -/
def evEqLs : List Leaf → List Leaf → Option Bool
  | [], [] => some true
  | .int k a :: r, .int k' b :: s => if k = k' then match evEqLs r s with
    | some t => some (a == b && t)
    | none => none else none
  | .bool a :: r, .bool b :: s | .bool a :: r, .kb b :: s | .kb a :: r, .bool b :: s | .kb a :: r, .kb b :: s => match evEqLs r s with
    | some t => some (a == b && t)
    | none => none
  | .str a :: r, .str b :: s => match evEqLs r s with
    | some t => some (a == b && t)
    | none => none
  | .arr n _ (.int k) a :: r, .arr n' _ (.int k') b :: s => if k = k' ∧ n = n' then match evEqLs r s with
    | some t => some (a == b && t)
    | none => none else none
  | _, _ => none
end

/-! ### States, operands, guards -/
structure St where
  env : List (Option SV)
  cenv : List (Nat × List (Nat × Bool) × SV)
  M : Store
def eget : List (Option SV) → Nat → Option SV
  | [], _ => none
  | x :: _, 0 => x
  | _ :: r, i + 1 => eget r i
def eset : List (Option SV) → Nat → Option SV → List (Option SV)
  | [], _, _ => []
  | _ :: r, 0, v => v :: r
  | x :: r, i + 1, v => x :: eset r i v
def cget : List (Nat × List (Nat × Bool) × SV) → Nat → Option (List (Nat × Bool) × SV)
  | [], _ => none
  | (j, x) :: r, i => cond (Nat.beq j i) (some x) (cget r i)
def St.slot (s : St) (i : Nat) : Option (List (Nat × Bool) × SV) := match eget s.env i with
  | some v => some ([], v)
  | none => cget s.cenv i
def memC (x : Nat × Bool) : List (Nat × Bool) → Bool
  | [] => false
  | y :: r => cond (Nat.beq x.1 y.1 && (x.2 == y.2)) true (memC x r)
def subC : List (Nat × Bool) → List (Nat × Bool) → Bool
  | [], _ => true
  | x :: r, l => cond (memC x l) (subC r l) false

/-- An operand, where the tests cs hold. -/
def opd (c : Cfg) (s : St) (cs : List (Nat × Bool)) : Operand → Option SV
  | .tmp t => match s.slot t with
    | some (k, v) => cond (subC k cs) (some v) none
    | none => none
  | .const v => match constV v with
    | some x => some (.v x)
    | none => none
  | .global g => match c.glob g with
    | some ⟨t, x⟩ => some (.one (.cst false t x))
    | none => none
  | .func f => some (.one (.fn f []))
def opv (c : Cfg) (s : St) (cs : List (Nat × Bool)) (x : Operand) : Option V := match opd c s cs x with
  | some (.v v) => some v
  | _ => none
def opl (c : Cfg) (s : St) (cs : List (Nat × Bool)) (x : Operand) : Option Leaf := match opv c s cs x with
  | some v => v.leaf
  | none => none
def opi (c : Cfg) (s : St) (cs : List (Nat × Bool)) (x : Operand) : Option Int := match opl c s cs x with
  | some (.int _ n) => some n
  | _ => none
def opb (c : Cfg) (s : St) (cs : List (Nat × Bool)) (x : Operand) : Option Bool := match opl c s cs x with
  | some (.bool b) | some (.kb b) => some b
  | _ => none
def opis (c : Cfg) (s : St) (cs : List (Nat × Bool)) (x : Option Operand) : Option (Option Int) := match x with
  | none => some none
  | some x => match opi c s cs x with
    | some n => some (some n)
    | none => none

/-- What is picked between two scalars. -/
def pickL (b : Bool) : Leaf → Leaf → Option Leaf
  | .int k x, .int k' y => if k = k' then some (.int k (cond b x y)) else none
  | .str x, .str y => some (.str (cond b x y))
  | x, y => match x.asB, y.asB with
    | some x, some y => some (.bool (cond b x y))
    | _, _ => none

def refsL : Leaf → List Nat
  | .own id | .sl id _ _ | .asl id _ _ _ | .ptr id _ | .eptr id _ _ | .aptr id _ _ _ => [id]
  | .fn _ caps => caps
  | _ => []
def mem1 (x : Nat) : List Nat → Bool
  | [] => false
  | y :: r => cond (Nat.beq x y) true (mem1 x r)
def addNew : List Nat → List Nat → List Nat
  | acc, [] => acc
  | acc, x :: r => cond (mem1 x acc) (addNew acc r) (addNew (acc ++ [x]) r)
def refsLs : List Leaf → List Nat
  | [] => []
  | l :: r => refsL l ++ refsLs r
def refsE : Entry → List Nat
  | .obj ls => refsLs ls
  | _ => []
/-- The entries that can be come to, in order. -/
def reach (M : Store) : Nat → List Nat → List Nat → List Nat
  | 0, acc, _ => acc
  | _ + 1, acc, [] => acc
  | k + 1, acc, i :: r => cond (mem1 i acc) (reach M k acc r) (match M.get i with
    | some e => reach M k (acc ++ [i]) (r ++ refsE e)
    | none => reach M k (acc ++ [i]) r)
def posOf (x : Nat) : List Nat → Nat
  | [] => 0
  | y :: r => cond (Nat.beq x y) 0 (posOf x r + 1)
def renL (f : Nat → Nat) : Leaf → Leaf
  | .own id => .own (f id)
  | .sl id lo n => .sl (f id) lo n
  | .asl id o lo n => .asl (f id) o lo n
  | .ptr id o => .ptr (f id) o
  | .eptr id i o => .eptr (f id) i o
  | .aptr id a i o => .aptr (f id) a i o
  | .fn g caps => .fn g (caps.map f)
  | l => l
def renV (f : Nat → Nat) (v : V) : V := ⟨v.agg, v.ls.map (renL f)⟩
def renSV (f : Nat → Nat) : SV → SV
  | .v x => .v (renV f x)
  | .tup l => .tup (l.map (renV f))
def renE (f : Nat → Nat) : Entry → Entry
  | .obj ls => .obj (ls.map (renL f))
  | e => e
def nthD (l : List Nat) (base : Nat) : Nat → Nat
  | i => match l[i]? with
    | some x => x
    | none => base + (i - l.length)
def zipI {α : Type} : List Nat → List α → List (Nat × α)
  | i :: r, x :: s => (i, x) :: zipI r s
  | _, _ => []
def numFrom {α : Type} : Nat → List α → List (Nat × α)
  | _, [] => []
  | i, x :: r => (i, x) :: numFrom (i + 1) r

/-- Arguments as plain data. -/
def implodeL (M : Store) : (ts : List Ty) → List V → Option (Bool × DenL ts × List (Nat × Entry))
  | [], [] => some (true, (), [])
  | [t], [v] => cond (v.agg == t.isAgg) (match implode M t v.ls with
    | some im => match im.rest with
      | [] => some (im.fr, im.x, im.frz)
      | _ => none
    | none => none) none
  | t :: u :: r, v :: vs => cond (v.agg == t.isAgg) (match implode M t v.ls with
    | some im => match im.rest, implodeL M (u :: r) vs with
      | [], some (fr, x, z) => some (im.fr && fr, (im.x, x), im.frz ++ z)
      | _, _ => none
    | none => none) none
  | _, _ => none
def freshL : Leaf → Bool
  | .psl f _ _ | .arr _ f _ _ => f
  | .cst .. => false
  | _ => true
def freshLs : List Leaf → Bool
  | [] => true
  | l :: r => freshL l && freshLs r
def freshSV : SV → Bool
  | .v x => freshLs x.ls
  | .tup l => l.all fun x => freshLs x.ls
def freshE : Entry → Bool
  | .row _ _ f _ _ | .frz _ f _ => f
  | .obj ls => freshLs ls
  | .dead => true
/-- A call that has a summary. -/
def evCall (c : Cfg) (M : Store) (nid f : Nat) (args : List V) : Option Eff := match c.sum f with
  | some (.pure ts alias F) => match implodeL M ts args with
    | some (_, x, z) => let d := F x
      cond (alias || (freshSV d.res && d.made.all freshE))
        (some ⟨d.pre, renSV (fun i => nid + i) d.res, (cond alias z []) ++ numFrom nid (d.made.map fun e => renE (fun i => nid + i) e)⟩) none
    | none => none
  | some (.gen F) =>
    let ids := reach M 24 [] (args.flatMap fun v => refsLs v.ls)
    match allSome (ids.map M.get) with
    | some es =>
      match F (args.map (renV fun i => posOf i ids)) (es.map (renE fun i => posOf i ids)) with
      | some d => some ⟨d.pre, renSV (nthD ids nid) d.res, zipI ids (d.back.map (renE (nthD ids nid))) ++ numFrom nid (d.made.map (renE (nthD ids nid)))⟩
      | none => none
    | none => none
  | none => none

def evArgs (c : Cfg) (s : St) (cs : List (Nat × Bool)) (l : List Operand) : Option (List V) := allSome (l.map (opv c s cs))

def zeroLs (c : Cfg) (T : Nat) : Option (List Leaf) := match c.ti T with
  | some ⟨_, _, _, some t⟩ => some (explodeZ t)
  | _ => none

def evBuild (c : Cfg) (s : St) (cs : List (Nat × Bool)) (T : Nat) (fs : List (Nat × Nat)) : List (Nat × Operand) → List Leaf → Option (List Leaf)
  | [], ls => some ls
  | (i, x) :: r, ls => match fs[i]?, opv c s cs x with
    | some (off, ft), some v => match sizeT c ft with
      | some sz => cond (Nat.beq (widths v.ls) sz) (match lset ls off sz v.ls with
        | some ls' => evBuild c s cs T fs r ls'
        | none => none) none
      | none => none
    | _, _ => none
def evElems (c : Cfg) (s : St) (cs : List (Nat × Bool)) (n : Nat) (t : Ty) : List (Nat × Operand) → Bool → List t.den → List (Nat × Entry) → Option (Bool × List t.den × List (Nat × Entry))
  | [], fr, l, fz => some (fr, l, fz)
  | (i, x) :: r, fr, l, fz => match opv c s cs x with
    | some v => match implode s.M t v.ls with
      | some im => match im.rest with
        | [] => cond (Nat.blt i n) (evElems c s cs n t r (fr && im.fr) (l.set i im.x) (fz ++ im.frz)) none
        | _ => none
      | none => none
    | none => none
def known (c : Cfg) : List (Nat × Nat) → Bool
  | [] => true
  | f :: r => (match c.ti f.2 with | some _ => true | none => false) && known c r

def aliveB (M : Store) (id : Nat) : Bool := match M.get id with
  | some (.row ..) | some (.frz ..) | some (.obj _) => true
  | _ => false
def capId (M : Store) (v : V) : Option Nat := match v with
  | ⟨false, [.ptr id 0]⟩ => match M.get id with
    | some (.obj _) => some id
    | _ => none
  | _ => none
/-- A field's address. -/
def evField (c : Cfg) (M : Store) (off ft : Nat) (l : Leaf) : Option Leaf := cond (sized c ft) (match l with
      | .ptr id o => cond (aliveB M id) (some (.ptr id (o + off))) none
      | .eptr id i o => cond (aliveB M id) (some (.eptr id i (o + off))) none
      | .aptr id a i o => cond (aliveB M id) (some (.aptr id a i (o + off))) none
      | .cst fr t y => match c.ti ft with
        | some ⟨_, _, _, some tf⟩ => match sub t y off tf with
          | some z => some (.cst fr tf z)
          | none => none
        | _ => none
      | _ => none) none
def evIndex (c : Cfg) (T : Nat) (v : V) (n : Int) : Option Eff := match v with
    | ⟨true, [.arr m fr t l]⟩ => match c.ti T with
      | some ⟨.array m' e, _, _, _⟩ => match c.ti e with
        | some ⟨_, sz, _, some t'⟩ => if t' = t then cond (Nat.beq m' m && Nat.beq sz t.sz) (some ⟨[0 ≤ n, n < (m : Int)], .v (.of fr t (idx l n.toNat)), []⟩) none else none
        | _ => none
      | _ => none
    | ⟨false, [.str l]⟩ => cond (isStr c T) (some ⟨[0 ≤ n, n < (l.length : Int)], .one (.int .u8 (l.getD n.toNat 0)), []⟩) none
    | _ => none
/-- One operation whose tests cs hold. -/
def evOp (c : Cfg) (s : St) (cs : List (Nat × Bool)) (nid : Nat) : Op → Nat → Option Eff
  | .move x, _ | .assign x, _ => match opd c s cs x with
    | some v => some ⟨[], v, []⟩
    | none => none
  | .alloc T, _ => match zeroLs c T with
    | some ls => some ⟨[], .one (.ptr nid 0), [(nid, .obj ls)]⟩
    | none => none
  | .box _ x, _ => match opv c s cs x with
    | some v => some ⟨[], .one (.ptr nid 0), [(nid, .obj v.ls)]⟩
    | none => none
  | .build T ps, _ => match c.ti T with
    | some ⟨.struct fs, _, _, _⟩ => match cond (known c fs) (zeroLs c T) none with
      | some ls => match evBuild c s cs T fs ps.toList ls with
        | some r => some ⟨[], .v ⟨true, r⟩, []⟩
        | none => none
      | none => none
    | some ⟨.array n e, _, _, some (.arr n' t)⟩ => match c.ti e with
      | some ⟨_, _, _, some t'⟩ => if t' = t ∧ n' = n then match evElems c s cs n t ps.toList true (List.replicate n t.dft) [] with
        | some (fr, l, fz) => some ⟨[], .v ⟨true, [.arr n fr t l]⟩, fz⟩
        | none => none else none
      | _ => none
    | _ => none
  | .buildSlice T n ps, _ => match c.ti T with
    | some ⟨.slice e, _, _, _⟩ => match c.ti e with
      | some ⟨_, _, _, some t⟩ => match cond (Nat.ble (n * t.sz) 16777216 && Nat.blt 0 t.sz) (evElems c s cs n t ps.toList true (List.replicate n t.dft) []) none with
        | some (fr, l, fz) => some ⟨[], .one (.own nid), fz ++ [(nid, .row e t fr true l)]⟩
        | none => none
      | _ => none
    | _ => none
  | .load T x, _ => match opl c s cs x with
    | some l => match evLoad c s.M T l with
      | some (p, v) => some ⟨p, .v v, []⟩
      | none => none
    | none => none
  | .store T x y, _ => match opl c s cs x, opv c s cs y with
    | some l, some v => match evStore c s.M T l v with
      | some (p, u) => some ⟨p, .tup [], u⟩
      | none => none
    | _, _ => none
  | .nilCheck x, _ => match opl c s cs x with
    | some (.ptr id o) => cond (aliveB s.M id) (some ⟨[], .one (.ptr id o), []⟩) none
    | some (.eptr id i o) => cond (aliveB s.M id) (some ⟨[], .one (.eptr id i o), []⟩) none
    | some (.aptr id a i o) => cond (aliveB s.M id) (some ⟨[], .one (.aptr id a i o), []⟩) none
    | some (.cst fr t x) => some ⟨[], .one (.cst fr t x), []⟩
    | some (.fn f cp) => some ⟨[], .one (.fn f cp), []⟩
    | _ => none
  | .binOp op T x y _, _ => match opl c s cs x, opl c s cs y with
    | some a, some b => match evBin c T op a b with
      | some (p, r) => some ⟨p, .one r, []⟩
      | none => none
    | _, _ => none
  | .unOp op _ x, _ => match opl c s cs x with
    | some a => match evUn op a with
      | some r => some ⟨[], .one r, []⟩
      | none => none
    | none => none
  | .convert S T x, _ => match opl c s cs x with
    | some l => evConvert c s.M nid S T l
    | none => none
  | .makeFunc (.func f) first caps, _ => cond (Nat.beq first.size 0) (match evArgs c s cs caps.toList with
    | some vs => match allSome (vs.map (capId s.M)) with
      | some ids => some ⟨[], .one (.fn f ids), []⟩
      | none => none
    | none => none) none
  | .makeSlice T n m, _ => match c.ti T, opi c s cs n, opi c s cs m with
    | some ⟨.slice e, _, _, _⟩, some a, some b => match c.ti e with
      | some ⟨_, _, bytes, some t⟩ => some ⟨[0 ≤ a, a ≤ b, b * bytes ≤ 140737488355328, b ≤ 9223372036854775807], .one (.own nid), [(nid, .row e t true true (List.replicate a.toNat t.dft))]⟩
      | _ => none
    | _, _, _ => none
  | .slice T x lo hi none, _ => match opl c s cs x, opis c s cs lo, opis c s cs hi with
    | some l, some a, some b => match evSlice c s.M T l a b with
      | some (p, r) => some ⟨p, .one r, []⟩
      | none => none
    | _, _, _ => none
  | .fieldAddr T x f, _ => match fieldOf c T f, opl c s cs x with
    | some (off, ft), some l => match evField c s.M off ft l with
      | some r => some ⟨[], .one r, []⟩
      | none => none
    | _, _ => none
  | .field T x f, _ => match fieldOf c T f, opv c s cs x with
    | some (off, ft), some v => match c.ti ft with
      | some ti => match cond v.agg (lget v.ls off ti.size) none with
        | some r => some ⟨[], .v ⟨ti.agg, r⟩, []⟩
        | none => none
      | none => none
    | _, _ => none
  | .indexAddr T x i, _ => match opl c s cs x, opi c s cs i with
    | some l, some n => match evIndexAddr c s.M T l n with
      | some (p, r) => some ⟨p, .one r, []⟩
      | none => none
    | _, _ => none
  | .index T x i, _ => match opv c s cs x, opi c s cs i with
    | some v, some n => evIndex c T v n
    | _, _ => none
  | .extract x i, _ => match opd c s cs x with
    | some (.tup l) => match l[i]? with
      | some v => some ⟨[], .v v, []⟩
      | none => none
    | _ => none
  | .call ⟨.builtin .len, args, ts⟩, _ => match args.toList, ts.toList with
    | [x], [T] => match opl c s cs x with
      | some l => match evLen c s.M T l with
        | some n => some ⟨[], .one (.int .i64 n), []⟩
        | none => none
      | none => none
    | _, _ => none
  | .call ⟨.builtin .append, args, ts⟩, _ => match args.toList, ts.toList with
    | [x, y], [T, U] => match opl c s cs x, opl c s cs y with
      | some a, some b => evAppend c s.M nid T U a b
      | _, _ => none
    | _, _ => none
  | .call ⟨.builtin .min, args, _⟩, _ => match args.toList with
    | [x, y] => match opl c s cs x, opl c s cs y with
      | some (.int k a), some (.int k' b) => if k = k' then some ⟨[], .one (.int k (if b < a then b else a)), []⟩ else none
      | _, _ => none
    | _ => none
  | .call ⟨.builtin .max, args, _⟩, _ => match args.toList with
    | [x, y] => match opl c s cs x, opl c s cs y with
      | some (.int k a), some (.int k' b) => if k = k' then some ⟨[], .one (.int k (if b > a then b else a)), []⟩ else none
      | _, _ => none
    | _ => none
  | .call ⟨.value f, args, _⟩, _ => match opl c s cs f, evArgs c s cs args.toList with
    | some (.fn g caps), some vs => evCall c s.M nid g (vs ++ caps.map fun i => one (.ptr i 0))
    | _, _ => none
  | _, _ => none

end Go.Vc
