/- The types of plain data, what a datum of each is in Lean, and how it lies in a world: a library of this project's own, without any program in sight. -/
import Derived.Laws.AppendOwn
import Derived.Laws.OwnMore
import Derived.Laws.MakeOwn
import Derived.Laws.Slices
import Derived.Laws.Strings
import Derived.Laws.Concat
import Derived.Laws.Small
import Derived.Laws.StructEq
import Derived.IntWalk
import Derived.Below
import Derived.KernelRfl
import Derived.Calls
set_option linter.unusedVariables false
set_option linter.unusedSimpArgs false
namespace Go.Vc
inductive Ty where
 | int (k : IntKind)
 | bool
 | str
 | unit
 | slice (e : Ty)
 | arr (n : Nat) (e : Ty)
 | pair (a b : Ty)
 deriving DecidableEq
@[reducible] def Ty.den : Ty -> Type
  | .int _ => Int
  | .bool => Bool
  | .str => List Int
  | .unit => Unit
  | .slice e => List e.den
  | .arr _ e => List e.den
  | .pair a b => a.den × b.den
def Ty.sz : Ty -> Nat
 | .int _ | .bool | .str | .slice _ => 1
 | .unit => 0
 | .arr n e => n * e.sz
 | .pair a b => a.sz + b.sz
def Ty.isAgg : Ty -> Bool
 | .unit | .arr _ _ | .pair _ _ => true
 | _ => false
def Ty.dft : (t : Ty) -> t.den
 | .int _ => (0 : Int)
 | .bool => false
 | .str => ([] : List Int)
 | .unit => ()
 | .slice _ => []
 | .arr n e => List.replicate n e.dft
 | .pair a b => (a.dft, b.dft)
def bs (l : List Int) : ByteArray := ⟨(l.map fun x => UInt8.ofNat x.toNat).toArray⟩
def Byte (x : Int) : Prop := 0 <= x /\ x <= 255
def Valid : (t : Ty) -> t.den -> Prop
 | .int k, x => k.min <= x /\ x <= k.max
 | .bool, _ => True
 | .str, l => (∀ x ∈ l, Byte x) /\ l.length <= maxLen
 | .unit, _ => True
 | .slice e, l => (∀ x ∈ l, Valid e x) /\ l.length <= maxLen
 | .arr n e, l => (∀ x ∈ l, Valid e x) /\ l.length = n
 | .pair a b, x => Valid a x.1 /\ Valid b x.2
def At (S : Nat -> Prop) (w : World) (ad : Addr) (cs : List Value) : Prop :=
 S ad.block /\ ∀ i v, cs[i]? = some v -> w.cell? (ad.add i) = some v
def ah (S : Nat -> Prop) (w : World) : (t : Ty) -> t.den -> List Value -> Prop
 | .int k, x, cs => cs = [.int k x]
 | .bool, b, cs => cs = [.bool b]
 | .str, l, cs => cs = [.string (bs l)]
 | .unit, _, cs => cs = []
 | .slice e, l, cs => ∃ a n c, cs = [.slice a n c] /\ l.length = n /\ n <= c /\
    (0 < n -> ∃ ad, a = some ad /\ ∀ (i : Nat) x, l[i]? = some x -> ∃ ecs, ah S w e x ecs /\ At S w (ad.add (i * e.sz)) ecs)
 | .arr n e, l, cs => l.length = n /\ ∃ ess : List (List Value), ess.length = n /\ cs = ess.flatten /\
    ∀ (i : Nat) x ec, l[i]? = some x -> ess[i]? = some ec -> ah S w e x ec
 | .pair a b, x, cs => ∃ c1 c2, cs = c1 ++ c2 /\ ah S w a x.1 c1 /\ ah S w b x.2 c2
theorem At.mono {S S' : Nat -> Prop} {w w' : World} {ad : Addr} {cs : List Value} (hS : ∀ b, S b -> S' b) (hw : ∀ b, S b -> w'.heap[b]? = w.heap[b]?)
 (h : At S w ad cs) : At S' w' ad cs := by
 refine ⟨hS _ h.1, fun i v hv => ?_⟩
 rw [<- h.2 i v hv]
 refine World.cell?_of_block (hw _ ?_)
 have : (ad.add i).block = ad.block := by unfold Addr.add; split <;> rfl
 rw [this]; exact h.1
theorem ah.mono {S S' : Nat -> Prop} {w w' : World} (hS : ∀ b, S b -> S' b) (hw : ∀ b, S b -> w'.heap[b]? = w.heap[b]?) :
 ∀ (t : Ty) (x : t.den) (cs : List Value), ah S w t x cs -> ah S' w' t x cs := by
 intro t
 induction t with
 | int k => exact fun x cs h => h
 | bool => exact fun x cs h => h
 | str => exact fun x cs h => h
 | unit => exact fun x cs h => h
 | slice e ih =>
   rintro l cs ⟨a, n, c, h1, h2, h3, h4⟩
   refine ⟨a, n, c, h1, h2, h3, fun hn => ?_⟩
   obtain ⟨ad, h5, h6⟩ := h4 hn
   refine ⟨ad, h5, fun i x hx => ?_⟩
   obtain ⟨ecs, h7, h8⟩ := h6 i x hx
   exact ⟨ecs, ih x ecs h7, h8.mono hS hw⟩
 | arr n e ih =>
   rintro l cs ⟨h1, ess, h2, h3, h4⟩
   exact ⟨h1, ess, h2, h3, fun i x ec hx he => ih x ec (h4 i x ec hx he)⟩
 | pair a b iha ihb =>
   rintro x cs ⟨c1, c2, h1, h2, h3⟩
   exact ⟨c1, c2, h1, iha _ _ h2, ihb _ _ h3⟩
theorem bD {α : Type} (n : Nat) : ∀ (ess : List (List α)), (∀ ec ∈ ess, ec.length = n) -> ess.flatten.length = ess.length * n
 | [], _ => by simp
 | e :: r, h => by
   rw [List.flatten_cons, List.length_append, h e (by simp), bD n r (fun ec hec => h ec (by simp [hec])), List.length_cons, Nat.succ_mul]; omega
theorem ah.len {S : Nat -> Prop} {w : World} : ∀ (t : Ty) (x : t.den) (cs : List Value), ah S w t x cs -> cs.length = t.sz := by
 intro t
 induction t with
 | int k => rintro x cs rfl; rfl
 | bool => rintro x cs rfl; rfl
 | str => rintro x cs rfl; rfl
 | unit => rintro x cs rfl; rfl
 | slice e ih => rintro l cs ⟨a, n, c, rfl, _⟩; rfl
 | arr n e ih =>
   rintro l cs ⟨h1, ess, h2, rfl, h4⟩
   rw [bD e.sz, h2]; · rfl
   intro ec hec
   obtain ⟨i, hi, rfl⟩ := List.getElem_of_mem hec
   exact ih _ _ (h4 i (l[i]'(by omega)) ess[i] (by simp) (by simp))
 | pair a b iha ihb =>
   rintro x cs ⟨c1, c2, rfl, h2, h3⟩
   rw [List.length_append, iha _ _ h2, ihb _ _ h3]; rfl
theorem ah.one {S : Nat -> Prop} {w : World} : ∀ (t : Ty) (x : t.den) (cs : List Value), ah S w t x cs -> ∀ v ∈ cs, v.oneCell' = true := by
 intro t
 induction t with
 | int k => rintro x cs rfl v hv; simp at hv; subst hv; rfl
 | bool => rintro x cs rfl v hv; simp at hv; subst hv; rfl
 | str => rintro x cs rfl v hv; simp at hv; subst hv; rfl
 | unit => rintro x cs rfl v hv; simp at hv
 | slice e ih => rintro l cs ⟨a, n, c, rfl, _⟩ v hv; simp at hv; subst hv; rfl
 | arr n e ih =>
   rintro l cs ⟨h1, ess, h2, rfl, h4⟩ v hv
   obtain ⟨ec, hec, hv⟩ := List.mem_flatten.1 hv
   obtain ⟨i, hi, rfl⟩ := List.getElem_of_mem hec
   exact ih _ _ (h4 i (l[i]'(by omega)) ess[i] (by simp) (by simp)) v hv
 | pair a b iha ihb =>
   rintro x cs ⟨c1, c2, rfl, h2, h3⟩ v hv
   rcases List.mem_append.1 hv with h | h
   ·exact iha _ _ h2 v h
   ·exact ihb _ _ h3 v h
theorem gy (l : List Int) : (bs l).size = l.length := by simp [bs, ByteArray.size]
theorem fU (l : List Int) : (bs l).toList = l.map fun x => UInt8.ofNat x.toNat := by simp [bs]
theorem KG (l m : List Int) : bs (l ++ m) = bs l ++ bs m := by
 simp only [bs, List.map_append]
 exact (ByteArray.mk_append_mk _ _).symm
theorem byte_back {x : Int} (h : Byte x) : ((UInt8.ofNat x.toNat).toNat : Int) = x := by
 obtain ⟨h0, h1⟩ := h
 simp only [UInt8.toNat_ofNat']
 omega
theorem KH {l m : List Int} (hl : ∀ x ∈ l, Byte x) (hm : ∀ x ∈ m, Byte x) (h : (bs l).toList = (bs m).toList) : l = m := by
 rw [fU, fU] at h
 have back : ∀ (l : List Int), (∀ x ∈ l, Byte x) -> (l.map fun x => UInt8.ofNat x.toNat).map (fun u => (u.toNat : Int)) = l := by
  intro l hl
  induction l with
  | nil => rfl
  | cons x r ih =>
    simp only [List.map_cons]
    rw [byte_back (hl x (by simp)), ih (fun y hy => hl y (by simp [hy]))]
 rw [<- back l hl, <- back m hm, h]
theorem KI {l m : List Int} (hl : ∀ x ∈ l, Byte x) (hm : ∀ x ∈ m, Byte x) : ((bs l).toList == (bs m).toList) = (l == m) := by
 rw [Bool.eq_iff_iff, beq_iff_eq, beq_iff_eq]
 exact ⟨KH hl hm, fun h => by rw [h]⟩
def jU : List Int -> List Int -> Bool
 | _, [] => false
 | [], _ :: _ => true
 | a :: x, b :: y => decide (a < b) || (a == b && jU x y)
theorem MV : ∀ {l m : List Int}, (∀ x ∈ l, Byte x) -> (∀ x ∈ m, Byte x) -> Op.bytesLess (bs l).toList (bs m).toList = jU l m
 | l, [], _, _ => by rw [fU, fU]; cases l <;> simp [Op.bytesLess, jU]
 | [], b :: y, _, _ => by rw [fU, fU]; simp [Op.bytesLess, jU]
 | a :: x, b :: y, hl, hm => by
   have ih := MV (l := x) (m := y) (fun z hz => hl z (by simp [hz])) (fun z hz => hm z (by simp [hz]))
   rw [fU, fU] at ih ⊢
   have ha := byte_back (hl a (by simp))
   have hb := byte_back (hm b (by simp))
   simp only [List.map_cons, Op.bytesLess, jU]
   rw [ih]
   have e1 : (decide (UInt8.ofNat a.toNat < UInt8.ofNat b.toNat)) = decide (a < b) := by
    rw [decide_eq_decide, UInt8.lt_iff_toNat_lt]
    omega
   have e2 : (UInt8.ofNat a.toNat == UInt8.ofNat b.toNat) = (a == b) := by
    rw [Bool.eq_iff_iff, beq_iff_eq, beq_iff_eq]
    constructor
    ·intro h; rw [h] at ha; omega
    ·intro h; rw [h]
   rw [e1, e2]
theorem Jp (l : List Int) (i j : Nat) : (bs l).extract i j = bs ((l.drop i).take (j - i)) := by
 apply ByteArray.ext
 simp only [bs, ByteArray.data_extract]
 apply Array.ext'
 simp [List.map_drop, List.map_take, List.take_drop]
theorem Og (l : List Int) (i : Nat) (hl : ∀ x ∈ l, Byte x) (x : Int) (hx : l[i]? = some x) : ∃ b : UInt8, (bs l)[i]? = some b /\ (b.toNat : Int) = x := by
 obtain ⟨hi, rfl⟩ := List.getElem?_eq_some_iff.1 hx
 have hi' : i < (bs l).size := by rw [gy]; exact hi
 refine ⟨UInt8.ofNat (l[i]).toNat, ?_, byte_back (hl _ (List.getElem_mem hi))⟩
 rw [ByteArray.getElem?_lt' _ _ hi']
 congr 1
 show (bs l).data[i]'_ = _
 simp [bs]
end Go.Vc
set_option linter.unusedVariables false
set_option linter.unusedSimpArgs false
namespace Go.Vc
inductive Hid where
 | map (k v : Ty) (l : List (k.den × v.den))
 | iter (l : List Int) (pos : Nat)
def Hid.isMap : Hid -> Bool
 | .map .. => true
 | .iter .. => false
inductive Leaf where
 | int (k : IntKind) (x : Int)
 | bool (b : Bool)
 | kb (b : Bool)
 | str (l : List Int)
 | psl (fr : Bool) (t : Ty) (l : List t.den)
 | arr (n : Nat) (fr : Bool) (t : Ty) (l : List t.den)
 | cZ
 | dG
 | cO
 | l7
 | yld
 | own (id : Nat)
 | sl (id lo n : Nat)
 | sf (id lo n : Nat)
 | vw (id lo n : Nat)
 | asl (id off lo n : Nat)
 | ptr (id off : Nat)
 | ig (id i off : Nat)
 | iq (id dh i off : Nat)
 | cst (fr : Bool) (t : Ty) (x : t.den)
 | fn (f : Nat) (caps : List Nat)
 | hid (id : Nat)
def Leaf.weak : Leaf -> Leaf
 | .sf id lo n => .sl id lo n
 | l => l
def Leaf.width : Leaf -> Nat
 | .arr n _ t _ => n * t.sz
 | _ => 1
def jB : Leaf -> Option Nat
 | .arr 0 _ (.arr n .unit) _ => some n
 | _ => none
def l9 (T : Nat) : List Leaf -> Bool
 | [] => true
 | l :: r => (match jB l with | some n => Nat.beq n T | none => true) && l9 T r
def qh : Ty -> Bool
 | .arr n e => match n, e with
   | 0, .arr _ .unit => false
   | _, _ => true
 | .pair a b => qh a && qh b
 | _ => true
def Leaf.asB : Leaf -> Option Bool
 | .bool b | .kb b => some b
 | _ => none
structure V where
 agg : Bool
 ls : List Leaf
inductive SV where
 | v (x : V)
 | tup (l : List V)
inductive Entry where
 | row (e : Nat) (t : Ty) (fr app : Bool) (l : List t.den)
 | frz (t : Ty) (fr : Bool) (l : List t.den)
 | obj (ls : List Leaf)
 | hid (h : Hid)
 | dead
abbrev Store := List (Nat × Entry)
def Store.get : Store -> Nat -> Option Entry
 | [], _ => none
 | (i, e) :: r, id => cond (Nat.beq i id) (some e) (Store.get r id)
def Store.set : Store -> Nat -> Entry -> Store
 | [], id, e => [(id, e)]
 | (i, x) :: r, id, e => cond (Nat.beq i id) ((id, e) :: r) ((i, x) :: Store.set r id e)
def Store.aK (M : Store) : List (Nat × Entry) -> Store
 | [] => M
 | (i, e) :: r => Store.aK (Store.set M i e) r
inductive TD where
 | bool
 | int (k : IntKind)
 | str
 | slice (e : Nat)
 | array (n e : Nat)
 | struct (fs : List (Nat × Nat))
 | ptr (e : Nat)
 | map (k v : Nat)
 | func
 | iface
 | other
structure TI where
 d : TD
 size : Nat
 bytes : Nat
 ty : Option Ty
def TI.agg (t : TI) : Bool := match t.d with
 | .struct _ | .array _ _ => true
 | _ => false
structure Eff where
 pre : List Prop
 sv : SV
 upd : List (Nat × Entry)
structure Done where
 pre : List Prop
 res : SV
 back : List Entry
 made : List Entry
@[reducible] def aX : List Ty -> Type
  | [] => Unit
  | [t] => t.den
  | t :: u :: r => t.den × aX (u :: r)
inductive Sum where
 | pure (ts : List Ty) (alias : Bool) (f : aX ts -> Done)
 | gen (f : List V -> List Entry -> Option Done)
 | clo (ts cs : List Ty) (f : aX ts -> aX cs -> Done)
 | apart
def zS : (ts : List Ty) -> aX ts
 | [] => ()
 | [t] => t.dft
 | t :: u :: r => (t.dft, zS (u :: r))
structure CU where
 cs : List Ty
 es : List Ty
 pre : aX cs -> List Prop
 L : aX cs -> List (aX es)
structure Cfg where
 ti : Nat -> Option TI
 sum : Nat -> Option Sum
 glob : Nat -> Option (Sigma Ty.den)
 zero : Nat -> Option (List Leaf)
 xp : Nat -> List Nat
 eqs : Nat -> Bool
 seq : Nat -> Option CU
 els : Option ((es : List Ty) × List (aX es))
def one (l : Leaf) : V := ⟨false, [l]⟩
def SV.one (l : Leaf) : SV := .v (Vc.one l)
def V.leaf : V -> Option Leaf
 | ⟨false, [l]⟩ => some l
 | _ => none
def explode (fr : Bool) : (t : Ty) -> t.den -> List Leaf
 | .int k, x => [.int k x]
 | .bool, b => [.bool b]
 | .str, l => [.str l]
 | .unit, _ => []
 | .slice e, l => [.psl fr e l]
 | .arr n e, l => [.arr n fr e l]
 | .pair a b, x => explode fr a x.1 ++ explode fr b x.2
def uG : Ty -> List Leaf
 | .int k => [.int k 0]
 | .bool => [.kb false]
 | .str => [.str []]
 | .unit => []
 | .slice _ => [.cZ]
 | .arr n e => [.arr n true e (List.replicate n e.dft)]
 | .pair a b => uG a ++ uG b
def V.of (fr : Bool) (t : Ty) (x : t.den) : V := ⟨t.isAgg, explode fr t x⟩
structure Im (t : Ty) where
 fr : Bool
 x : t.den
 rest : List Leaf
 frz : List (Nat × Entry)
def lat : List Leaf -> Nat -> Option Leaf
 | [], _ => none
 | l :: _, 0 => some l
 | l :: r, off + 1 => cond (Nat.ble l.width (off + 1)) (lat r (off + 1 - l.width)) none
def aG (M : Store) : (t : Ty) -> List Leaf -> Option (Im t)
 | .int k, .int k' x :: r => if k' = k then some ⟨true, x, r, []⟩ else none
 | .bool, .bool b :: r => some ⟨true, b, r, []⟩
 | .bool, .kb b :: r => some ⟨true, b, r, []⟩
 | .str, .str l :: r => some ⟨true, l, r, []⟩
 | .unit, r => some ⟨true, (), r, []⟩
 | .slice e, s :: r => match s.weak with
   | .psl fr e' l => if h : e' = e then some ⟨fr, (h ▸ l : List e.den), r, []⟩ else none
   | .cZ => some ⟨true, [], r, []⟩
   | .own id => match M.get id with
     | some (.row _ t fr _ l) => if h : t = e then some ⟨fr, (h ▸ l : List e.den), r, [(id, .frz t fr l)]⟩ else none
     | some (.frz t fr l) => if h : t = e then some ⟨fr, (h ▸ l : List e.den), r, []⟩ else none
     | _ => none
   | .sl id lo n => match M.get id with
     | some (.row _ t fr _ l) => if h : t = e then some ⟨fr, (h ▸ (l.drop lo).take n : List e.den), r, [(id, .frz t fr l)]⟩ else none
     | some (.frz t fr l) => if h : t = e then some ⟨fr, (h ▸ (l.drop lo).take n : List e.den), r, []⟩ else none
     | _ => none
   | .asl id off lo n => match M.get id with
     | some (.obj ls) => match lat ls off with
       | some (.arr N _ t l) => if h : t = e then cond (Nat.ble N 16777216) (some ⟨false, (h ▸ (l.drop lo).take n : List e.den), r, [(id, .dead)]⟩) none else none
       | _ => none
     | _ => none
   | _ => none
 | .arr n e, .arr m fr e' l :: r => if h : e' = e then (if m = n then some ⟨fr, (h ▸ l : List e.den), r, []⟩ else none) else none
 | .pair a b, ls => match aG M a ls with
   | some p => match aG M b p.rest with
     | some q => some ⟨p.fr && q.fr, (p.x, q.x), q.rest, p.frz ++ q.frz⟩
     | none => none
   | none => none
 | _, _ => none
def dO : List Leaf -> Nat -> Nat -> Option (List Leaf)
 | ls, 0, n => go ls n
 | [], _ + 1, _ => none
 | l :: r, off + 1, n => cond (Nat.ble l.width (off + 1)) (dO r (off + 1 - l.width) n) none
where
 go : List Leaf -> Nat -> Option (List Leaf)
  | _, 0 => some []
  | [], _ + 1 => none
  | l :: r, n + 1 => cond (Nat.ble l.width (n + 1)) (match go r (n + 1 - l.width) with | some x => some (l :: x) | none => none) none
def eG : List Leaf -> Nat -> Nat -> List Leaf -> Option (List Leaf)
 | ls, 0, n, new => match drop ls n with
   | some r => some (new ++ r)
   | none => none
 | [], _ + 1, _, _ => none
 | l :: r, off + 1, n, new => cond (Nat.ble l.width (off + 1)) (match eG r (off + 1 - l.width) n new with | some x => some (l :: x) | none => none) none
where
 drop : List Leaf -> Nat -> Option (List Leaf)
  | ls, 0 => some ls
  | [], _ + 1 => none
  | l :: r, n + 1 => cond (Nat.ble l.width (n + 1)) (drop r (n + 1 - l.width)) none
def widths (ls : List Leaf) : Nat := match ls with
 | [] => 0
 | l :: r => l.width + widths r
def inR (k : IntKind) (n : Int) : Bool := match n with
 | .ofNat m => Nat.ble m (match k with | .i8 => 127 | .i16 => 32767 | .i32 => 2147483647 | .i64 => 9223372036854775807 | .u8 => 255 | .u16 => 65535 | .u32 => 4294967295 | .u64 => 18446744073709551615)
 | .negSucc m => match k with | .i8 => Nat.ble m 127 | .i16 => Nat.ble m 32767 | .i32 => Nat.ble m 2147483647 | .i64 => Nat.ble m 9223372036854775807 | _ => false
def og : Value -> Option Leaf
 | .int k n => cond (inR k n) (some (.int k n)) none
 | .bool b => some (.kb b)
 | .string s => cond (Nat.ble s.size maxLen) (some (.str (s.data.toList.map fun b => (b.toNat : Int)))) none
 | .slice none 0 0 => some .cZ
 | .pointer none => some .dG
 | .nilFunc => some .cO
 | .nilIface => some .l7
 | _ => none
def aS {α : Type} : List (Option α) -> Option (List α)
 | [] => some []
 | none :: _ => none
 | some x :: r => match aS r with
   | some y => some (x :: y)
   | none => none
def Az : Value -> Option V
 | .agg cs => match aS (cs.toList.map og) with
   | some ls => some ⟨true, ls⟩
   | none => none
 | v => match og v with
   | some l => some (one l)
   | none => none
def sub : (t : Ty) -> t.den -> Nat -> (tf : Ty) -> Option tf.den
 | .pair a b, x, o, tf => if h : Ty.pair a b = tf /\ o = 0 then some (h.1 ▸ x : tf.den) else
    cond (Nat.blt o a.sz) (sub a x.1 o tf) (sub b x.2 (o - a.sz) tf)
 | t, x, o, tf => if h : t = tf /\ o = 0 then some (h.1 ▸ x : tf.den) else none
def idx {t : Ty} (l : List t.den) (i : Nat) : t.den := l.getD i t.dft
def ng (c : Cfg) (T f : Nat) : Option (Nat × Nat) := match c.ti T with
 | some ⟨.struct fs, _, _, _⟩ => fs[f]?
 | _ => none
def sized (c : Cfg) (T : Nat) : Bool := match c.ti T with
 | some t => Nat.blt 0 t.size
 | none => false
def sizeT (c : Cfg) (T : Nat) : Option Nat := match c.ti T with
 | some t => some t.size
 | none => none
def dV : List Leaf -> List Leaf -> Bool
 | [], [] => true
 | .arr n _ t _ :: r, .arr n' _ t' _ :: s => (if t = t' then Nat.beq n n' else false) && dV r s
 | .arr .. :: _, _ => false
 | _, .arr .. :: _ => false
 | _ :: r, _ :: s => dV r s
 | _, _ => false
def dU (c : Cfg) (T n : Nat) : Bool := match c.ti T with
 | some ⟨.slice e, _, _, _⟩ => match c.ti e with
   | some ti => Nat.beq ti.size n
   | none => false
 | _ => false
def EP (c : Cfg) (T : Nat) : Bool := match c.ti T with
 | some ⟨.slice e, _, _, _⟩ => match c.ti e with
   | some _ => true
   | none => false
 | _ => false
def wJ (c : Cfg) (T m n : Nat) : Bool := match c.ti T with
 | some ⟨.array m' e, _, _, _⟩ => match c.ti e with
   | some ti => Nat.beq m' m && Nat.beq ti.size n
   | none => false
 | _ => false
def isStr (c : Cfg) (T : Nat) : Bool := match c.ti T with
 | some ⟨.str, _, _, _⟩ => true
 | _ => false
section
variable (c : Cfg) (M : Store)
def oh (T : Nat) (x : Leaf) : Option (List Prop × V) := match c.ti T with
 | none => none
 | some ti => match x with
   | .cst fr t y => match ti.ty with
     | some t' => if t' = t then some ([], .of fr t y) else none
     | none => none
   | .ptr id off => match M.get id with
     | some (.obj ls) => match dO ls off ti.size with
       | some r => some ([], ⟨ti.agg, r⟩)
       | none => none
     | _ => none
   | .ig id i off => match M.get id with
     | some (.row _ t fr _ l) => match dO (explode fr t (idx l i)) off ti.size with
       | some r => some ([i < l.length], ⟨ti.agg, r⟩)
       | none => none
     | some (.frz t fr l) => match dO (explode fr t (idx l i)) off ti.size with
       | some r => some ([i < l.length], ⟨ti.agg, r⟩)
       | none => none
     | _ => none
   | .iq id dh i off => match M.get id with
     | some (.obj ls) => match lat ls dh with
       | some (.arr n fr t l) => match dO (explode fr t (idx l i)) off ti.size with
         | some r => some ([i < n], ⟨ti.agg, r⟩)
         | none => none
       | _ => none
     | _ => none
   | _ => none
def lF (T : Nat) (x : Leaf) (y : V) : Option (List Prop × List (Nat × Entry)) := match c.ti T with
 | none => none
 | some ti => cond (Nat.beq (widths y.ls) ti.size) (match x with
   | .ptr id off => match M.get id with
     | some (.obj ls) => match eG ls off ti.size y.ls with
       | some r => cond (dV ls r) (some ([], [(id, .obj r)])) none
       | none => none
     | _ => none
   | .ig id i off => match M.get id with
     | some (.row e t fr ap l) => match eG (explode fr t (idx l i)) off ti.size y.ls with
       | some r => match aG M t r with
         | some im => match im.rest with
           | [] => cond (im.frz.all fun p => !(Nat.beq p.1 id)) (some ([i < l.length], im.frz ++ [(id, .row e t (fr && im.fr) ap (l.set i im.x))])) none
           | _ => none
         | none => none
       | none => none
     | _ => none
   | .iq id dh i off => match M.get id with
     | some (.obj ls) => match lat ls dh with
       | some (.arr n fr t l) => match eG (explode fr t (idx l i)) off ti.size y.ls with
         | some r => match aG M t r with
           | some im => match im.rest, eG ls dh (n * t.sz) [.arr n (fr && im.fr) t (l.set i im.x)] with
             | [], some ls' => cond (dV ls ls' && im.frz.all fun p => !(Nat.beq p.1 id)) (some ([i < n], im.frz ++ [(id, .obj ls')])) none
             | _, _ => none
           | none => none
         | none => none
       | _ => none
     | _ => none
   | _ => none) none
def fV (T : Nat) (x : Leaf) (i : Int) : Option (List Prop × Leaf) := match x with
 | .psl fr t l => cond (dU c T t.sz) (some ([0 <= i, i < (l.length : Int)], .cst fr t (idx l i.toNat))) none
 | .own id => match M.get id with
   | some (.row _ t _ _ l) => cond (dU c T t.sz) (some ([0 <= i, i < (l.length : Int)], .ig id i.toNat 0)) none
   | some (.frz t fr l) => cond (dU c T t.sz) (some ([0 <= i, i < (l.length : Int)], .cst fr t (idx l i.toNat))) none
   | _ => none
 | .sl id lo n => match M.get id with
   | some (.row _ t _ _ _) => cond (dU c T t.sz) (some ([0 <= i, i < (n : Int)], .ig id (lo + i.toNat) 0)) none
   | some (.frz t fr l) => cond (dU c T t.sz) (some ([0 <= i, i < (n : Int)], .cst fr t (idx l (lo + i.toNat)))) none
   | _ => none
 | .asl id off lo n => match M.get id with
   | some (.obj ls) => match lat ls off with
     | some (.arr _ _ t _) => cond (dU c T t.sz) (some ([0 <= i, i < (n : Int)], .iq id off (lo + i.toNat) 0)) none
     | _ => none
   | _ => none
 | .ptr id off => match M.get id with
   | some (.obj ls) => match lat ls off with
     | some (.arr n _ t _) => cond (wJ c T n t.sz) (some ([0 <= i, i < (n : Int)], .iq id off i.toNat 0)) none
     | _ => none
   | _ => none
 | .cst fr (.arr n t) l => cond (wJ c T n t.sz) (some ([0 <= i, i < (n : Int)], .cst fr t (idx l i.toNat))) none
 | _ => none
def ER (T : Nat) (x : Leaf) : Option (List Prop × Leaf) := match c.ti T, x with
 | some ⟨.array n _, _, _, _⟩, .psl fr (.int k) l => cond (Nat.blt 0 n) (some ([n <= l.length], .cst fr (.arr n (.int k)) (l.take n : List Int))) none
 | _, _ => none
def pO (c : Cfg) (T : Nat) : Bool := match c.ti T with
 | some ⟨.bool, _, _, _⟩ => true
 | _ => false
def AA (T : Nat) (op : BinOp) (x y : Leaf) : Option (List Prop × Leaf) := match x, y with
 | .int k a, .int k' b => match op with
   | .shl => some ([0 <= b], .int k (k.wrap (a * 2 ^ (min b.toNat k.bits))))
   | .shr => some ([0 <= b], .int k (a.fdiv (2 ^ (min b.toNat k.bits))))
   | _ => if k' = k then match op with
     | .add => some ([], .int k (k.wrap (a + b)))
     | .sub => some ([], .int k (k.wrap (a - b)))
     | .mul => some ([], .int k (k.wrap (a * b)))
     | .quo => some ([b ≠ 0], .int k (k.wrap (a.tdiv b)))
     | .rem => some ([b ≠ 0], .int k (a.tmod b))
     | .and => some ([], .int k (k.wrap (BitVec.ofInt k.bits a &&& BitVec.ofInt k.bits b).toNat))
     | .or => some ([], .int k (k.wrap (BitVec.ofInt k.bits a ||| BitVec.ofInt k.bits b).toNat))
     | .xor => some ([], .int k (k.wrap (BitVec.ofInt k.bits a ^^^ BitVec.ofInt k.bits b).toNat))
     | .andNot => some ([], .int k (k.wrap (BitVec.ofInt k.bits a &&& ~~~ (BitVec.ofInt k.bits b)).toNat))
     | .eql => some ([], .bool (a == b))
     | .neq => some ([], .bool (a != b))
     | .lss => some ([], .bool (decide (a < b)))
     | .leq => some ([], .bool (decide (a <= b)))
     | .gtr => some ([], .bool (decide (a > b)))
     | .geq => some ([], .bool (decide (a >= b)))
     | _ => none else none
 | .str a, .str b => match op with
   | .add => some ([a.length + b.length <= 9223372036854775807], .str (a ++ b))
   | .eql => some ([], .bool (a == b))
   | .neq => some ([], .bool (!(a == b)))
   | .lss => some ([], .bool (jU a b))
   | .leq => some ([], .bool (jU a b || a == b))
   | .gtr => some ([], .bool (!(jU a b || a == b)))
   | .geq => some ([], .bool (!(jU a b)))
   | _ => none
 | a, b => match a.asB, b.asB with
   | some a, some b => match op with
     | .eql => cond (pO c T) (some ([], .bool (a == b))) none
     | .neq => cond (pO c T) (some ([], .bool (!(a == b)))) none
     | _ => none
   | _, _ => none
def Jq (op : UnOp) (x : Leaf) : Option Leaf := match op, x with
 | .neg, .int k a => some (.int k (k.wrap (0 - a)))
 | .not, .bool b => some (.bool (!b))
 | .not, .kb b => some (.kb (!b))
 | .xor, .int k a => some (.int k (k.wrap (BitVec.ofInt k.bits (if k.signed = true then -1 else k.max) ^^^ BitVec.ofInt k.bits a).toNat))
 | _, _ => none
def listOf (e : Ty) : Leaf -> Option (Bool × List e.den)
 | .psl fr t l => if h : t = e then some (fr, (h ▸ l : List e.den)) else none
 | .cZ => some (true, [])
 | .own id => match M.get id with
   | some (.row _ t fr _ l) | some (.frz t fr l) => if h : t = e then some (fr, (h ▸ l : List e.den)) else none
   | _ => none
 | .sl id lo n => match M.get id with
   | some (.row _ t fr _ l) | some (.frz t fr l) => if h : t = e then some (fr, (h ▸ (l.drop lo).take n : List e.den)) else none
   | _ => none
 | .vw id lo n => match M.get id with
   | some (.row _ t fr _ l) | some (.frz t fr l) => if h : t = e then some (fr, (h ▸ (l.drop lo).take n : List e.den)) else none
   | _ => none
 | .asl id off lo n => match M.get id with
   | some (.obj ls) => match lat ls off with
     | some (.arr N fr t l) => if h : t = e then cond (Nat.ble N maxLen) (some (fr, (h ▸ (l.drop lo).take n : List e.den))) none else none
     | _ => none
   | _ => none
 | .str l => match e with
   | .int .u8 => some (true, l)
   | _ => none
 | _ => none
def iQ (c : Cfg) (T : Nat) : Bool := match c.ti T with
 | some ⟨.slice _, _, _, _⟩ => true
 | _ => false
def qj (x : Leaf) : Option Int := match x with
 | .psl _ _ l => some (l.length : Int)
 | .cZ => some 0
 | .own id => match M.get id with
   | some (.row _ _ _ _ l) | some (.frz _ _ l) => some (l.length : Int)
   | _ => none
 | .sl id _ n => match M.get id with
   | some (.row ..) | some (.frz ..) => some (n : Int)
   | _ => none
 | .asl id off _ n => match M.get id with
   | some (.obj ls) => match lat ls off with
     | some (.arr N _ _ _) => cond (Nat.ble N maxLen) (some (n : Int)) none
     | _ => none
   | _ => none
 | _ => none
def uH (T : Nat) (x : Leaf) : Option Int := match x with
 | .str l => cond (isStr c T) (some (l.length : Int)) none
 | x => cond (iQ c T) (qj M x) none
def dI : Ty -> Bool
 | .slice _ => false
 | .arr _ e => dI e
 | .pair a b => dI a && dI b
 | _ => true
def dK : Leaf -> Bool
 | .str _ => true
 | _ => false
def ni (nid T U : Nat) (x y : Leaf) : Option Eff := match c.ti T with
 | some ⟨.slice e, _, _, _⟩ => match c.ti e with
   | some ⟨_, _, bytes, some te⟩ => match cond (Nat.blt 0 te.sz && cond (dK y) (isStr c U && Nat.beq bytes 1) (Nat.beq U T)) (listOf M te y) none with
     | some (fy, m) => match x with
       | .cZ => some ⟨[m.length * bytes <= 140737488355328, m.length <= maxLen], .one (.own nid), [(nid, .row e te (fy || dI te) true m)]⟩
       | .own id => match M.get id with
         | some (.row e' t fr true l) => if h : t = te then cond (Nat.beq e' e)
            (some ⟨[(l.length + m.length) * bytes <= 140737488355328, l.length + m.length <= maxLen], .one (.own nid),
              [(id, .dead), (nid, .row e te (fr && (fy || dI te)) true ((h ▸ l : List te.den) ++ m))]⟩) none else none
         | _ => none
       | .sl id 0 k => match M.get id with
         | some (.row e' t fr true l) => if h : t = te then cond (Nat.beq e' e)
            (some ⟨[(k + m.length) * bytes <= 140737488355328, k + m.length <= maxLen], .one (.own nid),
              [(id, .dead), (nid, .row e te (fr && (fy || dI te)) true ((h ▸ l : List te.den).take k ++ m))]⟩) none else none
         | _ => none
       | _ => none
     | none => none
   | _ => none
 | _ => none
def lG (nid T U : Nat) (x : Leaf) (k : Int) : Option Eff := match c.ti T with
 | some ⟨.slice e, _, _, _⟩ => match c.ti e with
   | some ⟨_, _, bytes, some te⟩ => match cond (Nat.blt 0 te.sz) (c.ti U) none with
     | some ⟨.int _, _, _, _⟩ => match x with
       | .cZ => some ⟨[0 < k, k * bytes <= 140737488355328, k <= (maxLen : Int)], .one (.own nid), [(nid, .row e te true true (List.replicate k.toNat te.dft))]⟩
       | .sf id 0 n => match M.get id with
         | some (.row e' t fr true l) => if h : t = te then cond (Nat.beq e' e)
            (some ⟨[0 < k, (l.length : Int) < n + k, (n + k) * bytes <= 140737488355328, n + k <= (maxLen : Int)], .one (.own nid),
              [(nid, .row e te fr true ((h ▸ l : List te.den).take n ++ List.replicate k.toNat te.dft))]⟩) none else none
         | _ => none
       | _ => none
     | _ => none
   | _ => none
 | _ => none
def sameRow : Leaf -> Leaf -> Bool
 | .sf id 0 _, .sf id' _ _ => Nat.beq id id'
 | _, _ => false
def lH (T U : Nat) (x y : Leaf) : Option Eff := match x, c.ti T with
 | .sf id 0 n, some ⟨.slice e, _, _, _⟩ => match c.ti e, M.get id with
   | some ⟨_, _, bytes, some te⟩, some (.row e' t fr true l) => if h : t = te then cond (Nat.beq e' e && (Nat.beq U T && Nat.blt 0 te.sz)) (match listOf M te y with
     | some (fy, m) => some ⟨[(n + m.length) * bytes <= 140737488355328, n + m.length <= l.length], .one (.sf id 0 (n + m.length)), [(id, .row e te (fr && (fy || dI te)) true ((h ▸ l : List te.den).take n ++ (m ++ (h ▸ l : List te.den).drop (n + m.length))))]⟩
     | none => none) none else none
   | _, _ => none
 | _, _ => none
def lI (nid T U : Nat) (x y : Leaf) : Option Eff := match y with
 | .int _ k => lG c M nid T U x k
 | y => cond (sameRow x y) (lH c M T U x y.weak) (ni c M nid T U x.weak y.weak)
def uI (T : Nat) (x : Leaf) : Option Int := match x with
 | .cZ => cond (iQ c T) (some 0) none
 | .sf id lo _ => match M.get id with
   | some (.row _ _ _ _ l) => cond (iQ c T) (some ((l.length - lo : Nat) : Int)) none
   | _ => none
 | _ => none
def yJ : Leaf -> Option (Nat × Option (Nat × Nat))
 | .own id => some (id, none)
 | .sl id lo n => some (id, some (lo, n))
 | _ => none
def jC : Option (Nat × Nat) -> Nat
 | some p => p.1
 | none => 0
def jc (d : Nat) : Option (Nat × Nat) -> Nat
 | some p => p.2
 | none => d
def tu (T U : Nat) (x y : Leaf) : Option Eff := match c.ti T, yJ x with
 | some ⟨.slice e, _, _, _⟩, some (id, r) => match c.ti e, M.get id with
   | some ⟨_, _, bytes, some te⟩, some (.row e' t fr ap l) => if h : t = te then cond (Nat.beq e' e && (cond (dK y) (isStr c U && Nat.beq bytes 1) (Nat.beq U T) && Nat.blt 0 te.sz)) (match listOf M te y with
     | some (fy, m) => some ⟨[], .one (.int .i64 ((min m.length (jc l.length r) : Nat) : Int)), [(id, .row e te (fr && (fy || dI te)) ap
        ((h ▸ l : List te.den).take (jC r) ++ (m.take (jc l.length r) ++ (h ▸ l : List te.den).drop (jC r + (m.take (jc l.length r)).length))))]⟩
     | none => none) none else none
   | _, _ => none
 | _, _ => none
def pR (T : Nat) (x : Leaf) : Option Eff := match c.ti T, yJ x with
 | some ⟨.slice e, _, _, _⟩, some (id, r) => match c.ti e, M.get id with
   | some ⟨_, _, _, some te⟩, some (.row e' t fr ap l) => if h : t = te then cond (Nat.beq e' e && Nat.blt 0 te.sz)
      (some ⟨[], .tup [], [(id, .row e te (fr && true) ap ((h ▸ l : List te.den).take (jC r) ++ (List.replicate (jc l.length r) te.dft ++ (h ▸ l : List te.den).drop (jC r + jc l.length r))))]⟩) none else none
   | _, _ => none
 | _, _ => none
def lJ (T : Nat) (x : Leaf) (lo hi : Option Int) : Option (List Prop × Leaf) :=
 match x with
 | .str l => cond (isStr c T) (some ([0 <= lo.getD 0, lo.getD 0 <= hi.getD (l.length : Int), hi.getD (l.length : Int) <= (l.length : Int)],
    .str ((l.drop (lo.getD 0).toNat).take ((hi.getD (l.length : Int)).toNat - (lo.getD 0).toNat)))) none
 | .psl fr t l => cond (dU c T t.sz) (some ([0 <= lo.getD 0, lo.getD 0 <= hi.getD (l.length : Int), hi.getD (l.length : Int) <= (l.length : Int)],
    .psl fr t ((l.drop (lo.getD 0).toNat).take ((hi.getD (l.length : Int)).toNat - (lo.getD 0).toNat)))) none
 | .own id => match lo, hi, M.get id with
   | none, none, some (.row _ t _ _ _) => cond (dU c T t.sz) (some ([], .own id)) none
   | _, _, some (.row _ t _ _ l) => cond (dU c T t.sz) (some ([0 <= lo.getD 0, lo.getD 0 <= hi.getD (l.length : Int), hi.getD (l.length : Int) <= (l.length : Int)],
      .sl id (lo.getD 0).toNat ((hi.getD (l.length : Int)).toNat - (lo.getD 0).toNat))) none
   | _, _, some (.frz t fr l) => cond (dU c T t.sz) (some ([0 <= lo.getD 0, lo.getD 0 <= hi.getD (l.length : Int), hi.getD (l.length : Int) <= (l.length : Int)],
      .psl fr t ((l.drop (lo.getD 0).toNat).take ((hi.getD (l.length : Int)).toNat - (lo.getD 0).toNat)))) none
   | _, _, _ => none
 | .sl id o n => match M.get id with
   | some (.row _ t _ _ _) => cond (dU c T t.sz) (some ([0 <= lo.getD 0, lo.getD 0 <= hi.getD (n : Int), hi.getD (n : Int) <= (n : Int)],
      .sl id (o + (lo.getD 0).toNat) ((hi.getD (n : Int)).toNat - (lo.getD 0).toNat))) none
   | _ => none
 | .sf id o n => match M.get id with
   | some (.row _ t _ _ l) => cond (dU c T t.sz) (some ([0 <= lo.getD 0, lo.getD 0 <= hi.getD (n : Int), hi.getD (n : Int) <= ((l.length - o : Nat) : Int)],
      .sf id (o + (lo.getD 0).toNat) ((hi.getD (n : Int)).toNat - (lo.getD 0).toNat))) none
   | _ => none
 | .cZ => cond (EP c T) (some ([0 <= lo.getD 0, lo.getD 0 <= hi.getD 0, hi.getD 0 <= 0], .cZ)) none
 | .ptr id off => match M.get id with
   | some (.obj ls) => match lat ls off with
     | some (.arr n _ t _) => cond (wJ c T n t.sz) (some ([0 <= lo.getD 0, lo.getD 0 <= hi.getD (n : Int), hi.getD (n : Int) <= (n : Int)],
        .asl id off (lo.getD 0).toNat ((hi.getD (n : Int)).toNat - (lo.getD 0).toNat))) none
     | _ => none
   | _ => none
 | _ => none
def Jr (e : Nat) (te : Ty) (nid : Nat) (z : Bool) (lo hi mx n : Int) : Eff :=
 cond z ⟨[0 <= lo, lo <= 0], .one (.own nid), [(nid, .row e te true true [])]⟩ ⟨[0 <= lo, lo <= hi, hi <= mx, mx <= n], .one (.own nid), [(nid, .dead)]⟩
def ny (nid T : Nat) (z : Bool) (x : Leaf) (lo : Option Int) (hi mx : Int) : Option Eff := match c.ti T with
 | some ⟨.slice e, _, _, _⟩ => match c.ti e with
   | some ⟨_, _, _, some te⟩ => match x with
     | .cZ => some ⟨[0 <= lo.getD 0, lo.getD 0 <= hi, hi <= mx, mx <= 0], .one (.own nid), [(nid, .row e te true true [])]⟩
     | .psl fr t l => cond z (some (Jr e te nid z (lo.getD 0) hi mx l.length)) (cond (dU c T t.sz) (some ⟨[0 <= lo.getD 0, lo.getD 0 <= hi, hi <= mx, mx <= (l.length : Int)], .one (.psl fr t ((l.drop (lo.getD 0).toNat).take (hi.toNat - (lo.getD 0).toNat))), []⟩) none)
     | .own id => match M.get id with
       | some (.row _ _ _ _ l) => some (Jr e te nid z (lo.getD 0) hi mx l.length)
       | _ => none
     | .sl id _ n => match M.get id with
       | some (.row _ _ _ _ _) => some (Jr e te nid z (lo.getD 0) hi mx n)
       | _ => none
     | _ => none
   | _ => none
 | _ => none
def lK (nid S T : Nat) (x : Leaf) : Option Eff := match c.ti S, c.ti T with
 | some si, some ti => match x, ti.d with
   | .int _ n, .int k => some ⟨[], .one (.int k (k.wrap n)), []⟩
   | .str l, .str => some ⟨[], .one (.str l), []⟩
   | .str l, .slice e => match c.ti e with
     | some ⟨.int .u8, _, _, _⟩ => some ⟨[], .one (.own nid), [(nid, .row e (.int .u8) true false l)]⟩
     | _ => none
   | .own id, .slice e => match c.ti e with
     | some ⟨.int .u8, _, _, _⟩ => match M.get id with
       | some (.row e' t fr true l) => cond (Nat.beq S T) (some ⟨[0 < l.length], .one (.own id), [(id, .row e' t fr false l)]⟩) none
       | _ => none
     | _ => none
   | _, .str => match si.d with
     | .slice e => match c.ti e with
       | some ⟨.int .u8, _, _, _⟩ => match listOf M (.int .u8) x with
         | some (_, l) => some ⟨[], .one (.str l), []⟩
         | none => none
       | _ => none
     | _ => none
   | _, _ => none
 | _, _ => none
def eqL (d : TD) (a b : Leaf) : Option Bool := match d, a, b with
 | .int _, .int k x, .int k' y => if k = k' then some (x == y) else none
 | .str, .str x, .str y => some (x == y)
 | .bool, a, b => match a.asB, b.asB with
   | some x, some y => some (x == y)
   | _, _ => none
 | _, _, _ => none
def Fb (n e : Nat) : List Leaf -> List Leaf -> Option Bool
 | [.arr n1 _ (.int k1) l], [.arr n2 _ (.int k2) m] => match c.ti e with
   | some ⟨.int k, _, _, _⟩ => if k1 = k /\ k2 = k then cond (Nat.beq n1 n && Nat.beq n2 n) (some ((l : List Int) == (m : List Int))) none else none
   | _ => none
 | _, _ => none
def CV (v u : List Leaf) : List (Nat × Nat) -> Option Bool
 | [] => some true
 | (off, ft) :: r => match c.ti ft with
   | some ti => cond ti.agg (match ti.d, dO v off ti.size, dO u off ti.size with
     | .array n e, some va, some ua => match Fb c n e va ua, CV v u r with
       | some x, some y => some (x && y)
       | _, _ => none
     | _, _, _ => none) (match dO v off ti.size, dO u off ti.size with
     | some [a], some [b] => match eqL ti.d a b, CV v u r with
       | some x, some y => some (x && y)
       | _, _ => none
     | _, _ => none)
   | none => none
def Js (T : Nat) (op : BinOp) (v u : V) : Option Eff := cond (c.eqs T && (v.agg && u.agg)) (match c.ti T with
 | some ⟨.struct fs, _, _, _⟩ => match CV c v.ls u.ls fs, op with
   | some b, .eql => some ⟨[], .one (.bool b), []⟩
   | some b, .neq => some ⟨[], .one (.bool (!b)), []⟩
   | _, _ => none
 | some ⟨.array n e, _, _, _⟩ => match Fb c n e v.ls u.ls, op with
   | some b, .eql => some ⟨[], .one (.bool b), []⟩
   | some b, .neq => some ⟨[], .one (.bool (!b)), []⟩
   | _, _ => none
 | _ => none) none
end
structure St where
 env : List (Option SV)
 aY : List (Nat × List (Nat × Bool) × SV)
 M : Store
def bG : List (Option SV) -> Nat -> Option SV
 | [], _ => none
 | x :: _, 0 => x
 | _ :: r, i + 1 => bG r i
def eu : List (Option SV) -> Nat -> Option SV -> List (Option SV)
 | [], _, _ => []
 | _ :: r, 0, v => v :: r
 | x :: r, i + 1, v => x :: eu r i v
def Jt : List (Nat × List (Nat × Bool) × SV) -> Nat -> Option (List (Nat × Bool) × SV)
 | [], _ => none
 | (j, x) :: r, i => cond (Nat.beq j i) (some x) (Jt r i)
def St.slot (s : St) (i : Nat) : Option (List (Nat × Bool) × SV) := match bG s.env i with
 | some v => some ([], v)
 | none => Jt s.aY i
def Fe (x : Nat × Bool) : List (Nat × Bool) -> Bool
 | [] => false
 | y :: r => cond (Nat.beq x.1 y.1 && (x.2 == y.2)) true (Fe x r)
def uJ : List (Nat × Bool) -> List (Nat × Bool) -> Bool
 | [], _ => true
 | x :: r, l => cond (Fe x l) (uJ r l) false
def opd (c : Cfg) (s : St) (cs : List (Nat × Bool)) : Operand -> Option SV
 | .tmp t => match s.slot t with
   | some (k, v) => cond (uJ k cs) (some v) none
   | none => none
 | .const v => match Az v with
   | some x => some (.v x)
   | none => none
 | .global g => match c.glob g with
   | some ⟨t, x⟩ => some (.one (.cst false t x))
   | none => none
 | .func f => some (.one (.fn f []))
def opv (c : Cfg) (s : St) (cs : List (Nat × Bool)) (x : Operand) : Option V := match opd c s cs x with
 | some (.v v) => some v
 | _ => none
def opl (c : Cfg) (s : St) (cs : List (Nat × Bool)) (x : Operand) : Option Leaf := match opv c s cs x with
 | some v => v.leaf
 | none => none
def opi (c : Cfg) (s : St) (cs : List (Nat × Bool)) (x : Operand) : Option Int := match opl c s cs x with
 | some (.int _ n) => some n
 | _ => none
def opb (c : Cfg) (s : St) (cs : List (Nat × Bool)) (x : Operand) : Option Bool := match opl c s cs x with
 | some (.bool b) | some (.kb b) => some b
 | _ => none
def wK (c : Cfg) (s : St) (cs : List (Nat × Bool)) (x : Option Operand) : Option (Option Int) := match x with
 | none => some none
 | some x => match opi c s cs x with
   | some n => some (some n)
   | none => none
def ES : Operand -> Bool
 | .const (.int _ (.ofNat 0)) => true
 | _ => false
def ET (b : Bool) : Leaf -> Leaf -> Option Leaf
 | .int k x, .int k' y => if k = k' then some (.int k (cond b x y)) else none
 | .str x, .str y => some (.str (cond b x y))
 | x, y => match x.asB, y.asB with
   | some x, some y => some (.bool (cond b x y))
   | _, _ => none
def jV : Leaf -> List Nat
 | .own id | .sl id _ _ | .sf id _ _ | .vw id _ _ | .asl id _ _ _ | .ptr id _ | .ig id _ _ | .iq id _ _ _ | .hid id => [id]
 | .fn _ caps => caps
 | _ => []
def mem1 (x : Nat) : List Nat -> Bool
 | [] => false
 | y :: r => cond (Nat.beq x y) true (mem1 x r)
def fC : List Leaf -> List Nat
 | [] => []
 | l :: r => jV l ++ fC r
def o9 : Entry -> List Nat
 | .obj ls => fC ls
 | _ => []
def reach (M : Store) : Nat -> List Nat -> List Nat -> List Nat
 | 0, acc, _ => acc
 | _ + 1, acc, [] => acc
 | k + 1, acc, i :: r => cond (mem1 i acc) (reach M k acc r) (match M.get i with
   | some e => reach M k (acc ++ [i]) (r ++ o9 e)
   | none => reach M k (acc ++ [i]) r)
def posOf (x : Nat) : List Nat -> Nat
 | [] => 0
 | y :: r => cond (Nat.beq x y) 0 (posOf x r + 1)
def iU (f : Nat -> Nat) : Leaf -> Leaf
 | .own id => .own (f id)
 | .sl id lo n => .sl (f id) lo n
 | .sf id lo n => .sf (f id) lo n
 | .vw id lo n => .vw (f id) lo n
 | .asl id o lo n => .asl (f id) o lo n
 | .ptr id o => .ptr (f id) o
 | .ig id i o => .ig (f id) i o
 | .iq id a i o => .iq (f id) a i o
 | .fn g caps => .fn g (caps.map f)
 | .hid id => .hid (f id)
 | l => l
def CW (f : Nat -> Nat) (v : V) : V := ⟨v.agg, v.ls.map (iU f)⟩
def uK (f : Nat -> Nat) : SV -> SV
 | .v x => .v (CW f x)
 | .tup l => .tup (l.map (CW f))
def aT (f : Nat -> Nat) : Entry -> Entry
 | .obj ls => .obj (ls.map (iU f))
 | e => e
def fD (l : List Nat) (base : Nat) : Nat -> Nat
 | i => match l[i]? with
   | some x => x
   | none => base + (i - l.length)
def rZ {α : Type} : List Nat -> List α -> List (Nat × α)
 | i :: r, x :: s => (i, x) :: rZ r s
 | _, _ => []
def ay {α : Type} : Nat -> List α -> List (Nat × α)
 | _, [] => []
 | i, x :: r => (i, x) :: ay (i + 1) r
def dA (M : Store) : (ts : List Ty) -> List V -> Option (Bool × aX ts × List (Nat × Entry))
 | [], [] => some (true, (), [])
 | [t], [v] => cond (v.agg == t.isAgg) (match aG M t v.ls with
   | some im => match im.rest with
     | [] => some (im.fr, im.x, im.frz)
     | _ => none
   | none => none) none
 | t :: u :: r, v :: vs => cond (v.agg == t.isAgg) (match aG M t v.ls with
   | some im => match im.rest, dA M (u :: r) vs with
     | [], some (fr, x, z) => some (im.fr && fr, (im.x, x), im.frz ++ z)
     | _, _ => none
   | none => none) none
 | _, _ => none
def AB : Leaf -> Bool
 | .psl f _ _ | .arr _ f _ _ => f
 | .cst .. => false
 | _ => true
def iw : List Leaf -> Bool
 | [] => true
 | l :: r => AB l && iw r
def tC : SV -> Bool
 | .v x => iw x.ls
 | .tup l => l.all fun x => iw x.ls
def tH : Entry -> Bool
 | .row _ _ f _ _ | .frz _ f _ => f
 | .obj ls => iw ls
 | .hid _ => true
 | .dead => true
def cellOf (M : Store) (t : Ty) (v : V) : Option t.den := match v with
 | ⟨false, [.ptr id 0]⟩ => match M.get id with
   | some (.obj ls) => match aG M t ls with
     | some im => match im.rest with
       | [] => some im.x
       | _ => none
     | none => none
   | _ => none
 | ⟨false, [.cst _ t' x]⟩ => if h : t' = t then some (h ▸ x : t.den) else none
 | _ => none
def jH (M : Store) : (cs : List Ty) -> List V -> Option (aX cs)
 | [], [] => some ()
 | [t], [v] => cellOf M t v
 | t :: u :: r, v :: vs => match cellOf M t v, jH M (u :: r) vs with
   | some x, some y => some (x, y)
   | _, _ => none
 | _, _ => none
def fJ : List Nat -> Bool
 | [] => true
 | x :: r => !(mem1 x r) && fJ r
def allIn (ids : List Nat) : List Nat -> Bool
 | [] => true
 | x :: r => cond (mem1 x ids) (allIn ids r) false
def CX (M : Store) (ids : List Nat) (x : Nat) : Bool := match M.get x with
 | some e => allIn ids (o9 e)
 | none => true
def jm (M : Store) (ids : List Nat) : List Nat -> Bool
 | [] => true
 | x :: r => cond (CX M ids x) (jm M ids r) false
def yK (M : Store) (nid : Nat) (F : List V -> List Entry -> Option Done) (args : List V) (ids : List Nat) : Option Eff := match aS (ids.map M.get) with
 | some es => cond (fJ ids && (allIn ids (args.flatMap fun v => fC v.ls) && jm M ids ids)) (match F (args.map (CW fun i => posOf i ids)) (es.map (aT fun i => posOf i ids)) with
   | some d => cond (Nat.beq d.back.length ids.length) (some ⟨d.pre, uK (fD ids nid) d.res, rZ ids (d.back.map (aT (fD ids nid))) ++ ay nid (d.made.map (aT (fD ids nid)))⟩) none
   | none => none) none
 | none => none
def tJ (c : Cfg) (M : Store) (nid f : Nat) (args : List V) : Option Eff := match c.sum f with
 | some (.pure ts alias F) => match dA M ts args with
   | some (_, x, z) => let d := F x
     cond (alias || (tC d.res && d.made.all tH))
      (some ⟨d.pre, uK (fun i => nid + i) d.res, (cond alias z []) ++ ay nid (d.made.map fun e => aT (fun i => nid + i) e)⟩) none
   | none => none
 | some (.clo ts cs F) => match dA M ts (args.take ts.length), jH M cs (args.drop ts.length) with
   | some (_, x, _), some y => let d := F x y
     cond (tC d.res && d.made.all tH)
      (some ⟨d.pre, uK (fun i => nid + i) d.res, ay nid (d.made.map fun e => aT (fun i => nid + i) e)⟩) none
   | _, _ => none
 | some .apart => match args with
   | [⟨false, [x]⟩, ⟨false, [y]⟩] => match yJ x.weak, yJ y.weak with
     | some (i, _), some (j, _) => match M.get i, M.get j with
       | some (.row _ t _ true _), some (.row _ u _ true _) => cond (Nat.blt 0 t.sz && (Nat.blt 0 u.sz && !(Nat.beq i j))) (some ⟨[], .one (.bool false), []⟩) none
       | _, _ => none
     | _, _ => none
   | _ => none
 | some (.gen F) => yK M nid F args (reach M 40 [] (args.flatMap fun v => fC v.ls))
 | none => none
def mg (c : Cfg) (s : St) (cs : List (Nat × Bool)) (l : List Operand) : Option (List V) := aS (l.map (opv c s cs))
def ou (c : Cfg) (T : Nat) : Option (List Leaf) := match c.ti T with
 | some ⟨_, _, _, some t⟩ => some (uG t)
 | _ => c.zero T
def jW (c : Cfg) (s : St) (cs : List (Nat × Bool)) (T : Nat) (fs : List (Nat × Nat)) : List (Nat × Operand) -> List Leaf -> Option (List Leaf)
 | [], ls => some ls
 | (i, x) :: r, ls => match fs[i]?, opv c s cs x with
   | some (off, ft), some v => match sizeT c ft with
     | some sz => cond (Nat.beq (widths v.ls) sz) (match eG ls off sz v.ls with
       | some ls' => jW c s cs T fs r ls'
       | none => none) none
     | none => none
   | _, _ => none
def iy (c : Cfg) (s : St) (cs : List (Nat × Bool)) (n : Nat) (t : Ty) : List (Nat × Operand) -> Bool -> List t.den -> List (Nat × Entry) -> Option (Bool × List t.den × List (Nat × Entry))
 | [], fr, l, fz => some (fr, l, fz)
 | (i, x) :: r, fr, l, fz => match opv c s cs x with
   | some v => match aG s.M t v.ls with
     | some im => match im.rest with
       | [] => cond (Nat.blt i n) (iy c s cs n t r (fr && im.fr) (l.set i im.x) (fz ++ im.frz)) none
       | _ => none
     | none => none
   | none => none
def known (c : Cfg) : List (Nat × Nat) -> Bool
 | [] => true
 | f :: r => (match c.ti f.2 with | some _ => true | none => false) && known c r
def dF (M : Store) (id : Nat) : Bool := match M.get id with
 | some (.row ..) | some (.frz ..) | some (.obj _) => true
 | _ => false
def jD (M : Store) (v : V) : Option Nat := match v with
 | ⟨false, [.ptr id 0]⟩ => match M.get id with
   | some (.obj _) => some id
   | _ => none
 | _ => none
def lM (c : Cfg) (M : Store) (off ft : Nat) (l : Leaf) : Option Leaf := cond (sized c ft) (match l with
 | .ptr id o => cond (dF M id) (some (.ptr id (o + off))) none
 | .ig id i o => cond (dF M id) (some (.ig id i (o + off))) none
 | .iq id a i o => cond (dF M id) (some (.iq id a i (o + off))) none
 | .cst fr t y => match c.ti ft with
   | some ⟨_, _, _, some tf⟩ => match sub t y off tf with
     | some z => some (.cst fr tf z)
     | none => none
   | _ => none
 | _ => none) none
def CY (c : Cfg) (T : Nat) (v : V) (n : Int) : Option Eff := match v with
 | ⟨true, [.arr m fr t l]⟩ => match c.ti T with
   | some ⟨.array m' e, _, _, _⟩ => match c.ti e with
     | some ⟨_, sz, _, some t'⟩ => if t' = t then cond (Nat.beq m' m && Nat.beq sz t.sz) (some ⟨[0 <= n, n < (m : Int)], .v (.of fr t (idx l n.toNat)), []⟩) none else none
     | _ => none
   | _ => none
 | ⟨false, [.str l]⟩ => cond (isStr c T) (some ⟨[0 <= n, n < (l.length : Int)], .one (.int .u8 (l.getD n.toNat 0)), []⟩) none
 | _ => none
def Fg (a b : Int) : Int := if b < a then b else a
def Pz (a b : Int) : Int := if b > a then b else a
def zT (op : BinOp) (b : Bool) : Option Leaf := match op with
 | .eql => some (.kb b)
 | .neq => some (.kb (!b))
 | _ => none
def ql (M : Store) (id : Nat) : Bool := match M.get id with
 | some (.obj _) => true
 | _ => false
def rC (c : Cfg) (M : Store) (T : Nat) (op : BinOp) (a b : Leaf) : Option Leaf := match c.ti T with
 | some ⟨.ptr e, _, _, _⟩ => match a, b with
   | .ptr id _, .dG => cond (ql M id) (zT op false) none
   | .dG, .dG => zT op true
   | .cst _ _ _, .dG => zT op false
   | .ptr id off, .ptr id' off' => match c.ti e with
     | some _ => cond (ql M id && (Nat.beq id id' && Nat.beq off off')) (zT op true) none
     | none => none
   | _, _ => none
 | _ => none
def AL : Ty -> Bool
 | .int _ | .bool | .str => true
 | _ => false
def eqK : (t : Ty) -> t.den -> t.den -> Bool
 | .int _, a, b => decide ((a : Int) = b)
 | .str, a, b => decide ((a : List Int) = b)
 | _, _, _ => false
def kY {k v : Ty} : List (k.den × v.den) -> k.den -> v.den
 | [], _ => v.dft
 | p :: r, x => cond (eqK k x p.1) p.2 (kY r x)
def oP {k v : Ty} : List (k.den × v.den) -> k.den -> Bool
 | [], _ => false
 | p :: r, x => cond (eqK k x p.1) true (oP r x)
def qm {k v : Ty} : List (k.den × v.den) -> k.den -> v.den -> List (k.den × v.den)
 | [], x, y => [(x, y)]
 | p :: r, x, y => cond (eqK k x p.1) ((x, y) :: r) (p :: qm r x y)
def wL : (t : Ty) -> Leaf -> Option t.den
 | .int k, .int k' x => if k' = k then some x else none
 | .bool, .bool b => some b
 | .bool, .kb b => some b
 | .str, .str l => some l
 | _, _ => none
def AO (c : Cfg) (T : Nat) : Option Ty := match c.ti T with
 | some ⟨.int k, _, _, _⟩ => some (.int k)
 | some ⟨.str, _, _, _⟩ => some .str
 | _ => none
def valTy (c : Cfg) (T : Nat) : Option Ty := match c.ti T with
 | some ⟨_, _, _, some t⟩ => cond (AL t) (some t) none
 | _ => none
def wM (c : Cfg) (nid T : Nat) : Option Eff := match c.ti T with
 | some ⟨.map k v, _, _, _⟩ => match AO c k, valTy c v with
   | some tk, some tv => some ⟨[], .one (.hid nid), [(nid, .hid (.map tk tv []))]⟩
   | _, _ => none
 | _ => none
def nC (c : Cfg) (M : Store) (T : Nat) (x y : Leaf) (ok : Bool) : Option Eff := match c.ti T, x with
 | some ⟨.map k v, _, _, _⟩, .hid id => match AO c k, valTy c v, M.get id with
   | some tk, some tv, some (.hid (.map tk' tv' l)) => if h : tk' = tk /\ tv' = tv then (match wL tk' y with
     | some x => some ⟨[], cond ok (.tup [.of true tv' (kY l x), one (.bool (oP l x))]) (.v (.of true tv' (kY l x))), []⟩
     | none => none) else none
   | _, _, _ => none
 | _, _ => none
def jo (c : Cfg) (M : Store) (T : Nat) (x y z : Leaf) : Option Eff := match c.ti T, x with
 | some ⟨.map k v, _, _, _⟩, .hid id => match AO c k, valTy c v, M.get id with
   | some tk, some tv, some (.hid (.map tk' tv' l)) => if h : tk' = tk /\ tv' = tv then (match wL tk' y, wL tv' z with
     | some x, some u => some ⟨[], .tup [], [(id, .hid (.map tk' tv' (qm l x u)))]⟩
     | _, _ => none) else none
   | _, _, _ => none
 | _, _ => none
def bJ (l : List Int) (p : Nat) : Int × Nat := (((Utf8.decode (bs l) p).1 : Int), (Utf8.decode (bs l) p).2)
def dB (c : Cfg) (s : St) (cs : List (Nat × Bool)) (nid : Nat) : Op -> Nat -> Option Eff
 | .move x, _ | .assign x, _ => match opd c s cs x with
   | some v => some ⟨[], v, []⟩
   | none => none
 | .alloc T, _ => match ou c T with
   | some ls => cond (l9 T ls) (some ⟨[], .one (.ptr nid 0), [(nid, .obj ls)]⟩) none
   | none => none
 | .box T x, _ => match opv c s cs x with
   | some v => cond (l9 T v.ls) (some ⟨[], .one (.ptr nid 0), [(nid, .obj v.ls)]⟩) none
   | none => none
 | .build T ps, _ => match c.ti T with
   | some ⟨.struct fs, _, _, _⟩ => match cond (known c fs) (ou c T) none with
     | some ls => match jW c s cs T fs ps.toList ls with
       | some r => some ⟨[], .v ⟨true, r⟩, []⟩
       | none => none
     | none => none
   | some ⟨.array n e, _, _, some (.arr n' t)⟩ => match c.ti e with
     | some ⟨_, _, _, some t'⟩ => if t' = t /\ n' = n then match iy c s cs n t ps.toList true (List.replicate n t.dft) [] with
       | some (fr, l, fz) => some ⟨[], .v ⟨true, [.arr n fr t l]⟩, fz⟩
       | none => none else none
     | _ => none
   | _ => none
 | .buildSlice T n ps, _ => match c.ti T with
   | some ⟨.slice e, _, _, _⟩ => match c.ti e with
     | some ⟨_, _, _, some t⟩ => match cond (Nat.ble (n * t.sz) 16777216 && Nat.blt 0 t.sz) (iy c s cs n t ps.toList true (List.replicate n t.dft) []) none with
       | some (fr, l, fz) => some ⟨[], .one (.own nid), fz ++ [(nid, .row e t fr true l)]⟩
       | none => none
     | _ => none
   | _ => none
 | .load T x, _ => match opl c s cs x with
   | some l => match oh c s.M T l with
     | some (p, v) => some ⟨p, .v v, []⟩
     | none => none
   | none => none
 | .store T x y, _ => match opl c s cs x, opv c s cs y with
   | some l, some v => match lF c s.M T l v with
     | some (p, u) => some ⟨p, .tup [], u⟩
     | none => none
   | _, _ => none
 | .nilCheck x, _ => match opl c s cs x with
   | some (.ptr id o) => cond (dF s.M id) (some ⟨[], .one (.ptr id o), []⟩) none
   | some (.ig id i o) => cond (dF s.M id) (some ⟨[], .one (.ig id i o), []⟩) none
   | some (.iq id a i o) => cond (dF s.M id) (some ⟨[], .one (.iq id a i o), []⟩) none
   | some (.cst fr t x) => some ⟨[], .one (.cst fr t x), []⟩
   | some (.fn f cp) => some ⟨[], .one (.fn f cp), []⟩
   | _ => none
 | .binOp op T x y _, _ => match opl c s cs x, opl c s cs y with
   | some a, some b => match AA c T op a b with
     | some (p, r) => some ⟨p, .one r, []⟩
     | none => match rC c s.M T op a b with
       | some r => some ⟨[], .one r, []⟩
       | none => none
   | _, _ => match opv c s cs x, opv c s cs y with
     | some v, some u => Js c T op v u
     | _, _ => none
 | .unOp op _ x, _ => match opl c s cs x with
   | some a => match Jq op a with
     | some r => some ⟨[], .one r, []⟩
     | none => none
   | none => none
 | .convert S T x, _ => match opl c s cs x with
   | some l => lK c s.M nid S T l.weak
   | none => none
 | .makeFunc (.func f) first caps, _ => cond (Nat.beq first.size 0) (match mg c s cs caps.toList with
   | some vs => match aS (vs.map (jD s.M)) with
     | some ids => some ⟨[], .one (.fn f ids), []⟩
     | none => none
   | none => none) none
 | .makeSlice T n m, _ => match c.ti T, opi c s cs n, opi c s cs m with
   | some ⟨.slice e, _, _, _⟩, some a, some b => match c.ti e with
     | some ⟨_, _, bytes, some t⟩ => some ⟨[0 <= a, a <= b, b * bytes <= 140737488355328, b <= 9223372036854775807], .one (.own nid), [(nid, .row e t true true (List.replicate a.toNat t.dft))]⟩
     | _ => none
   | _, _, _ => none
 | .slice T x lo (some hi) (some mx), _ => match opl c s cs x, wK c s cs lo, opi c s cs hi, opi c s cs mx with
   | some l, some a, some b, some m => ny c s.M nid T (ES hi && ES mx) l.weak a b m
   | _, _, _, _ => none
 | .slice T x lo hi none, _ => match opl c s cs x, wK c s cs lo, wK c s cs hi with
   | some l, some a, some b => match lJ c s.M T l a b with
     | some (p, r) => some ⟨p, .one r, []⟩
     | none => none
   | _, _, _ => none
 | .fieldAddr T x f, _ => match ng c T f, opl c s cs x with
   | some (off, ft), some l => match lM c s.M off ft l with
     | some r => some ⟨[], .one r, []⟩
     | none => none
   | _, _ => none
 | .field T x f, _ => match ng c T f, opv c s cs x with
   | some (off, ft), some v => match c.ti ft with
     | some ti => match cond v.agg (dO v.ls off ti.size) none with
       | some r => some ⟨[], .v ⟨ti.agg, r⟩, []⟩
       | none => none
     | none => none
   | _, _ => none
 | .indexAddr T x i, _ => match opl c s cs x, opi c s cs i with
   | some l, some n => match fV c s.M T l.weak n with
     | some (p, r) => some ⟨p, .one r, []⟩
     | none => none
   | _, _ => none
 | .index T x i, _ => match opv c s cs x, opi c s cs i with
   | some v, some n => CY c T v n
   | _, _ => none
 | .sliceToArrayPointer T x, _ => match opl c s cs x with
   | some l => match ER c T l with
     | some (p, r) => some ⟨p, .one r, []⟩
     | none => none
   | none => none
 | .makeMap T none, _ => wM c nid T
 | .lookup T x y ok, _ => match opl c s cs x, opl c s cs y with
   | some a, some b => nC c s.M T a b ok
   | _, _ => none
 | .mapUpdate T x y z, _ => match opl c s cs x, opl c s cs y, opl c s cs z with
   | some a, some b, some d => jo c s.M T a b d
   | _, _, _ => none
 | .range T x, _ => match opl c s cs x with
   | some (.str l) => cond (isStr c T) (some ⟨[], .one (.hid nid), [(nid, .hid (.iter l 0))]⟩) none
   | _ => none
 | .extract x i, _ => match opd c s cs x with
   | some (.tup l) => match l[i]? with
     | some v => some ⟨[], .v v, []⟩
     | none => none
   | _ => none
 | .call ⟨.builtin .len, args, ts⟩, _ => match args.toList, ts.toList with
   | [x], [T] => match opl c s cs x with
     | some l => match uH c s.M T l.weak with
       | some n => some ⟨[], .one (.int .i64 n), []⟩
       | none => none
     | none => none
   | _, _ => none
 | .call ⟨.builtin .cap, args, ts⟩, _ => match args.toList, ts.toList with
   | [x], [T] => match opl c s cs x with
     | some l => match uI c s.M T l with
       | some n => some ⟨[], .one (.int .i64 n), []⟩
       | none => none
     | none => none
   | _, _ => none
 | .call ⟨.builtin .copy, args, ts⟩, _ => match args.toList, ts.toList with
   | [x, y], [T, U] => match opl c s cs x, opl c s cs y with
     | some a, some b => tu c s.M T U a.weak b.weak
     | _, _ => none
   | _, _ => none
 | .call ⟨.builtin .clear, args, ts⟩, _ => match args.toList, ts.toList with
   | [x], [T] => match opl c s cs x with
     | some a => pR c s.M T a.weak
     | _ => none
   | _, _ => none
 | .call ⟨.builtin .append, args, ts⟩, _ => match args.toList, ts.toList with
   | [x, y], [T, U] => match opl c s cs x, opl c s cs y with
     | some a, some b => lI c s.M nid T U a b
     | _, _ => none
   | _, _ => none
 | .call ⟨.builtin .min, args, _⟩, _ => match args.toList with
   | [x, y] => match opl c s cs x, opl c s cs y with
     | some (.int k a), some (.int k' b) => if k = k' then some ⟨[], .one (.int k (Fg a b)), []⟩ else none
     | _, _ => none
   | _ => none
 | .call ⟨.builtin .max, args, _⟩, _ => match args.toList with
   | [x, y] => match opl c s cs x, opl c s cs y with
     | some (.int k a), some (.int k' b) => if k = k' then some ⟨[], .one (.int k (Pz a b)), []⟩ else none
     | _, _ => none
   | _ => none
 | .call ⟨.value f, args, _⟩, _ => match opl c s cs f, mg c s cs args.toList with
   | some (.fn g caps), some vs => tJ c s.M nid g (vs ++ caps.map fun i => one (.ptr i 0))
   | _, _ => none
 | _, _ => none
end Go.Vc
set_option linter.unusedVariables false
set_option linter.unusedSimpArgs false
namespace Go.Vc
structure St2 where
 s : St
 next : Nat
 ins : List Nat
def conj : List Prop -> Prop -> Prop
 | [], q => q
 | p :: r, q => p /\ conj r q
def under (s : St) : List (Nat × Bool) -> Prop -> Option Prop
 | [], p => some p
 | (d, b) :: r, p => match s.slot d with
   | some (_, .v ⟨false, [.bool x]⟩) => match under s r p with
     | some q => some (x = b -> q)
     | none => none
   | _ => none
def jd (s : St) (cs : List (Nat × Bool)) : List Prop -> Option (List Prop)
 | [] => some []
 | p :: r => match under s cs.reverse p, jd s cs r with
   | some q, some l => some (q :: l)
   | _, _ => none
def iV (ops : List Oper) (s : St) : Option (Nat × Bool) -> Option (Option (List (Nat × Bool)))
 | none => some (some [])
 | some (j, b) => match ops[j]? with
   | some oj => match oj.dst with
     | some d => match s.slot d with
       | some (k, .v ⟨false, [.bool _]⟩) => some (some ((d, b) :: k))
       | some (k, .v ⟨false, [.kb b']⟩) => cond (b' == b) (some (some k)) (some none)
       | some (_, .tup []) => some none
       | _ => none
     | none => none
   | none => none
def inB : List (Option SV) -> Nat -> Bool
 | [], _ => false
 | _ :: _, 0 => true
 | _ :: r, i + 1 => inB r i
def uM (d : Nat) : List (Nat × Bool) -> Bool
 | [] => true
 | x :: r => cond (Nat.beq x.1 d) false (uM d r)
def AP (d : Nat) : List (Nat × List (Nat × Bool) × SV) -> Bool
 | [] => true
 | (i, k, _) :: r => cond (Nat.beq i d) false (cond (uM d k) (AP d r) false)
def fO (s : St) (cs : List (Nat × Bool)) (dst : Option Nat) (v : SV) : Option St := match dst with
 | none => some s
 | some d => cond (AP d s.aY) (match cs with
   | [] => some { s with env := eu s.env d (some v) }
   | _ => cond (uM d cs && inB s.env d) (some { s with env := eu s.env d none, aY := (d, cs, v) :: s.aY }) none) none
def tK (c : Cfg) (s : St) (cs : List (Nat × Bool)) (x a b : Operand) : Option Eff := match x with
 | .tmp d => match s.slot d with
   | some (k, .v ⟨false, [.kb t]⟩) => cond (uJ k cs) (match opd c s cs (cond t a b) with
     | some v => some ⟨[], v, []⟩
     | none => none) none
   | some (k, .v ⟨false, [.bool t]⟩) => cond (uJ k cs) (match opl c s ((d, true) :: cs) a, opl c s ((d, false) :: cs) b with
     | some la, some lb => match ET t la lb with
       | some r => some ⟨[], .one r, []⟩
       | none => none
     | _, _ => none) none
   | _ => none
 | _ => none
def below (n : Nat) : List (Nat × Entry) -> Bool
 | [] => true
 | x :: r => cond (Nat.blt x.1 n) (below n r) false
def qo (c : Cfg) (s : St) (cs : List (Nat × Bool)) (nid : Nat) (o : Oper) : Option Eff := match o.op with
 | .pick x a b => tK c s cs x a b
 | op => dB c s cs nid op o.type
def jX (c : Cfg) (s : St) (cs : List (Nat × Bool)) (nid : Nat) (o : Oper) : Option Eff := match qo c s cs nid o with
 | some e => cond (below (nid + 8) e.upd) (some e) none
 | none => none
def bump (n : Nat) : List (Nat × Entry) -> Nat
 | [] => n
 | x :: r => bump (cond (Nat.ble n x.1) (x.1 + 1) n) r
def tN (c : Cfg) (ops : List Oper) (s : St2) (o : Oper) : Option (List Prop × St2) := match iV ops s.s o.guard with
 | some (some cs) => match jX c s.s cs s.next o with
   | some e => match cs, e.upd with
     | [], u => match fO { s.s with M := s.s.M.aK u } [] o.dst e.sv with
       | some t => some (e.pre, { s with s := t, next := bump s.next e.upd })
       | none => none
     | _ :: _, [] => match jd s.s cs e.pre, fO s.s cs o.dst e.sv with
       | some ps, some t => some (ps, { s with s := t })
       | _, _ => none
     | _, _ => none
   | none => none
 | some none => match fO s.s [] o.dst (.tup []) with
   | some t => some ([], { s with s := t })
   | none => none
 | none => none
def oQ (d : Nat) (b : Bool) : List (Nat × Bool) -> Option (List (Nat × Bool))
 | [] => some []
 | (i, x) :: r => cond (Nat.beq i d) (cond (x == b) (oQ d b r) none) (match oQ d b r with | some l => some ((i, x) :: l) | none => none)
def learn (d : Nat) (b : Bool) (s : St) : St :=
 { s with env := go s.aY (eu s.env d (some (.one (.kb b)))), aY := keep s.aY }
where
 go : List (Nat × List (Nat × Bool) × SV) -> List (Option SV) -> List (Option SV)
  | [], env => env
  | (i, k, v) :: r, env => match oQ d b k with
    | some [] => cond (Nat.beq i d) (go r env) (eu (go r env) i (some v))
    | none => cond (Nat.beq i d) (go r env) (eu (go r env) i (some (.tup [])))
    | _ => go r env
 keep : List (Nat × List (Nat × Bool) × SV) -> List (Nat × List (Nat × Bool) × SV)
  | [] => []
  | (i, k, v) :: r => match oQ d b k with
    | some (x :: l) => cond (Nat.beq i d) (keep r) ((i, x :: l, v) :: keep r)
    | _ => keep r
def split : List (Nat × Bool) -> St -> (Bool -> St -> Prop) -> Prop
 | [], s, K => K true s
 | (d, b) :: r, s, K => split r s fun ok s' => match ok with
   | false => K false s'
   | true => match bG s'.env d with
     | some (.v ⟨false, [.bool x]⟩) => cond x (K b (learn d true s')) (K (!b) (learn d false s'))
     | some (.v ⟨false, [.kb x]⟩) => K (x == b) s'
     | _ => False
structure Want where
 f : Nat
 args : List V
def Fh (c : Cfg) (s : St) (cs : List (Nat × Bool)) : Op -> Option Want
 | .call ⟨.value f, args, _⟩ => match opl c s cs f, mg c s cs args.toList with
   | some (.fn g caps), some vs => some ⟨g, vs ++ caps.map fun i => one (.ptr i 0)⟩
   | _, _ => none
 | _ => none
def AQ : Leaf -> Option (Nat × Bool)
 | .psl _ _ l => some (l.length, false)
 | .cZ => some (0, true)
 | _ => none
def yL (c : Cfg) (s : St) : Op -> Option (Bool × Nat × Bool)
 | .binOp .eql T x (.const (.slice none 0 0)) _ => match cond (iQ c T) (opl c s [] x) none with
   | some l => match AQ l with
     | some (n, k) => some (true, n, k)
     | none => none
   | none => none
 | .binOp .neq T x (.const (.slice none 0 0)) _ => match cond (iQ c T) (opl c s [] x) none with
   | some l => match AQ l with
     | some (n, k) => some (false, n, k)
     | none => none
   | none => none
 | _ => none
def Fj (c : Cfg) (s : St) : Op -> Option (Nat × List Int × Nat)
 | .next x true => match opl c s [] x with
   | some (.hid id) => match s.M.get id with
     | some (.hid (.iter l p)) => some (id, l, p)
     | _ => none
   | _ => none
 | _ => none
abbrev Inl := Nat -> List V -> St2 -> (SV -> St2 -> Prop) -> Prop
def iW (s : Option St) (f : St -> Prop) : Prop := match s with
 | some t => f t
 | none => False
def slow (c : Cfg) (inl : Inl) (ops : List Oper) (o : Oper) (s : St2) (K : St2 -> Prop) : Prop := match iV ops s.s o.guard with
 | some (some cs) => split cs s.s fun ok s' => match ok with
   | false => iW (fO s' [] o.dst (.tup [])) fun t => K { s with s := t }
   | true => match jX c s' [] s.next o with
     | some e => conj e.pre (iW (fO { s' with M := s'.M.aK e.upd } [] o.dst e.sv) fun t => K { s with s := t, next := bump s.next e.upd })
     | none => match yL c s' o.op with
       | some (eq, n, k) => ∀ nb : Bool, (nb = true -> n = 0) -> (k = true -> nb = true) -> iW (fO s' [] o.dst (.one (.bool (cond eq nb (!nb))))) fun t => K { s with s := t }
       | none => match Fj c s' o.op with
       | some (id, l, p) => (p < l.length -> iW (fO { s' with M := s'.M.set id (.hid (.iter l (p + (bJ l p).2))) } [] o.dst (.tup [one (.kb true), one (.int .i64 p), one (.int .i32 (bJ l p).1)])) fun t => K { s with s := t }) /\
          (l.length <= p -> iW (fO s' [] o.dst (.tup [one (.kb false)])) fun t => K { s with s := t })
       | none => match Fh c s' [] o.op with
       | some w => inl w.f w.args { s with s := { s' with env := [], aY := [] } } fun v s'' => iW (fO { s' with M := s''.s.M } [] o.dst v) fun t => K { s'' with s := t, ins := s.ins }
       | none => False
 | _ => False
def yM (c : Cfg) (s : St2) (o : Oper) : Option (Nat × List Prop) := match o.guard, o.op, s.ins, c.els with
 | none, .call ⟨.value f, args, _⟩, [z, k], some ⟨es, els⟩ => cond (Nat.beq z 0) (match opl c s.s [] f with
   | some .yld => match mg c s.s [] args.toList with
     | some vs => match dA s.s.M es vs with
       | some (_, x, []) => some (k, [k < els.length, els.getD k (zS es) = x])
       | _ => none
     | none => none
   | _ => none) none
 | _, _, _, _ => none
def oz (c : Cfg) (inl : Inl) (ops : List Oper) : List Oper -> St2 -> (St2 -> Prop) -> Prop
 | [], s, K => K { s with s := { s.s with aY := [] } }
 | o :: r, s, K => match tN c ops s o with
   | some (ps, s') => conj ps (oz c inl ops r s' K)
   | none => match yM c s o with
     | some (k, ps) => conj ps (iW (fO s.s [] o.dst (.one (.kb true))) (fun t => oz c inl ops r { s with s := t, ins := [0, k + 1] } K) /\ iW (fO s.s [] o.dst (.one (.kb false))) fun t => oz c inl ops r { s with s := t, ins := [1, k + 1] } K)
     | none => slow c inl ops o s fun s' => oz c inl ops r s' K
structure Rec where
 dst : Option Nat
 cs : Option (List (Nat × Bool))
 e : Eff
def mD (o : Oper) : List Nat := (o.after.toList.filter fun e => Region.binds .any e).map (·.on)
def aZ (m p : Nat) : Bool := Nat.beq (Nat.land 1 (Nat.shiftRight m p)) 1
def wO (acc : List Nat) : List Nat -> Option Nat
 | [] => some 0
 | p :: r => match acc[p]?, wO acc r with
   | some m, some n => some (Nat.lor (Nat.lor (Nat.shiftLeft 1 p) m) n)
   | _, _ => none
def yN : List Oper -> List Nat -> Option (List Nat)
 | [], acc => some acc
 | o :: r, acc => match wO acc (mD o) with
   | some m => yN r (acc ++ [m])
   | none => none
def yO (c : Cfg) (ops : List Oper) (s : St) (nid : Nat) (o : Oper) : Option Rec := match iV ops s o.guard with
 | some (some cs) => match jX c s cs nid o with
   | some e => match cs, e.upd with
     | [], _ => some ⟨o.dst, some [], e⟩
     | _ :: _, [] => match jd s cs e.pre with
       | some ps => some ⟨o.dst, some cs, ⟨ps, e.sv, []⟩⟩
       | none => none
     | _, _ => none
   | none => none
 | some none => some ⟨o.dst, none, ⟨[], .tup [], []⟩⟩
 | none => none
def addRec (s : St) (r : Rec) : St := match r.dst with
 | none => { s with M := s.M.aK r.e.upd }
 | some d => match r.cs with
   | some (x :: cs) => ⟨eu s.env d none, (d, x :: cs, r.e.sv) :: s.aY, s.M.aK r.e.upd⟩
   | _ => ⟨eu s.env d (some r.e.sv), s.aY, s.M.aK r.e.upd⟩
def bY (m : Nat) : Nat -> List Rec -> St -> St
 | _, [], s => s
 | j, r :: l, s => bY m (j + 1) l (cond (aZ m j) (addRec s r) s)
def Store.del : Store -> List Nat -> Store
 | [], _ => []
 | (i, e) :: r, ids => cond (mem1 i ids) (Store.del r ids) ((i, e) :: Store.del r ids)
def kZ (masks : List Nat) (m k : Nat) : Nat -> List (List Nat) -> List Nat
 | _, [] => []
 | j, u :: l => cond (Nat.beq j k || aZ m j || (match masks[j]? with | some mj => aZ mj k | none => false)) (kZ masks m k (j + 1) l) (u ++ kZ masks m k (j + 1) l)
def MW (c : Cfg) (ops : List Oper) : List Oper -> Nat -> St -> Option (List (List Nat))
 | [], _, _ => some []
 | o :: r, nid, s => match yO c ops s nid o with
   | some rc => match MW c ops r (nid + 8) (addRec s rc) with
     | some l => some (rc.e.upd.map (·.1) :: l)
     | none => none
   | none => none
def CZ (base : St) (masks : List Nat) (U : List (List Nat)) (acc : List Rec) (m k : Nat) : St :=
 let s := bY m 0 acc base
 { s with M := s.M.del (kZ masks m k 0 U) }
def Oh (d : Nat) : Option Nat -> Bool
 | some x => Nat.beq x d
 | none => false
def AU (m d : Nat) : Nat -> List Rec -> Bool
 | _, [] => false
 | j, r :: l => cond (aZ m j && Oh d r.dst) true (AU m d (j + 1) l)
def C9 (m : Nat) (acc : List Rec) : List (Nat × Bool) -> Bool
 | [] => true
 | x :: r => cond (AU m x.1 0 acc) (C9 m acc r) false
def MX (m : Nat) (acc : List Rec) : Option (List (Nat × Bool)) -> Bool
 | some cs => C9 m acc cs
 | none => true
def wP (m n0 n : Nat) : List Nat -> Bool
 | [] => true
 | x :: r => cond (Nat.blt x n0 || Nat.ble n x || aZ m (Nat.div (Nat.sub x n0) 8)) (wP m n0 n r) false
def mF : List Nat -> List (Option SV) -> List (Option SV)
 | [], env => env
 | d :: r, env => mF r (eu env d none)
def mG (k : Nat) : List Oper -> List Nat -> List Nat
 | [], _ => []
 | o :: r, [] => (match o.dst with | some d => [d] | none => []) ++ mG k r []
 | o :: r, m :: ms => cond (aZ m k) (mG k r ms) ((match o.dst with | some d => [d] | none => []) ++ mG k r ms)
def wipe (ops : List Oper) (masks : List Nat) (k : Nat) (s : St) : St := ⟨mF (mG k ops masks) s.env, s.aY, s.M⟩
def EU (c : Cfg) (ops : List Oper) (base : St) (masks : List Nat) (U : List (List Nat)) (nid : Nat) : List Oper -> Nat -> List Rec -> Option (List Rec)
 | [], _, acc => some acc
 | o :: r, k, acc => match masks[k]?, U[k]? with
   | some m, some u => match yO c ops (CZ (wipe ops masks k base) masks U acc m k) (nid + 8 * k) o with
     | some rc => cond (allIn u (rc.e.upd.map (·.1)) && (MX m acc rc.cs && wP m nid (nid + 8 * k) (rc.e.upd.map (·.1)))) (EU c ops base masks U nid r (k + 1) (acc ++ [rc])) none
     | none => none
   | _, _ => none
def qp (u : List Nat) : List Nat -> Bool
 | [] => true
 | x :: r => cond (mem1 x u) false (qp u r)
def pU (m : Nat) (u : List Nat) : Nat -> List (List Nat) -> Bool
 | _, [] => true
 | k, v :: l => cond (aZ m k || qp u v) (pU m u (k + 1) l) false
def tV (masks : List Nat) (U : List (List Nat)) : Nat -> List (List Nat) -> Bool
 | _, [] => true
 | j, u :: l => match masks[j]? with
   | some m => cond (pU m u 0 (U.take j)) (tV masks U (j + 1) l) false
   | none => false
def dstsOf : List Oper -> List Nat
 | [] => []
 | o :: r => match o.dst with
   | some d => d :: dstsOf r
   | none => dstsOf r
def tX (env : List (Option SV)) : List Nat -> Bool
 | [] => true
 | d :: r => cond (inB env d) (tX env r) false
def drawn (c : Cfg) (ops : List Oper) (s : St2) : Option (List Prop × St2) := match s.s.aY with
 | _ :: _ => none
 | [] => match yN ops [], MW c ops ops s.next s.s with
   | some masks, some U => cond (tV masks U 0 U && fJ (dstsOf ops) && tX s.s.env (dstsOf ops))
     (match EU c ops ⟨s.s.env, [], s.s.M⟩ masks U s.next ops 0 [] with
     | some recs => let t := bY (2 ^ ops.length - 1) 0 recs ⟨mF (dstsOf ops) s.s.env, [], s.s.M⟩
       some (recs.flatMap (·.e.pre), { s with s := { t with aY := [] }, next := bump s.next (recs.flatMap (·.e.upd)) })
     | none => none) none
   | _, _ => none
def je (keep : List Nat) (f : Nat -> Nat) : Nat -> List (Option SV) -> List (Option SV)
 | _, [] => []
 | i, x :: r => cond (mem1 i keep) (match x with | some v => some (uK f v) | none => none) none :: je keep f (i + 1) r
def Fp : SV -> List Nat
 | .v x => fC x.ls
 | .tup l => l.flatMap fun x => fC x.ls
def iM (env : List (Option SV)) : List Nat -> List Nat
 | [] => []
 | i :: r => (match bG env i with | some v => Fp v | none => []) ++ iM env r
structure Keep where
 keep : List Nat
 wake : List (Nat × Nat) := []
 MZ : List (Nat × Nat × Nat) := []
 calm : List (Nat × Nat) := []
 Na : List (Nat × Nat × Nat) := []
 Oi : List Nat := []
def rD (c : Cfg) (s : St2) (x : Nat × Nat) : St2 := match bG s.s.env x.1, c.ti x.2 with
 | some (.v ⟨false, [l]⟩), some ⟨_, _, _, some t⟩ => match l.weak with
   | .cZ => { s with s := { s.s with env := eu s.s.env x.1 (some (.one (.own s.next))), M := s.s.M.set s.next (.row x.2 t true true []) }, next := s.next + 1 }
   | .own id => match s.s.M.get id with
     | some (.row e t' fr true l) => cond (Nat.beq e x.2) { s with s := { s.s with env := eu s.s.env x.1 (some (.one (.own s.next))), M := (s.s.M.set id .dead).set s.next (.row e t' fr true l) }, next := s.next + 1 } s
     | _ => s
   | .sl id 0 k => match s.s.M.get id with
     | some (.row e t' fr true l) => cond (Nat.beq e x.2) { s with s := { s.s with env := eu s.s.env x.1 (some (.one (.own s.next))), M := (s.s.M.set id .dead).set s.next (.row e t' fr true (l.take k)) }, next := s.next + 1 } s
     | _ => s
   | _ => s
 | _, _ => s
def oC (c : Cfg) (s : St2) (x : Nat × Nat × Nat) : St2 := match bG s.s.env x.1, c.ti x.2.2 with
 | some (.v ⟨false, [.ptr id _]⟩), some ⟨_, _, _, some t⟩ => match s.s.M.get id with
   | some (.obj ls) => match dO ls x.2.1 1, eG ls x.2.1 1 [.own s.next] with
     | some [.cZ], some ls' => cond (dV ls ls') { s with s := { s.s with M := (s.s.M.set s.next (.row x.2.2 t true true [])).set id (.obj ls') }, next := s.next + 1 } s
     | some [.own j], some ls' => match s.s.M.get j with
       | some (.row e t' fr true l) => cond (Nat.beq e x.2.2 && dV ls ls') { s with s := { s.s with M := ((s.s.M.set j .dead).set s.next (.row e t' fr true l)).set id (.obj ls') }, next := s.next + 1 } s
       | _ => s
     | _, _ => s
   | _ => s
 | _, _ => s
def rE (c : Cfg) (s : St2) (x : Nat × Nat) : St2 := match bG s.s.env x.1, c.ti x.2 with
 | some (.v v), some ⟨_, _, _, some t⟩ => match aG s.s.M t v.ls with
   | some im => match im.rest with
     | [] => cond (v.agg == t.isAgg) { s with s := { s.s with env := eu s.s.env x.1 (some (.v (.of false t im.x))), M := s.s.M.aK im.frz } } s
     | _ => s
   | none => s
 | _, _ => s
def oD (c : Cfg) (s : St2) (x : Nat × Nat × Nat) : St2 := match bG s.s.env x.1, c.ti x.2.2 with
 | some (.v ⟨false, [.ptr id _]⟩), some ⟨_, _, _, some t⟩ => match s.s.M.get id with
   | some (.obj ls) => match dO ls x.2.1 t.sz with
     | some r => match aG s.s.M t r with
       | some im => match im.rest, eG ls x.2.1 t.sz (explode false t im.x) with
         | [], some ls' => cond (dV ls ls' && im.frz.all fun p => !(Nat.beq p.1 id)) { s with s := { s.s with M := (s.s.M.aK im.frz).set id (.obj ls') } } s
         | _, _ => s
       | none => s
     | none => s
   | _ => s
 | _, _ => s
def wQ (s : St2) (x : Nat) : St2 := match bG s.s.env x with
 | some (.v ⟨false, [.own id]⟩) => match s.s.M.get id with
   | some (.row _ _ _ _ l) => { s with s := { s.s with env := eu s.s.env x (some (.one (.sl id 0 l.length))) } }
   | _ => s
 | _ => s
def Ju (keep ids : List Nat) (s : St2) : St2 :=
 { s := { env := je keep (fun i => posOf i ids) 0 s.s.env, aY := [], M := ay 0 (ids.map fun i => match s.s.M.get i with | some e => aT (fun i => posOf i ids) e | none => .dead) },
   next := ids.length, ins := s.ins }
def tY (M : Store) : List Nat -> List Nat
 | [] => []
 | i :: r => (match M.get i with | some e => o9 e | none => []) ++ tY M r
def qw (n0 : Nat) (keep : List Nat) (s : St2) : St2 :=
 let ids := reach s.s.M 400 (List.range n0) (tY s.s.M (List.range n0) ++ iM s.s.env keep)
 cond (fJ ids && (allIn ids (iM s.s.env keep) && jm s.s.M ids ids)) (Ju keep ids s) { s with s := { env := [], aY := [], M := s.s.M } }
def pq : Leaf -> Leaf
 | .kb b => .bool b
 | .arr n fr t l => .arr n (fr || dI t) t l
 | l => l
def EW (v : V) : V := ⟨v.agg, v.ls.map pq⟩
def KJ : SV -> SV
 | .v x => .v (EW x)
 | .tup l => .tup (l.map EW)
def AV : Entry -> Entry
 | .obj ls => .obj (ls.map pq)
 | e => e
def AX : Option SV -> Option SV
 | some v => some (KJ v)
 | none => none
def uN : Store -> Store
 | [] => []
 | (i, e) :: r => (i, AV e) :: uN r
def soft (s : St2) : St2 := { s with s := { env := s.s.env.map AX, aY := [], M := uN s.s.M } }
def canon (c : Cfg) (n0 : Nat) (k : Keep) (s0 : St2) : St2 := soft (qw n0 k.keep (k.Oi.foldl wQ (k.Na.foldl (oD c) (k.calm.foldl (rE c) (k.MZ.foldl (oC c) (k.wake.foldl (rD c) s0))))))
structure Loop where
 k : Keep
 X : Type
 st : X -> St2
 I : X -> X -> Prop
 mu : X -> Nat
 all : (X -> Prop) -> Prop
 O1 : ∀ p, all p -> ∀ x, p x
def KL (c : Cfg) (n0 : Nat) (l : Loop) (x0 x : l.X) (K : Exit -> St2 -> Prop) : Exit -> St2 -> Prop
 | .normal, s => ∃ y, canon c n0 l.k s = l.st y /\ l.I x0 y /\ l.mu y < l.mu x
 | e, s => K e s
def dH : Code -> Nat
 | .region id _ _ => id
 | .seq a b => match dH a with
   | 0 => dH b
   | k => k
 | .cond _ a b => match dH a with
   | 0 => dH b
   | k => k
 | .block _ b => dH b
 | .loop b => dH b
 | .rangeFunc _ _ a b => match dH a with
   | 0 => dH b
   | k => k
 | _ => 0
def yP (K1 : St2 -> Prop) (K : Exit -> St2 -> Prop) : Exit -> St2 -> Prop
 | .normal, s => K1 s
 | e, s => K e s
def KN (id : Nat) (K : Exit -> St2 -> Prop) : Exit -> St2 -> Prop
 | .exit i, s => cond (Nat.beq i id) (K .normal s) (K (.exit i) s)
 | e, s => K e s
def qx (M : Store) : (cs : List Ty) -> List Nat -> Option (aX cs)
 | [], [] => some ()
 | [t], [i] => cell t i
 | t :: u :: r, i :: l => match cell t i, qx M (u :: r) l with
   | some x, some y => some (x, y)
   | _, _ => none
 | _, _ => none
where
 cell (t : Ty) (i : Nat) : Option t.den := match M.get i with
  | some (.obj ls) => match cond (qh t) (aG M t ls) none with
    | some im => match im.rest, im.frz with
      | [], [] => some im.x
      | _, _ => none
    | none => none
  | _ => none
def jq (M : Store) : List Nat -> Store
 | [] => M
 | i :: r => jq (M.set i .dead) r
def nD (s : St2) (t : Ty) (i : Nat) : St2 := match s.s.M.get i with
 | some (.obj ls) => match aG s.s.M t ls with
   | some im => { s with s := { s.s with M := s.s.M.aK im.frz } }
   | none => s
 | _ => s
def lN : List Ty -> List Nat -> St2 -> St2
 | t :: r, i :: l, s => lN r l (nD s t i)
 | _, _, s => s
def nG (c : Cfg) (s : St2) (g : Operand) : St2 := match opl c s.s [] g with
 | some (.fn f ids) => match c.seq f with
   | some q => lN q.cs ids s
   | none => s
 | _ => s
def Jv (c : Cfg) (s : St2) (g : Operand) : Option ((q : CU) × aX q.cs × List Nat) := match c.els, opl c s.s [] g with
 | none, some (.fn f ids) => match c.seq f with
   | some q => cond (fJ ids) (match qx s.s.M q.cs ids with
     | some y => some ⟨q, y, ids⟩
     | none => none) none
   | none => none
 | _, _ => none
def qy : St -> List Nat -> (es : List Ty) -> aX es -> Option St
 | s, [], [], _ => some s
 | s, [p], [t], x => fO s [] (some p) (.v (.of false t x))
 | s, p :: r, t :: u :: l, x => match fO s [] (some p) (.v (.of false t x.1)) with
   | some s' => qy s' r (u :: l) x.2
   | none => none
 | _, _, _, _ => none
def backTo (s0 s : St2) : St2 := { s with s := { env := s0.s.env, aY := [], M := s.s.M } }
def AY (c : Cfg) (n0 : Nat) (l : Loop) (x0 x : l.X) (K : Exit -> St2 -> Prop) : Exit -> St2 -> Prop
 | .normal, s => ∃ y, canon c n0 l.k (backTo (l.st x) s) = l.st y /\ l.I x0 y /\ l.mu y = l.mu x + 1
 | .ret, s => K .ret (backTo (l.st x) s)
 | .exit i, s => K (.exit i) (backTo (l.st x) s)
 | _, _ => False
def gJ (o : Oper) : Bool := match o.op with
 | .defer _ => false
 | _ => true
def eY : Code -> Bool
 | .region _ ops _ => ops.toList.all gJ
 | .seq a b | .cond _ a b => eY a && eY b
 | .block _ b | .loop b => eY b
 | .rangeFunc .. | .scope _ => false
 | _ => true
section
variable (c : Cfg) (inl : Inl) (keep : Nat -> Option Loop)
def vc : Nat -> Code -> St2 -> (Exit -> St2 -> Prop) -> Prop
 | _, .skip, s, K => K .normal s
 | _, .region _ ops false, s, K => oz c inl ops.toList ops.toList s fun s' => K .normal s'
 | _, .region _ ops true, s, K => match drawn c ops.toList s with
   | some (ps, s') => conj ps (K .normal s')
   | none => False
 | n0, .seq a b, s, K => match keep (dH b + 1000000) with
   | some l => vc n0 a s (yP (fun s' => ∃ x0, canon c n0 l.k s' = l.st x0 /\ l.I x0 x0) K) /\ ∀ x, l.I x x -> vc n0 b (l.st x) K
   | none => vc n0 a s (yP (fun s' => vc n0 b s' K) K)
 | n0, .cond x a b, s, K => match opb c s.s [] x with
   | some t => cond t (vc n0 a s K) (vc n0 b s K)
   | none => False
 | n0, .block id b, s, K => vc n0 b s (KN id K)
 | n0, .loop b, s, K => match keep (dH b) with
   | some l => ∃ x0, (canon c n0 l.k s = l.st x0 /\ l.I x0 x0) /\ l.all fun x => l.I x0 x -> vc n0 b (l.st x) (KL c n0 l x0 x K)
   | none => False
 | n0, .rangeFunc g ps a b, s0, K => (fun s => match Jv c s g, keep (match dH a with | 0 => dH b | k => k) with
   | some ⟨q, y, ids⟩, some l => cond (eY a && (eY b && Nat.beq ps.size q.es.length)) (conj (q.pre y) (∃ x0, (canon c n0 l.k { s with s := { s.s with M := jq s.s.M ids } } = l.st x0 /\ l.I x0 x0 /\ l.mu x0 = 0) /\
      (∀ x, l.I x0 x -> l.mu x < (q.L y).length -> iW (qy (l.st x).s ps.toList q.es ((q.L y).getD (l.mu x) (zS q.es))) fun t =>
        vc (l.st x).next a { l.st x with s := t } (yP (fun s1 => vc (l.st x).next b s1 (AY c n0 l x0 x K)) fun _ _ => False)) /\
      ∀ x, l.I x0 x -> l.mu x = (q.L y).length -> K .normal (l.st x))) False
   | _, _ => False) (nG c s0 g)
 | _, .exit id, s, K => K (.exit id) s
 | _, .goto l, s, K => K (.goto l) s
 | _, .ret, s, K => K .ret s
 | _, .label _, s, K => K .normal s
 | _, _, _, _ => False
end
def labelOf : Code -> Option Nat
 | .label l => some l
 | .seq a b | .cond _ a b => match labelOf a with
   | some l => some l
   | none => labelOf b
 | .block _ b | .loop b => labelOf b
 | _ => none
def qA : Code -> Nat -> Option Code
 | .seq a b, l => match qA a l with
   | some r => some (.seq r b)
   | none => qA b l
 | .label k, l => cond (Nat.beq k l) (some .skip) none
 | _, _ => none
theorem wR : ∀ (c : Code) (l : Nat), qA c l = Go.findLabel c l
 | .seq a b, l => by
   unfold qA Go.findLabel
   rw [wR a l, wR b l]
   cases Go.findLabel a l <;> rfl
 | .label k, l => by
   unfold qA Go.findLabel
   by_cases h : k = l
   ·subst h; simp
   ·have : Nat.beq k l = false := by cases hb : Nat.beq k l with | true => exact absurd (Nat.eq_of_beq_eq_true hb) h | false => rfl
    rw [this, if_neg (by simpa using h)]; rfl
 | .skip, _ | .region .., _ | .cond .., _ | .block .., _ | .loop _, _ | .rangeFunc .., _ | .exit _, _ | .goto _, _ | .ret, _ | .scope _, _ | .refuse _, _ => by first | rfl | (unfold qA Go.findLabel; rfl)
def wS : Code -> Bool
 | .scope _ => true
 | .seq _ b => wS b
 | _ => false
def vcB (c : Cfg) (inl : Inl) (keep : Nat -> Option Loop) (n0 : Nat) : Code -> St2 -> (Exit -> St2 -> Prop) -> Prop
 | .scope b, s, K => match labelOf b with
   | some l => match qA b l with
     | some rest => vc c inl keep n0 b s fun e s' => match e with
       | .goto l' => cond (Nat.beq l' l) (vc c inl keep n0 rest s' fun e s'' => match e with
         | .goto _ => False
         | e => K e s'') False
       | e => K e s'
     | none => False
   | none => False
 | .seq a b, s, K => cond (wS b) (vc c inl keep n0 a s (yP (fun s' => vcB c inl keep n0 b s' K) K)) (vc c inl keep n0 (.seq a b) s K)
 | b, s, K => vc c inl keep n0 b s K
def yQ (c : Cfg) (s : St) : ResultVar -> Option V
 | .tmp t => match bG s.env t with
   | some (.v x) => some x
   | _ => none
 | .cell t T => match bG s.env t, c.ti T with
   | some (.v ⟨false, [.ptr id off]⟩), some ti => match s.M.get id with
     | some (.obj ls) => match dO ls off ti.size with
       | some r => some ⟨ti.agg, r⟩
       | none => none
     | _ => none
   | _, _ => none
def qB (c : Cfg) (s : St) : List ResultVar -> Option (List V)
 | [] => some []
 | r :: l => match yQ c s r, qB c s l with
   | some v, some vs => some (v :: vs)
   | _, _ => none
def jf (c : Cfg) (s : St) (rs : List ResultVar) : Option SV := match qB c s rs with
 | some [v] => some (.v v)
 | some vs => some (.tup vs)
 | none => none
def Jw (n : Nat) (l : List (Option SV)) : List (Option SV) := l ++ List.replicate (n - l.length) none
def lQ (n : Nat) (args : List V) : List (Option SV) := Jw n (args.map fun v => some (.v v))
def wU : Nat -> List V -> Nat -> Option Loop := fun _ _ _ => none
def I7 (M : Store) : Leaf -> Option (Nat × Nat)
 | .own id => match M.get id with
   | some (.row _ _ _ _ l) => some (id, l.length)
   | _ => none
 | .sl id 0 k => some (id, k)
 | _ => none
def rF : List Nat -> List V -> St2 -> (List V -> St2 -> Prop) -> Prop
 | [], args, s, K => K args s
 | i :: r, args, s, K => match args[i]? with
   | some ⟨false, [lf]⟩ => match I7 s.s.M lf.weak with
     | some (id, k) => match s.s.M.get id with
       | some (.row e t fr true l) => ∀ sp : List t.den, l.length + sp.length <= maxLen -> (∀ x ∈ sp, Valid t x) ->
          rF r (args.set i (one (.sf s.next 0 k))) { s with s := { s.s with M := (s.s.M.set id .dead).set s.next (.row e t fr true (l ++ sp)) }, next := s.next + 1 } K
       | _ => rF r args s K
     | none => rF r args s K
   | _ => rF r args s K
def Jy (P : Program) (c : Cfg) (L : Nat -> List V -> Nat -> Option Loop) : Nat -> Inl
 | 0 => fun _ _ _ _ => False
 | d + 1 => fun f args s K => match P.funcs[f]? with
   | some fn => match cond (fn.name == "runtime.NumGoroutine") none fn.body with
     | some b => rF (c.xp f) args s fun args s => vcB c (Jy P c L d) (L f args) s.next b { s with s := { s.s with env := lQ fn.ntmps args, aY := [] } } fun e s' => match e with
       | .ret | .normal => match jf c s'.s fn.results.toList with
         | some v => K v s'
         | none => False
       | _ => False
     | none => False
   | none => False
structure Mt where
 ps : List Prop
 bind : List (Nat × Nat)
 gone : List Nat
def Dc (M : Store) : Leaf -> Leaf -> Option Mt
 | .int k x, .int k' y => if k = k' then some ⟨[x = y], [], []⟩ else none
 | .bool x, .bool y => some ⟨[x = y], [], []⟩
 | .kb x, .bool y => some ⟨[x = y], [], []⟩
 | .str x, .str y => some ⟨[x = y], [], []⟩
 | .psl fr t l, .psl fr' t' l' => if h : t = t' then cond (!fr' || fr) (some ⟨[(h ▸ l : List t'.den) = l'], [], []⟩) none else none
 | .cZ, .psl _ _ l' => some ⟨[[] = l'], [], []⟩
 | .own id, .psl fr' t' l' => match M.get id with
   | some (.row _ t fr _ l) | some (.frz t fr l) => if h : t = t' then cond (!fr' || fr) (some ⟨[(h ▸ l : List t'.den) = l'], [], [id]⟩) none else none
   | _ => none
 | .sl id lo n, .psl fr' t' l' => match M.get id with
   | some (.row _ t fr _ l) | some (.frz t fr l) => if h : t = t' then cond (!fr' || fr) (some ⟨[((h ▸ l : List t'.den).drop lo).take n = l'], [], [id]⟩) none else none
   | _ => none
 | .arr n fr t l, .arr n' fr' t' l' => if h : t = t' then (if n = n' then cond (!fr' || fr) (some ⟨[(h ▸ l : List t'.den) = l'], [], []⟩) none else none) else none
 | .own id, .own j => some ⟨[], [(j, id)], []⟩
 | .sl id lo n, .sl j lo' n' => some ⟨[lo = lo', n = n'], [(j, id)], []⟩
 | .ptr id o, .ptr j o' => cond (Nat.beq o o') (some ⟨[], [(j, id)], []⟩) none
 | .cZ, .cZ => some ⟨[], [], []⟩
 | .cZ, .vw _ _ n => some ⟨[n = 0], [], []⟩
 | .sl id lo n, .vw j lo' n' => some ⟨[lo = lo', n = n'], [(j, id)], []⟩
 | .dG, .dG => some ⟨[], [], []⟩
 | .cO, .cO => some ⟨[], [], []⟩
 | .l7, .l7 => some ⟨[], [], []⟩
 | _, _ => none
def wV (M : Store) (a b : Leaf) : Option Mt := Dc M a.weak b
def Mt.join : Option Mt -> Option Mt -> Option Mt
 | some a, some b => some ⟨a.ps ++ b.ps, a.bind ++ b.bind, a.gone ++ b.gone⟩
 | _, _ => none
def iY (M : Store) : List Leaf -> List Leaf -> Option Mt
 | [], [] => some ⟨[], [], []⟩
 | a :: r, b :: s => Mt.join (wV M a b) (iY M r s)
 | _, _ => none
def AZ (M : Store) (a b : V) : Option Mt := cond (a.agg == b.agg) (iY M a.ls b.ls) none
def pV (M : Store) : List V -> List V -> Option Mt
 | [], [] => some ⟨[], [], []⟩
 | a :: r, b :: s => Mt.join (AZ M a b) (pV M r s)
 | _, _ => none
def yR (M : Store) : SV -> SV -> Option Mt
 | .v a, .v b => AZ M a b
 | .tup a, .tup b => pV M a b
 | _, _ => none
def fK (M : Store) : Entry -> Entry -> Option Mt
 | .row e t fr ap l, .row e' t' fr' ap' l' => if h : t = t' then cond (Nat.beq e e' && (!fr' || fr) && (ap' == ap)) (some ⟨[(h ▸ l : List t'.den) = l'], [], []⟩) none else none
 | .obj a, .obj b => iY M a b
 | _, .dead => some ⟨[], [], []⟩
 | .frz t fr l, .frz t' fr' l' => if h : t = t' then cond (!fr' || fr) (some ⟨[(h ▸ l : List t'.den) = l'], [], []⟩) none else none
 | _, _ => none
def bW (j : Nat) : List (Nat × Nat) -> Option Nat
 | [] => none
 | (i, x) :: r => cond (Nat.beq i j) (some x) (bW j r)
def pW (M : Store) : Nat -> List Entry -> Mt -> Option Mt
 | _, [], m => some m
 | j, e :: r, m => match bW j m.bind with
   | some id => match M.get id with
     | some a => match fK M a e with
       | some x => pW M (j + 1) r ⟨m.ps ++ x.ps, m.bind ++ x.bind, m.gone ++ x.gone⟩
       | none => none
     | none => none
   | none => match e with
     | .dead => pW M (j + 1) r m
     | _ => none
def dedup (acc : List (Nat × Nat)) : List (Nat × Nat) -> Option (List (Nat × Nat))
 | [] => some acc
 | (j, i) :: r => match bW j acc with
   | some i' => cond (Nat.beq i i') (dedup acc r) none
   | none => dedup (acc ++ [(j, i)]) r
def yS : Nat -> Nat -> List (Nat × Nat)
 | _, 0 => []
 | k, n + 1 => (k, k) :: yS (k + 1) n
def wW (es : List Entry) (j : Nat) : Bool := match es[j]? with
 | some .dead => false
 | _ => true
def pz (es : List Entry) : List (Nat × Nat) -> List (Nat × Nat)
 | [] => []
 | p :: r => cond (wW es p.1) (p :: pz es r) (pz es r)
def uO (s : St2) (v : SV) (d : Done) : St2 × SV := match d.res, v with
 | .v ⟨false, [.own _]⟩, .v ⟨false, [lf]⟩ => match lf.weak with
   | .sl id 0 k => match s.s.M.get id with
     | some (.row e t fr true l) => (⟨{ s.s with M := (s.s.M.set id .dead).set s.next (.row e t fr true (l.take k)) }, s.next + 1, s.ins⟩, .one (.own s.next))
     | _ => (s, v)
   | _ => (s, v)
 | _, _ => (s, v)
def Fq (s : St2) (v : SV) (d : Done) : Prop :=
 match yR s.s.M v d.res with
 | some m => match pW s.s.M 0 (d.back ++ d.made) ⟨m.ps, yS 0 d.back.length ++ m.bind, m.gone⟩ with
   | some m => match dedup [] m.bind with
     | some b => cond (fJ ((pz (d.back ++ d.made) b).map (·.2)) && ((m.gone.all fun i => !(mem1 i ((pz (d.back ++ d.made) b).map (·.2)))) && b.all fun p => Nat.blt p.1 (d.back.length + d.made.length))) (conj m.ps True) False
     | none => False
   | none => False
 | none => False
def Jz (s : St2) (d : Done) : Bool := match d.back, s.ins with
 | [], _ :: _ => false
 | _, _ => true
def A8 (s : St2) (v : SV) (d : Done) : Prop := cond (Jz s d) (Fq s v d) False
def Oj (c : Cfg) (rs : List ResultVar) (d : Done) : Exit -> St2 -> Prop := fun e s => match e with
 | .ret | .normal => match jf c s.s rs with
   | some v => A8 (uO s v d).1 (uO s v d).2 d
   | none => False
 | _ => False
def I8 (n : Nat) (args : List V) (es : List Entry) : St2 :=
 { s := { env := lQ n args, aY := [], M := ay 0 es }, next := es.length, ins := [] }
def mJ (P : Program) (c : Cfg) (L : Nat -> List V -> Nat -> Option Loop) (f : Nat) (args : List V) (es : List Entry) (d : Done) : Prop :=
 match P.funcs[f]? with
 | some fn => match cond (fn.name == "runtime.NumGoroutine") none fn.body with
   | some b => rF (c.xp f) args (I8 fn.ntmps args es) fun args s => vcB c (Jy P c L 6) (L f args) es.length b { s with s := { s.s with env := lQ fn.ntmps args, aY := [] } } (Oj c fn.results.toList d)
   | none => False
 | none => False
def jE : (cs : List Ty) -> aX cs -> List Entry
 | [], _ => []
 | [t], x => [.obj (explode false t x)]
 | t :: u :: r, x => .obj (explode false t x.1) :: jE (u :: r) x.2
def zU : Nat -> Nat -> List V
 | _, 0 => []
 | i, n + 1 => one (.ptr i 0) :: zU (i + 1) n
end Go.Vc
set_option linter.unusedVariables false
set_option linter.unusedSimpArgs false
namespace Go.Vc
structure Gh where
 S : Nat -> Prop
 base : Nat -> Option Addr
 cap : Nat -> Nat
structure Ctx where
 w0 : World
 O : Nat -> Prop
 S0 : Nat -> Prop
 lb : Nat
 hlb : lb <= w0.heap.size
 yl : Option Nat
@[reducible] def Ctx.of (w : World) (S : Nat -> Prop) : Ctx := ⟨w, fun _ => False, S, w.heap.size, Nat.le_refl _, none⟩
def SF (c : Ctx) (ι : Gh) (fr : Bool) : Nat -> Prop := fun b => ι.S b /\ (fr = true -> c.lb <= b)
def bK : (t : Ty) -> t.den -> Value
 | .int k, x => .int k x
 | .bool, b => .bool b
 | .str, l => .string (bs l)
 | _, _ => .bool false
def KO (k v : Ty) (l : List (k.den × v.den)) (es : List MapEntry) : Prop :=
 (es.map fun e => (e.key, e.val)) = (l.map fun p => (bK k p.1, bK v p.2)) /\ ∀ p ∈ l, Valid k p.1 /\ Valid v p.2
def aj (c : Ctx) (ι : Gh) (w : World) (M : Store) : Leaf -> List Value -> Prop
 | .int k x, cs => cs = [.int k x] /\ Valid (.int k) x
 | .bool b, cs => cs = [.bool b]
 | .kb b, cs => cs = [.bool b]
 | .str l, cs => cs = [.string (bs l)] /\ Valid .str l
 | .psl fr t l, cs => ah (SF c ι fr) w (.slice t) l cs /\ Valid (.slice t) l
 | .arr n fr t l, cs => ah (SF c ι fr) w (.arr n t) l cs /\ Valid (.arr n t) l
 | .cZ, cs => cs = [.slice none 0 0]
 | .dG, cs => cs = [.pointer none]
 | .cO, cs => cs = [.nilFunc]
 | .l7, cs => cs = [.nilIface]
 | .yld, cs => ∃ l, c.yl = some l /\ cs = [.func (.yield l) #[] #[]]
 | .own id, cs => match M.get id with
   | some (.row _ _ _ _ l) => ∃ a, cs = [.slice a l.length (ι.cap id)] /\ (0 < ι.cap id -> a = ι.base id)
   | some (.frz _ _ l) => ∃ a, cs = [.slice a l.length (ι.cap id)] /\ (0 < ι.cap id -> a = ι.base id)
   | some .dead => ∃ v : Value, cs = [v] /\ v.oneCell' = true
   | _ => False
 | .sl id lo n, cs => match M.get id with
   | some (.row _ t _ _ l) => ∃ a, cs = [.slice a n (ι.cap id - lo)] /\ lo + n <= l.length /\ (lo < ι.cap id -> a = (ι.base id).map (·.add (lo * t.sz)))
   | some (.frz t _ l) => ∃ a, cs = [.slice a n (ι.cap id - lo)] /\ lo + n <= l.length /\ (lo < ι.cap id -> a = (ι.base id).map (·.add (lo * t.sz)))
   | some .dead => ∃ v : Value, cs = [v] /\ v.oneCell' = true
   | _ => False
 | .sf id lo n, cs => match M.get id with
   | some (.row _ t _ _ l) => ∃ a, cs = [.slice a n (ι.cap id - lo)] /\ (lo + n <= l.length /\ l.length = ι.cap id) /\ (lo < ι.cap id -> a = (ι.base id).map (·.add (lo * t.sz)))
   | some (.frz t _ l) => ∃ a, cs = [.slice a n (ι.cap id - lo)] /\ (lo + n <= l.length /\ l.length = ι.cap id) /\ (lo < ι.cap id -> a = (ι.base id).map (·.add (lo * t.sz)))
   | some .dead => ∃ v : Value, cs = [v] /\ v.oneCell' = true
   | _ => False
 | .vw id lo n, cs => match M.get id with
   | some (.row _ t _ _ l) => ∃ p : Option Addr × Nat, cs = [.slice p.1 n p.2] /\ n <= p.2 /\ (0 < n -> lo + n <= l.length /\ p.1 = (ι.base id).map (·.add (lo * t.sz)))
   | some (.frz t _ l) => ∃ p : Option Addr × Nat, cs = [.slice p.1 n p.2] /\ n <= p.2 /\ (0 < n -> lo + n <= l.length /\ p.1 = (ι.base id).map (·.add (lo * t.sz)))
   | some .dead => ∃ v : Value, cs = [v] /\ v.oneCell' = true
   | _ => ∃ p : Option Addr × Nat, cs = [.slice p.1 n p.2] /\ n <= p.2 /\ (0 < n -> False)
 | .asl id off lo n, cs => match M.get id with
   | some (.obj ls) => match lat ls off with
     | some (.arr N _ t _) => ∃ b a, ι.base id = some ⟨b, 0, none⟩ /\ lo + n <= N /\ cs = [.slice (some a) n (N - lo)] /\ (lo < N -> a = ⟨b, off + lo * t.sz, none⟩)
     | _ => False
   | some .dead => ∃ v : Value, cs = [v] /\ v.oneCell' = true
   | _ => False
 | .ptr id off, cs => match M.get id with
   | some (.obj _) => ∃ b, ι.base id = some ⟨b, 0, none⟩ /\ cs = [.pointer (some ⟨b, off, none⟩)]
   | some .dead => ∃ v : Value, cs = [v] /\ v.oneCell' = true
   | _ => False
 | .ig id i off, cs => match M.get id with
   | some (.row _ t _ _ _) => ∃ ad, ι.base id = some ad /\ cs = [.pointer (some (ad.add (i * t.sz + off)))]
   | some (.frz t _ _) => ∃ ad, ι.base id = some ad /\ cs = [.pointer (some (ad.add (i * t.sz + off)))]
   | some .dead => ∃ v : Value, cs = [v] /\ v.oneCell' = true
   | _ => False
 | .iq id dh i off, cs => match M.get id with
   | some (.obj ls) => match lat ls dh with
     | some (.arr _ _ t _) => ∃ b, ι.base id = some ⟨b, 0, none⟩ /\ cs = [.pointer (some ⟨b, dh + (i * t.sz + off), none⟩)]
     | _ => False
   | some .dead => ∃ v : Value, cs = [v] /\ v.oneCell' = true
   | _ => False
 | .cst fr t x, cs => ∃ ad pcs, cs = [.pointer (some ad)] /\ At (SF c ι fr) w ad pcs /\ ah (SF c ι fr) w t x pcs /\ Valid t x
 | .hid id, cs => match M.get id with
   | some (.hid h) => ∃ b, ι.base id = some ⟨b, 0, none⟩ /\ cs = [cond h.isMap (.map (some b)) (.pointer (some ⟨b, 0, none⟩))]
   | some .dead => ∃ v : Value, cs = [v] /\ v.oneCell' = true
   | _ => False
 | .fn f caps, cs => cs = [.func (.func f) #[] (caps.map fun id => Value.pointer (ι.base id)).toArray] /\ ∀ id ∈ caps, ∃ e, M.get id = some e /\ (e = .dead ∨ ∃ ls, e = .obj ls)
def aF (c : Ctx) (ι : Gh) (w : World) (M : Store) : List Leaf -> List Value -> Prop
 | [], cs => cs = []
 | l :: r, cs => ∃ c1 c2, cs = c1 ++ c2 /\ aj c ι w M l c1 /\ aF c ι w M r c2
def aI (c : Ctx) (ι : Gh) (w : World) (M : Store) (x : V) (v : Value) : Prop :=
 ∃ cs, aF c ι w M x.ls cs /\ match x.agg with
  | true => v = .agg cs.toArray
  | false => cs = [v] /\ v.oneCell' = true
def aP (c : Ctx) (ι : Gh) (w : World) (M : Store) : List V -> List Value -> Prop
 | [], vs => vs = []
 | x :: r, vs => ∃ v ws, vs = v :: ws /\ aI c ι w M x v /\ aP c ι w M r ws
def ak (c : Ctx) (ι : Gh) (w : World) (M : Store) : SV -> Value -> Prop
 | .v x, v => aI c ι w M x v
 | .tup l, v => ∃ vs, v = .tuple vs.toArray /\ aP c ι w M l vs
def eH (c : Ctx) (ι : Gh) (w : World) (fr : Bool) (t : Ty) (n cap : Nat) (ys : List Value) : Prop :=
 ∃ sp : List t.den, n + sp.length = cap /\ (∀ x ∈ sp, Valid t x) /\ ah (SF c ι fr) w (.arr sp.length t) sp ys
def uP (w : World) (lb : Nat) (ap : Bool) (e sz : Nat) (b : Option Addr) (cap n : Nat) (xs : List Value) (sp : List Value -> Prop) : Prop :=
 xs.length = n * sz /\ ((b = none /\ cap = 0 /\ n = 0 /\ ap = true) ∨
  ∃ g cur fz, b = some ⟨g, 0, none⟩ /\ lb <= g /\ w.heap[g]? = some (.cells cur e fz) /\ (ap = true -> fz = (0, 0)) /\ (∀ j, j < cur.size -> ¬ (fz.1 <= j /\ j < fz.2)) /\
   n <= cap /\ cap <= maxLen /\ cur.size = cap * sz /\ cur.toList.take (n * sz) = xs /\ (ap = true -> sp (cur.toList.drop (n * sz))))
def bF (T : Nat) (ls : List Leaf) : Prop := ∀ l ∈ ls, ∀ n, jB l = some n -> n = T
theorem bF.nil (T : Nat) : bF T [] := fun _ h => (List.not_mem_nil h).elim
theorem bF.head {T : Nat} {l : Leaf} {r : List Leaf} (h : bF T (l :: r)) : ∀ n, jB l = some n -> n = T := h l (.head _)
theorem bF.tail {T : Nat} {l : Leaf} {r : List Leaf} (h : bF T (l :: r)) : bF T r := fun x hx => h x (List.mem_cons_of_mem _ hx)
theorem bF.cons {T : Nat} {l : Leaf} {r : List Leaf} (h : ∀ n, jB l = some n -> n = T) (k : bF T r) : bF T (l :: r) := fun x hx => by
 rcases List.mem_cons.1 hx with rfl | hx
 ·exact h
 ·exact k x hx
theorem bF.append {T : Nat} {a b : List Leaf} (h : bF T a) (k : bF T b) : bF T (a ++ b) := fun x hx => by
 rcases List.mem_append.1 hx with hx | hx
 ·exact h x hx
 ·exact k x hx
theorem bF.of_none {T : Nat} {ls : List Leaf} (h : ∀ l ∈ ls, jB l = none) : bF T ls := fun l hl n hn => by rw [h l hl] at hn; cases hn
theorem zV {T : Nat} : ∀ {ls : List Leaf}, l9 T ls = true -> bF T ls
 | [], _ => bF.nil T
 | l :: r, h => by
   simp only [l9, Bool.and_eq_true] at h
   refine bF.cons (fun n hn => ?_) (zV h.2)
   have h1 := h.1
   rw [hn] at h1
   exact Nat.eq_of_beq_eq_true h1
theorem DR {N : Nat} {fr fr' : Bool} {t : Ty} {l l' : List t.den} : jB (.arr N fr t l) = jB (.arr N fr' t l') := by
 cases N with
 | zero => cases t with
   | arr n e => cases e <;> rfl
   | _ => rfl
 | succ N => rfl
theorem bF.map {T : Nat} {f : Leaf -> Leaf} (hf : ∀ l, jB (f l) = jB l) {ls : List Leaf} (h : bF T ls) : bF T (ls.map f) := fun x hx n hn => by
 obtain ⟨y, hy, rfl⟩ := List.mem_map.1 hx
 rw [hf] at hn
 exact h y hy n hn
theorem LX {x : Leaf} (h : ∀ N fr t l, x = .arr N fr t l -> False) : jB x = none := by
 unfold jB
 split
 ·exact (h _ _ _ _ rfl).elim
 ·rfl
theorem bF.shape {T : Nat} {ls ls' : List Leaf} (h : dV ls ls' = true) (k : bF T ls) : bF T ls' := by
 fun_induction dV ls ls' with
 | case1 => exact k
 | case2 n fr t l r n' fr' t' l' s ih =>
   simp only [Bool.and_eq_true] at h
   obtain ⟨h1, h2⟩ := h
   split at h1
   ·rename_i ht; subst ht
    have hN : n = n' := Nat.eq_of_beq_eq_true h1
    subst hN
    exact bF.cons (fun m hm => k.head m (by rw [<- hm]; exact DR)) (ih h2 k.tail)
   ·cases h1
 | case3 => cases h
 | case4 => cases h
 | case5 a r b s _ _ hb ih => exact bF.cons (fun m hm => by rw [LX hb] at hm; cases hm) (ih h k.tail)
 | case6 => cases h
theorem oU {T : Nat} (fr : Bool) : ∀ (t : Ty) (x : t.den), qh t = true -> bF T (explode fr t x)
 | .int _, _, _ => bF.of_none fun l hl => by rw [List.mem_singleton.1 hl]; rfl
 | .bool, _, _ => bF.of_none fun l hl => by rw [List.mem_singleton.1 hl]; rfl
 | .str, _, _ => bF.of_none fun l hl => by rw [List.mem_singleton.1 hl]; rfl
 | .slice _, _, _ => bF.of_none fun l hl => by rw [List.mem_singleton.1 hl]; rfl
 | .unit, _, _ => bF.nil T
 | .arr n e, x, h => bF.of_none fun l hl => by
   rw [List.mem_singleton.1 hl]
   cases n with
   | zero => cases e with
     | arr m e' => cases e' <;> first | rfl | cases (show false = true from h)
     | _ => rfl
   | succ n => rfl
 | .pair a b, x, h => by
   simp only [qh, Bool.and_eq_true] at h
   exact (oU fr a x.1 h.1).append (oU fr b x.2 h.2)
def bH (c : Ctx) (ι : Gh) (w : World) (M : Store) (id : Nat) : Entry -> Prop
 | .row e t fr ap l => ∃ xs, ah (SF c ι fr) w (.arr l.length t) l xs /\ Valid (.slice t) l /\ uP w (cond fr c.lb 0) ap e t.sz (ι.base id) (ι.cap id) l.length xs (eH c ι w fr t l.length (ι.cap id))
 | .frz t fr l => ah (SF c ι fr) w (.slice t) l [.slice (ι.base id) l.length (ι.cap id)] /\ Valid (.slice t) l
 | .obj ls => ∃ b cs T, ι.base id = some ⟨b, 0, none⟩ /\ w.heap[b]? = some (.cells cs.toArray T (0, 0)) /\ aF c ι w M ls cs /\ bF T ls
 | .hid (.map k v l) => ∃ b es ck, ι.base id = some ⟨b, 0, none⟩ /\ w.heap[b]? = some (.map es ck) /\ KO k v l es.toList
 | .hid (.iter l p) => ∃ b, ι.base id = some ⟨b, 0, none⟩ /\ w.heap[b]? = some (.stringIter (bs l) p) /\ Valid .str l
 | .dead => True
def Entry.live : Entry -> Bool
 | .row .. | .obj _ | .hid _ => true
 | _ => false
def Gh.blk (ι : Gh) (id : Nat) : Option Nat := (ι.base id).map (·.block)
structure Kept (c : Ctx) (w : World) : Prop where
 os : w.os = c.w0.os
 tape : w.tape = c.w0.tape
 output : w.output = c.w0.output
 size : c.w0.heap.size <= w.heap.size
 block : ∀ b, b < c.w0.heap.size -> ¬ c.O b -> w.heap[b]? = c.w0.heap[b]?
theorem Kept.lb {c : Ctx} {w : World} (h : Kept c w) : c.lb <= w.heap.size := Nat.le_trans c.hlb h.size
structure Inv (c : Ctx) (ι : Gh) (w : World) (M : Store) : Prop where
 kept : Kept c w
 ents : ∀ id e, M.get id = some e -> bH c ι w M id e
 dis : ∀ i j ei ej k, M.get i = some ei -> M.get j = some ej -> ei.live = true -> ej.live = true -> ι.blk i = some k -> ι.blk j = some k -> i = j
 own : ∀ i e k, M.get i = some e -> e.live = true -> ι.blk i = some k -> ¬ ι.S k /\ (c.w0.heap.size <= k ∨ c.O k)
 stb : ∀ b, ι.S b -> b < w.heap.size
 src : ∀ b, ι.S b -> c.S0 b ∨ c.w0.heap.size <= b ∨ c.O b
def Shape (ls ls' : List Leaf) : Prop := ∀ off N fr t l, lat ls off = some (.arr N fr t l) -> ∃ fr' l', lat ls' off = some (.arr N fr' t l')
def Ev : Entry -> Entry -> Prop
 | _, .dead => True
 | .row _ t _ _ l, .row _ t' _ _ l' => t = t' /\ l.length = l'.length
 | .row _ t _ _ l, .frz t' _ l' => t = t' /\ l.length = l'.length
 | .frz t _ l, .frz t' _ l' => t = t' /\ l.length = l'.length
 | .obj ls, .obj ls' => Shape ls ls'
 | .hid h, .hid h' => h.isMap = h'.isMap
 | _, _ => False
theorem Ev.refl (e : Entry) : Ev e e := by
 cases e with
 | row => exact ⟨rfl, rfl⟩
 | frz => exact ⟨rfl, rfl⟩
 | obj ls => exact fun off N fr t l h => ⟨fr, l, h⟩
 | hid h => exact rfl
 | dead => trivial
theorem Ev.trans {a b d : Entry} (h : Ev a b) (k : Ev b d) : Ev a d := by
 cases a <;> cases b <;> cases d <;> simp only [Ev] at * <;> first
  | trivial
  | exact ⟨h.1.trans k.1, h.2.trans k.2⟩
  | exact h.trans k
  | (intro off N fr t l hl
     obtain ⟨fr', l', h'⟩ := h off N fr t l hl
     exact k off N fr' t l' h')
structure Ext (ι : Gh) (w : World) (M : Store) (ι' : Gh) (w' : World) (M' : Store) : Prop where
 S : ∀ b, ι.S b -> ι'.S b
 heap : ∀ b, ι.S b -> w'.heap[b]? = w.heap[b]?
 base : ∀ id e, M.get id = some e -> ι'.base id = ι.base id /\ ι'.cap id = ι.cap id
 ev : ∀ id e, M.get id = some e -> ∃ e', M'.get id = some e' /\ Ev e e'
theorem Ext.refl (ι : Gh) (w : World) (M : Store) : Ext ι w M ι w M := ⟨fun _ h => h, fun _ _ => rfl, fun _ _ _ => ⟨rfl, rfl⟩, fun _ e h => ⟨e, h, Ev.refl e⟩⟩
theorem Ext.trans {ι ι' ι'' : Gh} {w w' w'' : World} {M M' M'' : Store} (h : Ext ι w M ι' w' M') (k : Ext ι' w' M' ι'' w'' M'') : Ext ι w M ι'' w'' M'' := by
 refine ⟨fun b hb => k.S b (h.S b hb), fun b hb => (k.heap b (h.S b hb)).trans (h.heap b hb), fun id e he => ?_, fun id e he => ?_⟩
 ·obtain ⟨e', h1, _⟩ := h.ev id e he
  obtain ⟨h2, h3⟩ := h.base id e he
  obtain ⟨h4, h5⟩ := k.base id e' h1
  exact ⟨h4.trans h2, h5.trans h3⟩
 ·obtain ⟨e', h1, h2⟩ := h.ev id e he
  obtain ⟨e'', h3, h4⟩ := k.ev id e' h1
  exact ⟨e'', h3, h2.trans h4⟩
theorem SF.mono {c : Ctx} {ι ι' : Gh} (h : ∀ b, ι.S b -> ι'.S b) {fr : Bool} : ∀ b, SF c ι fr b -> SF c ι' fr b := fun b hb => ⟨h b hb.1, hb.2⟩
theorem aj.mono {c : Ctx} {ι ι' : Gh} {w w' : World} {M M' : Store} (x : Ext ι w M ι' w' M') {l : Leaf} {cs : List Value} (h : aj c ι w M l cs) : aj c ι' w' M' l cs := by
 have pm : ∀ fr (t : Ty) (y : t.den) (ds : List Value), ah (SF c ι fr) w t y ds -> ah (SF c ι' fr) w' t y ds :=
  fun fr t y ds hd => ah.mono (SF.mono x.S) (fun b hb => x.heap b hb.1) t y ds hd
 cases l with
 | int k n => exact h
 | bool b => exact h
 | kb b => exact h
 | str l => exact h
 | psl fr t l => exact ⟨pm _ _ _ _ h.1, h.2⟩
 | arr n fr t l => exact ⟨pm _ _ _ _ h.1, h.2⟩
 | cZ => exact h
 | dG => exact h
 | cO => exact h
 | l7 => exact h
 | yld => exact h
 | own id =>
   simp only [aj] at h ⊢
   cases he : M.get id with
   | none => rw [he] at h; exact h.elim
   | some e =>
     obtain ⟨e', h1, h2⟩ := x.ev id e he
     obtain ⟨b1, b2⟩ := x.base id e he
     rw [he] at h; rw [h1, b1, b2]
     cases e <;> cases e' <;> simp only [Ev] at h2 <;> first
      | (simp only at h ⊢; first | exact h | (rw [<- h2.2]; exact h) | (obtain ⟨a, ha, _⟩ := h; exact ⟨_, ha, rfl⟩))
      | exact h2.elim
      | exact h.elim
 | sl id lo n =>
   simp only [aj] at h ⊢
   cases he : M.get id with
   | none => rw [he] at h; exact h.elim
   | some e =>
     obtain ⟨e', h1, h2⟩ := x.ev id e he
     obtain ⟨b1, b2⟩ := x.base id e he
     rw [he] at h; rw [h1, b1, b2]
     cases e <;> cases e' <;> simp only [Ev] at h2 <;> first
      | (simp only at h ⊢; first | exact h | (obtain ⟨rfl, e2⟩ := h2; rw [<- e2]; exact h) | (obtain ⟨a, ha, _⟩ := h; exact ⟨_, ha, rfl⟩))
      | exact h2.elim
      | exact h.elim
 | vw id lo n =>
   have low : n = 0 -> ∀ p : Option Addr × Nat, cs = [Value.slice p.1 n p.2] -> n <= p.2 -> aj c ι' w' M' (.vw id lo n) cs := fun h0 p e1 e2 => by
    simp only [aj]
    split <;> first | exact ⟨p, e1, e2, fun h => by omega⟩ | exact ⟨_, e1, rfl⟩
   cases he : M.get id with
   | none =>
     simp only [aj, he] at h
     obtain ⟨p, e1, e2, e3⟩ := h
     exact low (by rcases Nat.eq_zero_or_pos n with h | h; exact h; exact (e3 h).elim) p e1 e2
   | some e =>
     obtain ⟨e', h1, h2⟩ := x.ev id e he
     obtain ⟨b1, b2⟩ := x.base id e he
     cases e with
     | obj ls =>
       simp only [aj, he] at h
       obtain ⟨p, e1, e2, e3⟩ := h
       exact low (by rcases Nat.eq_zero_or_pos n with h | h; exact h; exact (e3 h).elim) p e1 e2
     | _ =>
       simp only [aj, he, h1, b1] at h ⊢
       cases e' <;> simp only [Ev] at h2 <;> first
        | (simp only at h ⊢; first | exact h | (obtain ⟨rfl, e2⟩ := h2; rw [<- e2]; exact h) | (obtain ⟨a, ha, _⟩ := h; exact ⟨_, ha, rfl⟩))
        | exact h2.elim
        | exact h.elim
 | sf id lo n =>
   simp only [aj] at h ⊢
   cases he : M.get id with
   | none => rw [he] at h; exact h.elim
   | some e =>
     obtain ⟨e', h1, h2⟩ := x.ev id e he
     obtain ⟨b1, b2⟩ := x.base id e he
     rw [he] at h; rw [h1, b1, b2]
     cases e <;> cases e' <;> simp only [Ev] at h2 <;> first
      | (simp only at h ⊢; first | exact h | (obtain ⟨rfl, e2⟩ := h2; rw [<- e2]; exact h) | (obtain ⟨a, ha, _⟩ := h; exact ⟨_, ha, rfl⟩))
      | exact h2.elim
      | exact h.elim
 | asl id off lo n =>
   simp only [aj] at h ⊢
   cases he : M.get id with
   | none => rw [he] at h; exact h.elim
   | some e =>
     obtain ⟨e', h1, h2⟩ := x.ev id e he
     obtain ⟨b1, b2⟩ := x.base id e he
     rw [he] at h; rw [h1, b1]
     cases e with
     | obj ls =>
       simp only at h
       cases hl : lat ls off with
       | none => rw [hl] at h; exact h.elim
       | some q =>
         rw [hl] at h
         cases q <;> simp only at h <;> first
          | exact h.elim
          | (cases e' with
             | obj ls' =>
               obtain ⟨fr', l', hl'⟩ := h2 off _ _ _ _ hl
               simp only [hl']; exact h
             | dead => obtain ⟨b, a, _, _, hc, _⟩ := h; exact ⟨_, hc, rfl⟩
             | hid => exact h2.elim
             | row => exact h2.elim
             | frz => exact h2.elim)
     | dead => cases e' <;> simp only [Ev] at h2 <;> exact h
     | row => exact h.elim
     | hid => exact h.elim
     | frz => exact h.elim
 | ptr id off =>
   simp only [aj] at h ⊢
   cases he : M.get id with
   | none => rw [he] at h; exact h.elim
   | some e =>
     obtain ⟨e', h1, h2⟩ := x.ev id e he
     obtain ⟨b1, b2⟩ := x.base id e he
     rw [he] at h; rw [h1, b1]
     cases e <;> cases e' <;> simp only [Ev] at h2 <;> first
      | (simp only at h ⊢; first | exact h | (obtain ⟨b, _, hc⟩ := h; exact ⟨_, hc, rfl⟩))
      | exact h2.elim
      | exact h.elim
 | ig id i off =>
   simp only [aj] at h ⊢
   cases he : M.get id with
   | none => rw [he] at h; exact h.elim
   | some e =>
     obtain ⟨e', h1, h2⟩ := x.ev id e he
     obtain ⟨b1, b2⟩ := x.base id e he
     rw [he] at h; rw [h1, b1]
     cases e <;> cases e' <;> simp only [Ev] at h2 <;> first
      | (simp only at h ⊢; first | exact h | (obtain ⟨rfl, _⟩ := h2; exact h) | (obtain ⟨b, _, hc⟩ := h; exact ⟨_, hc, rfl⟩))
      | exact h2.elim
      | exact h.elim
 | iq id dh i off =>
   simp only [aj] at h ⊢
   cases he : M.get id with
   | none => rw [he] at h; exact h.elim
   | some e =>
     obtain ⟨e', h1, h2⟩ := x.ev id e he
     obtain ⟨b1, b2⟩ := x.base id e he
     rw [he] at h; rw [h1, b1]
     cases e with
     | obj ls =>
       simp only at h
       cases hl : lat ls dh with
       | none => rw [hl] at h; exact h.elim
       | some q =>
         rw [hl] at h
         cases q <;> simp only at h <;> first
          | exact h.elim
          | (cases e' with
             | obj ls' =>
               obtain ⟨fr', l', hl'⟩ := h2 dh _ _ _ _ hl
               simp only [hl']; exact h
             | dead => obtain ⟨b, _, hc⟩ := h; exact ⟨_, hc, rfl⟩
             | hid => exact h2.elim
             | row => exact h2.elim
             | frz => exact h2.elim)
     | dead => cases e' <;> simp only [Ev] at h2 <;> exact h
     | row => exact h.elim
     | hid => exact h.elim
     | frz => exact h.elim
 | cst fr t y =>
   obtain ⟨ad, pcs, h1, h2, h3, h4⟩ := h
   exact ⟨ad, pcs, h1, h2.mono (SF.mono x.S) (fun b hb => x.heap b hb.1), pm _ _ _ _ h3, h4⟩
 | hid id =>
   simp only [aj] at h ⊢
   cases he : M.get id with
   | none => rw [he] at h; exact h.elim
   | some e =>
     obtain ⟨e', h1, h2⟩ := x.ev id e he
     obtain ⟨b1, b2⟩ := x.base id e he
     rw [he] at h; rw [h1, b1]
     cases e <;> cases e' <;> simp only [Ev] at h2 <;> first
      | (simp only at h ⊢; first | exact h | (rw [<- h2]; exact h) | (obtain ⟨b, _, hc⟩ := h; exact ⟨_, hc, by cases ‹Hid› <;> rfl⟩))
      | exact h2.elim
      | exact h.elim
 | fn f caps =>
   obtain ⟨h1, h2⟩ := h
   refine ⟨?_, fun id hid => ?_⟩
   ·have e1 : caps.map (fun id => Value.pointer (ι'.base id)) = caps.map (fun id => Value.pointer (ι.base id)) := by
     refine List.map_congr_left fun id hid => ?_
     obtain ⟨e, he, _⟩ := h2 id hid
     rw [(x.base id e he).1]
    rw [h1, e1]
   ·obtain ⟨e, he, hk⟩ := h2 id hid
    obtain ⟨e', h3, h4⟩ := x.ev id e he
    refine ⟨e', h3, ?_⟩
    rcases hk with rfl | ⟨ls, rfl⟩
    ·cases e' <;> simp only [Ev] at h4 <;> exact .inl rfl
    ·cases e' <;> simp only [Ev] at h4 <;> first | exact .inl rfl | exact .inr ⟨_, rfl⟩
theorem aj.weak {c : Ctx} {ι : Gh} {w : World} {M : Store} {l : Leaf} {cs : List Value} (h : aj c ι w M l cs) : aj c ι w M l.weak cs := by
 cases l <;> try exact h
 rename_i id lo n
 simp only [aj, Leaf.weak] at h ⊢
 split at h <;> first
  | (obtain ⟨a, h1, h2, h3⟩ := h; exact ⟨a, h1, h2.1, h3⟩)
  | exact h
  | exact h.elim
theorem aF.mono {c : Ctx} {ι ι' : Gh} {w w' : World} {M M' : Store} (x : Ext ι w M ι' w' M') : ∀ {ls : List Leaf} {cs : List Value}, aF c ι w M ls cs -> aF c ι' w' M' ls cs
 | [], _, h => h
 | _ :: _, _, ⟨c1, c2, h1, h2, h3⟩ => ⟨c1, c2, h1, h2.mono x, h3.mono x⟩
theorem aI.mono {c : Ctx} {ι ι' : Gh} {w w' : World} {M M' : Store} (x : Ext ι w M ι' w' M') {y : V} {v : Value} (h : aI c ι w M y v) : aI c ι' w' M' y v := by
 obtain ⟨cs, h1, h2⟩ := h
 exact ⟨cs, h1.mono x, h2⟩
theorem aP.mono {c : Ctx} {ι ι' : Gh} {w w' : World} {M M' : Store} (x : Ext ι w M ι' w' M') : ∀ {l : List V} {vs : List Value}, aP c ι w M l vs -> aP c ι' w' M' l vs
 | [], _, h => h
 | _ :: _, _, ⟨v, ws, h1, h2, h3⟩ => ⟨v, ws, h1, h2.mono x, h3.mono x⟩
theorem ak.mono {c : Ctx} {ι ι' : Gh} {w w' : World} {M M' : Store} (x : Ext ι w M ι' w' M') {y : SV} {v : Value} (h : ak c ι w M y v) : ak c ι' w' M' y v := by
 cases y with
 | v y => exact aI.mono x h
 | tup l => obtain ⟨vs, h1, h2⟩ := h; exact ⟨vs, h1, h2.mono x⟩
end Go.Vc
set_option linter.unusedVariables false
set_option linter.unusedSimpArgs false
namespace Go.Vc
theorem kL {i j : Nat} (h : i ≠ j) : Nat.beq i j = false := by
 cases hb : Nat.beq i j with
 | false => rfl
 | true => exact absurd (Nat.eq_of_beq_eq_true hb) h
theorem I9 {b : Bool} (h : ¬ b = true) : b = false := by cases b <;> simp_all
theorem Store.get_set_same (M : Store) (id : Nat) (e : Entry) : (M.set id e).get id = some e := by
 induction M with
 | nil => simp [Store.set, Store.get]
 | cons p r ih =>
   obtain ⟨i, x⟩ := p
   by_cases h : Nat.beq i id = true
   ·simp [Store.set, h, Store.get]
   ·have h' : Nat.beq i id = false := I9 h
    simp only [Store.set, h', cond_false, Store.get]; exact ih
theorem Store.get_set_other (M : Store) (id j : Nat) (e : Entry) (hne : j ≠ id) : (M.set id e).get j = M.get j := by
 induction M with
 | nil =>
   have : Nat.beq id j = false := kL fun h => hne h.symm
   simp [Store.set, Store.get, this]
 | cons p r ih =>
   obtain ⟨i, x⟩ := p
   by_cases h : Nat.beq i id = true
   ·have hi : i = id := Nat.eq_of_beq_eq_true h
    subst hi
    have : Nat.beq i j = false := kL fun h => hne h.symm
    simp [Store.set, Store.get, this]
   ·have h' : Nat.beq i id = false := I9 h
    simp only [Store.set, h', cond_false, Store.get]
    rw [ih]
theorem Store.dJ (M : Store) (id j : Nat) (e : Entry) : (M.set id e).get j = if j = id then some e else M.get j := by
 split
 ·rename_i h; rw [h]; exact Store.get_set_same ..
 ·rename_i h; exact Store.get_set_other _ _ _ _ h
theorem Store.iO (M : Store) (a b : List (Nat × Entry)) : M.aK (a ++ b) = (M.aK a).aK b := by
 induction a generalizing M with
 | nil => rfl
 | cons p r ih => obtain ⟨i, e⟩ := p; exact ih _
theorem aj.len {c : Ctx} {ι : Gh} {w : World} {M : Store} {l : Leaf} {cs : List Value} (h : aj c ι w M l cs) : cs.length = l.width := by
 cases l with
 | int k n => rw [h.1]; rfl
 | bool b => rw [show cs = [.bool b] from h]; rfl
 | kb b => rw [show cs = [.bool b] from h]; rfl
 | str l => rw [h.1]; rfl
 | psl fr t l => exact ah.len _ _ _ h.1
 | arr n fr t l => exact ah.len _ _ _ h.1
 | cZ => rw [show cs = _ from h]; rfl
 | dG => rw [show cs = _ from h]; rfl
 | cO => rw [show cs = _ from h]; rfl
 | l7 => rw [show cs = _ from h]; rfl
 | yld => obtain ⟨l, _, h⟩ := h; rw [h]; rfl
 | own id =>
   simp only [aj] at h
   split at h <;> first | (rw [h]; rfl) | (obtain ⟨v, rfl, _⟩ := h; rfl) | exact h.elim
 | sl id lo n =>
   simp only [aj] at h
   split at h <;> first | (obtain ⟨a, rfl, _⟩ := h; rfl) | exact h.elim
 | sf id lo n =>
   simp only [aj] at h
   split at h <;> first | (obtain ⟨a, rfl, _⟩ := h; rfl) | exact h.elim
 | vw id lo n =>
   simp only [aj] at h
   split at h <;> (obtain ⟨a, rfl, _⟩ := h; rfl)
 | asl id off lo n =>
   simp only [aj] at h
   split at h
   ·split at h <;> first | (obtain ⟨b, a, _, _, rfl, _⟩ := h; rfl) | exact h.elim
   ·obtain ⟨a, rfl, _⟩ := h; rfl
   ·exact h.elim
 | ptr id off =>
   simp only [aj] at h
   split at h <;> first | (obtain ⟨b, _, rfl⟩ := h; rfl) | (obtain ⟨b, rfl, _⟩ := h; rfl) | exact h.elim
 | ig id i off =>
   simp only [aj] at h
   split at h <;> first | (obtain ⟨b, _, rfl⟩ := h; rfl) | (obtain ⟨b, rfl, _⟩ := h; rfl) | exact h.elim
 | iq id dh i off =>
   simp only [aj] at h
   split at h
   ·split at h <;> first | (obtain ⟨b, _, rfl⟩ := h; rfl) | exact h.elim
   ·obtain ⟨a, rfl, _⟩ := h; rfl
   ·exact h.elim
 | cst fr t y => obtain ⟨ad, pcs, rfl, _⟩ := h; rfl
 | hid id =>
   simp only [aj] at h
   split at h <;> first | (obtain ⟨b, _, rfl⟩ := h; rfl) | (obtain ⟨b, rfl, _⟩ := h; rfl) | exact h.elim
 | fn f caps => rw [h.1]; rfl
theorem aj.one {c : Ctx} {ι : Gh} {w : World} {M : Store} {l : Leaf} {cs : List Value} (h : aj c ι w M l cs) : ∀ v ∈ cs, v.oneCell' = true := by
 have s1 : ∀ {u : Value}, u.oneCell' = true -> cs = [u] -> ∀ v ∈ cs, v.oneCell' = true := by
  rintro u hu rfl v hv; simp at hv; subst hv; exact hu
 cases l with
 | int k n => exact s1 rfl h.1
 | bool b => exact s1 rfl h
 | kb b => exact s1 rfl h
 | str l => exact s1 rfl h.1
 | psl fr t l => exact ah.one _ _ _ h.1
 | arr n fr t l => exact ah.one _ _ _ h.1
 | cZ => exact s1 rfl h
 | dG => exact s1 rfl h
 | cO => exact s1 rfl h
 | l7 => exact s1 rfl h
 | yld => obtain ⟨l, _, h⟩ := h; exact s1 rfl h
 | own id =>
   simp only [aj] at h
   split at h <;> first | (obtain ⟨a, ha, _⟩ := h; exact s1 rfl ha) | (obtain ⟨v, hv, ho⟩ := h; exact s1 ho hv) | exact h.elim
 | sl id lo n =>
   simp only [aj] at h
   split at h <;> first | (obtain ⟨v, hv, ho⟩ := h; exact s1 ho hv) | (obtain ⟨a, ha, _⟩ := h; exact s1 rfl ha) | exact h.elim
 | sf id lo n =>
   simp only [aj] at h
   split at h <;> first | (obtain ⟨v, hv, ho⟩ := h; exact s1 ho hv) | (obtain ⟨a, ha, _⟩ := h; exact s1 rfl ha) | exact h.elim
 | vw id lo n =>
   simp only [aj] at h
   split at h <;> first | (obtain ⟨v, hv, ho⟩ := h; exact s1 ho hv) | (obtain ⟨a, ha, _⟩ := h; exact s1 rfl ha)
 | asl id off lo n =>
   simp only [aj] at h
   split at h
   ·split at h <;> first | (obtain ⟨b, a, _, _, ha, _⟩ := h; exact s1 rfl ha) | exact h.elim
   ·obtain ⟨v, hv, ho⟩ := h; exact s1 ho hv
   ·exact h.elim
 | ptr id off =>
   simp only [aj] at h
   split at h <;> first | (obtain ⟨b, _, hb⟩ := h; exact s1 rfl hb) | (obtain ⟨v, hv, ho⟩ := h; exact s1 ho hv) | exact h.elim
 | ig id i off =>
   simp only [aj] at h
   split at h <;> first | (obtain ⟨b, _, hb⟩ := h; exact s1 rfl hb) | (obtain ⟨v, hv, ho⟩ := h; exact s1 ho hv) | exact h.elim
 | iq id dh i off =>
   simp only [aj] at h
   split at h
   ·split at h <;> first | (obtain ⟨b, _, ha⟩ := h; exact s1 rfl ha) | exact h.elim
   ·obtain ⟨v, hv, ho⟩ := h; exact s1 ho hv
   ·exact h.elim
 | cst fr t y => obtain ⟨ad, pcs, hp, _⟩ := h; exact s1 rfl hp
 | hid id =>
   simp only [aj] at h
   split at h <;> first | (obtain ⟨b, _, hb⟩ := h; exact s1 (by cases ‹Hid› <;> rfl) hb) | (obtain ⟨v, hv, ho⟩ := h; exact s1 ho hv) | exact h.elim
 | fn f caps => exact s1 rfl h.1
theorem aF.len {c : Ctx} {ι : Gh} {w : World} {M : Store} : ∀ {ls : List Leaf} {cs : List Value}, aF c ι w M ls cs -> cs.length = widths ls
 | [], _, h => by rw [show _ = [] from h]; rfl
 | _ :: _, _, ⟨c1, c2, h1, h2, h3⟩ => by rw [h1, List.length_append, h2.len, h3.len]; rfl
theorem aF.one {c : Ctx} {ι : Gh} {w : World} {M : Store} : ∀ {ls : List Leaf} {cs : List Value}, aF c ι w M ls cs -> ∀ v ∈ cs, v.oneCell' = true
 | [], _, h => by rw [show _ = [] from h]; simp
 | _ :: _, _, ⟨c1, c2, h1, h2, h3⟩ => by
   rw [h1]; intro v hv
   rcases List.mem_append.1 hv with h | h
   ·exact h2.one v h
   ·exact h3.one v h
theorem aF.append {c : Ctx} {ι : Gh} {w : World} {M : Store} : ∀ {a b : List Leaf} {cs ds : List Value}, aF c ι w M a cs -> aF c ι w M b ds -> aF c ι w M (a ++ b) (cs ++ ds)
 | [], _, _, _, h, k => by rw [show _ = [] from h]; exact k
 | _ :: _, _, _, _, ⟨c1, c2, h1, h2, h3⟩, k => ⟨c1, c2 ++ _, by rw [h1, List.append_assoc], h2, h3.append k⟩
theorem aF.split {c : Ctx} {ι : Gh} {w : World} {M : Store} : ∀ {a b : List Leaf} {cs : List Value}, aF c ι w M (a ++ b) cs -> ∃ c1 c2, cs = c1 ++ c2 /\ aF c ι w M a c1 /\ aF c ι w M b c2
 | [], _, cs, h => ⟨[], cs, rfl, rfl, h⟩
 | _ :: a, _, _, ⟨c1, c2, h1, h2, h3⟩ => by
   obtain ⟨d1, d2, rfl, k2, k3⟩ := aF.split (a := a) h3
   exact ⟨c1 ++ d1, d2, by rw [h1, List.append_assoc], ⟨c1, d1, rfl, h2, k2⟩, k3⟩
theorem jY (a b : Nat) : Nat.ble a b = true ↔ a <= b := by rw [Nat.ble_eq]
theorem Ja {c : Ctx} {ι : Gh} {w : World} {M : Store} : ∀ {ls : List Leaf} {n : Nat} {r : List Leaf} {cs : List Value}, dO.go ls n = some r -> aF c ι w M ls cs -> aF c ι w M r (cs.take n) /\ n <= cs.length
 | _, 0, _, _, h, _ => by
   have e : ∀ ls, dO.go ls 0 = some [] := fun ls => by cases ls <;> rfl
   rw [e] at h; cases h; exact ⟨rfl, Nat.zero_le _⟩
 | [], n + 1, r, cs, h, _ => by simp [dO.go] at h
 | l :: ls, n + 1, r, cs, h, ⟨c1, c2, h1, h2, h3⟩ => by
   unfold dO.go at h
   cases hb : Nat.ble l.width (n + 1) with
   | false => rw [hb] at h; cases h
   | true =>
     rw [hb] at h
     simp only [cond_true] at h
     cases hg : dO.go ls (n + 1 - l.width) with
     | none => rw [hg] at h; cases h
     | some x =>
       rw [hg] at h; cases h
       obtain ⟨k1, k2⟩ := Ja hg h3
       have hw := h2.len
       have hle := (jY _ _).1 hb
       subst h1
       refine ⟨⟨c1, c2.take (n + 1 - l.width), ?_, h2, k1⟩, by rw [List.length_append]; omega⟩
       rw [List.take_append, hw, List.take_of_length_le (by omega)]
theorem dW {c : Ctx} {ι : Gh} {w : World} {M : Store} : ∀ {ls : List Leaf} {off n : Nat} {r : List Leaf} {cs : List Value}, dO ls off n = some r -> aF c ι w M ls cs ->
 aF c ι w M r ((cs.drop off).take n) /\ off + n <= cs.length
 | ls, 0, n, r, cs, h, hr => by
   have e : dO ls 0 n = dO.go ls n := by cases ls <;> rfl
   rw [e] at h
   obtain ⟨k1, k2⟩ := Ja h hr
   exact ⟨k1, by omega⟩
 | [], off + 1, n, r, cs, h, _ => by simp [dO] at h
 | l :: ls, off + 1, n, r, cs, h, ⟨c1, c2, h1, h2, h3⟩ => by
   unfold dO at h
   cases hb : Nat.ble l.width (off + 1) with
   | false => rw [hb] at h; cases h
   | true =>
     rw [hb] at h
     simp only [cond_true] at h
     obtain ⟨k1, k2⟩ := dW h h3
     have hw := h2.len
     have hle := (jY _ _).1 hb
     subst h1
     refine ⟨?_, by rw [List.length_append]; omega⟩
     rw [List.drop_append, List.drop_of_length_le (by omega), List.nil_append, hw]
     exact k1
theorem DT {c : Ctx} {ι : Gh} {w : World} {M : Store} : ∀ {ls : List Leaf} {n : Nat} {r : List Leaf} {cs : List Value}, eG.drop ls n = some r -> aF c ι w M ls cs -> aF c ι w M r (cs.drop n) /\ n <= cs.length
 | ls, 0, r, cs, h, hr => by
   have e : eG.drop ls 0 = some ls := by cases ls <;> rfl
   rw [e] at h; cases h; exact ⟨hr, Nat.zero_le _⟩
 | [], n + 1, r, cs, h, _ => by simp [eG.drop] at h
 | l :: ls, n + 1, r, cs, h, ⟨c1, c2, h1, h2, h3⟩ => by
   unfold eG.drop at h
   cases hb : Nat.ble l.width (n + 1) with
   | false => rw [hb] at h; cases h
   | true =>
     rw [hb] at h
     simp only [cond_true] at h
     obtain ⟨k1, k2⟩ := DT h h3
     have hw := h2.len
     have hle := (jY _ _).1 hb
     subst h1
     refine ⟨?_, by rw [List.length_append]; omega⟩
     rw [List.drop_append, List.drop_of_length_le (by omega), List.nil_append, hw]
     exact k1
theorem Fv {c : Ctx} {ι : Gh} {w : World} {M : Store} {new : List Leaf} {ds : List Value} (hn : aF c ι w M new ds) : ∀ {ls : List Leaf} {off n : Nat} {r : List Leaf} {cs : List Value}, eG ls off n new = some r -> aF c ι w M ls cs ->
 aF c ι w M r (cs.take off ++ ds ++ cs.drop (off + n)) /\ off + n <= cs.length
 | ls, 0, n, r, cs, h, hr => by
   have e : eG ls 0 n new = match eG.drop ls n with | some r => some (new ++ r) | none => none := by cases ls <;> rfl
   rw [e] at h
   cases hd : eG.drop ls n with
   | none => rw [hd] at h; cases h
   | some x =>
     rw [hd] at h; cases h
     obtain ⟨k1, k2⟩ := DT hd hr
     refine ⟨?_, by omega⟩
     simp only [List.take_zero, List.nil_append, Nat.zero_add]
     exact hn.append k1
 | [], off + 1, n, r, cs, h, _ => by simp [eG] at h
 | l :: ls, off + 1, n, r, cs, h, ⟨c1, c2, h1, h2, h3⟩ => by
   unfold eG at h
   cases hb : Nat.ble l.width (off + 1) with
   | false => rw [hb] at h; cases h
   | true =>
     rw [hb] at h
     simp only [cond_true] at h
     cases hs : eG ls (off + 1 - l.width) n new with
     | none => rw [hs] at h; cases h
     | some x =>
       rw [hs] at h; cases h
       obtain ⟨k1, k2⟩ := Fv hn hs h3
       have hw := h2.len
       have hle := (jY _ _).1 hb
       subst h1
       refine ⟨⟨c1, _, ?_, h2, k1⟩, by rw [List.length_append]; omega⟩
       rw [List.take_append, hw, List.take_of_length_le (by omega), List.drop_append, List.drop_of_length_le (by omega), List.nil_append, hw]
       simp only [List.append_assoc]
       rw [show off + 1 + n - l.width = off + 1 - l.width + n from by omega]
theorem tZ {c : Ctx} {ι : Gh} {w : World} {M : Store} : ∀ {ls : List Leaf} {off : Nat} {l : Leaf} {cs : List Value}, lat ls off = some l -> aF c ι w M ls cs ->
 aj c ι w M l ((cs.drop off).take l.width) /\ off + l.width <= cs.length
 | [], _, _, _, h, _ => by simp [lat] at h
 | l :: ls, 0, l', cs, h, ⟨c1, c2, h1, h2, h3⟩ => by
   simp only [lat, Option.some.injEq] at h
   subst h h1
   have hw := h2.len
   refine ⟨?_, by rw [List.length_append]; omega⟩
   rw [List.drop_zero, <- hw, List.take_left']
   ·exact h2
   ·rfl
 | l :: ls, off + 1, l', cs, h, ⟨c1, c2, h1, h2, h3⟩ => by
   unfold lat at h
   cases hb : Nat.ble l.width (off + 1) with
   | false => rw [hb] at h; cases h
   | true =>
     rw [hb] at h
     simp only [cond_true] at h
     obtain ⟨k1, k2⟩ := tZ h h3
     have hw := h2.len
     have hle := (jY _ _).1 hb
     subst h1
     refine ⟨?_, by rw [List.length_append]; omega⟩
     rw [List.drop_append, List.drop_of_length_le (by omega), List.nil_append, hw]
     exact k1
theorem bU {c : Ctx} {ι : Gh} {w : World} {M : Store} {fr : Bool} : ∀ (t : Ty) (x : t.den) (cs : List Value), ah (SF c ι fr) w t x cs -> Valid t x -> aF c ι w M (explode fr t x) cs
 | .int k, x, cs, h, hv => ⟨cs, [], by simp, ⟨h, hv⟩, rfl⟩
 | .bool, x, cs, h, _ => ⟨cs, [], by simp, h, rfl⟩
 | .str, x, cs, h, hv => ⟨cs, [], by simp, ⟨h, hv⟩, rfl⟩
 | .unit, x, cs, h, _ => h
 | .slice e, l, cs, h, hv => ⟨cs, [], by simp, ⟨h, hv⟩, rfl⟩
 | .arr n e, l, cs, h, hv => ⟨cs, [], by simp, ⟨h, hv⟩, rfl⟩
 | .pair a b, x, cs, ⟨c1, c2, h1, h2, h3⟩, hv => by
   rw [h1]
   exact (bU a x.1 c1 h2 hv.1).append (bU b x.2 c2 h3 hv.2)
theorem wX {α : Type} (n : Nat) : ∀ (ess : List (List α)) (i : Nat) (ec : List α), (∀ e ∈ ess, e.length = n) -> ess[i]? = some ec -> (ess.flatten.drop (i * n)).take n = ec
 | [], i, ec, _, h => by simp at h
 | e :: r, 0, ec, hl, h => by
   simp at h; subst h
   rw [List.flatten_cons, Nat.zero_mul, List.drop_zero, List.take_append, hl e (by simp), Nat.sub_self, List.take_zero, List.append_nil, List.take_of_length_le (by rw [hl e (by simp)]; omega)]
 | e :: r, i + 1, ec, hl, h => by
   have h' : r[i]? = some ec := by simpa using h
   rw [List.flatten_cons, List.drop_append, List.drop_of_length_le (by rw [hl e (by simp), Nat.succ_mul]; omega), List.nil_append, hl e (by simp)]
   rw [show (i + 1) * n - n = i * n from by rw [Nat.succ_mul]; omega]
   exact wX n r i ec (fun x hx => hl x (by simp [hx])) h'
theorem At.add {S : Nat -> Prop} {w : World} {ad : Addr} {cs : List Value} (h : At S w ad cs) (o n : Nat) : At S w (ad.add o) ((cs.drop o).take n) := by
 have eb : ∀ (a : Addr) (k : Nat), (a.add k).block = a.block := fun a k => by unfold Addr.add; split <;> rfl
 refine ⟨by rw [eb]; exact h.1, fun i v hv => ?_⟩
 have hi : cs[o + i]? = some v := by
  rw [List.getElem?_take] at hv
  split at hv
  ·rw [List.getElem?_drop] at hv; exact hv
  ·cases hv
 have ea : (ad.add o).add i = ad.add (o + i) := by
  unfold Addr.add
  by_cases h0 : o = 0
  ·subst h0; simp
  ·by_cases h1 : i = 0
   ·subst h1; simp [h0]
   ·simp [h0, h1, Nat.add_assoc]
 rw [ea]; exact h.2 _ _ hi
theorem Addr.add_add (ad : Addr) (o i : Nat) : (ad.add o).add i = ad.add (o + i) := by
 unfold Addr.add
 by_cases h0 : o = 0
 ·subst h0; simp
 ·by_cases h1 : i = 0
  ·subst h1; simp [h0]
  ·simp [h0, h1, Nat.add_assoc]
theorem ah.elem {S : Nat -> Prop} {w : World} {n : Nat} {e : Ty} {l : List e.den} {cs : List Value} (h : ah S w (.arr n e) l cs) (i : Nat) (hi : i < l.length) :
 ah S w e (idx l i) ((cs.drop (i * e.sz)).take e.sz) /\ (i + 1) * e.sz <= cs.length := by
 obtain ⟨h1, ess, h2, rfl, h4⟩ := h
 have hi' : i < ess.length := by omega
 have hx : l[i]? = some (idx l i) := by
  unfold idx
  rw [List.getD_eq_getElem?_getD, List.getElem?_eq_getElem hi]; rfl
 have hl : ∀ ec ∈ ess, ec.length = e.sz := by
  intro ec hec
  obtain ⟨j, hj, rfl⟩ := List.getElem_of_mem hec
  exact ah.len _ _ _ (h4 j (l[j]'(by omega)) ess[j] (by simp) (by simp))
 have hp := h4 i _ ess[i] hx (by simp)
 rw [wX e.sz ess i ess[i] hl (by simp)]
 refine ⟨hp, ?_⟩
 rw [bD e.sz ess hl]
 exact Nat.mul_le_mul_right _ hi'
theorem Valid.elem {e : Ty} {l : List e.den} (h : ∀ x ∈ l, Valid e x) (i : Nat) (hi : i < l.length) : Valid e (idx l i) := by
 unfold idx
 rw [List.getD_eq_getElem?_getD, List.getElem?_eq_getElem hi]
 exact h _ (List.getElem_mem hi)
theorem ah.elemAt {S : Nat -> Prop} {w : World} {e : Ty} {l : List e.den} {a : Option Addr} {n cp : Nat} (h : ah S w (.slice e) l [.slice a n cp]) (i : Nat) (hi : i < l.length) :
 ∃ ad ecs, a = some ad /\ ah S w e (idx l i) ecs /\ At S w (ad.add (i * e.sz)) ecs := by
 obtain ⟨a', n', c', h1, h2, h3, h4⟩ := h
 simp only [List.cons.injEq, Value.slice.injEq, and_true] at h1
 obtain ⟨rfl, rfl, rfl⟩ := h1
 obtain ⟨ad, h5, h6⟩ := h4 (by omega)
 have hx : l[i]? = some (idx l i) := by
  unfold idx
  rw [List.getD_eq_getElem?_getD, List.getElem?_eq_getElem hi]; rfl
 obtain ⟨ecs, h7, h8⟩ := h6 i _ hx
 exact ⟨ad, ecs, h5, h7, h8⟩
theorem ah.qC {S : Nat -> Prop} {w : World} {e : Ty} {l : List e.den} {xs : List Value} {ad : Addr} {cp : Nat} (h : ah S w (.arr l.length e) l xs) (hA : At S w ad xs) (hc : l.length <= cp) :
 ah S w (.slice e) l [.slice (some ad) l.length cp] := by
 refine ⟨some ad, l.length, cp, rfl, rfl, hc, fun _ => ⟨ad, rfl, fun i x hx => ?_⟩⟩
 obtain ⟨hi, rfl⟩ := List.getElem?_eq_some_iff.1 hx
 obtain ⟨h1, h2⟩ := h.elem i hi
 have ex : idx l i = l[i] := by unfold idx; rw [List.getD_eq_getElem?_getD, List.getElem?_eq_getElem hi]; rfl
 rw [ex] at h1
 exact ⟨_, h1, hA.add _ _⟩
end Go.Vc
set_option linter.unusedVariables false
set_option linter.unusedSimpArgs false
namespace Go.Vc
theorem uP.mono {w w' : World} {lb : Nat} {ap : Bool} {e sz : Nat} {b : Option Addr} {cap n : Nat} {xs : List Value} {sp sp' : List Value -> Prop} (h : uP w lb ap e sz b cap n xs sp)
 (hw : ∀ k, b.map (·.block) = some k -> w'.heap[k]? = w.heap[k]?) (hsp : ∀ ys, sp ys -> sp' ys) : uP w' lb ap e sz b cap n xs sp' := by
 refine ⟨h.1, ?_⟩
 rcases h.2 with hn | ⟨g, cur, fz, h1, h2, h3, h4, h5, h6, h7, h8, h9, h10⟩
 ·exact .inl hn
 ·exact .inr ⟨g, cur, fz, h1, h2, by rw [hw g (by rw [h1]; rfl)]; exact h3, h4, h5, h6, h7, h8, h9, fun ha => hsp _ (h10 ha)⟩
theorem eH.gen {c c' : Ctx} {ι ι' : Gh} {w w' : World} {fr fr' : Bool} {t : Ty} {n cap : Nat} (hS : ∀ b, SF c ι fr b -> SF c' ι' fr' b) (hw : ∀ b, SF c ι fr b -> w'.heap[b]? = w.heap[b]?) {ys : List Value} (h : eH c ι w fr t n cap ys) : eH c' ι' w' fr' t n cap ys := by
 obtain ⟨sp, h1, h2, h3⟩ := h
 exact ⟨sp, h1, h2, ah.mono hS hw _ _ _ h3⟩
theorem eH.mono {c : Ctx} {ι ι' : Gh} {w w' : World} {fr : Bool} {t : Ty} {n cap : Nat} (hS : ∀ b, ι.S b -> ι'.S b) (hw : ∀ b, ι.S b -> w'.heap[b]? = w.heap[b]?) {ys : List Value} (h : eH c ι w fr t n cap ys) : eH c ι' w' fr t n cap ys := by
 obtain ⟨sp, h1, h2, h3⟩ := h
 exact ⟨sp, h1, h2, ah.mono (SF.mono hS) (fun b hb => hw b hb.1) _ _ _ h3⟩
theorem uP.eF {w : World} {lb : Nat} {ap : Bool} {e sz : Nat} {b : Option Addr} {cap n : Nat} {xs : List Value} {sp : List Value -> Prop} (h : uP w lb ap e sz b cap n xs sp) :
 ∀ k, b.map (·.block) = some k -> k < w.heap.size /\ lb <= k := by
 intro k hk
 rcases h.2 with ⟨rfl, _⟩ | ⟨g, cur, fz, rfl, h2, h3, _⟩
 ·simp at hk
 ·simp at hk; subst hk
  exact ⟨(Array.getElem?_eq_some_iff.1 h3).1, h2⟩
theorem bH.mono {c : Ctx} {ι ι' : Gh} {w w' : World} {M M' : Store} (x : Ext ι w M ι' w' M') {id : Nat} {e : Entry} (he : M.get id = some e)
 (hw : e.live = true -> ∀ k, ι.blk id = some k -> w'.heap[k]? = w.heap[k]?) (h : bH c ι w M id e) : bH c ι' w' M' id e := by
 obtain ⟨b1, b2⟩ := x.base id e he
 have pm : ∀ fr (t : Ty) (y : t.den) (ds : List Value), ah (SF c ι fr) w t y ds -> ah (SF c ι' fr) w' t y ds :=
  fun fr t y ds hd => ah.mono (SF.mono x.S) (fun b hb => x.heap b hb.1) t y ds hd
 cases e with
 | row e t fr ap l =>
   obtain ⟨xs, h1, h2, h3⟩ := h
   exact ⟨xs, pm _ _ _ _ h1, h2, by rw [b1, b2]; exact h3.mono (fun k hk => hw rfl k hk) (fun ys hy => hy.mono x.S x.heap)⟩
 | frz t fr l =>
   obtain ⟨h1, h2⟩ := h
   exact ⟨by rw [b1, b2]; exact pm _ _ _ _ h1, h2⟩
 | obj ls =>
   obtain ⟨b, cs, T, h1, h2, h3, h4⟩ := h
   exact ⟨b, cs, T, by rw [b1]; exact h1, by rw [hw rfl b (by rw [Gh.blk, h1]; rfl)]; exact h2, h3.mono x, h4⟩
 | hid q =>
   cases q with
   | map k v l =>
     obtain ⟨b, es, ck, h1, h2, h3⟩ := h
     exact ⟨b, es, ck, by rw [b1]; exact h1, by rw [hw rfl b (by rw [Gh.blk, h1]; rfl)]; exact h2, h3⟩
   | iter l p =>
     obtain ⟨b, h1, h2, h3⟩ := h
     exact ⟨b, by rw [b1]; exact h1, by rw [hw rfl b (by rw [Gh.blk, h1]; rfl)]; exact h2, h3⟩
 | dead => trivial
theorem bH.eF {c : Ctx} {ι : Gh} {w : World} {M : Store} {id : Nat} {e : Entry} (h : bH c ι w M id e) (hl : e.live = true) : ∀ k, ι.blk id = some k -> k < w.heap.size := by
 intro k hk
 cases e with
 | row e t fr ap l => obtain ⟨xs, _, _, h3⟩ := h; exact (h3.eF k hk).1
 | obj ls =>
   obtain ⟨b, cs, T, h1, h2, _⟩ := h
   rw [Gh.blk, h1] at hk; simp at hk; subst hk
   exact (Array.getElem?_eq_some_iff.1 h2).1
 | hid q =>
   cases q with
   | map _ v l =>
     obtain ⟨b, es, ck, h1, h2, h3⟩ := h
     rw [Gh.blk, h1] at hk; simp at hk; subst hk
     exact (Array.getElem?_eq_some_iff.1 h2).1
   | iter l p =>
     obtain ⟨b, h1, h2, h3⟩ := h
     rw [Gh.blk, h1] at hk; simp at hk; subst hk
     exact (Array.getElem?_eq_some_iff.1 h2).1
 | frz t fr l => cases hl
 | dead => cases hl
def Gh.put (ι : Gh) (id : Nat) (b : Option Addr) (cp : Nat) : Gh := { ι with base := fun i => if i = id then b else ι.base i, cap := fun i => if i = id then cp else ι.cap i }
structure Turn (w w' : World) (free : Nat -> Prop) : Prop where
 os : w'.os = w.os
 tape : w'.tape = w.tape
 output : w'.output = w.output
 size : w.heap.size <= w'.heap.size
 block : ∀ k, k < w.heap.size -> ¬ free k -> w'.heap[k]? = w.heap[k]?
theorem Turn.refl (w : World) (free : Nat -> Prop) : Turn w w free := ⟨rfl, rfl, rfl, Nat.le_refl _, fun _ _ _ => rfl⟩
theorem Turn.alloc (w : World) (o : Obj) (free : Nat -> Prop) : Turn w (w.alloc o) free := ⟨rfl, rfl, rfl, by simp, fun k hk _ => heap_alloc_old w o k hk⟩
theorem Turn.drew (w : World) (free : Nat -> Prop) : Turn w w.drew free := ⟨rfl, rfl, rfl, by simp, fun _ _ _ => rfl⟩
theorem Turn.mono {w w' : World} {f g : Nat -> Prop} (h : Turn w w' f) (hs : ∀ k, f k -> g k) : Turn w w' g := ⟨h.os, h.tape, h.output, h.size, fun k hk hn => h.block k hk (fun hf => hn (hs k hf))⟩
theorem Turn.trans {w w' w'' : World} {f : Nat -> Prop} (h : Turn w w' f) (k : Turn w' w'' f) : Turn w w'' f :=
 ⟨k.os.trans h.os, k.tape.trans h.tape, k.output.trans h.output, Nat.le_trans h.size k.size, fun i hi hn => (k.block i (Nat.lt_of_lt_of_le hi h.size) hn).trans (h.block i hi hn)⟩
def Inv.Free (c : Ctx) (ι : Gh) (M : Store) (k : Nat) : Prop := ¬ ι.S k /\ (c.w0.heap.size <= k ∨ c.O k) /\ ∀ j e, M.get j = some e -> e.live = true -> ι.blk j ≠ some k
theorem Kept.turn {c : Ctx} {w w' : World} {f : Nat -> Prop} (h : Kept c w) (t : Turn w w' f) (hf : ∀ k, f k -> c.w0.heap.size <= k ∨ c.O k) : Kept c w' :=
 ⟨t.os.trans h.os, t.tape.trans h.tape, t.output.trans h.output, Nat.le_trans h.size t.size, fun b hb hO => by
   rw [t.block b (Nat.lt_of_lt_of_le hb h.size) (fun hk => by rcases hf b hk with h1 | h1 <;> first | omega | exact hO h1)]
   exact h.block b hb hO⟩
theorem Ext.adopt {c : Ctx} {ι : Gh} {w w' : World} {M : Store} (I : Inv c ι w M) {nid : Nat} (hid : M.get nid = none) {f : Nat -> Prop} (t : Turn w w' f) (hf : ∀ k, f k -> ¬ ι.S k)
 (b : Option Addr) (cp : Nat) (e : Entry) : Ext ι w M (ι.put nid b cp) w' (M.set nid e) := by
 refine ⟨fun _ h => h, fun k hk => t.block k (I.stb k hk) (fun h => hf k h hk), fun id e' he => ?_, fun id e' he => ?_⟩
 ·have hne : id ≠ nid := fun h => by rw [h, hid] at he; cases he
  simp [Gh.put, hne]
 ·have hne : id ≠ nid := fun h => by rw [h, hid] at he; cases he
  exact ⟨e', by rw [Store.get_set_other _ _ _ _ hne]; exact he, Ev.refl _⟩
theorem Inv.adopt {c : Ctx} {ι : Gh} {w w' : World} {M : Store} (I : Inv c ι w M) {nid : Nat} (hid : M.get nid = none) {f : Nat -> Prop} (t : Turn w w' f)
 (hf : ∀ k, f k -> Inv.Free c ι M k) (b : Option Addr) (cp : Nat) (e : Entry) (hb : ∀ a, b = some a -> e.live = true -> f a.block ∨ w.heap.size <= a.block)
 (hE : bH c (ι.put nid b cp) w' (M.set nid e) nid e) : Inv c (ι.put nid b cp) w' (M.set nid e) := by
 have x := Ext.adopt I hid t (fun k hk => (hf k hk).1) b cp e
 have hne : ∀ {id e'}, M.get id = some e' -> id ≠ nid := fun he h => by rw [h, hid] at he; cases he
 have ho : ∀ id e', M.get id = some e' -> (ι.put nid b cp).blk id = ι.blk id := fun id e' he => by simp [Gh.blk, Gh.put, hne he]
 have hn : (ι.put nid b cp).blk nid = b.map (·.block) := by simp [Gh.blk, Gh.put]
 refine ⟨I.kept.turn t (fun k hk => (hf k hk).2.1), fun id e' he => ?_, fun i j ei ej k hi hj li lj bi bj => ?_, fun i e' k hi li bi => ?_, fun k hk => Nat.lt_of_lt_of_le (I.stb k hk) t.size, I.src⟩
 ·rw [Store.dJ] at he
  split at he
  ·rename_i h; cases he; subst h; exact hE
  ·refine bH.mono x he (fun hl k hk => ?_) (I.ents id e' he)
   exact t.block k ((I.ents id e' he).eF hl k hk) (fun h => (hf k h).2.2 id e' he hl hk)
 ·have key : ∀ {i ei}, M.get i = some ei -> ei.live = true -> (ι.put nid b cp).blk i = some k -> b.map (·.block) = some k -> e.live = true -> False := by
   intro i ei hi li bi hk hl
   rw [ho i ei hi] at bi
   cases hb' : b with
   | none => rw [hb'] at hk; simp at hk
   | some a =>
     rw [hb'] at hk; simp at hk; subst hk
     rcases hb a hb' hl with h | h
     ·exact (hf _ h).2.2 i ei hi li bi
     ·have := (I.ents i ei hi).eF li _ bi; omega
  rw [Store.dJ] at hi hj
  split at hi
  ·rename_i h1
   split at hj
   ·rename_i h2; rw [h1, h2]
   ·cases hi; rw [h1, hn] at bi; exact (key hj lj bj bi li).elim
  ·split at hj
   ·rename_i h2; cases hj; rw [h2, hn] at bj; exact (key hi li bi bj lj).elim
   ·rw [ho i ei hi] at bi; rw [ho j ej hj] at bj
    exact I.dis i j ei ej k hi hj li lj bi bj
 ·rw [Store.dJ] at hi
  split at hi
  ·rename_i h; cases hi; rw [h, hn] at bi
   cases hb' : b with
   | none => rw [hb'] at bi; simp at bi
   | some a =>
     rw [hb'] at bi; simp at bi; subst bi
     rcases hb a hb' li with h1 | h1
     ·exact ⟨(hf _ h1).1, (hf _ h1).2.1⟩
     ·exact ⟨fun hS => by have := I.stb _ hS; omega, .inl (Nat.le_trans I.kept.size h1)⟩
  ·rw [ho i e' hi] at bi; exact I.own i e' k hi li bi
theorem Inv.O4 {c : Ctx} {ι : Gh} {w w' : World} {M : Store} (I : Inv c ι w M) (t : Turn w w' (fun _ => False)) : Inv c ι w' M /\ Ext ι w M ι w' M := by
 have x : Ext ι w M ι w' M := ⟨fun _ h => h, fun k hk => t.block k (I.stb k hk) (fun h => h), fun _ _ _ => ⟨rfl, rfl⟩, fun _ e h => ⟨e, h, Ev.refl e⟩⟩
 refine ⟨⟨I.kept.turn t (fun k hk => hk.elim), fun id e he => ?_, I.dis, I.own, fun k hk => Nat.lt_of_lt_of_le (I.stb k hk) t.size, I.src⟩, x⟩
 exact bH.mono x he (fun hl k hk => t.block k ((I.ents id e he).eF hl k hk) (fun h => h)) (I.ents id e he)
theorem Ext.change {c : Ctx} {ι : Gh} {w w' : World} {M : Store} (I : Inv c ι w M) {id : Nat} {e e' : Entry} (he : M.get id = some e) (hl : e.live = true) (hev : Ev e e')
 (t : Turn w w' (fun k => ι.blk id = some k)) : Ext ι w M ι w' (M.set id e') := by
 refine ⟨fun _ h => h, fun k hk => t.block k (I.stb k hk) (fun h => (I.own id e k he hl h).1 hk), fun _ _ _ => ⟨rfl, rfl⟩, fun j ej hj => ?_⟩
 rw [Store.dJ]
 split
 ·rename_i h; subst h; rw [he] at hj; cases hj; exact ⟨e', rfl, hev⟩
 ·exact ⟨ej, hj, Ev.refl _⟩
theorem Inv.change {c : Ctx} {ι : Gh} {w w' : World} {M : Store} (I : Inv c ι w M) {id : Nat} {e e' : Entry} (he : M.get id = some e) (hl : e.live = true) (hev : Ev e e')
 (t : Turn w w' (fun k => ι.blk id = some k)) (hE : bH c ι w' (M.set id e') id e') : Inv c ι w' (M.set id e') := by
 have x := Ext.change I he hl hev t
 have old : ∀ {j ej}, (M.set id e').get j = some ej -> ej.live = true -> ∃ e0, M.get j = some e0 /\ e0.live = true := by
  intro j ej hj lj
  rw [Store.dJ] at hj
  split at hj
  ·rename_i h; subst h; exact ⟨e, he, hl⟩
  ·exact ⟨ej, hj, lj⟩
 refine ⟨I.kept.turn t (fun k hk => (I.own id e k he hl hk).2), fun j ej hj => ?_, fun i j ei ej k hi hj li lj bi bj => ?_, fun i ei k hi li bi => ?_, fun k hk => Nat.lt_of_lt_of_le (I.stb k hk) t.size, I.src⟩
 ·rw [Store.dJ] at hj
  split at hj
  ·rename_i h; cases hj; subst h; exact hE
  ·rename_i h
   refine bH.mono x hj (fun lj k hk => ?_) (I.ents j ej hj)
   exact t.block k ((I.ents j ej hj).eF lj k hk) (fun hb => h (I.dis j id ej e k hj he lj hl hk hb))
 ·obtain ⟨a, ha, la⟩ := old hi li
  obtain ⟨d, hd, ld⟩ := old hj lj
  exact I.dis i j a d k ha hd la ld bi bj
 ·obtain ⟨a, ha, la⟩ := old hi li
  exact I.own i a k ha la bi
theorem Inv.kill {c : Ctx} {ι : Gh} {w : World} {M : Store} (I : Inv c ι w M) {id : Nat} {e : Entry} (he : M.get id = some e) :
 Inv c ι w (M.set id .dead) /\ Ext ι w M ι w (M.set id .dead) /\ (e.live = true -> ∀ k, ι.blk id = some k -> Inv.Free c ι (M.set id .dead) k) := by
 have x : Ext ι w M ι w (M.set id .dead) := by
  refine ⟨fun _ h => h, fun _ _ => rfl, fun _ _ _ => ⟨rfl, rfl⟩, fun j ej hj => ?_⟩
  rw [Store.dJ]
  split
  ·exact ⟨_, rfl, by cases ej <;> trivial⟩
  ·exact ⟨ej, hj, Ev.refl _⟩
 have old : ∀ {j ej}, (M.set id .dead).get j = some ej -> ej.live = true -> j ≠ id /\ M.get j = some ej := by
  intro j ej hj lj
  rw [Store.dJ] at hj
  split at hj
  ·cases hj; cases lj
  ·rename_i h; exact ⟨h, hj⟩
 refine ⟨⟨I.kept, fun j ej hj => ?_, fun i j ei ej k hi hj li lj bi bj => ?_, fun i ei k hi li bi => ?_, I.stb, I.src⟩, x, fun hl k hk => ?_⟩
 ·rw [Store.dJ] at hj
  split at hj
  ·cases hj; trivial
  ·exact bH.mono x hj (fun _ _ _ => rfl) (I.ents j ej hj)
 ·exact I.dis i j ei ej k (old hi li).2 (old hj lj).2 li lj bi bj
 ·exact I.own i ei k (old hi li).2 li bi
 ·obtain ⟨h1, h2⟩ := I.own id e k he hl hk
  refine ⟨h1, h2, fun j ej hj lj hb => ?_⟩
  obtain ⟨h3, h4⟩ := old hj lj
  exact h3 (I.dis j id ej e k h4 he lj hl hb hk)
theorem Inv.freeze {c : Ctx} {ι : Gh} {w : World} {M : Store} (I : Inv c ι w M) {id e0 : Nat} {t : Ty} {fr ap : Bool} {l : List t.den} (he : M.get id = some (.row e0 t fr ap l)) :
 ∃ ι', Inv c ι' w (M.set id (.frz t fr l)) /\ Ext ι w M ι' w (M.set id (.frz t fr l)) /\ (∀ k, ι'.S k ↔ ι.S k ∨ ι.blk id = some k) /\ ι'.base = ι.base /\ ι'.cap = ι.cap := by
 let ι' : Gh := { ι with S := fun k => ι.S k ∨ ι.blk id = some k }
 have hrow := I.ents id _ he
 have x : Ext ι w M ι' w (M.set id (.frz t fr l)) := by
  refine ⟨fun _ h => .inl h, fun _ _ => rfl, fun _ _ _ => ⟨rfl, rfl⟩, fun j ej hj => ?_⟩
  rw [Store.dJ]
  split
  ·rename_i h; subst h; rw [he] at hj; cases hj; exact ⟨_, rfl, rfl, rfl⟩
  ·exact ⟨ej, hj, Ev.refl _⟩
 have old : ∀ {j ej}, (M.set id (.frz t fr l)).get j = some ej -> ej.live = true -> j ≠ id /\ M.get j = some ej := by
  intro j ej hj lj
  rw [Store.dJ] at hj
  split at hj
  ·cases hj; cases lj
  ·rename_i h; exact ⟨h, hj⟩
 refine ⟨ι', ⟨I.kept, fun j ej hj => ?_, fun i j ei ej k hi hj li lj bi bj => ?_, fun i ei k hi li bi => ?_, fun k hk => ?_, fun k hk => ?_⟩, x, fun k => Iff.rfl, rfl, rfl⟩
 ·rw [Store.dJ] at hj
  split at hj
  ·rename_i h; cases hj; subst h
   obtain ⟨xs, h1, h2, h3⟩ := hrow
   refine ⟨?_, h2⟩
   have pm : ah (SF c ι' fr) w (.arr l.length t) l xs := ah.mono (SF.mono x.S) (fun _ _ => rfl) _ _ _ h1
   show ah (SF c ι' fr) w (.slice t) l [.slice (ι.base j) l.length (ι.cap j)]
   rcases h3.2 with ⟨hb, hc, hn, _⟩ | ⟨g, cur, fz, hb, hlb, hg, _, _, hnc, _, _, htk, _⟩
   ·rw [hb, hc]
    exact ⟨none, l.length, 0, rfl, rfl, by omega, fun h => by omega⟩
   ·rw [hb]
    refine pm.qC ⟨⟨.inr (by rw [Gh.blk, hb]; rfl), fun hfr => ?_⟩, fun i v hv => ?_⟩ hnc
    ·rw [hfr] at hlb; exact hlb
    ·have ha : (⟨g, 0, none⟩ : Addr).add i = ⟨g, i, none⟩ := by unfold Addr.add; split <;> simp_all
     rw [ha, cell_of_row w g i cur _ fz hg]
     rw [<- htk, List.getElem?_take] at hv
     split at hv
     ·simpa using hv
     ·cases hv
  ·exact bH.mono x hj (fun _ _ _ => rfl) (I.ents j ej hj)
 ·exact I.dis i j ei ej k (old hi li).2 (old hj lj).2 li lj bi bj
 ·obtain ⟨h3, h4⟩ := old hi li
  obtain ⟨h5, h6⟩ := I.own i ei k h4 li bi
  refine ⟨fun hS => ?_, h6⟩
  rcases hS with hS | hS
  ·exact h5 hS
  ·exact h3 (I.dis i id ei _ k h4 he li rfl bi hS)
 ·rcases hk with hk | hk
  ·exact I.stb k hk
  ·exact hrow.eF rfl k hk
 ·rcases hk with hk | hk
  ·exact I.src k hk
  ·exact .inr (I.own id _ k he rfl hk).2
theorem Inv.KP {c : Ctx} {ι : Gh} {w : World} {M : Store} (I : Inv c ι w M) {id : Nat} {ls : List Leaf} (he : M.get id = some (.obj ls)) :
 ∃ ι', Inv c ι' w (M.set id .dead) /\ Ext ι w M ι' w (M.set id .dead) /\ (∀ k, ι'.S k ↔ ι.S k ∨ ι.blk id = some k) /\ ι'.base = ι.base /\ ι'.cap = ι.cap := by
 let ι' : Gh := { ι with S := fun k => ι.S k ∨ ι.blk id = some k }
 obtain ⟨I1, x1, hfree⟩ := I.kill he
 have x2 : Ext ι w (M.set id .dead) ι' w (M.set id .dead) := ⟨fun _ h => .inl h, fun _ _ => rfl, fun _ _ _ => ⟨rfl, rfl⟩, fun j ej hj => ⟨ej, hj, Ev.refl _⟩⟩
 refine ⟨ι', ⟨I.kept, fun j ej hj => bH.mono x2 hj (fun _ _ _ => rfl) (I1.ents j ej hj), I1.dis, fun i ei k hi li bi => ⟨fun hS => ?_, (I1.own i ei k hi li bi).2⟩, fun k hk => ?_, fun k hk => ?_⟩, x1.trans x2, fun k => Iff.rfl, rfl, rfl⟩
 ·rcases hS with hS | hS
  ·exact (I1.own i ei k hi li bi).1 hS
  ·exact (hfree rfl k hS).2.2 i ei hi li bi
 ·rcases hk with hk | hk
  ·exact I.stb k hk
  ·exact (I.ents id _ he).eF rfl k hk
 ·rcases hk with hk | hk
  ·exact I.src k hk
  ·exact .inr (I.own id _ k he rfl hk).2
theorem Inv.Fz {c : Ctx} {ι : Gh} {w : World} {M : Store} (I : Inv c ι w M) {id : Nat} {e : Entry} (h : M.get id = some e) : Inv c ι w (M.set id e) /\ Ext ι w M ι w (M.set id e) := by
 have hg : ∀ j, (M.set id e).get j = M.get j := fun j => by
  rw [Store.dJ]; split
  ·rename_i hj; rw [hj, h]
  ·rfl
 have x : Ext ι w M ι w (M.set id e) := ⟨fun _ h => h, fun _ _ => rfl, fun _ _ _ => ⟨rfl, rfl⟩, fun j ej hj => ⟨ej, by rw [hg]; exact hj, Ev.refl _⟩⟩
 refine ⟨⟨I.kept, fun j ej hj => ?_, fun i j ei ej k hi hj => ?_, fun i ei k hi => ?_, I.stb, I.src⟩, x⟩
 ·rw [hg] at hj; exact bH.mono x hj (fun _ _ _ => rfl) (I.ents j ej hj)
 ·rw [hg] at hi hj; exact I.dis i j ei ej k hi hj
 ·rw [hg] at hi; exact I.own i ei k hi
def yT (M : Store) (id : Nat) (e : Entry) : Prop := (∃ t fr l, e = .frz t fr l /\ (M.get id = some e ∨ ∃ e0 ap, M.get id = some (.row e0 t fr ap l))) ∨ (e = .dead /\ (M.get id = some .dead ∨ ∃ ls, M.get id = some (.obj ls)))
def Frz (M : Store) (z : List (Nat × Entry)) : Prop := ∀ id e, (id, e) ∈ z -> yT M id e
theorem yT.some {M : Store} {id : Nat} {e : Entry} (h : yT M id e) : ∃ x, M.get id = .some x := by
 rcases h with ⟨_, _, _, _, h | ⟨_, _, h⟩⟩ | ⟨_, h | ⟨_, h⟩⟩ <;> exact ⟨_, h⟩
theorem Frz.tail {M : Store} {id : Nat} {e : Entry} {z : List (Nat × Entry)} (hz : Frz M ((id, e) :: z)) : Frz (M.set id e) z := by
 intro j ej hj
 have h1 := hz id e (by simp)
 have h2 := hz j ej (by simp [hj])
 by_cases hji : j = id
 ·subst hji
  have hg : (M.set j e).get j = some e := Store.get_set_same ..
  unfold yT at h1 h2 ⊢
  rw [hg]
  rcases h1 with ⟨t, fr, l, rfl, h1⟩ | ⟨rfl, h1⟩
  ·rcases h2 with ⟨t', fr', l', rfl, h2⟩ | ⟨rfl, h2⟩
   ·refine .inl ⟨t', fr', l', rfl, .inl ?_⟩
    rcases h1 with h1 | ⟨_, _, h1⟩ <;> rcases h2 with h2 | ⟨_, _, h2⟩ <;> rw [h1] at h2 <;> cases h2 <;> rfl
   ·exfalso
    rcases h1 with h1 | ⟨_, _, h1⟩ <;> rcases h2 with h2 | ⟨_, h2⟩ <;> rw [h1] at h2 <;> cases h2
  ·rcases h2 with ⟨t', fr', l', rfl, h2⟩ | ⟨rfl, h2⟩
   ·exfalso
    rcases h1 with h1 | ⟨_, h1⟩ <;> rcases h2 with h2 | ⟨_, _, h2⟩ <;> rw [h1] at h2 <;> cases h2
   ·exact .inr ⟨rfl, .inl rfl⟩
 ·have hg : (M.set id e).get j = M.get j := Store.get_set_other _ _ _ _ hji
  unfold yT
  rw [hg]; exact h2
theorem Inv.KQ {c : Ctx} {ι : Gh} {w : World} {M : Store} (I : Inv c ι w M) {id : Nat} {e : Entry} (h : yT M id e) :
 ∃ ι', Inv c ι' w (M.set id e) /\ Ext ι w M ι' w (M.set id e) /\ (∀ k, ι'.S k ↔ ι.S k ∨ ∃ e0, M.get id = some e0 /\ e0.live = true /\ ι.blk id = some k) /\ ι'.base = ι.base /\ ι'.cap = ι.cap := by
 rcases h with ⟨t, fr, l, rfl, h | ⟨e0, ap, h⟩⟩ | ⟨rfl, h | ⟨ls, h⟩⟩
 ·obtain ⟨I1, x1⟩ := I.Fz h
  exact ⟨ι, I1, x1, fun k => ⟨.inl, fun hh => hh.elim (fun h => h) fun ⟨e0, h1, h2, _⟩ => by rw [h] at h1; cases h1; cases h2⟩, rfl, rfl⟩
 ·obtain ⟨ι1, I1, x1, hS, hb, hc⟩ := I.freeze h
  refine ⟨ι1, I1, x1, fun k => (hS k).trans ⟨fun hh => hh.imp (fun h => h) fun hk => ⟨_, h, rfl, hk⟩, fun hh => hh.imp (fun h => h) fun ⟨_, _, _, hk⟩ => hk⟩, hb, hc⟩
 ·obtain ⟨I1, x1⟩ := I.Fz h
  exact ⟨ι, I1, x1, fun k => ⟨.inl, fun hh => hh.elim (fun h => h) fun ⟨e0, h1, h2, _⟩ => by rw [h] at h1; cases h1; cases h2⟩, rfl, rfl⟩
 ·obtain ⟨ι1, I1, x1, hS, hb, hc⟩ := I.KP h
  refine ⟨ι1, I1, x1, fun k => (hS k).trans ⟨fun hh => hh.imp (fun h => h) fun hk => ⟨_, h, rfl, hk⟩, fun hh => hh.imp (fun h => h) fun ⟨_, _, _, hk⟩ => hk⟩, hb, hc⟩
theorem Inv.rG {c : Ctx} {w : World} : ∀ (z : List (Nat × Entry)) {ι : Gh} {M : Store}, Inv c ι w M -> Frz M z ->
 ∃ ι', Inv c ι' w (M.aK z) /\ Ext ι w M ι' w (M.aK z) /\ (∀ k, ι'.S k ↔ ι.S k ∨ ∃ id e e0, (id, e) ∈ z /\ M.get id = some e0 /\ e0.live = true /\ ι.blk id = some k) /\ ι'.base = ι.base /\ ι'.cap = ι.cap
 | [], ι, M, I, _ => ⟨ι, I, Ext.refl _ _ _, fun k => ⟨.inl, fun h => h.elim id (fun ⟨_, _, _, h, _⟩ => by cases h)⟩, rfl, rfl⟩
 | (id, e) :: z, ι, M, I, hz => by
   have h1 := hz id e (by simp)
   obtain ⟨ι1, I1, x1, hS1, hb1, hc1⟩ := I.KQ h1
   obtain ⟨ι', I2, x2, hS, hb, hc⟩ := Inv.rG z I1 hz.tail
   have hne : e.live = false := by
    rcases h1 with ⟨_, _, _, rfl, _⟩ | ⟨rfl, _⟩ <;> rfl
   refine ⟨ι', I2, x1.trans x2, fun k => ?_, hb.trans hb1, hc.trans hc1⟩
   rw [hS, hS1]
   have hblk : ∀ j, ι1.blk j = ι.blk j := fun j => by simp [Gh.blk, hb1]
   constructor
   ·rintro ((h1 | ⟨e0, h2, h3, h4⟩) | ⟨j, ej, e1, h1, h2, h3, h4⟩)
    ·exact .inl h1
    ·exact .inr ⟨id, e, e0, by simp, h2, h3, h4⟩
    ·rw [Store.dJ] at h2
     split at h2
     ·cases h2; rw [hne] at h3; cases h3
     ·rw [hblk] at h4; exact .inr ⟨j, ej, e1, by simp [h1], h2, h3, h4⟩
   ·rintro (h1 | ⟨j, ej, e1, h1, h2, h3, h4⟩)
    ·exact .inl (.inl h1)
    ·by_cases hji : j = id
     ·subst hji; exact .inl (.inr ⟨e1, h2, h3, h4⟩)
     ·rcases List.mem_cons.1 h1 with h1 | h1
      ·cases h1; exact absurd rfl hji
      ·exact .inr ⟨j, ej, e1, h1, by rw [Store.get_set_other _ _ _ _ hji]; exact h2, h3, by rw [hblk]; exact h4⟩
end Go.Vc
set_option linter.unusedVariables false
set_option linter.unusedSimpArgs false
namespace Go.Vc
theorem ah.part {S : Nat -> Prop} {w : World} {e : Ty} {l : List e.den} {b a : Option Addr} {cp lo n : Nat} (h : ah S w (.slice e) l [.slice b l.length cp])
 (hn : lo + n <= l.length) (ha : lo < cp -> a = b.map (·.add (lo * e.sz))) : ah S w (.slice e) ((l.drop lo).take n) [.slice a n (cp - lo)] := by
 obtain ⟨b', n', c', h1, h2, h3, h4⟩ := h
 simp only [List.cons.injEq, Value.slice.injEq, and_true] at h1
 obtain ⟨rfl, rfl, rfl⟩ := h1
 refine ⟨a, n, cp - lo, rfl, by rw [List.length_take, List.length_drop]; omega, by omega, fun hpos => ?_⟩
 obtain ⟨ad, h5, h6⟩ := h4 (by omega)
 rw [ha (by omega), h5]
 refine ⟨ad.add (lo * e.sz), rfl, fun i x hx => ?_⟩
 have hx' : l[lo + i]? = some x := by
  rw [List.getElem?_take] at hx
  split at hx
  ·rwa [List.getElem?_drop] at hx
  ·cases hx
 obtain ⟨ecs, h7, h8⟩ := h6 (lo + i) x hx'
 refine ⟨ecs, h7, ?_⟩
 rw [Addr.add_add, <- Nat.add_mul]; exact h8
theorem ah.hdr {S : Nat -> Prop} {w : World} {e : Ty} {l : List e.den} {b a : Option Addr} {n cp : Nat} (h : ah S w (.slice e) l [.slice b n cp]) (ha : 0 < cp -> a = b) : ah S w (.slice e) l [.slice a n cp] := by
 obtain ⟨b', n', c', h1, h2, h3, h4⟩ := h
 simp only [List.cons.injEq, Value.slice.injEq, and_true] at h1
 obtain ⟨rfl, rfl, rfl⟩ := h1
 exact ⟨a, n, cp, rfl, h2, h3, fun hpos => by rw [ha (by omega)]; exact h4 hpos⟩
theorem Valid.part {e : Ty} {l : List e.den} (h : Valid (.slice e) l) (lo n : Nat) : Valid (.slice e) ((l.drop lo).take n) := by
 refine ⟨fun x hx => h.1 x (List.mem_of_mem_drop (List.mem_of_mem_take hx)), ?_⟩
 have := h.2
 rw [List.length_take, List.length_drop]; omega
theorem ah.rH (S : Nat -> Prop) (w : World) (e : Ty) : ah S w (.slice e) [] [.slice none 0 0] := ⟨none, 0, 0, rfl, rfl, Nat.le_refl _, fun h => by omega⟩
theorem Valid.nil (e : Ty) : Valid (.slice e) [] := ⟨fun _ h => (by cases h), Nat.zero_le _⟩
theorem bH.slice {c : Ctx} {ι : Gh} {w : World} {M : Store} {id e0 : Nat} {t : Ty} {fr ap : Bool} {l : List t.den} (h : bH c ι w M id (.row e0 t fr ap l)) {S' : Nat -> Prop}
 (hS : ∀ b, ι.S b -> S' b) (hk : ∀ k, ι.blk id = some k -> S' k) : ah (fun b => S' b /\ (fr = true -> c.lb <= b)) w (.slice t) l [.slice (ι.base id) l.length (ι.cap id)] /\ Valid (.slice t) l := by
 obtain ⟨xs, h1, h2, h3⟩ := h
 refine ⟨?_, h2⟩
 have pm : ah (fun b => S' b /\ (fr = true -> c.lb <= b)) w (.arr l.length t) l xs := ah.mono (fun b hb => ⟨hS b hb.1, hb.2⟩) (fun _ _ => rfl) _ _ _ h1
 rcases h3.2 with ⟨hb, hc, hn, _⟩ | ⟨g, cur, fz, hb, hlb, hg, _, _, hnc, _, _, htk, _⟩
 ·rw [hb, hc]
  exact ⟨none, l.length, 0, rfl, rfl, by omega, fun h => by omega⟩
 ·rw [hb]
  refine pm.qC ⟨⟨hk g (by rw [Gh.blk, hb]; rfl), fun hfr => ?_⟩, fun i v hv => ?_⟩ hnc
  ·rw [hfr] at hlb; exact hlb
  ·have ha : (⟨g, 0, none⟩ : Addr).add i = ⟨g, i, none⟩ := by unfold Addr.add; split <;> simp_all
   rw [ha, cell_of_row w g i cur _ fz hg]
   rw [<- htk, List.getElem?_take] at hv
   split at hv
   ·simpa using hv
   ·cases hv
def wY (c : Ctx) (ι : Gh) (w : World) (M : Store) (t : Ty) (im : Im t) (cs : List Value) : Prop :=
 Frz M im.frz /\ ∃ c1 c2, cs = c1 ++ c2 /\ aF c ι w M im.rest c2 /\ Valid t im.x /\
  ∀ S' : Nat -> Prop, (∀ b, ι.S b -> S' b) -> (∀ id e e0 k, (id, e) ∈ im.frz -> M.get id = some e0 -> e0.live = true -> ι.blk id = some k -> S' k) ->
   ah (fun b => S' b /\ (im.fr = true -> c.lb <= b)) w t im.x c1
theorem fA {c : Ctx} {ι : Gh} {w : World} {M : Store} (I : Inv c ι w M) : ∀ (t : Ty) {ls : List Leaf} {im : Im t} {cs : List Value}, aG M t ls = some im -> aF c ι w M ls cs -> wY c ι w M t im cs := by
 have hnil : Frz M [] := fun id e h => by cases h
 have lf : ∀ {l : Leaf} {r : List Leaf} {cs : List Value}, aF c ι w M (l :: r) cs -> ∃ c1 c2, cs = c1 ++ c2 /\ aj c ι w M l c1 /\ aF c ι w M r c2 := fun h => h
 intro t
 induction t with
 | int k =>
   intro ls im cs h hr
   cases ls with
   | nil => simp [aG] at h
   | cons l r =>
     cases l <;> simp only [aG] at h <;> first | cases h | skip
     split at h
     ·rename_i hk; cases h; subst hk
      obtain ⟨c1, c2, h1, h2, h3⟩ := lf hr
      exact ⟨hnil, c1, c2, h1, h3, h2.2, fun _ _ _ => h2.1⟩
     ·cases h
 | bool =>
   intro ls im cs h hr
   cases ls with
   | nil => simp [aG] at h
   | cons l r =>
     cases l <;> simp only [aG] at h <;> first
      | (cases h; done)
      | (cases h
         obtain ⟨c1, c2, h1, h2, h3⟩ := lf hr
         exact ⟨hnil, c1, c2, h1, h3, trivial, fun _ _ _ => h2⟩)
 | str =>
   intro ls im cs h hr
   cases ls with
   | nil => simp [aG] at h
   | cons l r =>
     cases l <;> simp only [aG] at h <;> first
      | (cases h; done)
      | (cases h
         obtain ⟨c1, c2, h1, h2, h3⟩ := lf hr
         exact ⟨hnil, c1, c2, h1, h3, h2.2, fun _ _ _ => h2.1⟩)
 | unit =>
   intro ls im cs h hr
   have e : aG M .unit ls = some ⟨true, (), ls, []⟩ := by cases ls <;> rfl
   rw [e] at h; cases h
   exact ⟨hnil, [], cs, rfl, hr, trivial, fun _ _ _ => rfl⟩
 | slice e _ =>
   intro ls im cs h hr
   cases ls with
   | nil => simp [aG] at h
   | cons l r =>
     obtain ⟨c1, c2, h1, h2, h3⟩ := lf hr
     have h2 := h2.weak
     simp only [aG] at h
     generalize l.weak = l at h h2
     cases l <;> simp only at h <;> first
      | (cases h; done)
      | skip
     case psl fr t' l' =>
      split at h
      ·rename_i ht; cases h; subst ht
       exact ⟨hnil, c1, c2, h1, h3, h2.2, fun S' hS _ => ah.mono (fun b hb => ⟨hS b hb.1, hb.2⟩) (fun _ _ => rfl) _ _ _ h2.1⟩
      ·cases h
     case cZ =>
      cases h
      refine ⟨hnil, c1, c2, h1, h3, Valid.nil e, fun _ _ _ => ?_⟩
      rw [show c1 = _ from h2]; exact ah.rH _ _ _
     case own id =>
      simp only [aj] at h2
      cases he : M.get id with
      | none => rw [he] at h2; exact h2.elim
      | some en =>
        rw [he] at h h2
        cases en with
        | row e0 t' fr ap l' =>
          simp only at h h2
          obtain ⟨ax, h2, h2a⟩ := h2
          split at h
          ·rename_i ht; cases h; subst ht
           refine ⟨fun i x hx => ?_, c1, c2, h1, h3, (I.ents id _ he).slice (S' := fun _ => True) (fun _ _ => trivial) (fun _ _ => trivial) |>.2, fun S' hS hk => ?_⟩
           ·simp at hx; obtain ⟨rfl, rfl⟩ := hx; exact .inl ⟨_, _, _, rfl, .inr ⟨_, _, he⟩⟩
           ·rw [h2]; exact ((I.ents id _ he).slice hS (fun k hb => hk id (.frz t' fr l') _ k (by simp) he rfl hb)).1.hdr h2a
          ·cases h
        | frz t' fr l' =>
          simp only at h h2
          obtain ⟨ax, h2, h2a⟩ := h2
          split at h
          ·rename_i ht; cases h; subst ht
           have hE := I.ents id _ he
           refine ⟨hnil, c1, c2, h1, h3, hE.2, fun S' hS _ => ?_⟩
           rw [h2]; exact (ah.mono (fun b hb => ⟨hS b hb.1, hb.2⟩) (fun _ _ => rfl) _ _ _ hE.1).hdr h2a
          ·cases h
        | obj ls => simp only at h2
        | hid q => simp only at h2
        | dead => simp only at h; cases h
     case sl id lo n =>
      simp only [aj] at h2
      cases he : M.get id with
      | none => rw [he] at h2; exact h2.elim
      | some en =>
        rw [he] at h h2
        cases en with
        | row e0 t' fr ap l' =>
          simp only at h h2
          split at h
          ·rename_i ht; cases h; subst ht
           obtain ⟨a, ha, hn, haa⟩ := h2
           refine ⟨fun i x hx => ?_, c1, c2, h1, h3, ((I.ents id _ he).slice (S' := fun _ => True) (fun _ _ => trivial) (fun _ _ => trivial) |>.2).part _ _, fun S' hS hk => ?_⟩
           ·simp at hx; obtain ⟨rfl, rfl⟩ := hx; exact .inl ⟨_, _, _, rfl, .inr ⟨_, _, he⟩⟩
           ·rw [ha]; exact (((I.ents id _ he).slice hS (fun k hb => hk id (.frz t' fr l') _ k (by simp) he rfl hb)).1).part hn haa
          ·cases h
        | frz t' fr l' =>
          simp only at h h2
          split at h
          ·rename_i ht; cases h; subst ht
           obtain ⟨a, ha, hn, haa⟩ := h2
           have hE := I.ents id _ he
           refine ⟨hnil, c1, c2, h1, h3, hE.2.part _ _, fun S' hS _ => ?_⟩
           rw [ha]; exact ah.part (ah.mono (fun b hb => ⟨hS b hb.1, hb.2⟩) (fun _ _ => rfl) _ _ _ hE.1) hn haa
          ·cases h
        | obj ls => simp only at h2
        | hid q => simp only at h2
        | dead => simp only at h; cases h
     case asl id off lo n =>
      simp only [aj] at h2
      cases he : M.get id with
      | none => rw [he] at h2; exact h2.elim
      | some en =>
        rw [he] at h h2
        cases en <;> simp only at h <;> first | (cases h; done) | skip
        rename_i ls
        simp only at h2
        cases hl : lat ls off with
        | none => rw [hl] at h; cases h
        | some la =>
          rw [hl] at h h2
          cases la <;> simp only at h <;> first | (cases h; done) | skip
          rename_i N fr' t' l'
          split at h
          ·rename_i ht; subst ht
           cases hN : Nat.ble N 16777216 with
           | false => rw [hN] at h; cases h
           | true =>
           rw [hN] at h; cases h
           have hN : N <= 16777216 := Nat.le_of_ble_eq_true hN
           obtain ⟨b, a, g1, g2, g3, g4⟩ := h2
           obtain ⟨b', cs', T', k1, k2, k3, _⟩ := I.ents id _ he
           rw [g1] at k1; cases k1
           obtain ⟨q1, q2⟩ := tZ hl k3
           simp only [aj] at q1
           obtain ⟨q1, qv⟩ := q1
           have hlN : l'.length = N := q1.1
           refine ⟨fun i x hx => ?_, c1, c2, h1, h3, Valid.part (e := t') ⟨qv.1, by rw [hlN]; unfold maxLen; omega⟩ _ _, fun S' hS hk => ?_⟩
           ·simp at hx; obtain ⟨rfl, rfl⟩ := hx; exact .inr ⟨rfl, .inr ⟨_, he⟩⟩
           ·rw [g3]
            have hS' : S' b := hk id .dead _ b (by simp) he rfl (by rw [Gh.blk, g1]; rfl)
            have pa := ah.mono (S' := fun b => S' b /\ (false = true -> c.lb <= b)) (fun b hb => ⟨hS b hb.1, fun hh => by cases hh⟩) (fun _ _ => rfl) _ _ _ q1
            have pl : ah (fun b => S' b /\ (false = true -> c.lb <= b)) w (.slice t') l' [.slice (some ⟨b, off, none⟩) l'.length N] := by
             refine ah.qC (by rw [hlN]; exact pa) ⟨⟨hS', fun hh => by cases hh⟩, fun i v hv => ?_⟩ (by omega)
             have ha : (⟨b, off, none⟩ : Addr).add i = ⟨b, off + i, none⟩ := by unfold Addr.add; split <;> simp_all
             rw [ha, cell_of_row w b _ cs'.toArray _ (0, 0) k2]
             rw [List.getElem?_take] at hv
             split at hv
             ·rw [List.getElem?_drop] at hv; simpa using hv
             ·cases hv
            refine ah.part pl (by omega) fun hlt => ?_
            rw [g4 hlt]
            show some _ = some (Addr.add _ _)
            unfold Addr.add; split <;> simp_all
          ·cases h
 | arr n e _ =>
   intro ls im cs h hr
   cases ls with
   | nil => simp [aG] at h
   | cons l r =>
     cases l <;> simp only [aG] at h <;> first | (cases h; done) | skip
     split at h
     ·rename_i ht
      split at h
      ·rename_i hn; cases h; subst ht; subst hn
       obtain ⟨c1, c2, h1, h2, h3⟩ := lf hr
       exact ⟨hnil, c1, c2, h1, h3, h2.2, fun S' hS _ => ah.mono (fun b hb => ⟨hS b hb.1, hb.2⟩) (fun _ _ => rfl) _ _ _ h2.1⟩
      ·cases h
     ·cases h
 | pair a b iha ihb =>
   intro ls im cs h hr
   have e : aG M (.pair a b) ls = match aG M a ls with
    | some p => match aG M b p.rest with
      | some q => some ⟨p.fr && q.fr, (p.x, q.x), q.rest, p.frz ++ q.frz⟩
      | none => none
    | none => none := by cases ls <;> rfl
   rw [e] at h
   cases hp : aG M a ls with
   | none => rw [hp] at h; cases h
   | some p =>
     rw [hp] at h
     simp only at h
     cases hq : aG M b p.rest with
     | none => rw [hq] at h; cases h
     | some q =>
       rw [hq] at h; cases h
       obtain ⟨f1, c1, c2, h1, h2, v1, p1⟩ := iha hp hr
       obtain ⟨f2, d1, d2, k1, k2, v2, p2⟩ := ihb hq h2
       refine ⟨fun id e hx => ?_, c1 ++ d1, d2, by rw [h1, k1, List.append_assoc], k2, ⟨v1, v2⟩, fun S' hS hk => ?_⟩
       ·rcases List.mem_append.1 hx with hx | hx
        ·exact f1 id e hx
        ·exact f2 id e hx
       ·have q1 := p1 S' hS (fun id e e0 k hx => hk id e e0 k (List.mem_append.2 (.inl hx)))
        have q2 := p2 S' hS (fun id e e0 k hx => hk id e e0 k (List.mem_append.2 (.inr hx)))
        refine ⟨c1, d1, rfl, ?_, ?_⟩
        ·exact ah.mono (fun b hb => ⟨hb.1, fun hf => hb.2 (by simp only [Bool.and_eq_true] at hf; exact hf.1)⟩) (fun _ _ => rfl) _ _ _ q1
        ·exact ah.mono (fun b hb => ⟨hb.1, fun hf => hb.2 (by simp only [Bool.and_eq_true] at hf; exact hf.2)⟩) (fun _ _ => rfl) _ _ _ q2
end Go.Vc
set_option linter.unusedVariables false
set_option linter.unusedSimpArgs false
namespace Go.Vc
def aQ : Ty -> List Value
 | .int k => [.int k 0]
 | .bool => [.bool false]
 | .str => [.string ⟨#[]⟩]
 | .unit => []
 | .slice _ => [.slice none 0 0]
 | .arr n e => (List.replicate n (aQ e)).flatten
 | .pair a b => aQ a ++ aQ b
def zeq : Value -> Value -> Bool
 | .int k a, .int k' b => (k == k') && (a == b)
 | .bool a, .bool b => a == b
 | .string a, .string b => Nat.beq a.size 0 && Nat.beq b.size 0
 | .slice none a b, .slice none c d => Nat.beq a c && Nat.beq b d
 | _, _ => false
def Df : List Value -> List Value -> Bool
 | [], [] => true
 | a :: r, b :: s => zeq a b && Df r s
 | _, _ => false
theorem Ol {a b : Value} (h : zeq a b = true) : a = b := by
 cases a <;> cases b <;> simp only [zeq] at h <;> first
  | cases h
  | skip
 ·simp at h; rw [h]
 ·simp at h; rw [h.1, h.2]
 ·rename_i s t
  simp only [Bool.and_eq_true] at h
  have h1 := Nat.eq_of_beq_eq_true h.1
  have h2 := Nat.eq_of_beq_eq_true h.2
  have : s = t := by
   apply ByteArray.ext
   have e1 : s.data = #[] := Array.eq_empty_of_size_eq_zero h1
   have e2 : t.data = #[] := Array.eq_empty_of_size_eq_zero h2
   rw [e1, e2]
  rw [this]
 ·rename_i x a b y c d
  cases x <;> cases y <;> first | cases h | skip
  simp only [Bool.and_eq_true] at h
  rw [Nat.eq_of_beq_eq_true h.1, Nat.eq_of_beq_eq_true h.2]
theorem Jb : ∀ {a b : List Value}, Df a b = true -> a = b
 | [], [], _ => rfl
 | [], _ :: _, h => by simp [Df] at h
 | _ :: _, [], h => by simp [Df] at h
 | a :: r, b :: s, h => by
   simp only [Df, Bool.and_eq_true] at h
   rw [Ol h.1, Jb h.2]
def uf : List (Nat × Nat) -> List (Nat × Nat) -> Bool
 | [], [] => true
 | a :: r, b :: s => Nat.beq a.1 b.1 && Nat.beq a.2 b.2 && uf r s
 | _, _ => false
theorem DU : ∀ {a b : List (Nat × Nat)}, uf a b = true -> a = b
 | [], [], _ => rfl
 | [], _ :: _, h => by simp [uf] at h
 | _ :: _, [], h => by simp [uf] at h
 | (a1, a2) :: r, (b1, b2) :: s, h => by
   simp only [uf, Bool.and_eq_true] at h
   obtain ⟨⟨h1, h2⟩, h3⟩ := h
   have e1 : a1 = b1 := Nat.eq_of_beq_eq_true h1
   have e2 : a2 = b2 := Nat.eq_of_beq_eq_true h2
   rw [e1, e2, DU h3]
def tdB (d : TypeDesc) (t : TD) : Bool := match d, t with
 | .bool, .bool => true
 | .int k, .int k' => k == k'
 | .string, .str => true
 | .slice e, .slice e' => Nat.beq e e'
 | .array n e, .array n' e' => Nat.beq n n' && Nat.beq e e'
 | .struct fs, .struct l => uf (fs.toList.map fun f => (f.offset, f.type)) l
 | .pointer e, .ptr e' => Nat.beq e e'
 | .map k v, .map k' v' => Nat.beq k k' && Nat.beq v v'
 | .func _ _ _, .func => true
 | .interface _, .iface => true
 | _, _ => false
def FB (d : TypeDesc) (t : TD) : Prop := match t with
 | .bool => d = .bool
 | .int k => d = .int k
 | .str => d = .string
 | .slice e => d = .slice e
 | .array n e => d = .array n e
 | .struct l => ∃ fs, d = .struct fs /\ fs.toList.map (fun f => (f.offset, f.type)) = l
 | .ptr e => d = .pointer e
 | .map k v => d = .map k v
 | .func => ∃ a b v, d = .func a b v
 | .iface => ∃ m, d = .interface m
 | .other => False
theorem Om {d : TypeDesc} {t : TD} (h : tdB d t = true) : FB d t := by
 unfold tdB at h
 split at h <;> first
  | rfl
  | (rw [show FB _ _ = (_ = _) from rfl]; simp at h; rw [h])
  | (exact (by rw [Nat.eq_of_beq_eq_true h]; rfl))
  | (simp only [Bool.and_eq_true] at h; exact (by rw [Nat.eq_of_beq_eq_true h.1, Nat.eq_of_beq_eq_true h.2]; rfl))
  | exact ⟨_, rfl, DU h⟩
  | exact ⟨_, _, _, rfl⟩
  | exact ⟨_, rfl⟩
  | cases h
structure kJ (P : Program) (T : Nat) (t : TI) : Prop where
 mk ::
 ex : ∃ d i, P.underlying T = some d /\ P.info? T = some i /\ i.size = t.size /\ i.bytes = t.bytes /\ FB d t.d /\ (t.agg = false -> t.size = 1) /\
  (∀ y, t.ty = some y -> y.sz = t.size /\ y.isAgg = t.agg /\ ∃ z, i.zero = some z /\ z.cells.toList = aQ y /\ (y.isAgg = false -> z.oneCell' = true))
def tiB (P : Program) (T : Nat) (t : TI) : Bool := match P.underlying T, P.info? T with
 | some d, some i => (t.agg || Nat.beq t.size 1) && Nat.beq i.size t.size && Nat.beq i.bytes t.bytes && tdB d t.d && (match t.ty with
   | none => true
   | some y => Nat.beq y.sz t.size && (y.isAgg == t.agg) && (match i.zero with
     | some z => Df z.cells.toList (aQ y) && (y.isAgg || z.oneCell')
     | none => false))
 | _, _ => false
theorem Oo {P : Program} {T : Nat} {t : TI} (h : tiB P T t = true) : kJ P T t := by
 unfold tiB at h
 split at h
 ·rename_i d i hd hi
  simp only [Bool.and_eq_true] at h
  obtain ⟨⟨⟨⟨h0, h1⟩, h2⟩, h3⟩, h4⟩ := h
  refine ⟨d, i, hd, hi, Nat.eq_of_beq_eq_true h1, Nat.eq_of_beq_eq_true h2, Om h3, fun ha => ?_, fun y hy => ?_⟩
  ·rw [ha, Bool.false_or] at h0; exact Nat.eq_of_beq_eq_true h0
  rw [hy] at h4
  simp only [Bool.and_eq_true] at h4
  obtain ⟨⟨h5, h6⟩, h7⟩ := h4
  refine ⟨Nat.eq_of_beq_eq_true h5, by simpa using h6, ?_⟩
  split at h7
  ·rename_i z hz
   simp only [Bool.and_eq_true] at h7
   exact ⟨z, hz, Jb h7.1, fun ha => by have := h7.2; rw [ha, Bool.false_or] at this; exact this⟩
  ·cases h7
 ·cases h
def zm : Value -> Leaf -> Bool
 | .int k n, .int k' m => (k == k') && (n == 0) && (m == 0)
 | .bool b, .kb b' => !b && !b'
 | .string s, .str l => Nat.beq s.size 0 && l.isEmpty
 | .slice none a b, .cZ => Nat.beq a 0 && Nat.beq b 0
 | .pointer none, .dG => true
 | .nilFunc, .cO => true
 | .nilIface, .l7 => true
 | _, _ => false
def zms : List Value -> List Leaf -> Bool
 | vs, .arr 0 _ _ [] :: ls => zms vs ls
 | [], [] => true
 | v :: vs, l :: ls => zm v l && zms vs ls
 | _, _ => false
def JA (P : Program) (T : Nat) (ls : List Leaf) : Bool := match P.info? T with
 | some i => match i.zero with
   | some z => zms z.cells.toList ls
   | none => false
 | none => false
def KR (P : Program) (T : Nat) (ls : List Leaf) : Prop := ∃ i z, P.info? T = some i /\ i.zero = some z /\ zms z.cells.toList ls = true
theorem LY {P : Program} {T : Nat} {ls : List Leaf} (h : JA P T ls = true) : KR P T ls := by
 unfold JA at h
 split at h
 ·rename_i i hi
  split at h
  ·rename_i z hz; exact ⟨i, z, hi, hz, h⟩
  ·cases h
 ·cases h
def Oq (P : Program) (T : Nat) : Prop := P.stoodInHeld T = false /\ P.eqGuardType P.depth T = false /\ ∀ f ∈ (P.fieldsOf T).toList, f.name ≠ "_"
def eqB (P : Program) (T : Nat) : Bool := !(P.stoodInHeld T) && (!(P.eqGuardType P.depth T) && (P.fieldsOf T).toList.all fun f => !(f.name == "_"))
theorem Ot {P : Program} {T : Nat} (h : eqB P T = true) : Oq P T := by
 simp only [eqB, Bool.and_eq_true, Bool.not_eq_true', List.all_eq_true] at h
 exact ⟨h.1, h.2.1, fun f hf => by have := h.2.2 f hf; simpa using this⟩
structure aH (P : Program) (c : Cfg) : Prop where
 ti : ∀ T t, c.ti T = some t -> kJ P T t
 zero : ∀ T ls, c.zero T = some ls -> KR P T ls
 eqs : ∀ T, c.eqs T = true -> Oq P T
instance {P : Program} {c : Cfg} : CoeFun (aH P c) (fun _ => ∀ T t, c.ti T = some t -> kJ P T t) := ⟨aH.ti⟩
theorem jg (S : Nat -> Prop) (w : World) : ∀ t : Ty, ah S w t t.dft (aQ t)
 | .int _ => rfl
 | .bool => rfl
 | .str => rfl
 | .unit => rfl
 | .slice _ => ah.rH _ _ _
 | .arr n e => ⟨by simp [Ty.dft], List.replicate n (aQ e), by simp, rfl, fun i x ec hx he => by
    simp only [Ty.dft, List.getElem?_replicate] at hx he
    by_cases hi : i < n
    ·rw [if_pos hi] at hx he
     cases hx; cases he; exact jg S w e
    ·rw [if_neg hi] at hx; cases hx⟩
 | .pair a b => ⟨_, _, rfl, jg S w a, jg S w b⟩
theorem fB (t : Ty) : (aQ t).length = t.sz := ah.len (S := fun _ => True) (w := default) t _ _ (jg _ _ t)
theorem oG (k : IntKind) : k.min <= 0 /\ 0 <= k.max := by cases k <;> decide
theorem dZ : ∀ t : Ty, Valid t t.dft
 | .int k => oG k
 | .bool => trivial
 | .str => ⟨fun x hx => (by cases hx), Nat.zero_le _⟩
 | .unit => trivial
 | .slice e => Valid.nil e
 | .arr n e => ⟨fun x hx => (by rw [List.eq_of_mem_replicate hx]; exact dZ e), by simp [Ty.dft]⟩
 | .pair a b => ⟨dZ a, dZ b⟩
theorem qE {c : Ctx} {ι : Gh} {w : World} {M : Store} : ∀ t : Ty, aF c ι w M (uG t) (aQ t)
 | .int k => ⟨_, [], by simp [aQ], ⟨rfl, oG k⟩, rfl⟩
 | .bool => ⟨_, [], by simp [aQ], rfl, rfl⟩
 | .str => ⟨[.string ⟨#[]⟩], [], by simp [aQ], ⟨rfl, dZ .str⟩, rfl⟩
 | .unit => rfl
 | .slice _ => ⟨_, [], by simp [aQ], rfl, rfl⟩
 | .arr n e => ⟨_, [], by simp [aQ], ⟨jg _ _ (.arr n e), dZ (.arr n e)⟩, rfl⟩
 | .pair a b => (qE a).append (qE b)
theorem Ou {c : Ctx} {ι : Gh} {w : World} {M : Store} {v : Value} {l : Leaf} (h : zm v l = true) : aj c ι w M l [v] := by
 unfold zm at h
 split at h
 ·simp only [Bool.and_eq_true, beq_iff_eq] at h
  obtain ⟨⟨rfl, rfl⟩, rfl⟩ := h
  exact ⟨rfl, oG _⟩
 ·simp only [Bool.and_eq_true, Bool.not_eq_true'] at h
  obtain ⟨rfl, rfl⟩ := h
  rfl
 ·rename_i s l
  simp only [Bool.and_eq_true, List.isEmpty_iff] at h
  obtain ⟨h, rfl⟩ := h
  have h := Nat.eq_of_beq_eq_true h
  have e : s = ⟨#[]⟩ := by
   apply ByteArray.ext
   exact Array.eq_empty_of_size_eq_zero h
  subst e
  exact ⟨rfl, dZ .str⟩
 ·rename_i a b
  simp only [Bool.and_eq_true] at h
  rw [Nat.eq_of_beq_eq_true h.1, Nat.eq_of_beq_eq_true h.2]; rfl
 ·rfl
 ·rfl
 ·rfl
 ·cases h
theorem Dh {c : Ctx} {ι : Gh} {w : World} {M : Store} : ∀ {vs : List Value} {ls : List Leaf}, zms vs ls = true -> aF c ι w M ls vs
 | vs, ls, h => by
   unfold zms at h
   split at h
   ·exact ⟨[], vs, rfl, ⟨⟨rfl, [], rfl, rfl, fun i x ec hx _ => by simp at hx⟩, fun x hx => (List.not_mem_nil hx).elim, rfl⟩, Dh h⟩
   ·rfl
   ·rename_i v vs l ls _
    simp only [Bool.and_eq_true] at h
    exact ⟨[v], vs, rfl, Ou h.1, Dh h.2⟩
   ·cases h
theorem KT {k : IntKind} {n : Int} (h : inR k n = true) : Valid (.int k) n := by
 show k.min <= n /\ n <= k.max
 cases n with
 | ofNat m => cases k <;> simp only [inR, Nat.ble_eq] at h <;> simp [IntKind.min, IntKind.max, IntKind.signed, IntKind.bits] <;> omega
 | negSucc m => cases k <;> simp only [inR, Nat.ble_eq, Bool.false_eq_true] at h <;> simp [IntKind.min, IntKind.max, IntKind.signed, IntKind.bits] <;> omega
theorem Jc (s : ByteArray) : bs (s.data.toList.map fun b => (b.toNat : Int)) = s := by
 apply ByteArray.ext
 apply Array.ext'
 simp only [bs, List.map_map]
 conv => rhs; rw [<- List.map_id s.data.toList]
 refine List.map_congr_left fun b _ => ?_
 simp
theorem Ba {c : Ctx} {ι : Gh} {w : World} {M : Store} {v : Value} {l : Leaf} (h : og v = some l) : aj c ι w M l [v] := by
 cases v <;> simp only [og] at h <;> first
  | (cases h; done)
  | skip
 ·cases h; rfl
 ·rename_i k n
  cases hr : inR k n with
  | false => rw [hr] at h; cases h
  | true => rw [hr] at h; cases h; exact ⟨rfl, KT hr⟩
 ·rename_i s
  cases hb : Nat.ble s.size maxLen with
  | false => rw [hb] at h; cases h
  | true =>
  rw [hb] at h
  cases h
  refine ⟨by rw [Jc], fun x hx => ?_, ?_⟩
  ·obtain ⟨b, _, rfl⟩ := List.mem_map.1 hx
   have := b.toNat_lt
   exact ⟨by omega, by omega⟩
  ·have := (jY _ _).1 hb
   rw [List.length_map, Array.length_toList]; exact this
 ·rename_i p; cases p <;> simp only at h <;> cases h; rfl
 ·rename_i p a b
  cases p <;> cases a <;> cases b <;> simp only at h <;> first | cases h | skip
  rfl
 ·cases h; rfl
 ·cases h; rfl
end Go.Vc
