/- The evaluator goes through code: regions, tests, blocks, loops, calls that are walked into; and what is left to prove of a function. -/
import Derived.Test.YtddakledpipanaaVcSem
set_option linter.unusedVariables false
set_option linter.unusedSimpArgs false
namespace Go.Vc

structure St2 where
  s : St
  next : Nat
  ins : List Nat

def conj : List Prop → Prop → Prop
  | [], q => q
  | p :: r, q => p ∧ conj r q

/-- A test is owed only where the guards hold. -/
def under (s : St) : List (Nat × Bool) → Prop → Option Prop
  | [], p => some p
  | (d, b) :: r, p => match s.slot d with
    | some (_, .v ⟨false, [.bool x]⟩) => match under s r p with
      | some q => some (x = b → q)
      | none => none
    | _ => none
def underAll (s : St) (cs : List (Nat × Bool)) : List Prop → Option (List Prop)
  | [] => some []
  | p :: r => match under s cs.reverse p, underAll s cs r with
    | some q, some l => some (q :: l)
    | _, _ => none

/-- The tests under which an operation is done; none inside: it is not done. -/
def condsOf (ops : List Oper) (s : St) : Option (Nat × Bool) → Option (Option (List (Nat × Bool)))
  | none => some (some [])
  | some (j, b) => match ops[j]? with
    | some oj => match oj.dst with
      | some d => match s.slot d with
        | some (k, .v ⟨false, [.bool _]⟩) => some (some ((d, b) :: k))
        | some (k, .v ⟨false, [.kb b']⟩) => cond (b' == b) (some (some k)) (some none)
        | some (_, .tup []) => some none
        | _ => none
      | none => none
    | none => none

def inB : List (Option SV) → Nat → Bool
  | [], _ => false
  | _ :: _, 0 => true
  | _ :: r, i + 1 => inB r i
def freeK (d : Nat) : List (Nat × Bool) → Bool
  | [] => true
  | x :: r => cond (Nat.beq x.1 d) false (freeK d r)
def freeC (d : Nat) : List (Nat × List (Nat × Bool) × SV) → Bool
  | [] => true
  | (i, k, _) :: r => cond (Nat.beq i d) false (cond (freeK d k) (freeC d r) false)
/-- A temporary's value is known; where tests cs hold (else it is undef: an empty tuple). -/
def putSv (s : St) (cs : List (Nat × Bool)) (dst : Option Nat) (v : SV) : Option St := match dst with
  | none => some s
  | some d => cond (freeC d s.cenv) (match cs with
    | [] => some { s with env := eset s.env d (some v) }
    | _ => cond (freeK d cs && inB s.env d) (some { s with env := eset s.env d none, cenv := (d, cs, v) :: s.cenv }) none) none

def evPick (c : Cfg) (s : St) (cs : List (Nat × Bool)) (x a b : Operand) : Option Eff := match x with
  | .tmp d => match s.slot d with
    | some (k, .v ⟨false, [.kb t]⟩) => cond (subC k cs) (match opd c s cs (cond t a b) with
      | some v => some ⟨[], v, []⟩
      | none => none) none
    | some (k, .v ⟨false, [.bool t]⟩) => cond (subC k cs) (match opl c s ((d, true) :: cs) a, opl c s ((d, false) :: cs) b with
      | some la, some lb => match pickL t la lb with
        | some r => some ⟨[], .one r, []⟩
        | none => none
      | _, _ => none) none
    | _ => none
  | _ => none

def below (n : Nat) : List (Nat × Entry) → Bool
  | [] => true
  | x :: r => cond (Nat.blt x.1 n) (below n r) false
/-- One operation, its tests holding. -/
def evEff0 (c : Cfg) (s : St) (cs : List (Nat × Bool)) (nid : Nat) (o : Oper) : Option Eff := match o.op with
  | .pick x a b => evPick c s cs x a b
  | op => evOp c s cs nid op o.type
def evEff (c : Cfg) (s : St) (cs : List (Nat × Bool)) (nid : Nat) (o : Oper) : Option Eff := match evEff0 c s cs nid o with
  | some e => cond (below (nid + 8) e.upd) (some e) none
  | none => none

/-- The first free number. -/
def bump (n : Nat) : List (Nat × Entry) → Nat
  | [] => n
  | x :: r => bump (cond (Nat.ble n x.1) (x.1 + 1) n) r
/-- One operation of a region: what is owed, and the state behind it. -/
def stepOp (c : Cfg) (ops : List Oper) (s : St2) (o : Oper) : Option (List Prop × St2) := match condsOf ops s.s o.guard with
  | some (some cs) => match evEff c s.s cs s.next o with
    | some e => match cs, e.upd with
      | [], u => match putSv { s.s with M := s.s.M.upds u } [] o.dst e.sv with
        | some t => some (e.pre, { s with s := t, next := bump s.next e.upd })
        | none => none
      | _ :: _, [] => match underAll s.s cs e.pre, putSv s.s cs o.dst e.sv with
        | some ps, some t => some (ps, { s with s := t })
        | _, _ => none
      | _, _ => none
    | none => none
  | some none => match putSv s.s [] o.dst (.tup []) with
    | some t => some ([], { s with s := t })
    | none => none
  | none => none

/-- A test is known from here on. -/
def delC (d : Nat) (b : Bool) : List (Nat × Bool) → Option (List (Nat × Bool))
  | [] => some []
  | (i, x) :: r => cond (Nat.beq i d) (cond (x == b) (delC d b r) none) (match delC d b r with | some l => some ((i, x) :: l) | none => none)
def learn (d : Nat) (b : Bool) (s : St) : St :=
  { s with env := go s.cenv (eset s.env d (some (.one (.kb b)))), cenv := keep s.cenv }
where
  go : List (Nat × List (Nat × Bool) × SV) → List (Option SV) → List (Option SV)
    | [], env => env
    | (i, k, v) :: r, env => match delC d b k with
      | some [] => cond (Nat.beq i d) (go r env) (eset (go r env) i (some v))
      | none => cond (Nat.beq i d) (go r env) (eset (go r env) i (some (.tup [])))
      | _ => go r env
  keep : List (Nat × List (Nat × Bool) × SV) → List (Nat × List (Nat × Bool) × SV)
    | [] => []
    | (i, k, v) :: r => match delC d b k with
      | some (x :: l) => cond (Nat.beq i d) (keep r) ((i, x :: l, v) :: keep r)
      | _ => keep r
/-- Whether all the tests hold (the last one is asked first). -/
def split : List (Nat × Bool) → St → (Bool → St → Prop) → Prop
  | [], s, K => K true s
  | (d, b) :: r, s, K => split r s fun ok s' => match ok with
    | false => K false s'
    | true => match eget s'.env d with
      | some (.v ⟨false, [.bool x]⟩) => cond x (K b (learn d true s')) (K (!b) (learn d false s'))
      | some (.v ⟨false, [.kb x]⟩) => K (x == b) s'
      | _ => False

/-- A call that is walked into. -/
structure Want where
  f : Nat
  args : List V

def wantOf (c : Cfg) (s : St) (cs : List (Nat × Bool)) : Op → Option Want
  | .call ⟨.value f, args, _⟩ => match opl c s cs f, evArgs c s cs args.toList with
    | some (.fn g caps), some vs => some ⟨g, vs ++ caps.map fun i => one (.ptr i 0)⟩
    | _, _ => none
  | _ => none

/-- A slice held against nil: is it ==, its length, is it nil for sure. -/
def nilLen : Leaf → Option (Nat × Bool)
  | .psl _ _ l => some (l.length, false)
  | .nils => some (0, true)
  | _ => none
def nilTest (c : Cfg) (s : St) : Op → Option (Bool × Nat × Bool)
  | .binOp .eql T x (.const (.slice none 0 0)) _ => match cond (isSlT c T) (opl c s [] x) none with
    | some l => match nilLen l with
      | some (n, k) => some (true, n, k)
      | none => none
    | none => none
  | .binOp .neq T x (.const (.slice none 0 0)) _ => match cond (isSlT c T) (opl c s [] x) none with
    | some l => match nilLen l with
      | some (n, k) => some (false, n, k)
      | none => none
    | none => none
  | _ => none

abbrev Inl := Nat → List V → St2 → (SV → St2 → Prop) → Prop

def goOn (s : Option St) (f : St → Prop) : Prop := match s with
  | some t => f t
  | none => False
/-- An operation that is no single step: a call that is walked into, memory that is made or changed under a guard. -/
def slow (c : Cfg) (inl : Inl) (ops : List Oper) (o : Oper) (s : St2) (K : St2 → Prop) : Prop := match condsOf ops s.s o.guard with
  | some (some cs) => split cs s.s fun ok s' => match ok with
    | false => goOn (putSv s' [] o.dst (.tup [])) fun t => K { s with s := t }
    | true => match evEff c s' [] s.next o with
      | some e => conj e.pre (goOn (putSv { s' with M := s'.M.upds e.upd } [] o.dst e.sv) fun t => K { s with s := t, next := bump s.next e.upd })
      | none => match nilTest c s' o.op with
        | some (eq, n, k) => ∀ nb : Bool, (nb = true → n = 0) → (k = true → nb = true) → goOn (putSv s' [] o.dst (.one (.bool (cond eq nb (!nb))))) fun t => K { s with s := t }
        | none => match wantOf c s' [] o.op with
        | some w => inl w.f w.args { s with s := { s' with env := [], cenv := [] } } fun v s'' => goOn (putSv { s' with M := s''.s.M } [] o.dst v) fun t => K { s'' with s := t }
        | none => False
  | _ => False

/-- The operations of a region, one behind the other. -/
def runOps (c : Cfg) (inl : Inl) (ops : List Oper) : List Oper → St2 → (St2 → Prop) → Prop
  | [], s, K => K { s with s := { s.s with cenv := [] } }
  | o :: r, s, K => match stepOp c ops s o with
    | some (ps, s') => conj ps (runOps c inl ops r s' K)
    | none => slow c inl ops o s fun s' => runOps c inl ops r s' K

def nodup1 : List Nat → Bool
  | [] => true
  | x :: r => !(mem1 x r) && nodup1 r
def allIn (ids : List Nat) : List Nat → Bool
  | [] => true
  | x :: r => cond (mem1 x ids) (allIn ids r) false
/-! ### regions whose order is open: each operation out of what is sure to lie behind it -/
structure Rec where
  dst : Option Nat
  cs : Option (List (Nat × Bool))
  e : Eff
/-- The operations that one waits for. -/
def dirOf (o : Oper) : List Nat := (o.after.toList.filter fun e => Region.binds .any e).map (·.on)
def bitB (m p : Nat) : Bool := Nat.beq (Nat.land 1 (Nat.shiftRight m p)) 1
def maskOf (acc : List Nat) : List Nat → Option Nat
  | [] => some 0
  | p :: r => match acc[p]?, maskOf acc r with
    | some m, some n => some (Nat.lor (Nat.lor (Nat.shiftLeft 1 p) m) n)
    | _, _ => none
/-- For each operation: those that are sure to lie behind it, as bits. -/
def masksOf : List Oper → List Nat → Option (List Nat)
  | [], acc => some acc
  | o :: r, acc => match maskOf acc (dirOf o) with
    | some m => masksOf r (acc ++ [m])
    | none => none
def evRec (c : Cfg) (ops : List Oper) (s : St) (nid : Nat) (o : Oper) : Option Rec := match condsOf ops s o.guard with
  | some (some cs) => match evEff c s cs nid o with
    | some e => match cs, e.upd with
      | [], _ => some ⟨o.dst, some [], e⟩
      | _ :: _, [] => match underAll s cs e.pre with
        | some ps => some ⟨o.dst, some cs, ⟨ps, e.sv, []⟩⟩
        | none => none
      | _, _ => none
    | none => none
  | some none => some ⟨o.dst, none, ⟨[], .tup [], []⟩⟩
  | none => none
def addRec (s : St) (r : Rec) : St := match r.dst with
  | none => { s with M := s.M.upds r.e.upd }
  | some d => match r.cs with
    | some (x :: cs) => ⟨eset s.env d none, (d, x :: cs, r.e.sv) :: s.cenv, s.M.upds r.e.upd⟩
    | _ => ⟨eset s.env d (some r.e.sv), s.cenv, s.M.upds r.e.upd⟩
def foldRecs (m : Nat) : Nat → List Rec → St → St
  | _, [], s => s
  | j, r :: l, s => foldRecs m (j + 1) l (cond (bitB m j) (addRec s r) s)
def Store.del : Store → List Nat → Store
  | [], _ => []
  | (i, e) :: r, ids => cond (mem1 i ids) (Store.del r ids) ((i, e) :: Store.del r ids)
/-- The entries that operations may change that lie neither ahead of number k nor behind it. -/
def unordIds (masks : List Nat) (m k : Nat) : Nat → List (List Nat) → List Nat
  | _, [] => []
  | j, u :: l => cond (Nat.beq j k || bitB m j || (match masks[j]? with | some mj => bitB mj k | none => false)) (unordIds masks m k (j + 1) l) (u ++ unordIds masks m k (j + 1) l)
def pass1 (c : Cfg) (ops : List Oper) : List Oper → Nat → St → Option (List (List Nat))
  | [], _, _ => some []
  | o :: r, nid, s => match evRec c ops s nid o with
    | some rc => match pass1 c ops r (nid + 8) (addRec s rc) with
      | some l => some (rc.e.upd.map (·.1) :: l)
      | none => none
    | none => none
def stAt (base : St) (masks : List Nat) (U : List (List Nat)) (acc : List Rec) (m k : Nat) : St :=
  let s := foldRecs m 0 acc base
  { s with M := s.M.del (unordIds masks m k 0 U) }
def dstB (d : Nat) : Option Nat → Bool
  | some x => Nat.beq x d
  | none => false
def dstIn (m d : Nat) : Nat → List Rec → Bool
  | _, [] => false
  | j, r :: l => cond (bitB m j && dstB d r.dst) true (dstIn m d (j + 1) l)
def csIn (m : Nat) (acc : List Rec) : List (Nat × Bool) → Bool
  | [] => true
  | x :: r => cond (dstIn m x.1 0 acc) (csIn m acc r) false
def csIn1 (m : Nat) (acc : List Rec) : Option (List (Nat × Bool)) → Bool
  | some cs => csIn m acc cs
  | none => true
/-- entries that were there ahead of the region, or are this operation's own, or of one that is sure to lie behind it -/
def rangeB (m n0 n : Nat) : List Nat → Bool
  | [] => true
  | x :: r => cond (Nat.blt x n0 || Nat.ble n x || bitB m (Nat.div (Nat.sub x n0) 8)) (rangeB m n0 n r) false
def noEnv : List Nat → List (Option SV) → List (Option SV)
  | [], env => env
  | d :: r, env => noEnv r (eset env d none)
/-- The temporaries that operations write that do not surely lie behind number k. -/
def dstsK (k : Nat) : List Oper → List Nat → List Nat
  | [], _ => []
  | o :: r, [] => (match o.dst with | some d => [d] | none => []) ++ dstsK k r []
  | o :: r, m :: ms => cond (bitB m k) (dstsK k r ms) ((match o.dst with | some d => [d] | none => []) ++ dstsK k r ms)
def wipe (ops : List Oper) (masks : List Nat) (k : Nat) (s : St) : St := ⟨noEnv (dstsK k ops masks) s.env, s.cenv, s.M⟩
def pass2 (c : Cfg) (ops : List Oper) (base : St) (masks : List Nat) (U : List (List Nat)) (nid : Nat) : List Oper → Nat → List Rec → Option (List Rec)
  | [], _, acc => some acc
  | o :: r, k, acc => match masks[k]?, U[k]? with
    | some m, some u => match evRec c ops (stAt (wipe ops masks k base) masks U acc m k) (nid + 8 * k) o with
      | some rc => cond (allIn u (rc.e.upd.map (·.1)) && (csIn1 m acc rc.cs && rangeB m nid (nid + 8 * k) (rc.e.upd.map (·.1)))) (pass2 c ops base masks U nid r (k + 1) (acc ++ [rc])) none
      | none => none
    | _, _ => none
def apartIds (u : List Nat) : List Nat → Bool
  | [] => true
  | x :: r => cond (mem1 x u) false (apartIds u r)
/-- Of two that change one entry one waits for the other. -/
def pairsB1 (m : Nat) (u : List Nat) : Nat → List (List Nat) → Bool
  | _, [] => true
  | k, v :: l => cond (bitB m k || apartIds u v) (pairsB1 m u (k + 1) l) false
def pairsB (masks : List Nat) (U : List (List Nat)) : Nat → List (List Nat) → Bool
  | _, [] => true
  | j, u :: l => match masks[j]? with
    | some m => cond (pairsB1 m u 0 (U.take j)) (pairsB masks U (j + 1) l) false
    | none => false
def dstsOf : List Oper → List Nat
  | [] => []
  | o :: r => match o.dst with
    | some d => d :: dstsOf r
    | none => dstsOf r
def allInB (env : List (Option SV)) : List Nat → Bool
  | [] => true
  | d :: r => cond (inB env d) (allInB env r) false
/-- A region whose order is open: what is owed, and the state behind it. -/
def drawn (c : Cfg) (ops : List Oper) (s : St2) : Option (List Prop × St2) := match s.s.cenv with
  | _ :: _ => none
  | [] => match masksOf ops [], pass1 c ops ops s.next s.s with
    | some masks, some U => cond (pairsB masks U 0 U && nodup1 (dstsOf ops) && allInB s.s.env (dstsOf ops))
      (match pass2 c ops ⟨s.s.env, [], s.s.M⟩ masks U s.next ops 0 [] with
      | some recs => let t := foldRecs (2 ^ ops.length - 1) 0 recs ⟨noEnv (dstsOf ops) s.s.env, [], s.s.M⟩
        some (recs.flatMap (·.e.pre), { s with s := { t with cenv := [] }, next := bump s.next (recs.flatMap (·.e.upd)) })
      | none => none) none
    | _, _ => none

def maskFrom (keep : List Nat) (f : Nat → Nat) : Nat → List (Option SV) → List (Option SV)
  | _, [] => []
  | i, x :: r => cond (mem1 i keep) (match x with | some v => some (renSV f v) | none => none) none :: maskFrom keep f (i + 1) r
def refsSV : SV → List Nat
  | .v x => refsLs x.ls
  | .tup l => l.flatMap fun x => refsLs x.ls
def refsKeep (env : List (Option SV)) : List Nat → List Nat
  | [] => []
  | i :: r => (match eget env i with | some v => refsSV v | none => []) ++ refsKeep env r
/-- What is known of a loop's head: the variables that live on; nil slices that begin rows: in a variable (its elements' type), in an object behind one. -/
structure Keep where
  keep : List Nat
  wake : List (Nat × Nat) := []
  wakeO : List (Nat × Nat × Nat) := []
  /-- what is told as plain data (of a type): a variable; what lies in an object behind one, from a cell on -/
  calm : List (Nat × Nat) := []
  calmO : List (Nat × Nat × Nat) := []
def wake1 (c : Cfg) (s : St2) (x : Nat × Nat) : St2 := match eget s.s.env x.1, c.ti x.2 with
  | some (.v ⟨false, [.nils]⟩), some ⟨_, _, _, some t⟩ =>
    { s with s := { s.s with env := eset s.s.env x.1 (some (.one (.own s.next))), M := s.s.M.set s.next (.row x.2 t true true []) }, next := s.next + 1 }
  | _, _ => s
def wakeO1 (c : Cfg) (s : St2) (x : Nat × Nat × Nat) : St2 := match eget s.s.env x.1, c.ti x.2.2 with
  | some (.v ⟨false, [.ptr id _]⟩), some ⟨_, _, _, some t⟩ => match s.s.M.get id with
    | some (.obj ls) => match lget ls x.2.1 1, lset ls x.2.1 1 [.own s.next] with
      | some [.nils], some ls' => cond (shapeB ls ls') { s with s := { s.s with M := (s.s.M.set s.next (.row x.2.2 t true true [])).set id (.obj ls') }, next := s.next + 1 } s
      | _, _ => s
    | _ => s
  | _, _ => s
/-- A variable, or some of an object's leaves, as plain data. -/
def calm1 (c : Cfg) (s : St2) (x : Nat × Nat) : St2 := match eget s.s.env x.1, c.ti x.2 with
  | some (.v v), some ⟨_, _, _, some t⟩ => match implode s.s.M t v.ls with
    | some im => match im.rest with
      | [] => cond (v.agg == t.isAgg) { s with s := { s.s with env := eset s.s.env x.1 (some (.v (.of false t im.x))), M := s.s.M.upds im.frz } } s
      | _ => s
    | none => s
  | _, _ => s
def calmO1 (c : Cfg) (s : St2) (x : Nat × Nat × Nat) : St2 := match eget s.s.env x.1, c.ti x.2.2 with
  | some (.v ⟨false, [.ptr id _]⟩), some ⟨_, _, _, some t⟩ => match s.s.M.get id with
    | some (.obj ls) => match lget ls x.2.1 t.sz with
      | some r => match implode s.s.M t r with
        | some im => match im.rest, lset ls x.2.1 t.sz (explode false t im.x) with
          | [], some ls' => cond (shapeB ls ls' && im.frz.all fun p => !(Nat.beq p.1 id)) { s with s := { s.s with M := (s.s.M.upds im.frz).set id (.obj ls') } } s
          | _, _ => s
        | none => s
      | none => s
    | _ => s
  | _, _ => s
def okAt (M : Store) (ids : List Nat) (x : Nat) : Bool := match M.get x with
  | some e => allIn ids (refsE e)
  | none => true
def closedB (M : Store) (ids : List Nat) : List Nat → Bool
  | [] => true
  | x :: r => cond (okAt M ids x) (closedB M ids r) false
/-- What is kept, its entries numbered anew. -/
def renum (keep ids : List Nat) (s : St2) : St2 :=
  { s := { env := maskFrom keep (fun i => posOf i ids) 0 s.s.env, cenv := [], M := numFrom 0 (ids.map fun i => match s.s.M.get i with | some e => renE (fun i => posOf i ids) e | none => .dead) },
    next := ids.length, ins := s.ins }
def refsLow (M : Store) : List Nat → List Nat
  | [] => []
  | i :: r => (match M.get i with | some e => refsE e | none => []) ++ refsLow M r
/-- Entries below n0 keep their numbers. -/
def canon1 (n0 : Nat) (keep : List Nat) (s : St2) : St2 :=
  let ids := reach s.s.M 400 (List.range n0) (refsLow s.s.M (List.range n0) ++ refsKeep s.s.env keep)
  cond (nodup1 ids && (allIn ids (refsKeep s.s.env keep) && closedB s.s.M ids ids)) (renum keep ids s) { s with s := { env := [], cenv := [], M := s.s.M } }
def softL : Leaf → Leaf
  | .kb b => .bool b
  | l => l
def softV (v : V) : V := ⟨v.agg, v.ls.map softL⟩
def softSV : SV → SV
  | .v x => .v (softV x)
  | .tup l => .tup (l.map softV)
def softE : Entry → Entry
  | .obj ls => .obj (ls.map softL)
  | e => e
def softO : Option SV → Option SV
  | some v => some (softSV v)
  | none => none
def softM : Store → Store
  | [] => []
  | (i, e) :: r => (i, softE e) :: softM r
/-- Bools that are known are bools. -/
def soft (s : St2) : St2 := { s with s := { env := s.s.env.map softO, cenv := [], M := softM s.s.M } }
/-- The state at a loop's head. -/
def canon (c : Cfg) (n0 : Nat) (k : Keep) (s0 : St2) : St2 := soft (canon1 n0 k.keep (k.calmO.foldl (calmO1 c) (k.calm.foldl (calm1 c) (k.wakeO.foldl (wakeO1 c) (k.wake.foldl (wake1 c) s0)))))

/-- What is told of a loop ahead: what its head's state is made of (X, st), what holds there, and what falls. -/
structure Loop where
  k : Keep
  X : Type
  st : X → St2
  /-- what holds at each round's beginning, of the state in which the loop was entered and the one now -/
  I : X → X → Prop
  mu : X → Nat
/-- Behind a round. -/
def roundK (c : Cfg) (n0 : Nat) (l : Loop) (x0 x : l.X) (K : Exit → St2 → Prop) : Exit → St2 → Prop
  | .normal, s => ∃ y, canon c n0 l.k s = l.st y ∧ l.I x0 y ∧ l.mu y < l.mu x
  | e, s => K e s

def firstReg : Code → Nat
  | .region id _ _ => id
  | .seq a b => match firstReg a with
    | 0 => firstReg b
    | k => k
  | .cond _ a b => match firstReg a with
    | 0 => firstReg b
    | k => k
  | .block _ b => firstReg b
  | .loop b => firstReg b
  | _ => 0

def thenK (K1 : St2 → Prop) (K : Exit → St2 → Prop) : Exit → St2 → Prop
  | .normal, s => K1 s
  | e, s => K e s
def blockK (id : Nat) (K : Exit → St2 → Prop) : Exit → St2 → Prop
  | .exit i, s => cond (Nat.beq i id) (K .normal s) (K (.exit i) s)
  | e, s => K e s

section
variable (c : Cfg) (inl : Inl) (keep : Nat → Option Loop) (n0 : Nat)
/-- What is owed from code on, K behind it. -/
def vc : Code → St2 → (Exit → St2 → Prop) → Prop
  | .skip, s, K => K .normal s
  | .region _ ops false, s, K => runOps c inl ops.toList ops.toList s fun s' => K .normal s'
  | .region _ ops true, s, K => match drawn c ops.toList s with
    | some (ps, s') => conj ps (K .normal s')
    | none => False
  | .seq a b, s, K => vc a s (thenK (fun s' => vc b s' K) K)
  | .cond x a b, s, K => match opb c s.s [] x with
    | some t => cond t (vc a s K) (vc b s K)
    | none => False
  | .block id b, s, K => vc b s (blockK id K)
  | .loop b, s, K => match keep (firstReg b) with
    | some l => ∃ x0, (canon c n0 l.k s = l.st x0 ∧ l.I x0 x0) ∧ ∀ x, l.I x0 x → vc b (l.st x) (roundK c n0 l x0 x K)
    | none => False
  | .exit id, s, K => K (.exit id) s
  | .ret, s, K => K .ret s
  | .label _, s, K => K .normal s
  | _, _, _ => False
end

/-- A function's results, out of its variables. -/
def resultV (c : Cfg) (s : St) : ResultVar → Option V
  | .tmp t => match eget s.env t with
    | some (.v x) => some x
    | _ => none
  | .cell t T => match eget s.env t, c.ti T with
    | some (.v ⟨false, [.ptr id off]⟩), some ti => match s.M.get id with
      | some (.obj ls) => match lget ls off ti.size with
        | some r => some ⟨ti.agg, r⟩
        | none => none
      | _ => none
    | _, _ => none
def resultsV (c : Cfg) (s : St) : List ResultVar → Option (List V)
  | [] => some []
  | r :: l => match resultV c s r, resultsV c s l with
    | some v, some vs => some (v :: vs)
    | _, _ => none
def resultSV (c : Cfg) (s : St) (rs : List ResultVar) : Option SV := match resultsV c s rs with
  | some [v] => some (.v v)
  | some vs => some (.tup vs)
  | none => none

def padTo (n : Nat) (l : List (Option SV)) : List (Option SV) := l ++ List.replicate (n - l.length) none
def argsEnv (n : Nat) (args : List V) : List (Option SV) := padTo n (args.map fun v => some (.v v))

def noKeep : Nat → Nat → Option Loop := fun _ _ => none
/-- A callee, walked into d deep. -/
def inlN (P : Program) (c : Cfg) (L : Nat → Nat → Option Loop) : Nat → Inl
  | 0 => fun _ _ _ _ => False
  | d + 1 => fun f args s K => match P.funcs[f]? with
    | some fn => match cond (fn.name == "runtime.NumGoroutine") none fn.body with
      | some b => vc c (inlN P c L d) (L f) s.next b { s with s := { s.s with env := argsEnv fn.ntmps args, cenv := [] } } fun e s' => match e with
        | .ret | .normal => match resultSV c s'.s fn.results.toList with
          | some v => K v s'
          | none => False
        | _ => False
      | none => False
    | none => False

/-! ### What a function owes -/
structure Mt where
  ps : List Prop
  bind : List (Nat × Nat)   -- an expected entry, and the one that it is
  gone : List Nat           -- rows that are told as plain data

def matchL (M : Store) : Leaf → Leaf → Option Mt
  | .int k x, .int k' y => if k = k' then some ⟨[x = y], [], []⟩ else none
  | .bool x, .bool y => some ⟨[x = y], [], []⟩
  | .kb x, .bool y => some ⟨[x = y], [], []⟩
  | .str x, .str y => some ⟨[x = y], [], []⟩
  | .psl fr t l, .psl fr' t' l' => if h : t = t' then cond (!fr' || fr) (some ⟨[(h ▸ l : List t'.den) = l'], [], []⟩) none else none
  | .nils, .psl _ _ l' => some ⟨[[] = l'], [], []⟩
  | .own id, .psl fr' t' l' => match M.get id with
    | some (.row _ t fr _ l) | some (.frz t fr l) => if h : t = t' then cond (!fr' || fr) (some ⟨[(h ▸ l : List t'.den) = l'], [], [id]⟩) none else none
    | _ => none
  | .sl id lo n, .psl fr' t' l' => match M.get id with
    | some (.row _ t fr _ l) | some (.frz t fr l) => if h : t = t' then cond (!fr' || fr) (some ⟨[((h ▸ l : List t'.den).drop lo).take n = l'], [], [id]⟩) none else none
    | _ => none
  | .arr n fr t l, .arr n' fr' t' l' => if h : t = t' then (if n = n' then cond (!fr' || fr) (some ⟨[(h ▸ l : List t'.den) = l'], [], []⟩) none else none) else none
  | .own id, .own j => some ⟨[], [(j, id)], []⟩
  | .ptr id o, .ptr j o' => cond (Nat.beq o o') (some ⟨[], [(j, id)], []⟩) none
  | .nils, .nils => some ⟨[], [], []⟩
  | .nilp, .nilp => some ⟨[], [], []⟩
  | .nilf, .nilf => some ⟨[], [], []⟩
  | .nili, .nili => some ⟨[], [], []⟩
  | _, _ => none
def Mt.join : Option Mt → Option Mt → Option Mt
  | some a, some b => some ⟨a.ps ++ b.ps, a.bind ++ b.bind, a.gone ++ b.gone⟩
  | _, _ => none
def matchLs (M : Store) : List Leaf → List Leaf → Option Mt
  | [], [] => some ⟨[], [], []⟩
  | a :: r, b :: s => Mt.join (matchL M a b) (matchLs M r s)
  | _, _ => none
def matchV (M : Store) (a b : V) : Option Mt := cond (a.agg == b.agg) (matchLs M a.ls b.ls) none
def matchVs (M : Store) : List V → List V → Option Mt
  | [], [] => some ⟨[], [], []⟩
  | a :: r, b :: s => Mt.join (matchV M a b) (matchVs M r s)
  | _, _ => none
def matchSV (M : Store) : SV → SV → Option Mt
  | .v a, .v b => matchV M a b
  | .tup a, .tup b => matchVs M a b
  | _, _ => none
def matchE (M : Store) : Entry → Entry → Option Mt
  | .row e t fr ap l, .row e' t' fr' ap' l' => if h : t = t' then cond (Nat.beq e e' && (!fr' || fr) && (ap' == ap)) (some ⟨[(h ▸ l : List t'.den) = l'], [], []⟩) none else none
  | .obj a, .obj b => matchLs M a b
  | _, .dead => some ⟨[], [], []⟩
  | .frz t fr l, .frz t' fr' l' => if h : t = t' then cond (!fr' || fr) (some ⟨[(h ▸ l : List t'.den) = l'], [], []⟩) none else none
  | _, _ => none
def lookup1 (j : Nat) : List (Nat × Nat) → Option Nat
  | [] => none
  | (i, x) :: r => cond (Nat.beq i j) (some x) (lookup1 j r)
/-- Entries j, j + 1, .. as expected; what they lead to may bind more. -/
def matchEs (M : Store) : Nat → List Entry → Mt → Option Mt
  | _, [], m => some m
  | j, e :: r, m => match lookup1 j m.bind with
    | some id => match M.get id with
      | some a => match matchE M a e with
        | some x => matchEs M (j + 1) r ⟨m.ps ++ x.ps, m.bind ++ x.bind, m.gone ++ x.gone⟩
        | none => none
      | none => none
    | none => match e with
      | .dead => matchEs M (j + 1) r m
      | _ => none
def dedup (acc : List (Nat × Nat)) : List (Nat × Nat) → Option (List (Nat × Nat))
  | [] => some acc
  | (j, i) :: r => match lookup1 j acc with
    | some i' => cond (Nat.beq i i') (dedup acc r) none
    | none => dedup (acc ++ [(j, i)]) r
def retOk0 (s : St2) (v : SV) (d : Done) : Prop :=
  match matchSV s.s.M v d.res with
  | some m => match matchEs s.s.M 0 (d.back ++ d.made) ⟨m.ps, zipI (List.range s.ins.length) s.ins ++ m.bind, m.gone⟩ with
    | some m => match dedup [] m.bind with
      | some b => cond (nodup1 (b.map (·.2)) && ((m.gone.all fun i => !(mem1 i (b.map (·.2)))) && b.all fun p => Nat.blt p.1 (d.back.length + d.made.length))) (conj m.ps True) False
      | none => False
    | none => False
  | none => False

def noIns (s : St2) (d : Done) : Bool := match d.back, s.ins with
  | [], _ :: _ => false
  | _, _ => true
def retOk (s : St2) (v : SV) (d : Done) : Prop := cond (noIns s d) (retOk0 s v d) False

def retK (c : Cfg) (rs : List ResultVar) (d : Done) : Exit → St2 → Prop := fun e s => match e with
  | .ret | .normal => match resultSV c s.s rs with
    | some v => retOk s v d
    | none => False
  | _ => False

def startSt (n : Nat) (args : List V) (es : List Entry) : St2 :=
  { s := { env := argsEnv n args, cenv := [], M := numFrom 0 es }, next := es.length, ins := List.range es.length }

/-- What is owed of a function called with args, the entries es handed over, if it is to do d. -/
def Owes (P : Program) (c : Cfg) (L : Nat → Nat → Option Loop) (f : Nat) (args : List V) (es : List Entry) (d : Done) : Prop :=
  match P.funcs[f]? with
  | some fn => match cond (fn.name == "runtime.NumGoroutine") none fn.body with
    | some b => vc c (inlN P c L 6) (L f) es.length b (startSt fn.ntmps args es) (retK c fn.results.toList d)
    | none => False
  | none => False

end Go.Vc
