/- The interpreter: its instructions, what they do to abstract values, and the translation of loaded code to them: plain definitions, over any program. -/
import Derived.Test.YtcnohiofldkcoabAbVal
namespace Go.Ab
open Go

/-- The work on data; a proof may take it as it stands, or as a variable. -/
structure Ops where
  iadd : IntKind → Int → Int → Int
  isub : IntKind → Int → Int → Int
  imul : IntKind → Int → Int → Int
  iquo : IntKind → Int → Int → Int
  irem : Int → Int → Int
  ibit : BinOp → IntKind → Int → Int → Int
  ishl : IntKind → Int → Int → Int
  ishr : IntKind → Int → Int → Int
  iwrap : IntKind → Int → Int
  ieq : Int → Int → Bool
  ilt : Int → Int → Bool
  ile : Int → Int → Bool
  beq : Bool → Bool → Bool
  seq : ByteArray → ByteArray → Bool
  slt : ByteArray → ByteArray → Bool
  sapp : ByteArray → ByteArray → Option ByteArray
  slen : ByteArray → Int
  sget : ByteArray → Int → Option Int
  ssub : ByteArray → Int → Int → Option ByteArray
  llen : List AV → Int
  lget : List AV → Int → Option AV
  lset : List AV → Int → AV → List AV
  lapp : List AV → List AV → List AV
  lsub : List AV → Int → Int → Option (List AV)
  lput : List AV → Int → List AV → List AV
  lfil : List AV → Int → Int → AV → List AV
  room : Nat → List AV → List AV → Bool

def Ops.std : Ops where
  iadd k a b := k.wrap (a + b)
  isub k a b := k.wrap (a - b)
  imul k a b := k.wrap (a * b)
  iquo k a b := k.wrap (a.tdiv b)
  irem a b := a.tmod b
  ibit op k a b := Go.bits op k a b
  ishl k a n := k.wrap (a * 2 ^ (min n.toNat k.bits))
  ishr k a n := a.fdiv (2 ^ (min n.toNat k.bits))
  iwrap k a := k.wrap a
  ieq a b := decide (a = b)
  ilt a b := decide (a < b)
  ile a b := decide (a ≤ b)
  beq a b := a == b
  seq a b := decide (a.data.toList = b.data.toList)
  slt a b := Op.bytesLess a.data.toList b.data.toList
  sapp a b := if a.size + b.size ≤ 9223372036854775807 then some (a ++ b) else none
  slen a := a.size
  sget a i := if 0 ≤ i then (a[i.toNat]?).map fun c => (c.toNat : Int) else none
  ssub a lo hi := if 0 ≤ lo ∧ lo ≤ hi ∧ hi ≤ a.size then some (a.extract lo.toNat hi.toNat) else none
  llen xs := xs.length
  lget xs i := if 0 ≤ i then xs[i.toNat]? else none
  lset xs i v := xs.set i.toNat v
  lapp xs ys := xs ++ ys
  lsub xs lo hi := if 0 ≤ lo ∧ lo ≤ hi ∧ hi ≤ xs.length then some ((xs.take hi.toNat).drop lo.toNat) else none
  lput xs i ys := xs.take i.toNat ++ ys ++ xs.drop (i.toNat + ys.length)
  lfil xs lo hi z := xs.take lo.toNat ++ List.replicate (hi.toNat - lo.toNat) z ++ xs.drop hi.toNat
  room bytes xs ys := decide ((xs.length + ys.length) * bytes ≤ 140737488355328) && decide (xs.length + ys.length ≤ maxLen)

/-- An operand. -/
inductive Od where
  | t (n : Nat)
  | c (v : AV)
  deriving Inhabited

/-- Scalars: what their '==' asks of the type. -/
inductive Cls where
  | num | bool | str
  deriving DecidableEq, Inhabited

/-- The shape of a value: a list of elements of a type; a struct's cells; anything else. -/
inductive Sh where
  | s
  | l (e : TypeId)
  | a (cs : List Sh)
  deriving Inhabited
mutual
/-- A value as every value of its type is told. -/
def normV : Sh → AV → AV
  | .l e, .lit e' _ xs => if e = e' then .lit e false xs else match xs with | [] => .lit e false [] | ys => .lit e' false ys
  | .a shs, .agg cs => .agg (normL shs cs)
  | _, v => v
def normL : List Sh → List AV → List AV
  | sh :: shs, v :: vs => normV sh v :: normL shs vs
  | _, vs => vs
end

inductive Ir where
  | mov (x : Od)
  | pick (c a b : Od)
  | box (t : TypeId) (n : Nat) (x : Od)
  | build (zero : List AV) (parts : List (Nat × Nat × Od))
  | bsl (e : TypeId) (size : Nat) (sh : Sh) (parts : List Od)
  | load (ag : Bool) (n : Nat) (p : Od)
  | store (n : Nat) (p x : Od)
  | bin (op : BinOp) (c : Cls) (x y : Od)
  | eqs (neg : Bool) (cs : List Cls) (x y : Od)
  | un (op : UnOp) (x : Od)
  | conv (k : IntKind) (x : Od)
  | str (x : Od)
  | fad (p : Od) (off : Nat)
  | fld (ag : Bool) (n off : Nat) (x : Od)
  | iadS (e : TypeId) (x i : Od)
  | sidx (x i : Od)
  | len (str : Bool) (x : Od)
  | ssl (x : Od) (lo hi : Option Od)
  | sls (e : TypeId) (x : Od) (lo hi : Option Od)
  | sls3 (x : Od) (lo : Option Od) (hi mx : Od)
  | clr (e : TypeId) (z : AV) (x : Od)
  | ext (x : Od) (i : Nat)
  | mkfn (f : FuncId) (caps : List Od)
  | call (f : FuncId) (shs : List Sh) (args : List Od)
  | callv (x : Od) (args : List Od)
  | callz (f : FuncId) (shs : List Sh) (args : List Od)
  | app (e : TypeId) (bytes : Nat) (x y : Od)
  | mx (big : Bool) (xs : List Od)
  | nil (e : TypeId)
  deriving Inhabited

/-- An instruction: where its value goes; its guard: a temporary that must hold this truth; in a region whose order is drawn: must it change nothing that is there? -/
structure Ip where
  d : Option Nat
  i : Ir
  g : Option (Nat × Bool)
  u : Nat
  deriving Inhabited

inductive Cd where
  | skip
  | region (ops : List Ip)
  | seq (a b : Cd)
  | cond (c : Od) (a b : Cd)
  | block (id : Nat) (a : Cd)
  | loop (lv : List Nat) (a : Cd)
  | exit (id : Nat) (lv : List Nat)
  | ret (lv : List Nat)
  | seg (lv af : List Nat) (a : Cd)
  deriving Inhabited

inductive Rs where
  | t (n : Nat)
  | cell (a : Nat) (ag : Bool) (n : Nat)
  deriving Inhabited

/-- What becomes of a function's own rows at its end: they are told as lists that are only read; they are kept, each once; or the store goes back as it is, what is led to. -/
inductive Md where
  | lit | keep | mv
  deriving DecidableEq, Inhabited
def Md.kp : Md → Bool
  | .keep => true
  | _ => false

structure Fn where
  ntmps : Nat
  results : List Rs
  rsh : List Sh
  md : Md
  body : Cd
  deriving Inhabited

inductive X where
  | nor | brk (id : Nat) | ret

structure St where
  t : List AV
  h : Store

/-- Functions of the library that the interpreter has as one step. -/
inductive Prim where
  | clone (e : TypeId) (bytes : Nat)
  | insert (e : TypeId) (bytes : Nat)
  | mv
  deriving Inhabited

/-- What a step may call upon: the work on data; the calls; the loops behind their first round. -/
structure Ifc where
  o : Ops
  call : FuncId → List AV → Store → Option (AV × Store)
  loop : List Nat → Nat → Cd → St → Option (X × St)
  prim : FuncId → Option Prim
  seg : List Nat → Cd → St → Option (X × St)

def od (t : List AV) : Od → AV
  | .t n => t.getD n .bad
  | .c v => v

def put (t : List AV) : Option Nat → AV → List AV
  | none, _ => t
  | some d, v => t.set d v

def intBin (o : Ops) (op : BinOp) (k : IntKind) (a b : Int) : Option Value :=
  match op with
  | .add => some (.int k (o.iadd k a b))
  | .sub => some (.int k (o.isub k a b))
  | .mul => some (.int k (o.imul k a b))
  | .quo => match o.ieq b 0 with | true => none | false => some (.int k (o.iquo k a b))
  | .rem => match o.ieq b 0 with | true => none | false => some (.int k (o.irem a b))
  | .and => some (.int k (o.ibit .and k a b))
  | .or => some (.int k (o.ibit .or k a b))
  | .xor => some (.int k (o.ibit .xor k a b))
  | .andNot => some (.int k (o.ibit .andNot k a b))
  | .eql => some (.bool (o.ieq a b))
  | .neq => some (.bool (!(o.ieq a b)))
  | .lss => some (.bool (o.ilt a b))
  | .leq => some (.bool (o.ile a b))
  | .gtr => some (.bool (o.ilt b a))
  | .geq => some (.bool (o.ile b a))
  | _ => none

def strBin (o : Ops) (op : BinOp) (a b : ByteArray) : Option Value :=
  match op with
  | .add => match o.sapp a b with | some s => some (.string s) | none => none
  | .eql => some (.bool (o.seq a b))
  | .neq => some (.bool (!(o.seq a b)))
  | .lss => some (.bool (o.slt a b))
  | .gtr => some (.bool (o.slt b a))
  | .leq => some (.bool (!(o.slt b a)))
  | .geq => some (.bool (!(o.slt a b)))
  | _ => none

def scBin (o : Ops) (op : BinOp) (c : Cls) (x y : AV) : Option AV :=
  match c, x, y with
  | .num, .sc (.int k a), .sc (.int k' b) =>
    match op with
    | .shl => match o.ilt b 0 with | true => none | false => some (.sc (.int k (o.ishl k a b)))
    | .shr => match o.ilt b 0 with | true => none | false => some (.sc (.int k (o.ishr k a b)))
    | op => if k = k' then (match intBin o op k a b with | some v => some (.sc v) | none => none) else none
  | .str, .sc (.string a), .sc (.string b) => match strBin o op a b with | some v => some (.sc v) | none => none
  | .bool, .sc (.bool a), .sc (.bool b) =>
    match op with
    | .eql => some (.sc (.bool (o.beq a b)))
    | .neq => some (.sc (.bool (!(o.beq a b))))
    | _ => none
  | _, _, _ => none

/-- '==' of structs of scalars, cell by cell. -/
def eqCells (o : Ops) : List Cls → List AV → List AV → Option Bool
  | [], [], [] => some true
  | c :: cs, x :: xs, y :: ys =>
    match scBin o .eql c x y with
    | some (.sc (.bool true)) => eqCells o cs xs ys
    | some (.sc (.bool false)) => some false
    | _ => none
  | _, _, _ => none

/-- A variable's cells, as the value of its type. -/
def mkV (ag : Bool) (cs : List AV) : Option AV :=
  match ag with
  | true => some (.agg cs)
  | false => match cs with | [v] => some v | _ => none

def rowOf (h : Store) (k g : Nat) : Option (TypeId × Bool × List AV) :=
  match h[k]? with
  | some (.row e g' ro xs) => if g = g' then some (e, ro, xs) else none
  | _ => none

def cut (cs : List AV) (off n : Nat) : Option (List AV) := if off + n ≤ cs.length then some ((cs.drop off).take n) else none

def loadAt (o : Ops) (h : Store) (ag : Bool) (n : Nat) : AV → Option AV
  | .bptr b off =>
    match h[b]? with
    | some (.box _ cs) => match cut cs off n with | some c => mkV ag c | none => none
    | _ => none
  | .rptr k g i off =>
    match rowOf h k g with
    | some (_, _, xs) => match o.lget xs i with
      | some x => match cut x.cells off n with | some c => mkV ag c | none => none
      | none => none
    | none => none
  | .lptr _ xs i off =>
    match o.lget xs i with
    | some x => match cut x.cells off n with | some c => mkV ag c | none => none
    | none => none
  | _ => none

/-- Is it the value of one cell, and known? -/
def AV.one : AV → Bool
  | .agg _ | .tup _ | .bad => false
  | _ => true

/-- Is it data? -/
def AV.data : AV → Bool
  | .sc _ | .lit _ _ _ => true
  | .agg cs => go cs
  | _ => false
where
  go : List AV → Bool
  | [] => true
  | c :: cs => match c.data with | true => go cs | false => false

def splice (cs : List AV) (off : Nat) (new : List AV) : List AV := cs.take off ++ new ++ cs.drop (off + new.length)

/-- An element with some of its cells changed. -/
def reElem (x : AV) (off : Nat) (new : List AV) : AV :=
  match x with
  | .agg cs => .agg (splice cs off new)
  | x => match new with | [v] => v | _ => x

def asInt : AV → Option Int
  | .sc (.int .i64 i) => some i
  | _ => none
def asBool : AV → Option Bool
  | .sc (.bool b) => some b
  | _ => none

/-- A slice's elements. -/
def elemsOf (o : Ops) (h : Store) : AV → Option (List AV)
  | .lit _ _ xs => some xs
  | .sl k g => match rowOf h k g with | some (_, _, xs) => some xs | none => none
  | .sub k g lo hi => match rowOf h k g with | some (_, _, xs) => o.lsub xs lo hi | none => none
  | _ => none

/-- A slice's elements, if they are of a type. -/
def elemsAt (o : Ops) (h : Store) (e : TypeId) : AV → Option (List AV)
  | .lit e' _ xs => if e = e' then some xs else match xs with | [] => some [] | _ => none
  | .sl k g => match rowOf h k g with | some (e', _, xs) => if e = e' then some xs else none | none => none
  | .sub k g lo hi => match rowOf h k g with | some (e', _, xs) => if e = e' then o.lsub xs lo hi else none | none => none
  | _ => none

/-- Places in the store, told anew. -/
def reloc (f : Nat → Nat) : AV → AV
  | .sl k g => .sl (f k) g
  | .sub k g lo hi => .sub (f k) g lo hi
  | .bptr b off => .bptr (f b) off
  | .rptr k g i off => .rptr (f k) g i off
  | .agg cs => .agg (go f cs)
  | .tup cs => .tup (go f cs)
  | .fn g cs => .fn g (go f cs)
  | v => v
where
  go (f : Nat → Nat) : List AV → List AV
  | [] => []
  | c :: cs => reloc f c :: go f cs

/-- Variables that functions have captured, each once: their places among those that go along. -/
def lendCaps : List AV → List Nat → Option (List AV × List Nat)
  | [], ix => some ([], ix)
  | .bptr b off :: r, ix =>
    match ix.idxOf? b with
    | some j => match lendCaps r ix with | some (r', ix') => some (.bptr j off :: r', ix') | none => none
    | none => match lendCaps r (ix ++ [b]) with | some (r', ix') => some (.bptr ix.length off :: r', ix') | none => none
  | _, _ => none

mutual
/-- A value with its rows told as lists that are only read. -/
def lendV (o : Ops) (h : Store) : AV → Option AV
  | .sl k g => match rowOf h k g with
    | some (e, _, xs) => some (.lit e false xs)
    | none => none
  | .sub k g lo hi => match rowOf h k g with
    | some (e, _, xs) => match o.lsub xs lo hi with
      | some ys => some (.lit e false ys)
      | none => none
    | none => none
  | .agg cs => match lendVs o h cs with | some cs' => some (.agg cs') | none => none
  | .sc v => some (.sc v)
  | .lit e f xs => some (.lit e f xs)
  | _ => none
def lendVs (o : Ops) (h : Store) : List AV → Option (List AV)
  | [] => some []
  | x :: r => match lendV o h x with
    | some x' => match lendVs o h r with | some r' => some (x' :: r') | none => none
    | none => none
end

mutual
/-- The rows that a value leads to. -/
def refs1 : AV → List Nat
  | .sl k _ => [k]
  | .sub k _ _ _ => [k]
  | .agg cs => refs cs
  | _ => []
def refs : List AV → List Nat
  | [] => []
  | x :: r => refs1 x ++ refs r
end

/-- What is handed to a call: rows are told as lists that are only read; the variables that functions have captured go along. -/
def lend (o : Ops) (h : Store) : List AV → List Nat → Option (List AV × List Nat)
  | [], ix => some ([], ix)
  | x :: r, ix =>
    match x with
    | .fn f caps => match lendCaps caps ix with
      | some (caps', ix1) => match lend o h r ix1 with | some (r', ix') => some (.fn f caps' :: r', ix') | none => none
      | none => none
    | .bptr b off => match lendCaps [.bptr b off] ix with
      | some (x', ix1) => match lend o h r ix1 with | some (r', ix') => some (x' ++ r', ix') | none => none
      | none => none
    | x => match lendV o h x with
      | some x' => match lend o h r ix with | some (r', ix') => some (x' :: r', ix') | none => none
      | none => none

def isSc : AV → Bool
  | .sc _ => true
  | _ => false
/-- A result that leads to no memory. -/
def sole : AV → Bool
  | .sc _ => true
  | .tup vs => vs.all isSc
  | _ => false

/-- The variables that go along: scalars alone. -/
def subStore (h : Store) : List Nat → Option Store
  | [] => some []
  | b :: ix => match h[b]? with
    | some (.box t cs) => match cs.all isSc with
      | true => match subStore h ix with | some s => some (.box t cs :: s) | none => none
      | false => none
    | _ => none

/-- They come back; what is left are the call's own rows. -/
def writeBack : List Nat → Store → Store → Option (Store × Store)
  | [], h2, h => some (h, h2)
  | b :: ix, .box t cs :: h2, h => match cs.all isSc with
    | true => writeBack ix h2 (h.set b (.box t cs))
    | false => none
  | _, _, _ => none

/-- Rows that were lent are only read from now on. -/
def shut1 (k : Nat) (h : Store) : Store := match h[k]? with | some (.row e g _ xs) => h.set k (.row e g true xs) | _ => h
def shut : List Nat → Store → Store
  | [], h => h
  | k :: r, h => shut r (shut1 k h)

def sized (size : Nat) : List AV → Bool
  | [] => true
  | x :: r => decide (x.cells.length = size) && x.cells.all AV.one && sized size r

def storeAt (o : Ops) (h : Store) (n : Nat) (p x : AV) : Option Store :=
  if x.cells.length = n ∧ x.cells.all AV.one = true then
    match p with
    | .bptr b off =>
      match h[b]? with
      | some (.box t cs) => if off + n ≤ cs.length then some (h.set b (.box t (splice cs off x.cells))) else none
      | _ => none
    | .rptr k g i off =>
      match lendV o h x with
      | some x' => match sized n [x'] && x'.data with
        | true => match rowOf (shut (refs1 x) h) k g with
          | some (e, false, xs) => match o.lget xs i with
            | some y => if off + n ≤ y.cells.length then some ((shut (refs1 x) h).set k (.row e g false (o.lset xs i (reElem y off x'.cells)))) else none
            | none => none
          | _ => none
        | false => none
      | none => none
    | _ => none
  else none

def isRow : Ent → Bool
  | .row _ _ _ _ => true
  | _ => false

/-- Where the places of a call's store lie in the caller's. -/
def backTo (ix : List Nat) (n i : Nat) : Nat := if i < ix.length then ix.getD i 0 else n + (i - ix.length)

/-- How much of what was there an instruction changes: nothing; rows; variables too. -/
def bump1 : List Nat → Nat
  | [] => 0
  | _ => 1
def bump2 : List Nat → Nat
  | [] => 0
  | _ => 2
def bumpP : AV → Nat
  | .bptr _ _ => 2
  | _ => 1

def AV.key : AV → Option Nat
  | .sl k _ | .sub k _ _ _ | .bptr k _ | .rptr k _ _ _ => some k
  | _ => none
/-- What a reading instruction reads from. -/
def Ir.main : Ir → Od
  | .load _ _ x | .len _ x | .iadS _ x _ | .sls _ x _ _ | .fad x _ | .sls3 x _ _ _ => x
  | _ => .c .bad

/-- In a region whose order is drawn: may an instruction stand as it does beside those that are not ordered with it? -/
def okU (md : Bool) (ip : Ip) (m : Nat) (s : St) : Bool :=
  match ip.u with
  | 0 => true
  | 1 => match md with
    | false => decide (m = 0)
    | true => decide (m ≤ 1)
  | _ => match md with
    | false => true
    | true => match (od s.t ip.i.main).key with
      | none => true
      | some k => match s.h[k]? with
        | some (.box _ _) => true
        | _ => false

def callFn (I : Ifc) (f : FuncId) (args : List AV) (h : Store) : Option (AV × Store × Nat) :=
  match lend I.o h args [] with
  | none => none
  | some (args', ix) =>
    match subStore h ix with
    | none => none
    | some s =>
      match I.call f args' s with
      | none => none
      | some (r, h2) =>
        match writeBack ix h2 h with
        | none => none
        | some (h', new) =>
          match sole r with
          | true => match new with
            | [] => some (r, h', bump2 ix)
            | _ => none
          | false => match new.all isRow with
            | true => some (reloc (backTo ix h.length) r, shut (refs args) h' ++ new, max (bump2 ix) (bump1 (refs args)))
            | false => none

def primOp (o : Ops) (p : Prim) (args : List AV) (h : Store) : Option (AV × Store × Nat) :=
  match p with
  | .clone e bytes => match args with
    | [x] => match elemsAt o h e x with
      | some xs => match o.room bytes [] xs with
        | true => some (.sl h.length 0, h ++ [.row e 0 false xs], 0)
        | false => none
      | none => none
    | _ => none
  | .insert e bytes => match args with
    | [.sl k g, .sc (.int .i64 i), .lit e2 f ys] => match elemsAt o h e (.lit e2 f ys) with
      | some [y] => match rowOf h k g with
        | some (e', false, xs) => if e = e' then (match o.room bytes xs [y], o.lsub xs 0 i, o.lsub xs i (o.llen xs) with
          | true, some a, some b => some (.sl k (g + 1), h.set k (.row e (g + 1) false (o.lapp a (o.lapp [y] b))), 1)
          | _, _, _ => none) else none
        | _ => none
      | _ => none
    | _ => none
  | .mv => none

/-! ### Calls by reference: what the arguments lead to goes along as it is -/

mutual
/-- The places that a value leads to. -/
def rf1 : AV → List Nat
  | .sl k _ => [k]
  | .sub k _ _ _ => [k]
  | .bptr k _ => [k]
  | .rptr k _ _ _ => [k]
  | .agg cs => rfs cs
  | .tup cs => rfs cs
  | .fn _ cs => rfs cs
  | _ => []
def rfs : List AV → List Nat
  | [] => []
  | x :: r => rf1 x ++ rfs r
end
/-- All the places that are led to, each once. -/
def reach (h : Store) : Nat → List Nat → List Nat → List Nat
  | 0, _, seen => seen
  | _ + 1, [], seen => seen
  | n + 1, k :: r, seen => match seen.contains k with
    | true => reach h n r seen
    | false => match h[k]? with
      | some (.box _ cs) => reach h n (rfs cs ++ r) (seen ++ [k])
      | some (.row _ _ _ _) => reach h n r (seen ++ [k])
      | none => reach h n r seen
mutual
/-- Places, as they lie among those that go along. -/
def relM (ix : List Nat) : AV → Option AV
  | .sl k g => match ix.idxOf? k with | some j => some (.sl j g) | none => none
  | .sub k g lo hi => match ix.idxOf? k with | some j => some (.sub j g lo hi) | none => none
  | .bptr k off => match ix.idxOf? k with | some j => some (.bptr j off) | none => none
  | .rptr k g i off => match ix.idxOf? k with | some j => some (.rptr j g i off) | none => none
  | .agg cs => match relMs ix cs with | some l => some (.agg l) | none => none
  | .tup cs => match relMs ix cs with | some l => some (.tup l) | none => none
  | .fn f cs => match relMs ix cs with | some l => some (.fn f l) | none => none
  | .sc v => some (.sc v)
  | .lit e f xs => some (.lit e f xs)
  | .lptr e xs i off => some (.lptr e xs i off)
  | .bad => some .bad
def relMs (ix : List Nat) : List AV → Option (List AV)
  | [] => some []
  | x :: r => match relM ix x with
    | some x' => match relMs ix r with | some r' => some (x' :: r') | none => none
    | none => none
end
def entM (ix : List Nat) : Ent → Option Ent
  | .box t cs => match relMs ix cs with | some cs' => some (.box t cs') | none => none
  | .row e g ro xs => some (.row e g ro xs)
def subM (ix : List Nat) (h : Store) : List Nat → Option Store
  | [] => some []
  | k :: r => match h[k]? with
    | some e => match entM ix e with
      | some e' => match subM ix h r with | some s => some (e' :: s) | none => none
      | none => none
    | none => none
def nodupB : List Nat → Bool
  | [] => true
  | x :: r => match r.contains x with | true => false | false => nodupB r
def entR (f : Nat → Nat) : Ent → Ent
  | .box t cs => .box t (reloc.go f cs)
  | .row e g ro xs => .row e g ro xs
/-- They come back; what is new lies behind. -/
def backM (f : Nat → Nat) : List Nat → Store → Store → Option Store
  | [], h2, h => some (h ++ h2.map (entR f))
  | k :: ix, e :: h2, h => backM f ix h2 (h.set k (entR f e))
  | _ :: _, [], _ => none
def callMv1 (I : Ifc) (f : FuncId) (args : List AV) (h : Store) (ix : List Nat) : Option (AV × Store × Nat) :=
  match relMs ix args with
  | none => none
  | some args' => match subM ix h ix with
    | none => none
    | some s => match nodupB ix with
      | false => none
      | true => match I.call f args' s with
        | none => none
        | some (r, h2) => match backM (backTo ix h.length) ix h2 h with
          | none => none
          | some h' => some (reloc (backTo ix h.length) r, h', bump2 ix)
def callMv (I : Ifc) (f : FuncId) (args : List AV) (h : Store) : Option (AV × Store × Nat) := callMv1 I f args h (reach h 64 (rfs args) [])

/-- A result that is the front of a row: the row is cut. -/
def trim (o : Ops) (rs : List AV) (h : Store) : Option (List AV × Store) :=
  match rs with
  | [.sub k g lo hi] => match o.ieq lo 0 with
    | true => match rowOf h k g with
      | some (e, false, xs) => match o.lsub xs lo hi with
        | some ys => some ([.sl k (g + 1)], h.set k (.row e (g + 1) false ys))
        | none => none
      | _ => some (rs, h)
    | false => some (rs, h)
  | _ => some (rs, h)
def outerRefs : Nat → Store → List Nat
  | n + 1, .box _ cs :: h => rfs cs ++ outerRefs n h
  | n + 1, .row _ _ _ _ :: h => outerRefs n h
  | _, _ => []
def gcOut1 (rs : List AV) (h : Store) (ix : List Nat) : Option (List AV × Store) :=
  match relMs ix rs with
  | none => none
  | some rs' => match subM ix h ix with
    | none => none
    | some s => match nodupB ix with
      | false => none
      | true => some (rs', s)
/-- What a function hands back as it is: what it was handed, and what is led to. -/
def gcOut (n : Nat) (rs : List AV) (h : Store) : Option (List AV × Store) :=
  gcOut1 rs h (List.range n ++ (reach h 64 (rfs rs ++ outerRefs n h) (List.range n)).drop n)

def callOp (I : Ifc) (f : FuncId) (args : List AV) (h : Store) : Option (AV × Store × Nat) :=
  match I.prim f with
  | none => callFn I f args h
  | some .mv => callMv I f args h
  | some p => primOp I.o p args h

/-- A slice's bound, or what it is without one. -/
def bnd (t : List AV) (d : Int) : Option Od → Option Int
  | some l => asInt (od t l)
  | none => some d

/-- A part of a part of a row: of a front of it, as far as the row goes. -/
def slsSub (o : Ops) (h : Store) (t : List AV) (e : TypeId) (k g : Nat) (l0 h0 : Int) (lo hi : Option Od) : Option AV :=
  match rowOf h k g with
  | some (e', _, xs) => if e = e' then (match o.lsub xs l0 h0 with
    | some ys => match bnd t 0 lo, bnd t (o.llen ys) hi with
      | some a, some b => match o.ieq l0 0 with
        | true => match o.lsub xs a b with
          | some _ => some (.sub k g a b)
          | none => none
        | false => match o.lsub ys a b with
          | some _ => some (.sub k g (o.iadd .i64 l0 a) (o.iadd .i64 l0 b))
          | none => none
      | _, _ => none
    | none => none) else none
  | none => none
/-- Appended to the front of a row, within it. -/
def appSub (o : Ops) (h : Store) (e : TypeId) (k g : Nat) (lo hi : Int) (ys : List AV) : Option (AV × Store) :=
  match rowOf h k g with
  | some (e', false, xs) => if e = e' then (match o.ieq lo 0 with
    | false => none
    | true => match o.ile (o.llen ys) (o.isub .i64 (o.llen xs) hi) with
      | false => none
      | true => match o.lsub xs lo hi with
        | none => none
        | some _ => some (.sub k g lo (o.iadd .i64 hi (o.llen ys)), h.set k (.row e g false (o.lput xs hi ys)))) else none
  | _ => none

def mxInts (o : Ops) (big : Bool) (k : IntKind) : Int → List AV → Option Int
  | a, [] => some a
  | a, .sc (.int k' b) :: r => if k = k' then (match big with
      | true => match o.ilt a b with | true => mxInts o big k b r | false => mxInts o big k a r
      | false => match o.ilt b a with | true => mxInts o big k b r | false => mxInts o big k a r) else none
  | _, _ => none

def fillIn (t : List AV) : List AV → List (Nat × Nat × Od) → Option (List AV)
  | cells, [] => some cells
  | cells, (off, n, x) :: rest => if (od t x).cells.length = n ∧ (od t x).cells.all AV.one = true ∧ off + n ≤ cells.length then fillIn t (splice cells off (od t x).cells) rest else none

def bslAll (t : List AV) (sh : Sh) (size : Nat) : List Od → Option (List AV)
  | [] => some []
  | x :: r => match (od t x).data with
    | true => if (od t x).cells.length = size ∧ (od t x).cells.all AV.one = true then (match bslAll t sh size r with | some l => some (normV sh (od t x) :: l) | none => none) else none
    | false => none

/-- What an instruction comes to: its value, the store behind it, and how much of what was there it changed. -/
def evOp (I : Ifc) (i : Ir) (t : List AV) (h : Store) : Option (AV × Store × Nat) :=
  match i with
  | .mov x => some (od t x, h, 0)
  | .pick c a b => match asBool (od t c) with
    | some true => some (od t a, h, 0)
    | some false => some (od t b, h, 0)
    | none => none
  | .box ty n x => if (od t x).cells.length = n ∧ (od t x).cells.all AV.one = true then some (.bptr h.length 0, h ++ [.box ty (od t x).cells], 0) else none
  | .build zero parts => match fillIn t zero parts with | some cs => some (.agg cs, h, 0) | none => none
  | .bsl e size sh parts => match bslAll t sh size parts with | some xs => some (.lit e true xs, h, 0) | none => none
  | .load ag n p => match loadAt I.o h ag n (od t p) with | some v => some (v, h, 0) | none => none
  | .store n p x => match storeAt I.o h n (od t p) (od t x) with | some h' => some (.bad, h', bumpP (od t p)) | none => none
  | .bin op c x y => match scBin I.o op c (od t x) (od t y) with | some v => some (v, h, 0) | none => none
  | .eqs neg cs x y => match od t x, od t y with
    | .agg a, .agg b => if a.length = cs.length ∧ b.length = cs.length then (match eqCells I.o cs a b with
      | some r => some (.sc (.bool (match neg with | true => !r | false => r)), h, 0)
      | none => none) else none
    | _, _ => none
  | .un op x => match op, od t x with
    | .not, .sc (.bool b) => some (.sc (.bool (!b)), h, 0)
    | .neg, .sc (.int k a) => some (.sc (.int k (I.o.isub k 0 a)), h, 0)
    | _, _ => none
  | .conv k x => match od t x with
    | .sc (.int _ a) => some (.sc (.int k (I.o.iwrap k a)), h, 0)
    | _ => none
  | .str x => match od t x with
    | .sc (.string s) => some (.sc (.string s), h, 0)
    | _ => none
  | .fad p off => match od t p with
    | .bptr b o => some (.bptr b (o + off), h, 0)
    | .rptr k g j o => match rowOf h k g with | some _ => some (.rptr k g j (o + off), h, 0) | none => none
    | .lptr e xs j o => some (.lptr e xs j (o + off), h, 0)
    | _ => none
  | .fld ag n off x => match od t x with
    | .agg cs => match cut cs off n with
      | some c => match mkV ag c with | some v => some (v, h, 0) | none => none
      | none => none
    | _ => none
  | .iadS e x i => match asInt (od t i) with
    | some j => match od t x with
      | .lit e' _ xs => if e = e' then (match I.o.lget xs j with | some _ => some (.lptr e xs j 0, h, 0) | none => none) else none
      | .sl k g => match rowOf h k g with
        | some (e', _, xs) => if e = e' then (match I.o.lget xs j with | some _ => some (.rptr k g j 0, h, 0) | none => none) else none
        | none => none
      | _ => none
    | none => none
  | .sidx x i => match od t x, asInt (od t i) with
    | .sc (.string s), some j => match I.o.sget s j with | some c => some (.sc (.int .u8 c), h, 0) | none => none
    | _, _ => none
  | .len str x => match str with
    | true => match od t x with
      | .sc (.string s) => some (.sc (.int .i64 (I.o.slen s)), h, 0)
      | _ => none
    | false => match elemsOf I.o h (od t x) with | some xs => some (.sc (.int .i64 (I.o.llen xs)), h, 0) | none => none
  | .ssl x lo hi => match od t x with
    | .sc (.string s) =>
      match bnd t 0 lo, bnd t (I.o.slen s) hi with
      | some a, some b => match I.o.ssub s a b with | some r => some (.sc (.string r), h, 0) | none => none
      | _, _ => none
    | _ => none
  | .sls e x lo hi =>
    match od t x with
    | .sub k g l0 h0 => match slsSub I.o h t e k g l0 h0 lo hi with
      | some v => some (v, h, 0)
      | none => none
    | _ => match elemsOf I.o h (od t x) with
    | some xs =>
      match bnd t 0 lo, bnd t (I.o.llen xs) hi with
      | some a, some b => match I.o.lsub xs a b with
        | some ys => match od t x with
          | .lit e' _ zs => if e = e' then some (.lit e false ys, h, 0) else match zs with | [] => some (.lit e false [], h, 0) | _ => none
          | .sl k g => match rowOf h k g with
            | some (e', _, _) => if e = e' then some (.sub k g a b, h, 0) else none
            | none => none
          | _ => none
        | none => none
      | _, _ => none
    | none => none
  | .sls3 x lo hi mx =>
    match elemsOf I.o h (od t x) with
    | some xs => match bnd t 0 lo, asInt (od t hi), asInt (od t mx) with
      | some a, some b, some c => match I.o.lsub xs a b, I.o.lsub xs b c with
        | some _, some _ => some (.bad, h, 0)
        | _, _ => none
      | _, _, _ => none
    | none => none
  | .clr e z x => match od t x with
    | .sub k g lo hi => match rowOf h k g with
      | some (e', false, xs) => if e = e' then (match I.o.lsub xs lo hi with
        | some _ => some (.tup [], h.set k (.row e g false (I.o.lfil xs lo hi z)), 1)
        | none => none) else none
      | _ => none
    | _ => none
  | .ext x i => match od t x with
    | .tup vs => match vs[i]? with | some v => some (v, h, 0) | none => none
    | _ => none
  | .mkfn f caps => some (.fn f (caps.map (od t)), h, 0)
  | .call f shs args => callOp I f (normL shs (args.map (od t))) h
  | .callz f shs args => match callOp I f (normL shs (args.map (od t))) h with
    | some (v, h1, m) => match lendV I.o h1 v with
      | some v' => some (v', shut (refs1 v) h1, max m (bump1 ((refs1 v).filter fun k => decide (k < h.length))))
      | none => none
    | none => none
  | .callv x args => match od t x with
    | .fn f caps => callOp I f (args.map (od t) ++ caps) h
    | _ => none
  | .app e bytes x y =>
    match elemsAt I.o h e (od t y) with
    | some ys =>
      match od t x with
      | .lit _ true [] => match I.o.room bytes [] ys with
        | true => some (.sl h.length 0, h ++ [.row e 0 false ys], 0)
        | false => none
      | .lit e' true xs => if e = e' then (match I.o.room bytes xs ys with
        | true => some (.lit e false (I.o.lapp xs ys), h, 0)
        | false => none) else none
      | .sl k g => match rowOf h k g with
        | some (e', false, xs) => if e = e' then (match I.o.room bytes xs ys with
          | true => some (.sl k (g + 1), h.set k (.row e (g + 1) false (I.o.lapp xs ys)), 1)
          | false => none) else none
        | _ => none
      | .sub k g lo hi => match appSub I.o h e k g lo hi ys with
        | some (v, h') => some (v, h', 1)
        | none => none
      | _ => none
    | none => none
  | .mx big xs => match xs.map (od t) with
    | .sc (.int k a) :: r => match mxInts I.o big k a r with | some b => some (.sc (.int k b), h, 0) | none => none
    | _ => none
  | .nil e => some (.sl h.length 0, h ++ [.row e 0 false []], 0)

/-- Does a guard let its instruction by? (One that was itself not let by has no value.) -/
def gdOk (v : AV) (want : Bool) : Option Bool :=
  match v with
  | .sc (.bool b) => match b with | true => some want | false => some (!want)
  | .tup [] => some false
  | _ => none

def evOps (I : Ifc) (md : Bool) : List Ip → St → Option St
  | [], s => some s
  | ip :: r, s =>
    match ip.g with
    | some (j, want) => match gdOk (s.t.getD j .bad) want with
      | some true => match evOp I ip.i s.t s.h with
          | some (v, h, m) => match okU md ip m s with | false => none | true => evOps I md r ⟨put s.t ip.d v, h⟩
          | none => none
      | some false => evOps I md r ⟨put s.t ip.d (.tup []), s.h⟩
      | none => none
    | none => match evOp I ip.i s.t s.h with
      | some (v, h, m) => match okU md ip m s with | false => none | true => evOps I md r ⟨put s.t ip.d v, h⟩
      | none => none

/-- What nobody looks at any more is forgotten. -/
def clean (lv : List Nat) : Nat → List AV → List AV
  | _, [] => []
  | i, v :: r => (match lv.contains i with | true => v | false => .bad) :: clean lv (i + 1) r
mutual
/-- How far into the store a value leads. -/
def hi : AV → Nat
  | .sl k _ => k + 1
  | .sub k _ _ _ => k + 1
  | .bptr k _ => k + 1
  | .rptr k _ _ _ => k + 1
  | .agg cs => his cs
  | .tup cs => his cs
  | .fn _ cs => his cs
  | _ => 0
def his : List AV → Nat
  | [] => 0
  | x :: r => max (hi x) (his r)
end
def hiS : Store → Nat
  | [] => 0
  | .box _ cs :: r => max (his cs) (hiS r)
  | .row _ _ _ _ :: r => hiS r
/-- Ahead of a loop's next round: of the store what it had ahead of the loop stays, and what is led to. -/
def tidy (lv : List Nat) (m : Nat) (s : St) : St := ⟨clean lv 0 s.t, s.h.take (max m (max (his (clean lv 0 s.t)) (hiS s.h)))⟩

def exec (I : Ifc) : Cd → St → Option (X × St)
  | .skip, s => some (.nor, s)
  | .region ops, s => match evOps I false ops s with
    | some s' => some (.nor, s')
    | none => match evOps I true ops s with | some s' => some (.nor, s') | none => none
  | .seq a b, s => match exec I a s with
    | some (.nor, s') => exec I b s'
    | r => r
  | .cond c a b, s => match asBool (od s.t c) with
    | some true => exec I a s
    | some false => exec I b s
    | none => none
  | .block id a, s => match exec I a s with
    | some (.brk j, s') => if j = id then some (.nor, s') else some (.brk j, s')
    | r => r
  | .loop lv a, s => I.loop lv s.h.length a ⟨clean lv 0 s.t, s.h⟩
  | .exit id lv, s => some (.brk id, ⟨clean lv 0 s.t, s.h⟩)
  | .ret lv, s => some (.ret, ⟨clean lv 0 s.t, s.h⟩)
  | .seg lv af a, s => I.seg af a ⟨clean lv 0 s.t, s.h⟩

/-- What is told apart: behind it only what is looked at stays. -/
def Ifc.apart (I : Ifc) (af : List Nat) (d : Cd) (s : St) : Option (X × St) :=
  match exec I d s with
  | some (.nor, s') => some (.nor, ⟨clean af 0 s'.t, s'.h⟩)
  | r => r

/-- Behind a loop: of the store what it had ahead of the loop stays, and what is led to. -/
def snip (m : Nat) (s : St) : St := ⟨s.t, s.h.take (max m (max (his s.t) (hiS s.h)))⟩
/-- A loop from the beginning of a round. -/
def Ifc.round (I : Ifc) (lv : List Nat) (m : Nat) (d : Cd) (s : St) : Option (X × St) :=
  match exec I d s with
  | some (.nor, s') => I.loop lv m d (tidy lv m s')
  | some (.brk id, s') => some (.brk id, snip m s')
  | some (.ret, s') => some (.ret, snip m s')
  | none => none

def results (o : Ops) (s : St) : List Rs → Option (List AV)
  | [] => some []
  | .t n :: r => match results o s r with | some l => some (s.t.getD n .bad :: l) | none => none
  | .cell a ag n :: r => match loadAt o s.h ag n (s.t.getD a .bad), results o s r with
    | some v, some l => some (v :: l)
    | _, _ => none

/-- A result's rows: kept (each once), or told as lists that are only read. -/
def layRow (_o : Ops) (n : Nat) (h : Store) (keep : Bool) (ks : List Nat) (k g : Nat) : Option (AV × List Nat) :=
  match rowOf h k g with
  | some (e, ro, xs) => match keep && !ro && decide (n ≤ k) && !ks.contains k with
    | true => some (.sl (n + ks.length) 0, ks ++ [k])
    | false => match keep with
      | true => none
      | false => some (.lit e false xs, ks)
  | none => none
def laySub (o : Ops) (h : Store) (keep : Bool) (ks : List Nat) (k g : Nat) (lo hi : Int) : Option (AV × List Nat) :=
  match rowOf h k g with
  | some (e, _, xs) => match keep with
    | true => none
    | false => match o.lsub xs lo hi with
      | some ys => some (.lit e false ys, ks)
      | none => none
  | none => none
mutual
def lay1 (o : Ops) (n : Nat) (h : Store) (keep : Bool) : AV → List Nat → Option (AV × List Nat)
  | .sl k g, ks => layRow o n h keep ks k g
  | .sub k g lo hi, ks => laySub o h keep ks k g lo hi
  | .agg cs, ks => match lay o n h keep cs ks with | some (cs', ks') => some (.agg cs', ks') | none => none
  | .tup cs, ks => match lay o n h keep cs ks with | some (cs', ks') => some (.tup cs', ks') | none => none
  | .sc v, ks => some (.sc v, ks)
  | .lit e f xs, ks => some (.lit e f xs, ks)
  | _, _ => none
def lay (o : Ops) (n : Nat) (h : Store) (keep : Bool) : List AV → List Nat → Option (List AV × List Nat)
  | [], ks => some ([], ks)
  | x :: r, ks => match lay1 o n h keep x ks with
    | some (x', ks1) => match lay o n h keep r ks1 with | some (r', ks') => some (x' :: r', ks') | none => none
    | none => none
end

def kept (h : Store) : List Nat → Option Store
  | [] => some []
  | k :: ks => match h[k]?, kept h ks with
    | some (.row e _ false xs), some s => some (.row e 0 false xs :: s)
    | _, _ => none

/-- The first entries, which hold scalars alone, as they are now. -/
def outer : Nat → Store → Option Store
  | 0, _ => some []
  | n + 1, .box t cs :: h => match cs.all isSc with
    | true => match outer n h with | some s => some (.box t cs :: s) | none => none
    | false => none
  | _, _ => none

def runFn (I : Ifc) (fn : Fn) (args : List AV) (s : Store) : Option (AV × Store) :=
  match exec I fn.body ⟨args ++ List.replicate (fn.ntmps - args.length) .bad, s⟩ with
  | some (.brk _, _) => none
  | none => none
  | some (_, st) =>
    match results I.o st fn.results with
    | none => none
    | some rs =>
      match fn.md with
      | .mv => match trim I.o (normL fn.rsh rs) st.h with
        | none => none
        | some (rs1, h1) => match gcOut s.length rs1 h1 with
          | none => none
          | some (rs', s') => some (match rs' with | [v] => v | l => .tup l, s')
      | md =>
        match lay I.o s.length st.h md.kp (normL fn.rsh rs) [] with
        | none => none
        | some (rs', ks) =>
          match outer s.length st.h, kept st.h ks with
          | some a, some b => some (match rs' with | [v] => v | l => .tup l, a ++ b)
          | _, _ => none

/-- With so many rounds and calls one within the other. -/
def ifc (o : Ops) (F : FuncId → Option Fn) (pr : FuncId → Option Prim) : Nat → Ifc
  | 0 => { o, call := fun _ _ _ => none, loop := fun _ _ _ _ => none, prim := pr, seg := fun _ _ _ => none }
  | n + 1 => { o, call := fun f args s => match F f with | some fn => runFn (ifc o F pr n) fn args s | none => none, loop := fun lv m c s => (ifc o F pr n).round lv m c s, prim := pr, seg := fun af d s => (ifc o F pr n).apart af d s }
end Go.Ab
