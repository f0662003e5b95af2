/- The translation of loaded code to the interpreter's instructions: plain definitions, over any program. -/
import Derived.Test.YtcnohiofldkcoabAbIr
namespace Go.Ab
open Go

def cmpVal (v : Value) : Option AV :=
  match v with
  | .slice none 0 0 => some (.lit 0 true [])
  | v => if plainSc v = true then some (.sc v) else none
def cmpVals : List Value → Option (List AV)
  | [] => some []
  | v :: r => match cmpVal v, cmpVals r with | some a, some l => some (a :: l) | _, _ => none
def cmpOd : Operand → Option Od
  | .tmp t => some (.t t)
  | .const v => (cmpVal v).map .c
  | .func f => some (.c (.fn f []))
  | .global _ => none
def cmpOds : List Operand → Option (List Od)
  | [] => some []
  | x :: r => match cmpOd x, cmpOds r with | some a, some l => some (a :: l) | _, _ => none

/-- A slice's bound. -/
def cmpBnd : Option Operand → Option (Option Od)
  | some l => (cmpOd l).map some
  | none => some none

def isAggT (P : Program) (t : TypeId) : Option Bool :=
  match P.underlying t with
  | some (.struct _) | some (.array _ _) => some true
  | some _ => some false
  | none => none
/-- A type's zero value, its cells being as many as the type's. -/
def zeroOf (P : Program) (t : TypeId) : Option AV :=
  match P.info? t with
  | some i => match i.zero with
    | some z => if z.cells.size = i.size then
        (match z with
        | .agg cs => (cmpVals cs.toList).map .agg
        | z => cmpVal z) else none
    | none => none
  | none => none

def fieldOf (P : Program) (s : TypeId) (f : Nat) : Option Field :=
  match P.underlying s with
  | some (.struct fs) => fs[f]?
  | _ => none

def cmpParts (P : Program) (t : TypeId) : List (Nat × Operand) → Option (List (Nat × Nat × Od))
  | [] => some []
  | (i, x) :: r => match fieldOf P t i, cmpOd x, cmpParts P t r with
    | some f, some a, some l => if (P.info? f.type).isSome then some ((f.offset, P.cellsOf f.type, a) :: l) else none
    | _, _, _ => none
/-- A slice's parts, all of them in order. -/
def cmpFull : Nat → List (Nat × Operand) → Option (List Od)
  | _, [] => some []
  | n, (i, x) :: r => if i = n then (match cmpOd x, cmpFull (n + 1) r with | some a, some l => some (a :: l) | _, _ => none) else none

def clsOf (P : Program) (t : TypeId) : Option Cls :=
  match P.underlying t with
  | some (.int _) => some .num
  | some .string => some .str
  | some .bool => some .bool
  | _ => none
/-- A struct type whose fields are scalars of one cell each, none of them nameless. -/
def clsFlat (P : Program) : Nat → List Field → Option (List Cls)
  | _, [] => some []
  | n, f :: r => match clsOf P f.type, clsFlat P (n + 1) r with
    | some c, some l => if f.offset = n ∧ f.name ≠ "_" ∧ P.cellsOf f.type = 1 then some (c :: l) else none
    | _, _ => none
/-- Fields may be of such struct types, too. -/
def clsFields (P : Program) : Nat → List Field → Option (List Cls)
  | _, [] => some []
  | n, f :: r => match clsOf P f.type with
    | some c => match clsFields P (n + 1) r with
      | some l => if f.offset = n ∧ f.name ≠ "_" ∧ P.cellsOf f.type = 1 then some (c :: l) else none
      | none => none
    | none => match P.underlying f.type with
      | some (.struct fs) => match clsFlat P 0 fs.toList with
        | some cs => match clsFields P (n + cs.length) r with
          | some l => if f.offset = n ∧ f.name ≠ "_" ∧ P.cellsOf f.type = cs.length ∧ P.stoodInHeld f.type = false ∧ (P.info? f.type).isSome = true then some (cs ++ l) else none
          | none => none
        | none => none
      | _ => none

/-- The shapes of a type's values: of the value, and of its cells, one behind the other. -/
def shOf (P : Program) : Nat → TypeId → List Sh
  | 0, _ => [.s]
  | n + 1, t => match P.underlying t with
    | some (.slice e) => [.l e]
    | some (.struct fs) => fs.toList.flatMap fun f => shOf P n f.type
    | _ => [.s]
def shV (P : Program) (t : TypeId) : Sh :=
  match P.underlying t with
  | some (.slice e) => .l e
  | some (.struct _) => .a (shOf P 6 t)
  | _ => .s
def shsOf (P : Program) (ts : Array TypeId) : List Sh := ts.toList.map (shV P)

def cmpOp (P : Program) (o : Oper) : Option Ir :=
  match o.op with
  | .move x | .assign x => (cmpOd x).map .mov
  | .pick c a b => match cmpOd c, cmpOd a, cmpOd b with | some c, some a, some b => some (.pick c a b) | _, _, _ => none
  | .alloc e => match zeroOf P e with | some z => some (.box e (P.cellsOf e) (.c z)) | none => none
  | .box e x => (cmpOd x).map (.box e (P.cellsOf e))
  | .build t ps => match P.underlying t, zeroOf P t, cmpParts P t ps.toList with
    | some (.struct fs), some (.agg z), some l => if fs.toList.all (fun f => (P.info? f.type).isSome) = true then some (.build z l) else none
    | _, _, _ => none
  | .buildSlice t len ps => match P.underlying t, cmpFull 0 ps.toList with
    | some (.slice e), some l => match zeroOf P e with
      | some _ => if l.length = len ∧ 0 < P.cellsOf e ∧ len * P.cellsOf e ≤ 2 ^ 24 then some (.bsl e (P.cellsOf e) (shV P e) l) else none
      | none => none
    | _, _ => none
  | .load t p => match isAggT P t, cmpOd p with | some ag, some p => if (P.info? t).isSome then some (.load ag (P.cellsOf t) p) else none | _, _ => none
  | .store t p x => match cmpOd p, cmpOd x with | some p, some x => if (P.info? t).isSome then some (.store (P.cellsOf t) p x) else none | _, _ => none
  | .binOp op t x y _ => match cmpOd x, cmpOd y with
    | some x, some y => match clsOf P t with
      | some c => some (.bin op c x y)
      | none => match op, P.underlying t with
        | .eql, some (.struct fs) => if P.stoodInHeld t = false ∧ P.eqGuardType P.depth t = false then (clsFields P 0 fs.toList).map fun cs => .eqs false cs x y else none
        | .neq, some (.struct fs) => if P.stoodInHeld t = false ∧ P.eqGuardType P.depth t = false then (clsFields P 0 fs.toList).map fun cs => .eqs true cs x y else none
        | _, _ => none
    | _, _ => none
  | .unOp op _ x => match op with
    | .not | .neg => (cmpOd x).map (.un op)
    | _ => none
  | .convert s d x => match P.underlying s, P.underlying d, cmpOd x with
    | some (.int _), some (.int k), some x => some (.conv k x)
    | some .string, some .string, some x => some (.str x)
    | _, _, _ => none
  | .makeFunc (.func f) first caps => if first.size = 0 then (cmpOds caps.toList).map (.mkfn f) else none
  | .slice t x lo hi none =>
    match P.underlying t, cmpOd x, cmpBnd lo, cmpBnd hi with
    | some .string, some x, some lo, some hi => some (.ssl x lo hi)
    | some (.slice e), some x, some lo, some hi => if (P.info? e).isSome ∧ 0 < P.cellsOf e then some (.sls e x lo hi) else none
    | _, _, _, _ => none
  | .slice t x lo (some hi) (some mx) =>
    match P.underlying t, cmpOd x, cmpBnd lo, cmpOd hi, cmpOd mx with
    | some (.slice e), some x, some lo, some hi, some mx => if (P.info? e).isSome then some (.sls3 x lo hi mx) else none
    | _, _, _, _, _ => none
  | .fieldAddr s x f => match fieldOf P s f, cmpOd x with
    | some f, some x => if (P.info? f.type).isSome ∧ P.cellsOf f.type ≠ 0 then some (.fad x f.offset) else none
    | _, _ => none
  | .field s x f => match fieldOf P s f, cmpOd x with
    | some f, some x => match isAggT P f.type with
      | some ag => if (P.info? f.type).isSome then some (.fld ag (P.cellsOf f.type) f.offset x) else none
      | none => none
    | _, _ => none
  | .indexAddr t x i => match P.underlying t, cmpOd x, cmpOd i with
    | some (.slice e), some x, some i => if (P.info? e).isSome ∧ 0 < P.cellsOf e then some (.iadS e x i) else none
    | _, _, _ => none
  | .index t x i => match P.underlying t, cmpOd x, cmpOd i with
    | some .string, some x, some i => some (.sidx x i)
    | _, _, _ => none
  | .extract x i => (cmpOd x).map (.ext · i)
  | .call { callee := .builtin .len, args, argTypes } => match args.toList, argTypes.toList with
    | [x], [t] => match P.underlying t, cmpOd x with
      | some .string, some x => some (.len true x)
      | some (.slice _), some x => some (.len false x)
      | _, _ => none
    | _, _ => none
  | .call { callee := .builtin .append, args, argTypes } => match args.toList, argTypes.toList with
    | [x, y], [t, t'] => match P.underlying t, cmpOd x, cmpOd y with
      | some (.slice e), some x, some y => match zeroOf P e with
        | some _ => if t = t' ∧ 0 < P.cellsOf e then some (.app e (P.bytesOf e) x y) else none
        | none => none
      | _, _, _ => none
    | _, _ => none
  | .call { callee := .builtin .clear, args, argTypes } => match args.toList, argTypes.toList with
    | [x], [t] => match P.underlying t, cmpOd x with
      | some (.slice e), some x => match zeroOf P e with
        | some z => if 0 < P.cellsOf e then some (.clr e z x) else none
        | none => none
      | _, _ => none
    | _, _ => none
  | .call { callee := .builtin .max, args, .. } => (cmpOds args.toList).map (.mx true)
  | .call { callee := .builtin .min, args, .. } => (cmpOds args.toList).map (.mx false)
  | .call { callee := .value (.func f), args, .. } => match P.funcs[f]? with
    | some fn => if fn.body.isSome ∧ fn.name ≠ "runtime.NumGoroutine" then (cmpOds args.toList).map (.call f (shsOf P fn.params)) else none
    | none => none
  | .call { callee := .value (.tmp x), args, .. } => (cmpOds args.toList).map (.callv (.t x))
  | _ => none

def cmpGuard (ops : Array Oper) : Option (Nat × Bool) → Option (Option (Nat × Bool))
  | none => some none
  | some (j, want) => match (ops[j]?).bind (·.dst) with
    | some d => some (some (d, want))
    | none => none

inductive Kind3 where
  | pure | reads | acts
  deriving DecidableEq
def kindOf : Ir → Kind3
  | .box .. | .store .. | .call .. | .callv .. | .app .. | .callz .. | .clr .. | .nil .. => .acts
  | .load .. | .len false _ | .iadS .. | .sls .. | .fad .. | .sls3 .. => .reads
  | _ => .pure

def Od.tmps : Od → List Nat
  | .t n => [n]
  | .c _ => []
def Ir.ods : Ir → List Od
  | .mov x | .box _ _ x | .load _ _ x | .un _ x | .conv _ x | .str x | .fad x _ | .fld _ _ _ x | .len _ x | .ext x _ | .clr _ _ x => [x]
  | .pick c a b => [c, a, b]
  | .build _ ps => ps.map (·.2.2)
  | .bsl _ _ _ xs | .mkfn _ xs | .mx _ xs => xs
  | .call _ _ xs | .callz _ _ xs => xs
  | .store _ p x | .bin _ _ p x | .eqs _ _ p x | .iadS _ p x | .sidx p x | .app _ _ p x => [p, x]
  | .ssl x lo hi | .sls _ x lo hi => x :: (lo.toList ++ hi.toList)
  | .sls3 x lo b c => x :: b :: c :: lo.toList
  | .callv x xs => x :: xs
  | .nil _ => []
/-- What an instruction looks at. -/
def Ip.sees (ip : Ip) : List Nat := ip.i.ods.flatMap Od.tmps ++ (match ip.g with | some (j, _) => [j] | none => [])

/-- Is nothing, moved to this temporary, a row of this type from now on? -/
def nilCode (n : Nat) : List Nat → Option TypeId
  | [] => none
  | c :: r => if 1000000000 ≤ c ∧ (c - 1000000000) / 100000 = n then some ((c - 1000000000) % 100000) else nilCode n r

/-- A call whose result's rows are only read from now on. -/
def fzIr (fz : List Nat) (d : Option Nat) (i : Ir) : Ir :=
  match i with
  | .call f shs args => match d with
    | some n => match fz.contains n with | true => .callz f shs args | false => .call f shs args
    | none => .call f shs args
  | .mov (.c (.lit e0 true [])) => match d with
    | some n => match nilCode n fz with | some e => .nil e | none => .mov (.c (.lit e0 true []))
    | none => .mov (.c (.lit e0 true []))
  | i => i

def cmpIps (P : Program) (fz : List Nat) (ops : Array Oper) : List Oper → Option (List Ip)
  | [] => some []
  | o :: r => match cmpOp P o, cmpGuard ops o.guard, cmpIps P fz ops r with
    | some i, some g, some l => some (⟨o.dst, fzIr fz o.dst i, g, 0⟩ :: l)
    | _, _, _ => none

/-- Are two instructions, the first ahead in the text, in order, or do they not touch each other's temporaries? -/
def apartIp (x y : Ip) : Bool :=
  (match x.d with | some d => !(y.sees.contains d) && y.d != some d | none => true) && (match y.d with | some d => !(x.sees.contains d) | none => true)

def Ir.mainOk (i : Ir) : Bool :=
  match i.main with
  | .t _ => true
  | .c v => v.key.isNone

def drawOk (b : Array Nat) (ips : List Ip) : Bool :=
  ips.zipIdx.all fun (y, j) => decide (b.getD j 0 < 2 ^ j) && y.i.mainOk && ips.zipIdx.all fun (x, i) => !decide (i < j) ||
    ((x.d.isNone || x.d != y.d) && ((b.getD j 0).testBit i || (apartIp x y && !(decide (kindOf x.i = .acts) && decide (kindOf y.i = .acts)))))

/-- Are two instructions without an order? -/
def looseIp (b : Array Nat) (i j : Nat) : Bool := decide (i ≠ j) && !(b.getD j 0).testBit i && !(b.getD i 0).testBit j
def markU (b : Array Nat) (ips : List Ip) : List Ip :=
  ips.zipIdx.map fun (x, i) => { x with u := (match kindOf x.i with
    | .acts => if ips.zipIdx.any (fun (y, j) => decide (kindOf y.i = .reads) && looseIp b i j) then 1 else 0
    | .reads => if ips.zipIdx.any (fun (y, j) => decide (kindOf y.i = .acts) && looseIp b i j) then 2 else 0
    | .pure => 0) }

def ins (x : Nat) (l : List Nat) : List Nat := match l.contains x with | true => l | false => x :: l
def insAll : List Nat → List Nat → List Nat
  | [], l => l
  | x :: r, l => ins x (insAll r l)
def del : Option Nat → List Nat → List Nat
  | some n, l => l.filter fun x => x != n
  | none, l => l
def liveOps : List Ip → List Nat → List Nat
  | [], af => af
  | ip :: r, af => insAll ip.sees (del ip.d (liveOps r af))
/-- The temporaries that are looked at from here on. -/
def live : Cd → List Nat → List Nat
  | .skip, af => af
  | .region ops, af => liveOps ops af
  | .seq a b, af => live a (live b af)
  | .cond c a b, af => insAll c.tmps (insAll (live a af) (live b af))
  | .block _ a, af => live a af
  | .loop lv _, _ => lv
  | .seg lv _ _, _ => lv
  | .exit _ lv, _ => lv
  | .ret lv, _ => lv
def exLv : List (Nat × List Nat) → Nat → List Nat
  | [], _ => []
  | (j, l) :: r, id => if j = id then l else exLv r id

/-- How many ways there are through it, about; how much it is. -/
def Ip.forks (ip : Ip) : Nat := match ip.i with
  | .pick .. => 1
  | .mx _ xs => xs.length - 1
  | _ => 0
def ways : Cd → Nat
  | .skip => 1
  | .region ops => 1 + (ops.map Ip.forks).sum
  | .seq a b => ways a * ways b
  | .cond _ a b => ways a + ways b
  | .block _ a => ways a + 1
  | .loop _ _ => 0
  | .exit _ _ => 0
  | .ret _ => 0
  | .seg _ _ _ => 1
def bulk : Cd → Nat
  | .region ops => ops.length
  | .seq a b => bulk a + bulk b
  | .cond _ a b => 3 + bulk a + bulk b
  | .block _ a => bulk a
  | .loop _ _ => 8
  | .seg _ _ _ => 4
  | _ => 1
/-- From which bulk on what comes behind several ways is told apart. -/
def segCode : List Nat → Option Nat
  | [] => none
  | c :: r => if 1000000 ≤ c ∧ c < 1000000000 then some (c - 1000000) else segCode r
def mkSeg (fz : List Nat) (a b : Cd) (lv af : List Nat) : Cd :=
  match segCode fz with
  | some n => if 2 ≤ ways a ∧ n ≤ bulk b then .seg lv af b else b
  | none => b

/-- ex, rt, af: what is looked at behind the blocks, behind the function's end, behind this. -/
def cmp (P : Program) (fz : List Nat) (rt : List Nat) : List (Nat × List Nat) → List Nat → Code → Option Cd
  | _, _, .skip => some .skip
  | _, _, .region _ ops draw => match cmpIps P fz ops ops.toList with
    | some l => match draw with
      | false => some (.region l)
      | true => match drawOk (Region.before ops) l && Region.noSelect ops with
        | true => some (.region (markU (Region.before ops) l))
        | false => none
    | none => none
  | ex, af, .seq a b => match cmp P fz rt ex af b with
    | some b' => match cmp P fz rt ex (live b' af) a with | some a' => some (.seq a' (mkSeg fz a' b' (live b' af) af)) | none => none
    | none => none
  | ex, af, .cond c a b => match cmpOd c, cmp P fz rt ex af a, cmp P fz rt ex af b with | some c, some a, some b => some (.cond c a b) | _, _, _ => none
  | ex, af, .block id a => (cmp P fz rt ((id, af) :: ex) af a).map (.block id)
  | ex, _, .loop a => match cmp P fz rt ex [] a with
    | some a1 => match cmp P fz rt ex (live a1 []) a with | some a2 => some (.loop (live a1 []) a2) | none => none
    | none => none
  | ex, _, .exit id => some (.exit id (exLv ex id))
  | _, _, .ret => some (.ret rt)
  | _, _, _ => none

def rsTmps : List Rs → List Nat
  | [] => []
  | .t n :: r => n :: rsTmps r
  | .cell a _ _ :: r => a :: rsTmps r

def cmpRs (P : Program) : List ResultVar → Option (List Rs)
  | [] => some []
  | .tmp t :: r => (cmpRs P r).map (.t t :: ·)
  | .cell a t :: r => match isAggT P t, cmpRs P r with
    | some ag, some l => if (P.info? t).isSome then some (.cell a ag (P.cellsOf t) :: l) else none
    | _, _ => none

def cmpFn (P : Program) (md : Md) (fz : List Nat) (f : FuncId) : Option Fn :=
  match P.funcs[f]? with
  | some fn => match fn.body with
    | some c => match cmpRs P fn.results.toList with
      | some rs => match cmp P fz (rsTmps rs) [] (rsTmps rs) c with
        | some b => if fn.name ≠ "runtime.NumGoroutine" then some ⟨fn.ntmps, rs, shsOf P fn.resultTypes, md, b⟩ else none
        | none => none
      | none => none
    | none => none
  | none => none
end Go.Ab
