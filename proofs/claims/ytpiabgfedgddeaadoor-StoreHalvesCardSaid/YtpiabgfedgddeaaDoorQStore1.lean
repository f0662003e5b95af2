/- Our texts for this statement, merged: what its theorem leads to. -/
import Derived.Below
import Derived.Laws.AppendOwn
import Derived.Laws.MakeOwn
import Derived.Orders
namespace Go.Ab
open Go
inductive AV where
  | sc (v : Value)
  | agg (cs : List AV)
  | tup (vs : List AV)
  | lit (e : TypeId) (full : Bool) (xs : List AV)
  | sl (k g : Nat)
  | sub (k g : Nat) (lo hi : Int)
  | bptr (b off : Nat)
  | rptr (k g : Nat) (i : Int) (off : Nat)
  | lptr (e : TypeId) (xs : List AV) (i : Int) (off : Nat)
  | fn (f : FuncId) (caps : List AV)
  | bad
  deriving Inhabited
def AV.cells : AV → List AV
  | .agg cs => cs
  | v => [v]
def flat (xs : List AV) : List AV := xs.flatMap AV.cells
inductive Ent where
  | box (t : TypeId) (cs : List AV)
  | row (e : TypeId) (g : Nat) (ro : Bool) (xs : List AV)
  | it (s : ByteArray) (pos : Int)
  deriving Inhabited
abbrev Store := List Ent
def plainSc : Value → Bool
  | .bool _ | .int _ _ | .string _ | .nilFunc | .nilIface | .float _ _ => true
  | .pointer none => true
  | _ => false
theorem plainSc_one {v : Value} (h : plainSc v = true) : v.oneCell' = true := by cases v <;> simp_all [plainSc, Value.oneCell']
structure Env where
  P : Program
  w : World
  n : Nat
  gen : Nat → Option Nat
  top : Nat → Nat
  esz : Nat → Nat
  row : Nat → Value
  box : Nat → Nat
  own : Nat → Prop
inductive DL (P : Program) (w : World) (own : Nat → Prop) : List AV → List Value → Prop
  | nil : DL P w own [] []
  | sc {v r rs} (h : plainSc v = true) (t : DL P w own r rs) : DL P w own (.sc v :: r) (v :: rs)
  | agg {cs vs r rs} (h : DL P w own cs vs) (t : DL P w own r rs) : DL P w own (.agg cs :: r) (.agg vs.toArray :: rs)
  | lit {e full xs a cap vals r rs} (hc : xs.length ≤ cap) (hm : cap ≤ maxLen) (hf : full = true → cap = xs.length) (hs : ∀ x, x ∈ xs → x.cells.length = P.cellsOf e) (h : DL P w own (flat xs) vals) (h1 : ∀ u, u ∈ vals → u.oneCell' = true)
      (hr : ∀ j u, vals[j]? = some u → ∃ b o, a = some ⟨b, o, none⟩ ∧ ¬ own b ∧ w.cell? ⟨b, o + j, none⟩ = some u) (t : DL P w own r rs) : DL P w own (.lit e full xs :: r) (.slice a xs.length cap :: rs)
theorem DL.ext {P : Program} {w w' : World} {own own' : Nat → Prop} (x : ∀ a v, ¬ own a.block → w.cell? a = some v → ¬ own' a.block ∧ w'.cell? a = some v) {l : List AV} {vs : List Value} (h : DL P w own l vs) : DL P w' own' l vs := by
  induction h with
  | nil => exact .nil
  | sc h _ it => exact .sc h it
  | agg _ _ ih it => exact .agg ih it
  | lit hc hm hf hs _ h1 hr _ ih it =>
    refine .lit hc hm hf hs ih h1 (fun j u hu => ?_) it
    obtain ⟨b, o, ha, hb, hcell⟩ := hr j u hu
    have := x _ _ hb hcell
    exact ⟨b, o, ha, this.1, this.2⟩
theorem DL.append {P : Program} {w : World} {own : Nat → Prop} {l l' : List AV} {vs vs' : List Value} (h : DL P w own l vs) (h' : DL P w own l' vs') : DL P w own (l ++ l') (vs ++ vs') := by
  induction h with
  | nil => exact h'
  | sc h _ it => exact .sc h it
  | agg h _ _ it => exact .agg h it
  | lit hc hm hf hs h h1 hr _ _ it => exact .lit hc hm hf hs h h1 hr it
theorem DL.length {P : Program} {w : World} {own : Nat → Prop} {l : List AV} {vs : List Value} (h : DL P w own l vs) : vs.length = l.length := by
  induction h <;> simp_all
theorem DL.split {P : Program} {w : World} {own : Nat → Prop} (l : List AV) : ∀ {l' : List AV} {vs : List Value}, DL P w own (l ++ l') vs → ∃ us us', vs = us ++ us' ∧ DL P w own l us ∧ DL P w own l' us' := by
  induction l with
  | nil => intro l' vs h; exact ⟨[], vs, rfl, .nil, h⟩
  | cons x l ih =>
    intro l' vs h
    cases h with
    | sc hp t => obtain ⟨us, us', rfl, h1, h2⟩ := ih t; exact ⟨_ :: us, us', rfl, .sc hp h1, h2⟩
    | agg hp t => obtain ⟨us, us', rfl, h1, h2⟩ := ih t; exact ⟨_ :: us, us', rfl, .agg hp h1, h2⟩
    | lit hc hm hf hs hp h1 hr t => obtain ⟨us, us', rfl, h1', h2⟩ := ih t; exact ⟨_ :: us, us', rfl, .lit hc hm hf hs hp h1 hr h1', h2⟩
def HeadAt (v : Value) (b : Nat) : Prop := ∃ n c, v = .slice (some ⟨b, 0, none⟩) n c
inductive VL (E : Env) : List AV → List Value → Prop
  | nil : VL E [] []
  | data {x v r rs} (h : DL E.P E.w E.own [x] [v]) (t : VL E r rs) : VL E (x :: r) (v :: rs)
  | agg {cs vs r rs} (h : VL E cs vs) (t : VL E r rs) : VL E (.agg cs :: r) (.agg vs.toArray :: rs)
  | tup {cs vs r rs} (h : VL E cs vs) (t : VL E r rs) : VL E (.tup cs :: r) (.tuple vs.toArray :: rs)
  | sl {k g v r rs} (hk : k < E.n) (hg : g ≤ E.top k) (h1 : v.oneCell' = true) (h : E.gen k = some g → v = E.row k) (t : VL E r rs) : VL E (.sl k g :: r) (v :: rs)
  | sub {k g lo hi v r rs} (hk : k < E.n) (hg : g ≤ E.top k) (h1 : v.oneCell' = true)
      (h : E.gen k = some g → 0 ≤ lo ∧ lo ≤ hi ∧ ∃ a cap, v = .slice a (hi - lo).toNat cap ∧ (hi - lo).toNat ≤ cap ∧ cap ≤ maxLen ∧ (lo < hi → ∃ b, HeadAt (E.row k) b ∧ a = some ⟨b, lo.toNat * E.esz k, none⟩) ∧ (lo = 0 → ∃ n, E.row k = .slice a n cap)) (t : VL E r rs) : VL E (.sub k g lo hi :: r) (v :: rs)
  | bptr {b off r rs} (hk : b < E.n) (t : VL E r rs) : VL E (.bptr b off :: r) (.pointer (some ⟨E.box b, off, none⟩) :: rs)
  | rptr {k g i off v r rs} (hk : k < E.n) (hg : g ≤ E.top k) (h1 : v.oneCell' = true) (h : E.gen k = some g → ∃ b, HeadAt (E.row k) b ∧ v = .pointer (some ⟨b, i.toNat * E.esz k + off, none⟩)) (t : VL E r rs) : VL E (.rptr k g i off :: r) (v :: rs)
  | lptr {e xs i off b o vals r rs} (hs : ∀ x, x ∈ xs → x.cells.length = E.P.cellsOf e) (h : DL E.P E.w E.own (flat xs) vals)
      (hr : ∀ j u, vals[j]? = some u → ¬ E.own b ∧ E.w.cell? ⟨b, o + j, none⟩ = some u) (t : VL E r rs) : VL E (.lptr e xs i off :: r) (.pointer (some ⟨b, o + i.toNat * E.P.cellsOf e + off, none⟩) :: rs)
  | fn {f caps vs r rs} (h : VL E caps vs) (t : VL E r rs) : VL E (.fn f caps :: r) (.func (.func f) #[] vs.toArray :: rs)
  | bad {v r rs} (t : VL E r rs) : VL E (.bad :: r) (v :: rs)
structure Ext (E E' : Env) : Prop where
  P : E'.P = E.P
  n : E.n ≤ E'.n
  top : ∀ k, k < E.n → E.top k ≤ E'.top k
  gen : ∀ k g, k < E.n → g ≤ E.top k → E'.gen k = some g → E.gen k = some g ∧ E'.row k = E.row k ∧ E'.esz k = E.esz k
  box : ∀ k, k < E.n → E'.box k = E.box k
  keep : ∀ a v, ¬ E.own a.block → E.w.cell? a = some v → ¬ E'.own a.block ∧ E'.w.cell? a = some v
theorem VL.ext {E E' : Env} (x : Ext E E') {l : List AV} {vs : List Value} (h : VL E l vs) : VL E' l vs := by
  induction h with
  | nil => exact .nil
  | data h _ it => exact .data (by rw [x.P]; exact h.ext x.keep) it
  | agg _ _ ih it => exact .agg ih it
  | tup _ _ ih it => exact .tup ih it
  | sl hk hg h1 h _ it => exact .sl (Nat.lt_of_lt_of_le hk x.n) (Nat.le_trans hg (x.top _ hk)) h1 (fun e => by obtain ⟨h1, h2, _⟩ := x.gen _ _ hk hg e; rw [h h1, h2]) it
  | sub hk hg h1 h _ it =>
    refine .sub (Nat.lt_of_lt_of_le hk x.n) (Nat.le_trans hg (x.top _ hk)) h1 (fun e => ?_) it
    obtain ⟨h1, h2, h3⟩ := x.gen _ _ hk hg e
    rw [h2, h3]; exact h h1
  | bptr hk _ it => rw [← x.box _ hk]; exact .bptr (Nat.lt_of_lt_of_le hk x.n) it
  | rptr hk hg h1 h _ it =>
    refine .rptr (Nat.lt_of_lt_of_le hk x.n) (Nat.le_trans hg (x.top _ hk)) h1 (fun e => ?_) it
    obtain ⟨h1, h2, h3⟩ := x.gen _ _ hk hg e
    rw [h2, h3]; exact h h1
  | @lptr e xs i off b o vals r rs hs h hr _ it =>
    have := VL.lptr (E := E') (e := e) (xs := xs) (i := i) (off := off) (b := b) (o := o) (vals := vals) (fun y hy => by rw [x.P]; exact hs y hy) (by rw [x.P]; exact h.ext x.keep) (fun j u hu => by
      obtain ⟨hb, hc⟩ := hr j u hu
      exact x.keep _ _ hb hc) it
    rw [x.P] at this; exact this
  | fn _ _ ih it => exact .fn ih it
  | bad _ it => exact .bad it
theorem VL.length {E : Env} {l : List AV} {vs : List Value} (h : VL E l vs) : vs.length = l.length := by
  induction h <;> simp_all
theorem DL.vl {E : Env} {l : List AV} {vs : List Value} (h : DL E.P E.w E.own l vs) : VL E l vs := by
  generalize hw : E.w = w at h
  generalize ho : E.own = o at h
  generalize hp : E.P = p at h
  induction h with
  | nil => exact .nil
  | sc h _ it => exact .data (.sc h .nil) it
  | agg h _ _ it => subst hw ho hp; exact .data (.agg h .nil) it
  | lit hc hm hf hs h h1 hr _ _ it => subst hw ho hp; exact .data (.lit hc hm hf hs h h1 hr .nil) it
theorem VL.append {E : Env} {l l' : List AV} {vs vs' : List Value} (h : VL E l vs) (h' : VL E l' vs') : VL E (l ++ l') (vs ++ vs') := by
  induction h with
  | nil => exact h'
  | data h _ it => exact .data h it
  | agg h _ _ it => exact .agg h it
  | tup h _ _ it => exact .tup h it
  | sl hk hg h1 h _ it => exact .sl hk hg h1 h it
  | sub hk hg h1 h _ it => exact .sub hk hg h1 h it
  | bptr hk _ it => exact .bptr hk it
  | rptr hk hg h1 h _ it => exact .rptr hk hg h1 h it
  | lptr hs h hr _ it => exact .lptr hs h hr it
  | fn h _ _ it => exact .fn h it
  | bad _ it => exact .bad it
theorem VL.cons {E : Env} {x : AV} {v : Value} {l : List AV} {vs : List Value} (h : VL E [x] [v]) (t : VL E l vs) : VL E (x :: l) (v :: vs) := h.append t
theorem VL.uncons {E : Env} {x : AV} {l : List AV} {vs : List Value} (h : VL E (x :: l) vs) : ∃ v us, vs = v :: us ∧ VL E [x] [v] ∧ VL E l us := by
  cases h with
  | data h t => exact ⟨_, _, rfl, .data h .nil, t⟩
  | agg h t => exact ⟨_, _, rfl, .agg h .nil, t⟩
  | tup h t => exact ⟨_, _, rfl, .tup h .nil, t⟩
  | sl hk hg h1 h t => exact ⟨_, _, rfl, .sl hk hg h1 h .nil, t⟩
  | sub hk hg h1 h t => exact ⟨_, _, rfl, .sub hk hg h1 h .nil, t⟩
  | bptr hk t => exact ⟨_, _, rfl, .bptr hk .nil, t⟩
  | rptr hk hg h1 h t => exact ⟨_, _, rfl, .rptr hk hg h1 h .nil, t⟩
  | lptr hs h hr t => exact ⟨_, _, rfl, .lptr hs h hr .nil, t⟩
  | fn h t => exact ⟨_, _, rfl, .fn h .nil, t⟩
  | bad t => exact ⟨_, _, rfl, .bad .nil, t⟩
theorem VL.get {E : Env} {l : List AV} {vs : List Value} (h : VL E l vs) (i : Nat) (hi : i < l.length) : ∃ v, vs[i]? = some v ∧ VL E [l[i]] [v] := by
  induction l generalizing vs i with
  | nil => cases hi
  | cons x l ih =>
    obtain ⟨v, us, rfl, h1, h2⟩ := h.uncons
    cases i with
    | zero => exact ⟨v, rfl, h1⟩
    | succ i => obtain ⟨u, hu, h3⟩ := ih h2 i (by simpa using hi); exact ⟨u, by simpa using hu, h3⟩
theorem VL.set {E : Env} {l : List AV} {vs : List Value} (h : VL E l vs) (i : Nat) {x : AV} {v : Value} (hx : VL E [x] [v]) : VL E (l.set i x) (vs.set i v) := by
  induction l generalizing vs i with
  | nil => cases h; exact .nil
  | cons y l ih =>
    obtain ⟨u, us, rfl, h1, h2⟩ := h.uncons
    cases i with
    | zero => exact hx.cons h2
    | succ i => exact h1.cons (ih h2 i)
theorem VL.split {E : Env} (l : List AV) : ∀ {l' : List AV} {vs : List Value}, VL E (l ++ l') vs → ∃ us us', vs = us ++ us' ∧ VL E l us ∧ VL E l' us' := by
  induction l with
  | nil => intro l' vs h; exact ⟨[], vs, rfl, .nil, h⟩
  | cons x l ih =>
    intro l' vs h
    obtain ⟨v, us, rfl, h1, h2⟩ := h.uncons
    obtain ⟨p, q, rfl, h3, h4⟩ := ih h2
    exact ⟨v :: p, q, rfl, h1.cons h3, h4⟩
end Go.Ab
namespace Go.Ab
open Go
structure Ops where
  iadd : IntKind → Int → Int → Int
  isub : IntKind → Int → Int → Int
  imul : IntKind → Int → Int → Int
  iquo : IntKind → Int → Int → Int
  irem : Int → Int → Int
  ibit : BinOp → IntKind → Int → Int → Int
  ishl : IntKind → Int → Int → Int
  ishr : IntKind → Int → Int → Int
  iwrap : IntKind → Int → Int
  ieq : Int → Int → Bool
  ilt : Int → Int → Bool
  ile : Int → Int → Bool
  beq : Bool → Bool → Bool
  seq : ByteArray → ByteArray → Bool
  slt : ByteArray → ByteArray → Bool
  sapp : ByteArray → ByteArray → Option ByteArray
  slen : ByteArray → Int
  sget : ByteArray → Int → Option Int
  ssub : ByteArray → Int → Int → Option ByteArray
  llen : List AV → Int
  lget : List AV → Int → Option AV
  lset : List AV → Int → AV → List AV
  lapp : List AV → List AV → List AV
  lsub : List AV → Int → Int → Option (List AV)
  lput : List AV → Int → List AV → List AV
  lfil : List AV → Int → Int → AV → List AV
  room : Nat → List AV → List AV → Bool
  sdec : ByteArray → Int → Option (Int × Int)
  bofs : ByteArray → List AV
  sofb : List AV → Option ByteArray
  lcut : TypeId → List AV → Option (List AV)
def bytesOf : List AV → Option (List Int)
  | [] => some []
  | .sc (.int .u8 n) :: r => match bytesOf r with | some l => some (n :: l) | none => none
  | _ => none
def textOf (l : List Int) : ByteArray := ⟨(l.map fun n => UInt8.ofNat n.toNat).toArray⟩
def cut8 {α : Type} (xs : List α) : List (List α) := (List.range ((xs.length + 7) / 8)).map fun k => (xs.drop (8 * k)).take 8
def Ops.std : Ops where
  iadd k a b := k.wrap (a + b)
  isub k a b := k.wrap (a - b)
  imul k a b := k.wrap (a * b)
  iquo k a b := k.wrap (a.tdiv b)
  irem a b := a.tmod b
  ibit op k a b := Go.bits op k a b
  ishl k a n := k.wrap (a * 2 ^ (min n.toNat k.bits))
  ishr k a n := a.fdiv (2 ^ (min n.toNat k.bits))
  iwrap k a := k.wrap a
  ieq a b := decide (a = b)
  ilt a b := decide (a < b)
  ile a b := decide (a ≤ b)
  beq a b := a == b
  seq a b := decide (a.data.toList = b.data.toList)
  slt a b := Op.bytesLess a.data.toList b.data.toList
  sapp a b := if a.size + b.size ≤ 9223372036854775807 then some (a ++ b) else none
  slen a := a.size
  sget a i := if 0 ≤ i then (a[i.toNat]?).map fun c => (c.toNat : Int) else none
  ssub a lo hi := if 0 ≤ lo ∧ lo ≤ hi ∧ hi ≤ a.size then some (a.extract lo.toNat hi.toNat) else none
  llen xs := xs.length
  lget xs i := if 0 ≤ i then xs[i.toNat]? else none
  lset xs i v := xs.set i.toNat v
  lapp xs ys := xs ++ ys
  lsub xs lo hi := if 0 ≤ lo ∧ lo ≤ hi ∧ hi ≤ xs.length then some ((xs.take hi.toNat).drop lo.toNat) else none
  lput xs i ys := xs.take i.toNat ++ ys ++ xs.drop (i.toNat + ys.length)
  lfil xs lo hi z := xs.take lo.toNat ++ List.replicate (hi.toNat - lo.toNat) z ++ xs.drop hi.toNat
  sdec s pos := if 0 ≤ pos ∧ pos.toNat < s.size then some (((Utf8.decode s pos.toNat).1 : Int), pos + ((Utf8.decode s pos.toNat).2 : Int)) else none
  bofs s := s.data.toList.map fun b => .sc (.int .u8 (b.toNat : Int))
  sofb xs := (bytesOf xs).map textOf
  lcut e xs := if xs.length ≤ 1000000 then some ((cut8 xs).map (.lit e false)) else none
  room bytes xs ys := decide ((xs.length + ys.length) * bytes ≤ 140737488355328) && decide (xs.length + ys.length ≤ maxLen)
inductive Od where
  | t (n : Nat)
  | c (v : AV)
  deriving Inhabited
inductive Cls where
  | num | bool | str
  deriving DecidableEq, Inhabited
inductive Sh where
  | s
  | l (e : TypeId)
  | a (cs : List Sh)
  deriving Inhabited
mutual
def normV : Sh → AV → AV
  | .l e, .lit e' _ xs => if e = e' then .lit e false xs else match xs with | [] => .lit e false [] | ys => .lit e' false ys
  | .a shs, .agg cs => .agg (normL shs cs)
  | _, v => v
def normL : List Sh → List AV → List AV
  | sh :: shs, v :: vs => normV sh v :: normL shs vs
  | _, vs => vs
end
inductive Ir where
  | mov (x : Od)
  | pick (c a b : Od)
  | box (t : TypeId) (n : Nat) (x : Od)
  | build (zero : List AV) (parts : List (Nat × Nat × Od))
  | bsl (e : TypeId) (size : Nat) (sh : Sh) (parts : List Od)
  | load (ag : Bool) (n : Nat) (p : Od)
  | store (n : Nat) (p x : Od)
  | bin (op : BinOp) (c : Cls) (x y : Od)
  | eqs (neg : Bool) (cs : List Cls) (x y : Od)
  | un (op : UnOp) (x : Od)
  | conv (k : IntKind) (x : Od)
  | str (x : Od)
  | fad (p : Od) (off : Nat)
  | fld (ag : Bool) (n off : Nat) (x : Od)
  | iadS (e : TypeId) (x i : Od)
  | sidx (x i : Od)
  | len (str : Bool) (x : Od)
  | ssl (x : Od) (lo hi : Option Od)
  | sls (e : TypeId) (x : Od) (lo hi : Option Od)
  | sls3 (x : Od) (lo : Option Od) (hi mx : Od)
  | clr (e : TypeId) (z : AV) (x : Od)
  | ext (x : Od) (i : Nat)
  | mkfn (f : FuncId) (caps : List Od)
  | call (f : FuncId) (shs : List Sh) (args : List Od)
  | callv (x : Od) (args : List Od)
  | callz (f : FuncId) (shs : List Sh) (args : List Od)
  | app (e : TypeId) (bytes : Nat) (x y : Od)
  | mx (big : Bool) (xs : List Od)
  | nil (e : TypeId)
  | rng (x : Od)
  | nxt (x : Od)
  | bofs (e : TypeId) (x : Od)
  | sofb (e : TypeId) (x : Od)
  | apps (e : TypeId) (bytes : Nat) (x y : Od)
  | nck (x : Od)
  | isn (neg : Bool) (x : Od)
  | boxr (ty : TypeId) (n : Nat) (x : Od) (l : List (Nat × TypeId × Bool))
  | buildr (z : List AV) (ps : List (Nat × Nat × Od)) (l : List (Nat × TypeId × Bool))
  deriving Inhabited
structure Ip where
  d : Option Nat
  i : Ir
  g : Option (Nat × Bool)
  u : Nat
  deriving Inhabited
inductive Cd where
  | skip
  | region (ops : List Ip)
  | seq (a b : Cd)
  | cond (c : Od) (a b : Cd)
  | block (id : Nat) (a : Cd)
  | loop (lv : List Nat) (a : Cd)
  | exit (id : Nat) (lv : List Nat)
  | ret (lv : List Nat)
  | seg (lv af : List Nat) (a : Cd)
  deriving Inhabited
inductive Rs where
  | t (n : Nat)
  | cell (a : Nat) (ag : Bool) (n : Nat)
  deriving Inhabited
inductive Md where
  | lit | keep | mv
  deriving DecidableEq, Inhabited
def Md.kp : Md → Bool
  | .keep => true
  | _ => false
structure Fn where
  ntmps : Nat
  results : List Rs
  rsh : List Sh
  md : Md
  body : Cd
  deriving Inhabited
inductive X where
  | nor | brk (id : Nat) | ret
structure St where
  t : List AV
  h : Store
inductive Prim where
  | clone (e : TypeId) (bytes : Nat)
  | insert (e : TypeId) (bytes : Nat)
  | mv
  | look (g : Ops → Store → List AV → Option AV)
  deriving Inhabited
structure Ifc where
  o : Ops
  call : FuncId → List AV → Store → Option (AV × Store)
  loop : List Nat → Nat → Cd → St → Option (X × St)
  prim : FuncId → Option Prim
  seg : List Nat → Cd → St → Option (X × St)
def od (t : List AV) : Od → AV
  | .t n => t.getD n .bad
  | .c v => v
def put (t : List AV) : Option Nat → AV → List AV
  | none, _ => t
  | some d, v => t.set d v
def intBin (o : Ops) (op : BinOp) (k : IntKind) (a b : Int) : Option Value :=
  match op with
  | .add => some (.int k (o.iadd k a b))
  | .sub => some (.int k (o.isub k a b))
  | .mul => some (.int k (o.imul k a b))
  | .quo => match o.ieq b 0 with | true => none | false => some (.int k (o.iquo k a b))
  | .rem => match o.ieq b 0 with | true => none | false => some (.int k (o.irem a b))
  | .and => some (.int k (o.ibit .and k a b))
  | .or => some (.int k (o.ibit .or k a b))
  | .xor => some (.int k (o.ibit .xor k a b))
  | .andNot => some (.int k (o.ibit .andNot k a b))
  | .eql => some (.bool (o.ieq a b))
  | .neq => some (.bool (!(o.ieq a b)))
  | .lss => some (.bool (o.ilt a b))
  | .leq => some (.bool (o.ile a b))
  | .gtr => some (.bool (o.ilt b a))
  | .geq => some (.bool (o.ile b a))
  | _ => none
def strBin (o : Ops) (op : BinOp) (a b : ByteArray) : Option Value :=
  match op with
  | .add => match o.sapp a b with | some s => some (.string s) | none => none
  | .eql => some (.bool (o.seq a b))
  | .neq => some (.bool (!(o.seq a b)))
  | .lss => some (.bool (o.slt a b))
  | .gtr => some (.bool (o.slt b a))
  | .leq => some (.bool (!(o.slt b a)))
  | .geq => some (.bool (!(o.slt a b)))
  | _ => none
def scBin (o : Ops) (op : BinOp) (c : Cls) (x y : AV) : Option AV :=
  match c, x, y with
  | .num, .sc (.int k a), .sc (.int k' b) =>
    match op with
    | .shl => match o.ilt b 0 with | true => none | false => some (.sc (.int k (o.ishl k a b)))
    | .shr => match o.ilt b 0 with | true => none | false => some (.sc (.int k (o.ishr k a b)))
    | op => if k = k' then (match intBin o op k a b with | some v => some (.sc v) | none => none) else none
  | .str, .sc (.string a), .sc (.string b) => match strBin o op a b with | some v => some (.sc v) | none => none
  | .bool, .sc (.bool a), .sc (.bool b) =>
    match op with
    | .eql => some (.sc (.bool (o.beq a b)))
    | .neq => some (.sc (.bool (!(o.beq a b))))
    | _ => none
  | _, _, _ => none
def eqCells (o : Ops) : List Cls → List AV → List AV → Option Bool
  | [], [], [] => some true
  | c :: cs, x :: xs, y :: ys =>
    match scBin o .eql c x y with
    | some (.sc (.bool true)) => eqCells o cs xs ys
    | some (.sc (.bool false)) => some false
    | _ => none
  | _, _, _ => none
def mkV (ag : Bool) (cs : List AV) : Option AV :=
  match ag with
  | true => some (.agg cs)
  | false => match cs with | [v] => some v | _ => none
def rowOf (h : Store) (k g : Nat) : Option (TypeId × Bool × List AV) :=
  match h[k]? with
  | some (.row e g' ro xs) => if g = g' then some (e, ro, xs) else none
  | _ => none
def cut (cs : List AV) (off n : Nat) : Option (List AV) := if off + n ≤ cs.length then some ((cs.drop off).take n) else none
def loadAt (o : Ops) (h : Store) (ag : Bool) (n : Nat) : AV → Option AV
  | .bptr b off =>
    match h[b]? with
    | some (.box _ cs) => match cut cs off n with | some c => mkV ag c | none => none
    | _ => none
  | .rptr k g i off =>
    match rowOf h k g with
    | some (_, _, xs) => match o.lget xs i with
      | some x => match cut x.cells off n with | some c => mkV ag c | none => none
      | none => none
    | none => none
  | .lptr _ xs i off =>
    match o.lget xs i with
    | some x => match cut x.cells off n with | some c => mkV ag c | none => none
    | none => none
  | _ => none
def AV.one : AV → Bool
  | .agg _ | .tup _ | .bad => false
  | _ => true
def AV.data : AV → Bool
  | .sc _ | .lit _ _ _ => true
  | .agg cs => go cs
  | _ => false
where
  go : List AV → Bool
  | [] => true
  | c :: cs => match c.data with | true => go cs | false => false
def splice (cs : List AV) (off : Nat) (new : List AV) : List AV := cs.take off ++ new ++ cs.drop (off + new.length)
def reElem (x : AV) (off : Nat) (new : List AV) : AV :=
  match x with
  | .agg cs => .agg (splice cs off new)
  | x => match new with | [v] => v | _ => x
def asInt : AV → Option Int
  | .sc (.int .i64 i) => some i
  | _ => none
def asBool : AV → Option Bool
  | .sc (.bool b) => some b
  | _ => none
def elemsOf (o : Ops) (h : Store) : AV → Option (List AV)
  | .lit _ _ xs => some xs
  | .sl k g => match rowOf h k g with | some (_, _, xs) => some xs | none => none
  | .sub k g lo hi => match rowOf h k g with | some (_, _, xs) => o.lsub xs lo hi | none => none
  | _ => none
def elemsAt (o : Ops) (h : Store) (e : TypeId) : AV → Option (List AV)
  | .lit e' _ xs => if e = e' then some xs else match xs with | [] => some [] | _ => none
  | .sl k g => match rowOf h k g with | some (e', _, xs) => if e = e' then some xs else none | none => none
  | .sub k g lo hi => match rowOf h k g with | some (e', _, xs) => if e = e' then o.lsub xs lo hi else none | none => none
  | _ => none
def reloc (f : Nat → Nat) : AV → AV
  | .sl k g => .sl (f k) g
  | .sub k g lo hi => .sub (f k) g lo hi
  | .bptr b off => .bptr (f b) off
  | .rptr k g i off => .rptr (f k) g i off
  | .agg cs => .agg (go f cs)
  | .tup cs => .tup (go f cs)
  | .fn g cs => .fn g (go f cs)
  | v => v
where
  go (f : Nat → Nat) : List AV → List AV
  | [] => []
  | c :: cs => reloc f c :: go f cs
def lendCaps : List AV → List Nat → Option (List AV × List Nat)
  | [], ix => some ([], ix)
  | .bptr b off :: r, ix =>
    match ix.idxOf? b with
    | some j => match lendCaps r ix with | some (r', ix') => some (.bptr j off :: r', ix') | none => none
    | none => match lendCaps r (ix ++ [b]) with | some (r', ix') => some (.bptr ix.length off :: r', ix') | none => none
  | _, _ => none
mutual
def lendV (o : Ops) (h : Store) : AV → Option AV
  | .sl k g => match rowOf h k g with
    | some (e, _, xs) => some (.lit e false xs)
    | none => none
  | .sub k g lo hi => match rowOf h k g with
    | some (e, _, xs) => match o.lsub xs lo hi with
      | some ys => some (.lit e false ys)
      | none => none
    | none => none
  | .agg cs => match lendVs o h cs with | some cs' => some (.agg cs') | none => none
  | .sc v => some (.sc v)
  | .lit e f xs => some (.lit e f xs)
  | _ => none
def lendVs (o : Ops) (h : Store) : List AV → Option (List AV)
  | [] => some []
  | x :: r => match lendV o h x with
    | some x' => match lendVs o h r with | some r' => some (x' :: r') | none => none
    | none => none
end
mutual
def refs1 : AV → List Nat
  | .sl k _ => [k]
  | .sub k _ _ _ => [k]
  | .agg cs => refs cs
  | _ => []
def refs : List AV → List Nat
  | [] => []
  | x :: r => refs1 x ++ refs r
end
def lend (o : Ops) (h : Store) : List AV → List Nat → Option (List AV × List Nat)
  | [], ix => some ([], ix)
  | x :: r, ix =>
    match x with
    | .fn f caps => match lendCaps caps ix with
      | some (caps', ix1) => match lend o h r ix1 with | some (r', ix') => some (.fn f caps' :: r', ix') | none => none
      | none => none
    | .bptr b off => match lendCaps [.bptr b off] ix with
      | some (x', ix1) => match lend o h r ix1 with | some (r', ix') => some (x' ++ r', ix') | none => none
      | none => none
    | x => match lendV o h x with
      | some x' => match lend o h r ix with | some (r', ix') => some (x' :: r', ix') | none => none
      | none => none
def isSc : AV → Bool
  | .sc _ => true
  | _ => false
def sole : AV → Bool
  | .sc _ => true
  | .tup vs => vs.all isSc
  | _ => false
def subStore (h : Store) : List Nat → Option Store
  | [] => some []
  | b :: ix => match h[b]? with
    | some (.box t cs) => match cs.all isSc with
      | true => match subStore h ix with | some s => some (.box t cs :: s) | none => none
      | false => none
    | _ => none
def writeBack : List Nat → Store → Store → Option (Store × Store)
  | [], h2, h => some (h, h2)
  | b :: ix, .box t cs :: h2, h => match cs.all isSc with
    | true => writeBack ix h2 (h.set b (.box t cs))
    | false => none
  | _, _, _ => none
def shut1 (k : Nat) (h : Store) : Store := match h[k]? with | some (.row e g _ xs) => h.set k (.row e g true xs) | _ => h
def shut : List Nat → Store → Store
  | [], h => h
  | k :: r, h => shut r (shut1 k h)
def sized (size : Nat) : List AV → Bool
  | [] => true
  | x :: r => decide (x.cells.length = size) && x.cells.all AV.one && sized size r
def storeAt (o : Ops) (h : Store) (n : Nat) (p x : AV) : Option Store :=
  if x.cells.length = n ∧ x.cells.all AV.one = true then
    match p with
    | .bptr b off =>
      match h[b]? with
      | some (.box t cs) => if off + n ≤ cs.length then some (h.set b (.box t (splice cs off x.cells))) else none
      | _ => none
    | .rptr k g i off =>
      match lendV o h x with
      | some x' => match sized n [x'] && x'.data with
        | true => match rowOf (shut (refs1 x) h) k g with
          | some (e, false, xs) => match o.lget xs i with
            | some y => if off + n ≤ y.cells.length then some ((shut (refs1 x) h).set k (.row e g false (o.lset xs i (reElem y off x'.cells)))) else none
            | none => none
          | _ => none
        | false => none
      | none => none
    | _ => none
  else none
def isRow : Ent → Bool
  | .row _ _ _ _ => true
  | _ => false
def backTo (ix : List Nat) (n i : Nat) : Nat := if i < ix.length then ix.getD i 0 else n + (i - ix.length)
def bump1 : List Nat → Nat
  | [] => 0
  | _ => 1
def bump2 : List Nat → Nat
  | [] => 0
  | _ => 2
def maskL : List Nat → Nat
  | [] => 0
  | k :: r => 2 ^ k ||| maskL r
def bump3 : List Nat → Nat
  | [] => 0
  | k :: r => 3 + maskL (k :: r)
def bumpP : AV → Nat
  | .bptr _ _ => 2
  | _ => 1
def AV.key : AV → Option Nat
  | .sl k _ | .sub k _ _ _ | .bptr k _ | .rptr k _ _ _ => some k
  | _ => none
def Ir.main : Ir → Od
  | .load _ _ x | .len _ x | .iadS _ x _ | .sls _ x _ _ | .fad x _ | .sls3 x _ _ _ | .sofb _ x | .nck x => x
  | _ => .c .bad
def okU (md : Nat) (ip : Ip) (m : Nat) (s : St) : Bool :=
  match ip.u with
  | 0 => true
  | 1 => match md with
    | 0 => decide (m = 0)
    | 1 => decide (m ≤ 1)
    | ks + 2 => decide (m ≤ 1) || (decide (3 ≤ m) && decide ((m - 3) &&& ks = 0))
  | _ => match md with
    | 0 => true
    | 1 => match (od s.t ip.i.main).key with
      | none => true
      | some k => match s.h[k]? with
        | some (.box _ _) => true
        | _ => false
    | ks + 2 => match (od s.t ip.i.main).key with
      | none => true
      | some k => match s.h[k]? with
        | some (.box _ _) => ks.testBit k
        | _ => false
def callFn (I : Ifc) (f : FuncId) (args : List AV) (h : Store) : Option (AV × Store × Nat) :=
  match lend I.o h args [] with
  | none => none
  | some (args', ix) =>
    match subStore h ix with
    | none => none
    | some s =>
      match I.call f args' s with
      | none => none
      | some (r, h2) =>
        match writeBack ix h2 h with
        | none => none
        | some (h', new) =>
          match sole r with
          | true => match new with
            | [] => some (r, h', bump2 ix)
            | _ => none
          | false => match new.all isRow with
            | true => some (reloc (backTo ix h.length) r, shut (refs args) h' ++ new, max (bump2 ix) (bump1 (refs args)))
            | false => none
def primOp (o : Ops) (p : Prim) (args : List AV) (h : Store) : Option (AV × Store × Nat) :=
  match p with
  | .clone e bytes => match args with
    | [x] => match elemsAt o h e x with
      | some xs => match o.room bytes [] xs with
        | true => some (.sl h.length 0, h ++ [.row e 0 false xs], 0)
        | false => none
      | none => none
    | _ => none
  | .insert e bytes => match args with
    | [.sl k g, .sc (.int .i64 i), .lit e2 f ys] => match elemsAt o h e (.lit e2 f ys) with
      | some [y] => match rowOf h k g with
        | some (e', false, xs) => if e = e' then (match o.room bytes xs [y], o.lsub xs 0 i, o.lsub xs i (o.llen xs) with
          | true, some a, some b => some (.sl k (g + 1), h.set k (.row e (g + 1) false (o.lapp a (o.lapp [y] b))), 1)
          | _, _, _ => none) else none
        | _ => none
      | _ => none
    | _ => none
  | .mv => none
  | .look g => (g o h args).map fun v => (v, h, 0)
mutual
def rf1 : AV → List Nat
  | .sl k _ => [k]
  | .sub k _ _ _ => [k]
  | .bptr k _ => [k]
  | .rptr k _ _ _ => [k]
  | .agg cs => rfs cs
  | .tup cs => rfs cs
  | .fn _ cs => rfs cs
  | _ => []
def rfs : List AV → List Nat
  | [] => []
  | x :: r => rf1 x ++ rfs r
end
def reach (h : Store) : Nat → List Nat → List Nat → List Nat
  | 0, _, seen => seen
  | _ + 1, [], seen => seen
  | n + 1, k :: r, seen => match seen.contains k with
    | true => reach h n r seen
    | false => match h[k]? with
      | some (.box _ cs) => reach h n (rfs cs ++ r) (seen ++ [k])
      | some (.row _ _ _ _) => reach h n r (seen ++ [k])
      | some (.it _ _) => reach h n r (seen ++ [k])
      | none => reach h n r seen
mutual
def relM (ix : List Nat) : AV → Option AV
  | .sl k g => match ix.idxOf? k with | some j => some (.sl j g) | none => none
  | .sub k g lo hi => match ix.idxOf? k with | some j => some (.sub j g lo hi) | none => none
  | .bptr k off => match ix.idxOf? k with | some j => some (.bptr j off) | none => none
  | .rptr k g i off => match ix.idxOf? k with | some j => some (.rptr j g i off) | none => none
  | .agg cs => match relMs ix cs with | some l => some (.agg l) | none => none
  | .tup cs => match relMs ix cs with | some l => some (.tup l) | none => none
  | .fn f cs => match relMs ix cs with | some l => some (.fn f l) | none => none
  | .sc v => some (.sc v)
  | .lit e f xs => some (.lit e f xs)
  | .lptr e xs i off => some (.lptr e xs i off)
  | .bad => some .bad
def relMs (ix : List Nat) : List AV → Option (List AV)
  | [] => some []
  | x :: r => match relM ix x with
    | some x' => match relMs ix r with | some r' => some (x' :: r') | none => none
    | none => none
end
def entM (ix : List Nat) : Ent → Option Ent
  | .box t cs => match relMs ix cs with | some cs' => some (.box t cs') | none => none
  | .row e g ro xs => some (.row e g ro xs)
  | .it s pos => some (.it s pos)
def subM (ix : List Nat) (h : Store) : List Nat → Option Store
  | [] => some []
  | k :: r => match h[k]? with
    | some e => match entM ix e with
      | some e' => match subM ix h r with | some s => some (e' :: s) | none => none
      | none => none
    | none => none
def nodupB : List Nat → Bool
  | [] => true
  | x :: r => match r.contains x with | true => false | false => nodupB r
def entR (f : Nat → Nat) : Ent → Ent
  | .box t cs => .box t (reloc.go f cs)
  | .row e g ro xs => .row e g ro xs
  | .it s pos => .it s pos
def backM (f : Nat → Nat) : List Nat → Store → Store → Option Store
  | [], h2, h => some (h ++ h2.map (entR f))
  | k :: ix, e :: h2, h => backM f ix h2 (h.set k (entR f e))
  | _ :: _, [], _ => none
def callMv1 (I : Ifc) (f : FuncId) (args : List AV) (h : Store) (ix : List Nat) : Option (AV × Store × Nat) :=
  match relMs ix args with
  | none => none
  | some args' => match subM ix h ix with
    | none => none
    | some s => match nodupB ix with
      | false => none
      | true => match I.call f args' s with
        | none => none
        | some (r, h2) => match backM (backTo ix h.length) ix h2 h with
          | none => none
          | some h' => some (reloc (backTo ix h.length) r, h', bump3 ix)
def callMv (I : Ifc) (f : FuncId) (args : List AV) (h : Store) : Option (AV × Store × Nat) := callMv1 I f args h (reach h 64 (rfs args) [])
def trim (o : Ops) (rs : List AV) (h : Store) : Option (List AV × Store) :=
  match rs with
  | [.sub k g lo hi] => match o.ieq lo 0 with
    | true => match rowOf h k g with
      | some (e, false, xs) => match o.lsub xs lo hi with
        | some ys => some ([.sl k (g + 1)], h.set k (.row e (g + 1) false ys))
        | none => none
      | _ => some (rs, h)
    | false => some (rs, h)
  | _ => some (rs, h)
def outerRefs : Nat → Store → List Nat
  | n + 1, .box _ cs :: h => rfs cs ++ outerRefs n h
  | n + 1, .row _ _ _ _ :: h => outerRefs n h
  | _, _ => []
def gcOut1 (rs : List AV) (h : Store) (ix : List Nat) : Option (List AV × Store) :=
  match relMs ix rs with
  | none => none
  | some rs' => match subM ix h ix with
    | none => none
    | some s => match nodupB ix with
      | false => none
      | true => some (rs', s)
def gcOut (n : Nat) (rs : List AV) (h : Store) : Option (List AV × Store) :=
  gcOut1 rs h (List.range n ++ (reach h 64 (rfs rs ++ outerRefs n h) (List.range n)).drop n)
def callOp (I : Ifc) (f : FuncId) (args : List AV) (h : Store) : Option (AV × Store × Nat) :=
  match I.prim f with
  | none => callFn I f args h
  | some .mv => callMv I f args h
  | some p => primOp I.o p args h
def bnd (t : List AV) (d : Int) : Option Od → Option Int
  | some l => asInt (od t l)
  | none => some d
def slsSub (o : Ops) (h : Store) (t : List AV) (e : TypeId) (k g : Nat) (l0 h0 : Int) (lo hi : Option Od) : Option AV :=
  match rowOf h k g with
  | some (e', _, xs) => if e = e' then (match o.lsub xs l0 h0 with
    | some ys => match bnd t 0 lo, bnd t (o.llen ys) hi with
      | some a, some b => match o.ieq l0 0 with
        | true => match o.lsub xs a b with
          | some _ => some (.sub k g a b)
          | none => none
        | false => match o.lsub ys a b with
          | some _ => some (.sub k g (o.iadd .i64 l0 a) (o.iadd .i64 l0 b))
          | none => none
      | _, _ => none
    | none => none) else none
  | none => none
def appSub (o : Ops) (h : Store) (e : TypeId) (k g : Nat) (lo hi : Int) (ys : List AV) : Option (AV × Store) :=
  match rowOf h k g with
  | some (e', false, xs) => if e = e' then (match o.ieq lo 0 with
    | false => none
    | true => match o.ile (o.llen ys) (o.isub .i64 (o.llen xs) hi) with
      | false => none
      | true => match o.lsub xs lo hi with
        | none => none
        | some _ => some (.sub k g lo (o.iadd .i64 hi (o.llen ys)), h.set k (.row e g false (o.lput xs hi ys)))) else none
  | _ => none
def mxInts (o : Ops) (big : Bool) (k : IntKind) : Int → List AV → Option Int
  | a, [] => some a
  | a, .sc (.int k' b) :: r => if k = k' then (match big with
      | true => match o.ilt a b with | true => mxInts o big k b r | false => mxInts o big k a r
      | false => match o.ilt b a with | true => mxInts o big k b r | false => mxInts o big k a r) else none
  | _, _ => none
def fillIn (t : List AV) : List AV → List (Nat × Nat × Od) → Option (List AV)
  | cells, [] => some cells
  | cells, (off, n, x) :: rest => if (od t x).cells.length = n ∧ (od t x).cells.all AV.one = true ∧ off + n ≤ cells.length then fillIn t (splice cells off (od t x).cells) rest else none
def bslAll (t : List AV) (sh : Sh) (size : Nat) : List Od → Option (List AV)
  | [] => some []
  | x :: r => match (od t x).data with
    | true => if (od t x).cells.length = size ∧ (od t x).cells.all AV.one = true then (match bslAll t sh size r with | some l => some (normV sh (od t x) :: l) | none => none) else none
    | false => none
def nilsC : List (Nat × TypeId × Bool) → List AV → Store → Option (List AV × Store)
  | [], cs, h => some (cs, h)
  | (off, e, own) :: r, cs, h => match cs[off]? with
    | some (.lit _ true []) => match own with
      | true => nilsC r (cs.set off (.sl h.length 0)) (h ++ [.row e 0 false []])
      | false => nilsC r (cs.set off (.lit e false [])) h
    | _ => none
def nilsIn (b : Nat) : List (Nat × TypeId × Bool) → Store → Option Store
  | [], h => some h
  | (off, e, own) :: r, h => match h[b]? with
    | some (.box t cs) => match cs[off]? with
      | some (.lit _ true []) => match own with
        | true => nilsIn b r (h.set b (.box t (cs.set off (.sl h.length 0))) ++ [.row e 0 false []])
        | false => nilsIn b r (h.set b (.box t (cs.set off (.lit e false []))))
      | _ => none
    | _ => none
def evOp (I : Ifc) (i : Ir) (t : List AV) (h : Store) : Option (AV × Store × Nat) :=
  match i with
  | .mov x => some (od t x, h, 0)
  | .pick c a b => match asBool (od t c) with
    | some true => some (od t a, h, 0)
    | some false => some (od t b, h, 0)
    | none => none
  | .box ty n x => if (od t x).cells.length = n ∧ (od t x).cells.all AV.one = true then some (.bptr h.length 0, h ++ [.box ty (od t x).cells], 0) else none
  | .build zero parts => match fillIn t zero parts with | some cs => some (.agg cs, h, 0) | none => none
  | .bsl e size sh parts => match bslAll t sh size parts with | some xs => some (.lit e true xs, h, 0) | none => none
  | .load ag n p => match loadAt I.o h ag n (od t p) with | some v => some (v, h, 0) | none => none
  | .store n p x => match storeAt I.o h n (od t p) (od t x) with | some h' => some (.bad, h', bumpP (od t p)) | none => none
  | .bin op c x y => match scBin I.o op c (od t x) (od t y) with | some v => some (v, h, 0) | none => none
  | .eqs neg cs x y => match od t x, od t y with
    | .agg a, .agg b => if a.length = cs.length ∧ b.length = cs.length then (match eqCells I.o cs a b with
      | some r => some (.sc (.bool (match neg with | true => !r | false => r)), h, 0)
      | none => none) else none
    | _, _ => none
  | .un op x => match op, od t x with
    | .not, .sc (.bool b) => some (.sc (.bool (!b)), h, 0)
    | .neg, .sc (.int k a) => some (.sc (.int k (I.o.isub k 0 a)), h, 0)
    | _, _ => none
  | .conv k x => match od t x with
    | .sc (.int _ a) => some (.sc (.int k (I.o.iwrap k a)), h, 0)
    | _ => none
  | .str x => match od t x with
    | .sc (.string s) => some (.sc (.string s), h, 0)
    | _ => none
  | .fad p off => match od t p with
    | .bptr b o => some (.bptr b (o + off), h, 0)
    | .rptr k g j o => match rowOf h k g with | some _ => some (.rptr k g j (o + off), h, 0) | none => none
    | .lptr e xs j o => some (.lptr e xs j (o + off), h, 0)
    | _ => none
  | .fld ag n off x => match od t x with
    | .agg cs => match cut cs off n with
      | some c => match mkV ag c with | some v => some (v, h, 0) | none => none
      | none => none
    | _ => none
  | .iadS e x i => match asInt (od t i) with
    | some j => match od t x with
      | .lit e' _ xs => if e = e' then (match I.o.lget xs j with | some _ => some (.lptr e xs j 0, h, 0) | none => none) else none
      | .sl k g => match rowOf h k g with
        | some (e', _, xs) => if e = e' then (match I.o.lget xs j with | some _ => some (.rptr k g j 0, h, 0) | none => none) else none
        | none => none
      | _ => none
    | none => none
  | .sidx x i => match od t x, asInt (od t i) with
    | .sc (.string s), some j => match I.o.sget s j with | some c => some (.sc (.int .u8 c), h, 0) | none => none
    | _, _ => none
  | .len str x => match str with
    | true => match od t x with
      | .sc (.string s) => some (.sc (.int .i64 (I.o.slen s)), h, 0)
      | _ => none
    | false => match elemsOf I.o h (od t x) with | some xs => some (.sc (.int .i64 (I.o.llen xs)), h, 0) | none => none
  | .ssl x lo hi => match od t x with
    | .sc (.string s) =>
      match bnd t 0 lo, bnd t (I.o.slen s) hi with
      | some a, some b => match I.o.ssub s a b with | some r => some (.sc (.string r), h, 0) | none => none
      | _, _ => none
    | _ => none
  | .sls e x lo hi =>
    match od t x with
    | .sub k g l0 h0 => match slsSub I.o h t e k g l0 h0 lo hi with
      | some v => some (v, h, 0)
      | none => none
    | _ => match elemsOf I.o h (od t x) with
    | some xs =>
      match bnd t 0 lo, bnd t (I.o.llen xs) hi with
      | some a, some b => match I.o.lsub xs a b with
        | some ys => match od t x with
          | .lit e' _ zs => if e = e' then some (.lit e false ys, h, 0) else match zs with | [] => some (.lit e false [], h, 0) | _ => none
          | .sl k g => match rowOf h k g with
            | some (e', _, _) => if e = e' then some (.sub k g a b, h, 0) else none
            | none => none
          | _ => none
        | none => none
      | _, _ => none
    | none => none
  | .sls3 x lo hi mx =>
    match elemsOf I.o h (od t x) with
    | some xs => match bnd t 0 lo, asInt (od t hi), asInt (od t mx) with
      | some a, some b, some c => match I.o.lsub xs a b, I.o.lsub xs b c with
        | some _, some _ => some (.bad, h, 0)
        | _, _ => none
      | _, _, _ => none
    | none => none
  | .clr e z x => match od t x with
    | .sub k g lo hi => match rowOf h k g with
      | some (e', false, xs) => if e = e' then (match I.o.lsub xs lo hi with
        | some _ => some (.tup [], h.set k (.row e g false (I.o.lfil xs lo hi z)), 1)
        | none => none) else none
      | _ => none
    | _ => none
  | .ext x i => match od t x with
    | .tup vs => match vs[i]? with | some v => some (v, h, 0) | none => none
    | _ => none
  | .mkfn f caps => some (.fn f (caps.map (od t)), h, 0)
  | .call f shs args => callOp I f (normL shs (args.map (od t))) h
  | .callz f shs args => match callOp I f (normL shs (args.map (od t))) h with
    | some (v, h1, m) => match lendV I.o h1 v with
      | some v' => some (v', shut (refs1 v) h1, max m (bump1 ((refs1 v).filter fun k => decide (k < h.length))))
      | none => none
    | none => none
  | .callv x args => match od t x with
    | .fn f caps => callOp I f (args.map (od t) ++ caps) h
    | _ => none
  | .app e bytes x y =>
    match elemsAt I.o h e (od t y) with
    | some ys =>
      match od t x with
      | .lit _ true [] => match I.o.room bytes [] ys with
        | true => some (.sl h.length 0, h ++ [.row e 0 false ys], 0)
        | false => none
      | .lit e' true xs => if e = e' then (match I.o.room bytes xs ys with
        | true => some (.lit e false (I.o.lapp xs ys), h, 0)
        | false => none) else none
      | .sl k g => match rowOf h k g with
        | some (e', false, xs) => if e = e' then (match I.o.room bytes xs ys with
          | true => some (.sl k (g + 1), h.set k (.row e (g + 1) false (I.o.lapp xs ys)), 1)
          | false => none) else none
        | _ => none
      | .sub k g lo hi => match appSub I.o h e k g lo hi ys with
        | some (v, h') => some (v, h', 1)
        | none => none
      | _ => none
    | none => none
  | .mx big xs => match xs.map (od t) with
    | .sc (.int k a) :: r => match mxInts I.o big k a r with | some b => some (.sc (.int k b), h, 0) | none => none
    | _ => none
  | .nil e => some (.sl h.length 0, h ++ [.row e 0 false []], 0)
  | .nck x => match od t x with
    | .bptr b o => some (.bptr b o, h, 0)
    | .rptr k g i o => if rowOf h k g ≠ none then some (.rptr k g i o, h, 0) else none
    | .lptr e xs i o => some (.lptr e xs i o, h, 0)
    | _ => none
  | .isn neg x => match od t x with
    | .bptr _ _ => some (.sc (.bool neg), h, 0)
    | .sc (.pointer none) => some (.sc (.bool (!neg)), h, 0)
    | _ => none
  | .buildr z ps l => match fillIn t z ps with
    | some cs => match nilsC l cs h with
      | some (cs', h') => some (.agg cs', h', 0)
      | none => none
    | none => none
  | .boxr ty n x l => if (od t x).cells.length = n ∧ (od t x).cells.all AV.one = true then (match nilsIn h.length l (h ++ [.box ty (od t x).cells]) with | some h' => some (.bptr h.length 0, h', 2) | none => none) else none
  | .rng x => match od t x with
    | .sc (.string s) => some (.bptr h.length 0, h ++ [.it s 0], 0)
    | _ => none
  | .nxt x => match od t x with
    | .bptr b 0 => match h[b]? with
      | some (.it s pos) => match I.o.sdec s pos with
        | some (c, next) => some (.tup [.sc (.bool true), .sc (.int .i64 pos), .sc (.int .i32 c)], h.set b (.it s next), 2)
        | none => some (.tup [.sc (.bool false)], h, 2)
      | _ => none
    | _ => none
  | .bofs e x => match od t x with
    | .sc (.string s) => match I.o.room 1 [] (I.o.bofs s) with
      | true => some (.lit e false (I.o.bofs s), h, 0)
      | false => none
    | _ => none
  | .sofb e x => match elemsAt I.o h e (od t x) with
    | some xs => match I.o.sofb xs with
      | some s => some (.sc (.string s), h, 0)
      | none => none
    | none => none
  | .apps e bytes x y => match od t y with
    | .sc (.string s) => match od t x with
      | .lit _ true [] => match I.o.room bytes [] (I.o.bofs s) with
        | true => some (.sl h.length 0, h ++ [.row e 0 false (I.o.bofs s)], 0)
        | false => none
      | .sl k g => match rowOf h k g with
        | some (e', false, xs) => if e = e' then (match I.o.room bytes xs (I.o.bofs s) with
          | true => some (.sl k (g + 1), h.set k (.row e (g + 1) false (I.o.lapp xs (I.o.bofs s))), 1)
          | false => none) else none
        | _ => none
      | _ => none
    | _ => none
def gdOk (v : AV) (want : Bool) : Option Bool :=
  match v with
  | .sc (.bool b) => match b with | true => some want | false => some (!want)
  | .tup [] => some false
  | _ => none
def evOps (I : Ifc) (md : Nat) : List Ip → St → Option St
  | [], s => some s
  | ip :: r, s =>
    match ip.g with
    | some (j, want) => match gdOk (s.t.getD j .bad) want with
      | some true => match evOp I ip.i s.t s.h with
          | some (v, h, m) => match okU md ip m s with | false => none | true => evOps I md r ⟨put s.t ip.d v, h⟩
          | none => none
      | some false => evOps I md r ⟨put s.t ip.d (.tup []), s.h⟩
      | none => none
    | none => match evOp I ip.i s.t s.h with
      | some (v, h, m) => match okU md ip m s with | false => none | true => evOps I md r ⟨put s.t ip.d v, h⟩
      | none => none
def tryModes (I : Ifc) (ops : List Ip) (s : St) : List Nat → Option St
  | [] => none
  | md :: r => match evOps I md ops s with
    | some s' => some s'
    | none => tryModes I ops s r
def modes : List Nat := [0, 1, 3, 4, 6, 10, 18, 34]
def clean (lv : List Nat) : Nat → List AV → List AV
  | _, [] => []
  | i, v :: r => (match lv.contains i with | true => v | false => .bad) :: clean lv (i + 1) r
mutual
def hi : AV → Nat
  | .sl k _ => k + 1
  | .sub k _ _ _ => k + 1
  | .bptr k _ => k + 1
  | .rptr k _ _ _ => k + 1
  | .agg cs => his cs
  | .tup cs => his cs
  | .fn _ cs => his cs
  | _ => 0
def his : List AV → Nat
  | [] => 0
  | x :: r => max (hi x) (his r)
end
def hiS : Store → Nat
  | [] => 0
  | .box _ cs :: r => max (his cs) (hiS r)
  | .row _ _ _ _ :: r => hiS r
  | .it _ _ :: r => hiS r
def tidy (lv : List Nat) (m : Nat) (s : St) : St := ⟨clean lv 0 s.t, s.h.take (max m (max (his (clean lv 0 s.t)) (hiS s.h)))⟩
def exec (I : Ifc) : Cd → St → Option (X × St)
  | .skip, s => some (.nor, s)
  | .region ops, s => match tryModes I ops s modes with
    | some s' => some (.nor, s')
    | none => none
  | .seq a b, s => match exec I a s with
    | some (.nor, s') => exec I b s'
    | r => r
  | .cond c a b, s => match asBool (od s.t c) with
    | some true => exec I a s
    | some false => exec I b s
    | none => none
  | .block id a, s => match exec I a s with
    | some (.brk j, s') => if j = id then some (.nor, s') else some (.brk j, s')
    | r => r
  | .loop lv a, s => I.loop lv s.h.length a ⟨clean lv 0 s.t, s.h⟩
  | .exit id lv, s => some (.brk id, ⟨clean lv 0 s.t, s.h⟩)
  | .ret lv, s => some (.ret, ⟨clean lv 0 s.t, s.h⟩)
  | .seg lv af a, s => I.seg af a ⟨clean lv 0 s.t, s.h⟩
def snip (m : Nat) (s : St) : St := ⟨s.t, s.h.take (max m (max (his s.t) (hiS s.h)))⟩
def Ifc.apart (I : Ifc) (af : List Nat) (d : Cd) (s : St) : Option (X × St) :=
  match exec I d s with
  | some (.nor, s') => some (.nor, snip s.h.length ⟨clean af 0 s'.t, s'.h⟩)
  | some (.brk id, s') => some (.brk id, snip s.h.length s')
  | some (.ret, s') => some (.ret, snip s.h.length s')
  | none => none
def Ifc.round (I : Ifc) (lv : List Nat) (m : Nat) (d : Cd) (s : St) : Option (X × St) :=
  match exec I d s with
  | some (.nor, s') => I.loop lv m d (tidy lv m s')
  | some (.brk id, s') => some (.brk id, snip m s')
  | some (.ret, s') => some (.ret, snip m s')
  | none => none
def results (o : Ops) (s : St) : List Rs → Option (List AV)
  | [] => some []
  | .t n :: r => match results o s r with | some l => some (s.t.getD n .bad :: l) | none => none
  | .cell a ag n :: r => match loadAt o s.h ag n (s.t.getD a .bad), results o s r with
    | some v, some l => some (v :: l)
    | _, _ => none
def layRow (_o : Ops) (n : Nat) (h : Store) (keep : Bool) (ks : List Nat) (k g : Nat) : Option (AV × List Nat) :=
  match rowOf h k g with
  | some (e, ro, xs) => match keep && !ro && decide (n ≤ k) && !ks.contains k with
    | true => some (.sl (n + ks.length) 0, ks ++ [k])
    | false => match keep with
      | true => none
      | false => some (.lit e false xs, ks)
  | none => none
def laySub (o : Ops) (h : Store) (keep : Bool) (ks : List Nat) (k g : Nat) (lo hi : Int) : Option (AV × List Nat) :=
  match rowOf h k g with
  | some (e, _, xs) => match keep with
    | true => none
    | false => match o.lsub xs lo hi with
      | some ys => some (.lit e false ys, ks)
      | none => none
  | none => none
mutual
def lay1 (o : Ops) (n : Nat) (h : Store) (keep : Bool) : AV → List Nat → Option (AV × List Nat)
  | .sl k g, ks => layRow o n h keep ks k g
  | .sub k g lo hi, ks => laySub o h keep ks k g lo hi
  | .agg cs, ks => match lay o n h keep cs ks with | some (cs', ks') => some (.agg cs', ks') | none => none
  | .tup cs, ks => match lay o n h keep cs ks with | some (cs', ks') => some (.tup cs', ks') | none => none
  | .sc v, ks => some (.sc v, ks)
  | .lit e f xs, ks => some (.lit e f xs, ks)
  | _, _ => none
def lay (o : Ops) (n : Nat) (h : Store) (keep : Bool) : List AV → List Nat → Option (List AV × List Nat)
  | [], ks => some ([], ks)
  | x :: r, ks => match lay1 o n h keep x ks with
    | some (x', ks1) => match lay o n h keep r ks1 with | some (r', ks') => some (x' :: r', ks') | none => none
    | none => none
end
def kept (h : Store) : List Nat → Option Store
  | [] => some []
  | k :: ks => match h[k]?, kept h ks with
    | some (.row e _ false xs), some s => some (.row e 0 false xs :: s)
    | _, _ => none
def outer : Nat → Store → Option Store
  | 0, _ => some []
  | n + 1, .box t cs :: h => match cs.all isSc with
    | true => match outer n h with | some s => some (.box t cs :: s) | none => none
    | false => none
  | _, _ => none
def runFn (I : Ifc) (fn : Fn) (args : List AV) (s : Store) : Option (AV × Store) :=
  match exec I fn.body ⟨args ++ List.replicate (fn.ntmps - args.length) .bad, s⟩ with
  | some (.brk _, _) => none
  | none => none
  | some (_, st) =>
    match results I.o st fn.results with
    | none => none
    | some rs =>
      match fn.md with
      | .mv => match trim I.o (normL fn.rsh rs) st.h with
        | none => none
        | some (rs1, h1) => match gcOut s.length rs1 h1 with
          | none => none
          | some (rs', s') => some (match rs' with | [v] => v | l => .tup l, s')
      | md =>
        match lay I.o s.length st.h md.kp (normL fn.rsh rs) [] with
        | none => none
        | some (rs', ks) =>
          match outer s.length st.h, kept st.h ks with
          | some a, some b => some (match rs' with | [v] => v | l => .tup l, a ++ b)
          | _, _ => none
def ifc (o : Ops) (F : FuncId → Option Fn) (pr : FuncId → Option Prim) : Nat → Ifc
  | 0 => { o, call := fun _ _ _ => none, loop := fun _ _ _ _ => none, prim := pr, seg := fun _ _ _ => none }
  | n + 1 => { o, call := fun f args s => match F f with | some fn => runFn (ifc o F pr n) fn args s | none => none, loop := fun lv m c s => (ifc o F pr n).round lv m c s, prim := pr, seg := fun af d s => (ifc o F pr n).apart af d s }
end Go.Ab
namespace Go.Ab
open Go
def cmpVal (v : Value) : Option AV :=
  match v with
  | .slice none 0 0 => some (.lit 0 true [])
  | v => if plainSc v = true then some (.sc v) else none
def cmpVals : List Value → Option (List AV)
  | [] => some []
  | v :: r => match cmpVal v, cmpVals r with | some a, some l => some (a :: l) | _, _ => none
def cmpOd : Operand → Option Od
  | .tmp t => some (.t t)
  | .const v => (cmpVal v).map .c
  | .func f => some (.c (.fn f []))
  | .global _ => none
def cmpOds : List Operand → Option (List Od)
  | [] => some []
  | x :: r => match cmpOd x, cmpOds r with | some a, some l => some (a :: l) | _, _ => none
def cmpBnd : Option Operand → Option (Option Od)
  | some l => (cmpOd l).map some
  | none => some none
def isAggT (P : Program) (t : TypeId) : Option Bool :=
  match P.underlying t with
  | some (.struct _) | some (.array _ _) => some true
  | some _ => some false
  | none => none
def zeroOf (P : Program) (t : TypeId) : Option AV :=
  match P.info? t with
  | some i => match i.zero with
    | some z => if z.cells.size = i.size then
        (match z with
        | .agg cs => (cmpVals cs.toList).map .agg
        | z => cmpVal z) else none
    | none => none
  | none => none
def fieldOf (P : Program) (s : TypeId) (f : Nat) : Option Field :=
  match P.underlying s with
  | some (.struct fs) => fs[f]?
  | _ => none
def cmpParts (P : Program) (t : TypeId) : List (Nat × Operand) → Option (List (Nat × Nat × Od))
  | [] => some []
  | (i, x) :: r => match fieldOf P t i, cmpOd x, cmpParts P t r with
    | some f, some a, some l => if (P.info? f.type).isSome then some ((f.offset, P.cellsOf f.type, a) :: l) else none
    | _, _, _ => none
def cmpFull : Nat → List (Nat × Operand) → Option (List Od)
  | _, [] => some []
  | n, (i, x) :: r => if i = n then (match cmpOd x, cmpFull (n + 1) r with | some a, some l => some (a :: l) | _, _ => none) else none
def clsOf (P : Program) (t : TypeId) : Option Cls :=
  match P.underlying t with
  | some (.int _) => some .num
  | some .string => some .str
  | some .bool => some .bool
  | _ => none
def clsFlat (P : Program) : Nat → List Field → Option (List Cls)
  | _, [] => some []
  | n, f :: r => match clsOf P f.type, clsFlat P (n + 1) r with
    | some c, some l => if f.offset = n ∧ f.name ≠ "_" ∧ P.cellsOf f.type = 1 then some (c :: l) else none
    | _, _ => none
def clsFields (P : Program) : Nat → List Field → Option (List Cls)
  | _, [] => some []
  | n, f :: r => match clsOf P f.type with
    | some c => match clsFields P (n + 1) r with
      | some l => if f.offset = n ∧ f.name ≠ "_" ∧ P.cellsOf f.type = 1 then some (c :: l) else none
      | none => none
    | none => match P.underlying f.type with
      | some (.struct fs) => match clsFlat P 0 fs.toList with
        | some cs => match clsFields P (n + cs.length) r with
          | some l => if f.offset = n ∧ f.name ≠ "_" ∧ P.cellsOf f.type = cs.length ∧ P.stoodInHeld f.type = false ∧ (P.info? f.type).isSome = true then some (cs ++ l) else none
          | none => none
        | none => none
      | _ => none
def shOf (P : Program) : Nat → TypeId → List Sh
  | 0, _ => [.s]
  | n + 1, t => match P.underlying t with
    | some (.slice e) => [.l e]
    | some (.struct fs) => fs.toList.flatMap fun f => shOf P n f.type
    | _ => [.s]
def shV (P : Program) (t : TypeId) : Sh :=
  match P.underlying t with
  | some (.slice e) => .l e
  | some (.struct _) => .a (shOf P 6 t)
  | _ => .s
def shsOf (P : Program) (ts : Array TypeId) : List Sh := ts.toList.map (shV P)
def cmpOp (P : Program) (o : Oper) : Option Ir :=
  match o.op with
  | .move x | .assign x => (cmpOd x).map .mov
  | .pick c a b => match cmpOd c, cmpOd a, cmpOd b with | some c, some a, some b => some (.pick c a b) | _, _, _ => none
  | .alloc e => match zeroOf P e with | some z => some (.box e (P.cellsOf e) (.c z)) | none => none
  | .box e x => (cmpOd x).map (.box e (P.cellsOf e))
  | .build t ps => match P.underlying t, zeroOf P t, cmpParts P t ps.toList with
    | some (.struct fs), some (.agg z), some l => if fs.toList.all (fun f => (P.info? f.type).isSome) = true then some (.build z l) else none
    | _, _, _ => none
  | .buildSlice t len ps => match P.underlying t, cmpFull 0 ps.toList with
    | some (.slice e), some l => match zeroOf P e with
      | some _ => if l.length = len ∧ 0 < P.cellsOf e ∧ len * P.cellsOf e ≤ 2 ^ 24 then some (.bsl e (P.cellsOf e) (shV P e) l) else none
      | none => none
    | _, _ => none
  | .load t p => match isAggT P t, cmpOd p with | some ag, some p => if (P.info? t).isSome then some (.load ag (P.cellsOf t) p) else none | _, _ => none
  | .store t p x => match cmpOd p, cmpOd x with | some p, some x => if (P.info? t).isSome then some (.store (P.cellsOf t) p x) else none | _, _ => none
  | .binOp op t x y _ => match cmpOd x, cmpOd y with
    | some x, some y => match clsOf P t with
      | some c => some (.bin op c x y)
      | none => match op, P.underlying t with
        | .eql, some (.struct fs) => if P.stoodInHeld t = false ∧ P.eqGuardType P.depth t = false then (clsFields P 0 fs.toList).map fun cs => .eqs false cs x y else none
        | .neq, some (.struct fs) => if P.stoodInHeld t = false ∧ P.eqGuardType P.depth t = false then (clsFields P 0 fs.toList).map fun cs => .eqs true cs x y else none
        | .eql, some (.pointer _) => match y with | .c (.sc (.pointer none)) => some (.isn false x) | _ => none
        | .neq, some (.pointer _) => match y with | .c (.sc (.pointer none)) => some (.isn true x) | _ => none
        | _, _ => none
    | _, _ => none
  | .nilCheck x => (cmpOd x).map .nck
  | .unOp op _ x => match op with
    | .not | .neg => (cmpOd x).map (.un op)
    | _ => none
  | .convert s d x => match P.underlying s, P.underlying d, cmpOd x with
    | some (.int _), some (.int k), some x => some (.conv k x)
    | some .string, some .string, some x => some (.str x)
    | some .string, some (.slice e), some x => match P.underlying e with
      | some (.int .u8) => if P.cellsOf e = 1 then some (.bofs e x) else none
      | _ => none
    | some (.slice e), some .string, some x => match P.underlying e with
      | some (.int .u8) => if P.cellsOf e = 1 then some (.sofb e x) else none
      | _ => none
    | _, _, _ => none
  | .range t x => match P.underlying t, cmpOd x with
    | some .string, some x => some (.rng x)
    | _, _ => none
  | .next x true => (cmpOd x).map .nxt
  | .makeFunc (.func f) first caps => if first.size = 0 then (cmpOds caps.toList).map (.mkfn f) else none
  | .slice t x lo hi none =>
    match P.underlying t, cmpOd x, cmpBnd lo, cmpBnd hi with
    | some .string, some x, some lo, some hi => some (.ssl x lo hi)
    | some (.slice e), some x, some lo, some hi => if (P.info? e).isSome ∧ 0 < P.cellsOf e then some (.sls e x lo hi) else none
    | _, _, _, _ => none
  | .slice t x lo (some hi) (some mx) =>
    match P.underlying t, cmpOd x, cmpBnd lo, cmpOd hi, cmpOd mx with
    | some (.slice e), some x, some lo, some hi, some mx => if (P.info? e).isSome then some (.sls3 x lo hi mx) else none
    | _, _, _, _, _ => none
  | .fieldAddr s x f => match fieldOf P s f, cmpOd x with
    | some f, some x => if (P.info? f.type).isSome ∧ P.cellsOf f.type ≠ 0 then some (.fad x f.offset) else none
    | _, _ => none
  | .field s x f => match fieldOf P s f, cmpOd x with
    | some f, some x => match isAggT P f.type with
      | some ag => if (P.info? f.type).isSome then some (.fld ag (P.cellsOf f.type) f.offset x) else none
      | none => none
    | _, _ => none
  | .indexAddr t x i => match P.underlying t, cmpOd x, cmpOd i with
    | some (.slice e), some x, some i => if (P.info? e).isSome ∧ 0 < P.cellsOf e then some (.iadS e x i) else none
    | _, _, _ => none
  | .index t x i => match P.underlying t, cmpOd x, cmpOd i with
    | some .string, some x, some i => some (.sidx x i)
    | _, _, _ => none
  | .extract x i => (cmpOd x).map (.ext · i)
  | .call { callee := .builtin .len, args, argTypes } => match args.toList, argTypes.toList with
    | [x], [t] => match P.underlying t, cmpOd x with
      | some .string, some x => some (.len true x)
      | some (.slice _), some x => some (.len false x)
      | _, _ => none
    | _, _ => none
  | .call { callee := .builtin .append, args, argTypes } => match args.toList, argTypes.toList with
    | [x, y], [t, t'] => match P.underlying t, cmpOd x, cmpOd y with
      | some (.slice e), some x, some y => match zeroOf P e with
        | some _ => if t = t' ∧ 0 < P.cellsOf e then some (.app e (P.bytesOf e) x y) else
          (match P.underlying t', P.underlying e with
          | some .string, some (.int .u8) => if P.cellsOf e = 1 then some (.apps e (P.bytesOf e) x y) else none
          | _, _ => none)
        | none => none
      | _, _, _ => none
    | _, _ => none
  | .call { callee := .builtin .clear, args, argTypes } => match args.toList, argTypes.toList with
    | [x], [t] => match P.underlying t, cmpOd x with
      | some (.slice e), some x => match zeroOf P e with
        | some z => if 0 < P.cellsOf e then some (.clr e z x) else none
        | none => none
      | _, _ => none
    | _, _ => none
  | .call { callee := .builtin .max, args, .. } => (cmpOds args.toList).map (.mx true)
  | .call { callee := .builtin .min, args, .. } => (cmpOds args.toList).map (.mx false)
  | .call { callee := .value (.func f), args, .. } => match P.funcs[f]? with
    | some fn => if fn.body.isSome ∧ fn.name ≠ "runtime.NumGoroutine" then (cmpOds args.toList).map (.call f (shsOf P fn.params)) else none
    | none => none
  | .call { callee := .value (.tmp x), args, .. } => (cmpOds args.toList).map (.callv (.t x))
  | _ => none
def cmpGuard (ops : Array Oper) : Option (Nat × Bool) → Option (Option (Nat × Bool))
  | none => some none
  | some (j, want) => match (ops[j]?).bind (·.dst) with
    | some d => some (some (d, want))
    | none => none
inductive Kind3 where
  | pure | reads | acts
  deriving DecidableEq
def kindOf : Ir → Kind3
  | .box .. | .store .. | .call .. | .callv .. | .app .. | .callz .. | .clr .. | .nil .. | .rng .. | .nxt .. | .apps .. | .boxr .. | .buildr .. => .acts
  | .load .. | .len false _ | .iadS .. | .sls .. | .fad .. | .sls3 .. | .sofb .. | .nck .. => .reads
  | _ => .pure
def Od.tmps : Od → List Nat
  | .t n => [n]
  | .c _ => []
def Ir.ods : Ir → List Od
  | .mov x | .box _ _ x | .load _ _ x | .un _ x | .conv _ x | .str x | .fad x _ | .fld _ _ _ x | .len _ x | .ext x _ | .clr _ _ x => [x]
  | .pick c a b => [c, a, b]
  | .build _ ps => ps.map (·.2.2)
  | .buildr _ ps _ => ps.map (·.2.2)
  | .bsl _ _ _ xs | .mkfn _ xs | .mx _ xs => xs
  | .call _ _ xs | .callz _ _ xs => xs
  | .store _ p x | .bin _ _ p x | .eqs _ _ p x | .iadS _ p x | .sidx p x | .app _ _ p x => [p, x]
  | .ssl x lo hi | .sls _ x lo hi => x :: (lo.toList ++ hi.toList)
  | .sls3 x lo b c => x :: b :: c :: lo.toList
  | .callv x xs => x :: xs
  | .nil _ => []
  | .nck x | .isn _ x | .boxr _ _ x _ => [x]
  | .rng x | .nxt x | .bofs _ x | .sofb _ x => [x]
  | .apps _ _ x y => [x, y]
def Ip.sees (ip : Ip) : List Nat := ip.i.ods.flatMap Od.tmps ++ (match ip.g with | some (j, _) => [j] | none => [])
def nilCode (n : Nat) : List Nat → Option TypeId
  | [] => none
  | c :: r => if 1000000000 ≤ c ∧ c < 50000000000000 ∧ (c - 1000000000) / 100000 = n then some ((c - 1000000000) % 100000) else nilCode n r
def boxCodes (n : Nat) : List Nat → List (Nat × TypeId × Bool)
  | [] => []
  | c :: r => match decide (100000000000000 ≤ c) && decide ((c - 100000000000000) / 20000000 = n) with
    | true => ((c - 100000000000000) / 200000 % 100, (c - 100000000000000) / 2 % 100000, (c - 100000000000000) % 2 == 1) :: boxCodes n r
    | false => boxCodes n r
def fzIr (fz : List Nat) (d : Option Nat) (i : Ir) : Ir :=
  match i with
  | .call f shs args => match d with
    | some n => match fz.contains n with
      | true => .callz f shs args
      | false => match fz.contains (n + 50000000000000) with | true => .call f [] args | false => .call f shs args
    | none => .call f shs args
  | .mov (.c (.lit e0 true [])) => match d with
    | some n => match nilCode n fz with | some e => .nil e | none => .mov (.c (.lit e0 true []))
    | none => .mov (.c (.lit e0 true []))
  | .box ty n x => match d with
    | some d => match boxCodes d fz with | [] => .box ty n x | l => .boxr ty n x l
    | none => .box ty n x
  | .build z ps => match d with
    | some d => match boxCodes d fz with | [] => .build z ps | l => .buildr z ps l
    | none => .build z ps
  | i => i
def cmpIps (P : Program) (fz : List Nat) (ops : Array Oper) : List Oper → Option (List Ip)
  | [] => some []
  | o :: r => match cmpOp P o, cmpGuard ops o.guard, cmpIps P fz ops r with
    | some i, some g, some l => some (⟨o.dst, fzIr fz o.dst i, g, 0⟩ :: l)
    | _, _, _ => none
def apartIp (x y : Ip) : Bool :=
  (match x.d with | some d => !(y.sees.contains d) && y.d != some d | none => true) && (match y.d with | some d => !(x.sees.contains d) | none => true)
def Ir.mainOk (i : Ir) : Bool :=
  match i.main with
  | .t _ => true
  | .c v => v.key.isNone
def drawOk (b : Array Nat) (ips : List Ip) : Bool :=
  ips.zipIdx.all fun (y, j) => decide (b.getD j 0 < 2 ^ j) && y.i.mainOk && ips.zipIdx.all fun (x, i) => !decide (i < j) ||
    ((x.d.isNone || x.d != y.d) && ((b.getD j 0).testBit i || (apartIp x y && !(decide (kindOf x.i = .acts) && decide (kindOf y.i = .acts)))))
def looseIp (b : Array Nat) (i j : Nat) : Bool := decide (i ≠ j) && !(b.getD j 0).testBit i && !(b.getD i 0).testBit j
def markU (b : Array Nat) (ips : List Ip) : List Ip :=
  ips.zipIdx.map fun (x, i) => { x with u := (match kindOf x.i with
    | .acts => if ips.zipIdx.any (fun (y, j) => decide (kindOf y.i = .reads) && looseIp b i j) then 1 else 0
    | .reads => if ips.zipIdx.any (fun (y, j) => decide (kindOf y.i = .acts) && looseIp b i j) then 2 else 0
    | .pure => 0) }
def ins (x : Nat) (l : List Nat) : List Nat := match l.contains x with | true => l | false => x :: l
def insAll : List Nat → List Nat → List Nat
  | [], l => l
  | x :: r, l => ins x (insAll r l)
def del : Option Nat → List Nat → List Nat
  | some n, l => l.filter fun x => x != n
  | none, l => l
def liveOps : List Ip → List Nat → List Nat
  | [], af => af
  | ip :: r, af => insAll ip.sees (del ip.d (liveOps r af))
def live : Cd → List Nat → List Nat
  | .skip, af => af
  | .region ops, af => liveOps ops af
  | .seq a b, af => live a (live b af)
  | .cond c a b, af => insAll c.tmps (insAll (live a af) (live b af))
  | .block _ a, af => live a af
  | .loop lv _, _ => lv
  | .seg lv _ _, _ => lv
  | .exit _ lv, _ => lv
  | .ret lv, _ => lv
def exLv : List (Nat × List Nat) → Nat → List Nat
  | [], _ => []
  | (j, l) :: r, id => if j = id then l else exLv r id
def Ip.forks (ip : Ip) : Nat := match ip.i with
  | .pick .. => 1
  | .mx _ xs => xs.length - 1
  | _ => 0
def ways : Cd → Nat
  | .skip => 1
  | .region ops => 1 + (ops.map Ip.forks).sum
  | .seq a b => ways a * ways b
  | .cond _ a b => ways a + ways b
  | .block _ a => ways a + 1
  | .loop _ _ => 0
  | .exit _ _ => 0
  | .ret _ => 0
  | .seg _ _ _ => 1
def bulk : Cd → Nat
  | .region ops => ops.length
  | .seq a b => bulk a + bulk b
  | .cond _ a b => 3 + bulk a + bulk b
  | .block _ a => bulk a
  | .loop _ _ => 8
  | .seg _ _ _ => 4
  | _ => 1
def segCode : List Nat → Option Nat
  | [] => none
  | c :: r => if 1000000 ≤ c ∧ c < 1000000000 then some (c - 1000000) else segCode r
def mkSeg (fz : List Nat) (a b : Cd) (lv af : List Nat) : Cd :=
  match segCode fz with
  | some n => if 2 ≤ ways a ∧ n ≤ bulk b then .seg lv af b else b
  | none => b
def cmp (P : Program) (fz : List Nat) (rt : List Nat) : List (Nat × List Nat) → List Nat → Code → Option Cd
  | _, _, .skip => some .skip
  | _, _, .region _ ops draw => match cmpIps P fz ops ops.toList with
    | some l => match draw with
      | false => some (.region l)
      | true => match drawOk (Region.before ops) l && Region.noSelect ops with
        | true => some (.region (markU (Region.before ops) l))
        | false => none
    | none => none
  | ex, af, .seq a b => match cmp P fz rt ex af b with
    | some b' => match cmp P fz rt ex (live b' af) a with | some a' => some (.seq a' (mkSeg fz a' b' (live b' af) af)) | none => none
    | none => none
  | ex, af, .cond c a b => match cmpOd c, cmp P fz rt ex af a, cmp P fz rt ex af b with | some c, some a, some b => some (.cond c a b) | _, _, _ => none
  | ex, af, .block id a => (cmp P fz rt ((id, af) :: ex) af a).map (.block id)
  | ex, _, .loop a => match cmp P fz rt ex [] a with
    | some a1 => match cmp P fz rt ex (live a1 []) a with | some a2 => some (.loop (live a1 []) a2) | none => none
    | none => none
  | ex, _, .exit id => some (.exit id (exLv ex id))
  | _, _, .ret => some (.ret rt)
  | _, _, _ => none
def rsTmps : List Rs → List Nat
  | [] => []
  | .t n :: r => n :: rsTmps r
  | .cell a _ _ :: r => a :: rsTmps r
def cmpRs (P : Program) : List ResultVar → Option (List Rs)
  | [] => some []
  | .tmp t :: r => (cmpRs P r).map (.t t :: ·)
  | .cell a t :: r => match isAggT P t, cmpRs P r with
    | some ag, some l => if (P.info? t).isSome then some (.cell a ag (P.cellsOf t) :: l) else none
    | _, _ => none
def cmpFn (P : Program) (md : Md) (fz : List Nat) (f : FuncId) : Option Fn :=
  match P.funcs[f]? with
  | some fn => match fn.body with
    | some c => match cmpRs P fn.results.toList with
      | some rs => match cmp P fz (rsTmps rs) [] (rsTmps rs) c with
        | some b => if fn.name ≠ "runtime.NumGoroutine" then some ⟨fn.ntmps, rs, shsOf P fn.resultTypes, md, b⟩ else none
        | none => none
      | none => none
    | none => none
  | none => none
end Go.Ab
namespace Go.Ab
open Go
structure Base where
  n : Nat
  w0 : World
instance : CoeOut Base Nat := ⟨Base.n⟩
def RowAt (base : Base) (w : World) (e : TypeId) (size : Nat) (v : Value) (n : Nat) (vals : List Value) : Prop :=
  vals.length = n * size ∧
  ((n = 0 ∧ ∃ a, v = .slice a 0 0) ∨
   ∃ g cap cur, 0 < cap ∧ v = .slice (some ⟨g, 0, none⟩) n cap ∧ base ≤ g ∧ w.heap[g]? = some (.cells cur e (0, 0)) ∧ n ≤ cap ∧ cap ≤ maxLen ∧ cur.size = cap * size ∧ cur.toList.take (n * size) = vals)
def rowBlk : Value → Option Nat
  | .slice (some a) _ (_ + 1) => some a.block
  | _ => none
def entBlk (E : Env) (k : Nat) : Ent → Option Nat
  | .box _ _ => some (E.box k)
  | .row _ _ false _ => rowBlk (E.row k)
  | .row _ _ true _ => none
  | .it _ _ => some (E.box k)
def blkOf (E : Env) (h : Store) (k : Nat) : Option Nat := (h[k]?).bind (entBlk E k)
def EntOk (base : Base) (E : Env) (k : Nat) : Ent → Prop
  | .box t cs => E.gen k = none ∧ E.top k = 0 ∧ base ≤ E.box k ∧ (∀ c, c ∈ cs → c.one = true) ∧ ∃ vals, E.w.heap[E.box k]? = some (.cells vals.toArray t (0, 0)) ∧ VL E cs vals
  | .row e g false xs => E.gen k = some g ∧ E.top k = g ∧ E.esz k = E.P.cellsOf e ∧ (∀ x, x ∈ xs → x.cells.length = E.P.cellsOf e) ∧
      ∃ vals, RowAt base E.w e (E.P.cellsOf e) (E.row k) xs.length vals ∧ DL E.P E.w E.own (flat xs) vals ∧ ∀ u, u ∈ vals → u.oneCell' = true
  | .row e g true xs => E.gen k = some g ∧ E.top k = g ∧ E.esz k = E.P.cellsOf e ∧ DL E.P E.w E.own [.lit e false xs] [E.row k] ∧ (xs ≠ [] → ∃ b, HeadAt (E.row k) b)
  | .it s pos => E.gen k = none ∧ E.top k = 0 ∧ base ≤ E.box k ∧ 0 ≤ pos ∧ E.w.heap[E.box k]? = some (.stringIter s pos.toNat)
structure Lo (base : Base) (w : World) : Prop where
  le : base ≤ w.heap.size
  low : ∀ b : Nat, b < base.n → w.heap[b]? = base.w0.heap[b]?
structure Rel (base : Base) (h : Store) (E : Env) : Prop where
  n : E.n = h.length
  lo : Lo base E.w
  ent : ∀ k e, h[k]? = some e → EntOk base E k e
  nogen : ∀ k, h.length ≤ k → E.gen k = none
  own : ∀ k b, blkOf E h k = some b → E.own b
  inj : ∀ k j b, blkOf E h k = some b → blkOf E h j = some b → k = j
  lt : ∀ b, E.own b → b < E.w.heap.size
theorem Rel.le {base : Base} {h : Store} {E : Env} (R : Rel base h E) : base ≤ E.w.heap.size := R.lo.le
structure Step (h : Store) (E : Env) (h' : Store) (E' : Env) : Prop where
  ext : Ext E E'
  os : E'.w.os = E.w.os
  tape : E'.w.tape = E.w.tape
  output : E'.w.output = E.w.output
  size : E.w.heap.size ≤ E'.w.heap.size
  heap : ∀ b, b < E.w.heap.size → (∀ k, blkOf E h k ≠ some b) → E'.w.heap[b]? = E.w.heap[b]?
  fresh : ∀ b, E'.own b → E.own b ∨ E.w.heap.size ≤ b
  held : ∀ b, E.own b → (∀ k, blkOf E h k ≠ some b) → E'.own b
  blk : ∀ k b, blkOf E' h' k = some b → (∃ j, blkOf E h j = some b) ∨ E.w.heap.size ≤ b
theorem blk_ge {base : Base} {h : Store} {E : Env} (R : Rel base h E) {k b : Nat} (hb : blkOf E h k = some b) : base ≤ b := by
  unfold blkOf at hb
  obtain ⟨e, he, hbe⟩ := Option.bind_eq_some_iff.1 hb
  have ho := R.ent k e he
  cases e with
  | box t cs => cases hbe; exact ho.2.2.1
  | it s pos => cases hbe; exact ho.2.2.1
  | row e g ro xs =>
    cases ro with
    | true => cases hbe
    | false =>
      obtain ⟨_, _, _, _, vals, hrow, _⟩ := ho
      rcases hrow.2 with ⟨_, a, ha⟩ | ⟨b0, cap, cur, hc, ha, hbb, _⟩
      · rw [entBlk, ha] at hbe; cases a <;> cases hbe
      · rw [entBlk, ha] at hbe
        cases cap with
        | zero => omega
        | succ c => cases hbe; exact hbb
theorem Rel.step_lo {base : Base} {h h' : Store} {E E' : Env} (R : Rel base h E) (S : Step h E h' E') : Lo base E'.w :=
  ⟨Nat.le_trans R.le S.size, fun b hb => by
    rw [S.heap b (Nat.lt_of_lt_of_le hb R.le) (fun k hk => by have := blk_ge R hk; omega)]
    exact R.lo.low b hb⟩
theorem Ext.refl (E : Env) : Ext E E := ⟨rfl, Nat.le_refl _, fun _ _ => Nat.le_refl _, fun _ _ _ _ h => ⟨h, rfl, rfl⟩, fun _ _ => rfl, fun _ _ h h' => ⟨h, h'⟩⟩
theorem Ext.trans {A B C : Env} (x : Ext A B) (y : Ext B C) : Ext A C where
  P := y.P.trans x.P
  n := Nat.le_trans x.n y.n
  top k hk := Nat.le_trans (x.top k hk) (y.top k (Nat.lt_of_lt_of_le hk x.n))
  gen k g hk hg hc := by
    obtain ⟨h1, h2, h3⟩ := y.gen k g (Nat.lt_of_lt_of_le hk x.n) (Nat.le_trans hg (x.top k hk)) hc
    obtain ⟨h4, h5, h6⟩ := x.gen k g hk hg h1
    exact ⟨h4, h2.trans h5, h3.trans h6⟩
  box k hk := (y.box k (Nat.lt_of_lt_of_le hk x.n)).trans (x.box k hk)
  keep a v h h' := by
    obtain ⟨h1, h2⟩ := x.keep a v h h'
    exact y.keep a v h1 h2
theorem Step.refl (h : Store) (E : Env) : Step h E h E := ⟨Ext.refl E, rfl, rfl, rfl, Nat.le_refl _, fun _ _ _ => rfl, fun _ h => .inl h, fun _ h _ => h, fun k _ h => .inl ⟨k, h⟩⟩
theorem Step.trans {h h' h'' : Store} {A B C : Env} (x : Step h A h' B) (y : Step h' B h'' C) (hlt : ∀ b, A.own b → b < A.w.heap.size) : Step h A h'' C where
  ext := x.ext.trans y.ext
  os := y.os.trans x.os
  tape := y.tape.trans x.tape
  output := y.output.trans x.output
  size := Nat.le_trans x.size y.size
  heap b hb hn := by
    rw [y.heap b (Nat.lt_of_lt_of_le hb x.size) (fun k hk => ?_), x.heap b hb hn]
    rcases x.blk k b hk with ⟨j, hj⟩ | hj
    · exact hn j hj
    · omega
  fresh b hb := by
    rcases y.fresh b hb with h1 | h1
    · exact x.fresh b h1
    · exact .inr (Nat.le_trans x.size h1)
  held b hb hn := by
    refine y.held b (x.held b hb hn) (fun k hk => ?_)
    rcases x.blk k b hk with ⟨j, hj⟩ | hj
    · exact hn j hj
    · have := hlt b hb; omega
  blk k b hk := by
    rcases y.blk k b hk with ⟨j, hj⟩ | hj
    · exact x.blk j b hj
    · exact .inr (Nat.le_trans x.size hj)
theorem keep_of {base : Base} {h : Store} {E E' : Env} (R : Rel base h E) (heap : ∀ b, b < E.w.heap.size → (∀ k, blkOf E h k ≠ some b) → E'.w.heap[b]? = E.w.heap[b]?)
    (fresh : ∀ b, E'.own b → E.own b ∨ E.w.heap.size ≤ b) (a : Addr) (v : Value) (ho : ¬ E.own a.block) (hc : E.w.cell? a = some v) : ¬ E'.own a.block ∧ E'.w.cell? a = some v := by
  have hlt := block_lt_of_cell hc
  refine ⟨fun h => ?_, ?_⟩
  · rcases fresh _ h with h1 | h1
    · exact ho h1
    · omega
  · exact (World.cell?_of_block (heap _ hlt (fun k hk => ho (R.own k _ hk)))).trans hc
theorem DL.step {E E' : Env} (x : Ext E E') {l : List AV} {vs : List Value} (h : DL E.P E.w E.own l vs) : DL E'.P E'.w E'.own l vs := by
  rw [x.P]; exact h.ext x.keep
theorem RowAt.step {base : Base} {w w' : World} {e : TypeId} {size : Nat} {v : Value} {n : Nat} {vals : List Value} (h : RowAt base w e size v n vals) (hb : ∀ b, rowBlk v = some b → w'.heap[b]? = w.heap[b]?) : RowAt base w' e size v n vals := by
  refine ⟨h.1, ?_⟩
  rcases h.2 with h1 | ⟨g, cap, cur, h0, rfl, h2, h3, h4⟩
  · exact .inl h1
  · refine .inr ⟨g, cap, cur, h0, rfl, h2, ?_, h4⟩
    rw [hb g (by cases cap with | zero => omega | succ c => rfl)]
    exact h3
theorem EntOk.step {base : Base} {E E' : Env} {k : Nat} {e : Ent} (x : Ext E E') (h : EntOk base E k e)
    (env : E'.gen k = E.gen k ∧ E'.top k = E.top k ∧ E'.esz k = E.esz k ∧ E'.row k = E.row k ∧ E'.box k = E.box k)
    (heap : ∀ b, entBlk E k e = some b → E'.w.heap[b]? = E.w.heap[b]?) : EntOk base E' k e := by
  obtain ⟨e1, e2, e3, e4, e5⟩ := env
  cases e with
  | box t cs =>
    obtain ⟨h1, h0, h2, h3, vals, h4, h5⟩ := h
    refine ⟨by rw [e1]; exact h1, by rw [e2]; exact h0, by rw [e5]; exact h2, h3, vals, ?_, h5.ext x⟩
    rw [e5, heap _ rfl]; exact h4
  | row e g ro xs =>
    cases ro with
    | false =>
      obtain ⟨h1, h2, h3, h4, vals, h5, h6, h7⟩ := h
      refine ⟨by rw [e1]; exact h1, by rw [e2]; exact h2, by rw [e3, x.P]; exact h3, fun y hy => by rw [x.P]; exact h4 y hy, vals, ?_, h6.step x, h7⟩
      rw [e4, x.P]; exact h5.step (fun b hb => heap b hb)
    | true =>
      obtain ⟨h1, h2, h3, h4, h5⟩ := h
      exact ⟨by rw [e1]; exact h1, by rw [e2]; exact h2, by rw [e3, x.P]; exact h3, by rw [e4]; exact h4.step x, by rw [e4]; exact h5⟩
  | it s pos =>
    obtain ⟨h1, h2, h3, h4, h5⟩ := h
    exact ⟨by rw [e1]; exact h1, by rw [e2]; exact h2, by rw [e5]; exact h3, h4, by rw [e5, heap _ rfl]; exact h5⟩
theorem blkOf_some {E : Env} {h : Store} {k b : Nat} (hb : blkOf E h k = some b) : ∃ e, h[k]? = some e ∧ entBlk E k e = some b := by
  unfold blkOf at hb
  exact Option.bind_eq_some_iff.1 hb
theorem blkOf_of {E : Env} {h : Store} {k : Nat} {e : Ent} (he : h[k]? = some e) : blkOf E h k = entBlk E k e := by
  unfold blkOf; rw [he]; rfl
theorem entBlk_same {E E' : Env} {k : Nat} (h4 : E'.row k = E.row k) (h5 : E'.box k = E.box k) (e : Ent) : entBlk E' k e = entBlk E k e := by
  cases e with
  | box => simp only [entBlk, h5]
  | row _ _ ro _ => cases ro <;> simp only [entBlk, h4]
  | it => simp only [entBlk, h5]
theorem Rel.upd {base : Base} {h h' : Store} {E E' : Env} (k : Nat) (e' : Ent) (R : Rel base h E) (S : Step h E h' E') (hlen : E'.n = h'.length) (hle : h.length ≤ h'.length) (hk : h'[k]? = some e')
    (others : ∀ j, j ≠ k → h'[j]? = h[j]?)
    (env : ∀ j, j ≠ k → E'.gen j = E.gen j ∧ E'.top j = E.top j ∧ E'.esz j = E.esz j ∧ E'.row j = E.row j ∧ E'.box j = E.box j)
    (heap : ∀ j, j ≠ k → ∀ b, blkOf E h j = some b → E'.w.heap[b]? = E.w.heap[b]? ∧ E'.own b) (ok : EntOk base E' k e')
    (kown : ∀ b, blkOf E' h' k = some b → E'.own b ∧ ∀ j, j ≠ k → blkOf E h j ≠ some b) (lt : ∀ b, E'.own b → b < E'.w.heap.size) : Rel base h' E' := by
  have same : ∀ j, j ≠ k → blkOf E' h' j = blkOf E h j := fun j hj => by
    obtain ⟨_, _, _, e4, e5⟩ := env j hj
    unfold blkOf; rw [others j hj]
    cases h[j]? with
    | none => rfl
    | some e => exact entBlk_same e4 e5 e
  refine ⟨hlen, R.step_lo S, fun j e hj => ?_, fun j hj => ?_, fun j b hj => ?_, fun i j b hi hj => ?_, lt⟩
  · by_cases e0 : j = k
    · subst e0; rw [hk] at hj; cases hj; exact ok
    · have hj0 := hj
      rw [others j e0] at hj
      exact (R.ent j e hj).step S.ext (env j e0) (fun b hb => (heap j e0 b (by rw [blkOf_of hj]; exact hb)).1)
  · have e0 : j ≠ k := fun e0 => by
      subst e0
      rw [List.getElem?_eq_none hj] at hk
      cases hk
    rw [(env j e0).1]; exact R.nogen j (Nat.le_trans hle hj)
  · by_cases e0 : j = k
    · subst e0; exact (kown b hj).1
    · rw [same j e0] at hj; exact (heap j e0 b hj).2
  · by_cases e1 : i = k
    · by_cases e2 : j = k
      · rw [e1, e2]
      · subst e1; rw [same j e2] at hj; exact absurd hj ((kown b hi).2 j e2)
    · by_cases e2 : j = k
      · subst e2; rw [same i e1] at hi; exact absurd hi ((kown b hj).2 i e1)
      · rw [same i e1] at hi; rw [same j e2] at hj; exact R.inj i j b hi hj
end Go.Ab
namespace Go.Ab
open Go
theorem VL.one_inv {E : Env} {x : AV} {us : List Value} (h : VL E [x] us) : ∃ u, us = [u] ∧ VL E [x] [u] := by
  obtain ⟨v, us', rfl, h1, h2⟩ := h.uncons
  cases h2; exact ⟨v, rfl, h1⟩
theorem DL.sc_inv {P : Program} {w : World} {own : Nat → Prop} {v u : Value} (h : DL P w own [.sc v] [u]) : u = v ∧ plainSc v = true := by cases h with | sc h t => exact ⟨rfl, h⟩
theorem VL.sc_inv {E : Env} {v u : Value} (h : VL E [.sc v] [u]) : u = v ∧ plainSc v = true := by cases h with | data h t => exact h.sc_inv
theorem VL.agg_inv {E : Env} {cs : List AV} {u : Value} (h : VL E [.agg cs] [u]) : ∃ vs, u = .agg vs.toArray ∧ VL E cs vs := by
  cases h with
  | data h t => cases h with | agg h t => exact ⟨_, rfl, h.vl⟩
  | agg h t => exact ⟨_, rfl, h⟩
theorem VL.tup_inv {E : Env} {cs : List AV} {u : Value} (h : VL E [.tup cs] [u]) : ∃ vs, u = .tuple vs.toArray ∧ VL E cs vs := by
  cases h with
  | data h t => cases h
  | tup h t => exact ⟨_, rfl, h⟩
theorem VL.fn_inv {E : Env} {f : FuncId} {cs : List AV} {u : Value} (h : VL E [.fn f cs] [u]) : ∃ vs, u = .func (.func f) #[] vs.toArray ∧ VL E cs vs := by
  cases h with
  | data h t => cases h
  | fn h t => exact ⟨_, rfl, h⟩
theorem VL.lit_inv {E : Env} {e : TypeId} {f : Bool} {xs : List AV} {u : Value} (h : VL E [.lit e f xs] [u]) : DL E.P E.w E.own [.lit e f xs] [u] := by
  cases h with | data h t => exact h
theorem VL.sl_inv {E : Env} {k g : Nat} {u : Value} (h : VL E [.sl k g] [u]) : k < E.n ∧ g ≤ E.top k ∧ u.oneCell' = true ∧ (E.gen k = some g → u = E.row k) := by
  cases h with
  | data h t => cases h
  | sl hk hg h1 h t => exact ⟨hk, hg, h1, h⟩
theorem VL.sub_inv {E : Env} {k g : Nat} {lo hi : Int} {u : Value} (h : VL E [.sub k g lo hi] [u]) : k < E.n ∧ g ≤ E.top k ∧ u.oneCell' = true ∧
    (E.gen k = some g → 0 ≤ lo ∧ lo ≤ hi ∧ ∃ a cap, u = .slice a (hi - lo).toNat cap ∧ (hi - lo).toNat ≤ cap ∧ cap ≤ maxLen ∧ (lo < hi → ∃ b, HeadAt (E.row k) b ∧ a = some ⟨b, lo.toNat * E.esz k, none⟩) ∧ (lo = 0 → ∃ n, E.row k = .slice a n cap)) := by
  cases h with
  | data h t => cases h
  | sub hk hg h1 h t => exact ⟨hk, hg, h1, h⟩
theorem VL.bptr_inv {E : Env} {b off : Nat} {u : Value} (h : VL E [.bptr b off] [u]) : b < E.n ∧ u = .pointer (some ⟨E.box b, off, none⟩) := by
  cases h with
  | data h t => cases h
  | bptr hk t => exact ⟨hk, rfl⟩
theorem VL.rptr_inv {E : Env} {k g : Nat} {i : Int} {off : Nat} {u : Value} (h : VL E [.rptr k g i off] [u]) : k < E.n ∧ g ≤ E.top k ∧ (E.gen k = some g → ∃ b, HeadAt (E.row k) b ∧ u = .pointer (some ⟨b, i.toNat * E.esz k + off, none⟩)) := by
  cases h with
  | data h t => cases h
  | rptr hk hg h1 h t => exact ⟨hk, hg, h⟩
theorem VL.lptr_inv {E : Env} {e : TypeId} {xs : List AV} {i : Int} {off : Nat} {u : Value} (h : VL E [.lptr e xs i off] [u]) : ∃ b o vals, (∀ x, x ∈ xs → x.cells.length = E.P.cellsOf e) ∧ DL E.P E.w E.own (flat xs) vals ∧
    (∀ j u, vals[j]? = some u → ¬ E.own b ∧ E.w.cell? ⟨b, o + j, none⟩ = some u) ∧ u = .pointer (some ⟨b, o + i.toNat * E.P.cellsOf e + off, none⟩) := by
  cases h with
  | data h t => cases h
  | lptr hs h hr t => exact ⟨_, _, _, hs, h, hr, rfl⟩
theorem DL.lit_inv {P : Program} {w : World} {own : Nat → Prop} {e : TypeId} {f : Bool} {xs : List AV} {u : Value} (h : DL P w own [.lit e f xs] [u]) : ∃ a cap vals, u = .slice a xs.length cap ∧ xs.length ≤ cap ∧ cap ≤ maxLen ∧ (f = true → cap = xs.length) ∧
    (∀ x, x ∈ xs → x.cells.length = P.cellsOf e) ∧ DL P w own (flat xs) vals ∧ (∀ u, u ∈ vals → u.oneCell' = true) ∧ (∀ j u, vals[j]? = some u → ∃ b o, a = some ⟨b, o, none⟩ ∧ ¬ own b ∧ w.cell? ⟨b, o + j, none⟩ = some u) := by
  cases h with | lit hc hm hf hs h h1 hr t => exact ⟨_, _, _, rfl, hc, hm, hf, hs, h, h1, hr⟩
theorem VL.one_cells {E : Env} {cs : List AV} {vs : List Value} (h : VL E cs vs) (h1 : ∀ c, c ∈ cs → c.one = true) : ∀ u, u ∈ vs → u.oneCell' = true := by
  induction cs generalizing vs with
  | nil => cases h; intro u hu; cases hu
  | cons c cs ih =>
    obtain ⟨v, us, rfl, h2, h3⟩ := h.uncons
    intro u hu
    rcases List.mem_cons.1 hu with rfl | hu
    · have hc := h1 c (List.mem_cons_self ..)
      cases c with
      | sc v => obtain ⟨rfl, hp⟩ := h2.sc_inv; exact plainSc_one hp
      | agg => simp [AV.one] at hc
      | tup => simp [AV.one] at hc
      | lit => obtain ⟨_, _, _, rfl, _⟩ := h2.lit_inv.lit_inv; rfl
      | sl => exact h2.sl_inv.2.2.1
      | sub => exact h2.sub_inv.2.2.1
      | bptr => obtain ⟨_, rfl⟩ := h2.bptr_inv; rfl
      | rptr => cases h2 with
        | data h t => cases h
        | rptr _ _ h1 _ _ => exact h1
      | lptr => obtain ⟨_, _, _, _, _, _, rfl⟩ := h2.lptr_inv; rfl
      | fn => obtain ⟨_, rfl, _⟩ := h2.fn_inv; rfl
      | bad => simp [AV.one] at hc
    · exact ih h3 (fun c hc => h1 c (List.mem_cons_of_mem _ hc)) u hu
theorem cmpVal_vl {E : Env} {v : Value} {a : AV} (h : cmpVal v = some a) : DL E.P E.w E.own [a] [v] := by
  unfold cmpVal at h
  split at h
  · cases h
    exact DL.lit (a := none) (cap := 0) (vals := []) (xs := []) (Nat.le_refl _) (by simp [maxLen]) (fun _ => rfl) (fun x hx => by cases hx) .nil (fun u hu => by cases hu) (fun j u hu => by cases hu) .nil
  · split at h
    · cases h; exact .sc (by assumption) .nil
    · cases h
theorem cmpVals_dl {E : Env} {vs : List Value} : ∀ {l : List AV}, cmpVals vs = some l → DL E.P E.w E.own l vs := by
  induction vs with
  | nil => intro l h; simp [cmpVals] at h; subst h; exact .nil
  | cons v vs ih =>
    intro l h
    simp only [cmpVals] at h
    split at h
    · cases h
      rename_i a l' h1 h2
      exact DL.append (cmpVal_vl h1) (ih h2)
    · cases h
theorem VL.of_getD {E : Env} {t : List AV} {tmps : Array Value} (h : VL E t tmps.toList) (n : Nat) : VL E [t.getD n .bad] [tmps.getD n undef] := by
  have hl := h.length
  by_cases hn : n < t.length
  · obtain ⟨v, hv, h1⟩ := h.get n hn
    have e1 : t.getD n .bad = t[n] := by simp [List.getD, hn]
    have e2 : tmps.getD n undef = v := by
      have : tmps[n]? = some v := by simpa using hv
      simp [this]
    rw [e1, e2]; exact h1
  · have e1 : t.getD n .bad = .bad := by simp [List.getD, hn]
    rw [e1]; exact .bad .nil
theorem od_vl {E : Env} {t : List AV} {a : Act} (h : VL E t a.tmps.toList) {x : Operand} {y : Od} (hx : cmpOd x = some y) : VL E [od t y] [a.eval x] := by
  cases x with
  | tmp n => simp only [cmpOd] at hx; cases hx; exact h.of_getD n
  | const v =>
    simp only [cmpOd, Option.map_eq_some_iff] at hx
    obtain ⟨b, hb, rfl⟩ := hx
    exact .data (cmpVal_vl hb) .nil
  | global g => cases hx
  | func f => simp only [cmpOd] at hx; cases hx; exact .fn .nil .nil
theorem ods_vl {E : Env} {t : List AV} {a : Act} (h : VL E t a.tmps.toList) {xs : List Operand} : ∀ {ys : List Od}, cmpOds xs = some ys → VL E (ys.map (od t)) (xs.map a.eval) := by
  induction xs with
  | nil => intro ys h; simp [cmpOds] at h; subst h; exact .nil
  | cons x xs ih =>
    intro ys hy
    simp only [cmpOds] at hy
    split at hy
    · cases hy
      rename_i a' l' h1 h2
      exact (od_vl h h1).cons (ih h2)
    · cases hy
theorem flat_at {xs : List AV} {s : Nat} (hs : ∀ x, x ∈ xs → x.cells.length = s) : ∀ (i : Nat) (x : AV), xs[i]? = some x → ((flat xs).drop (i * s)).take s = x.cells := by
  induction xs with
  | nil => intro i x h; cases h
  | cons y ys ih =>
    intro i x h
    have hy := hs y (List.mem_cons_self ..)
    cases i with
    | zero =>
      simp at h; subst h
      simp only [flat, List.flatMap_cons, Nat.zero_mul, List.drop_zero]
      rw [← hy]; exact List.take_left ..
    | succ i =>
      have := ih (fun x hx => hs x (List.mem_cons_of_mem _ hx)) i x (by simpa using h)
      simp only [flat, List.flatMap_cons] at this ⊢
      rw [Nat.add_mul, Nat.one_mul, List.drop_append, List.drop_eq_nil_of_le (by omega), List.nil_append, show i * s + s - y.cells.length = i * s by omega]
      exact this
theorem DL.drop {P : Program} {w : World} {own : Nat → Prop} {l : List AV} {vs : List Value} (h : DL P w own l vs) (n : Nat) : DL P w own (l.drop n) (vs.drop n) := by
  by_cases hn : n ≤ l.length
  · obtain ⟨us, us', rfl, h1, h2⟩ := DL.split (l.take n) (by rw [List.take_append_drop]; exact h)
    have : us.length = n := by rw [h1.length]; simp [hn]
    rw [List.drop_left' this]; exact h2
  · have := h.length
    rw [List.drop_eq_nil_of_le (by omega), List.drop_eq_nil_of_le (by omega)]; exact .nil
theorem DL.take {P : Program} {w : World} {own : Nat → Prop} {l : List AV} {vs : List Value} (h : DL P w own l vs) (n : Nat) : DL P w own (l.take n) (vs.take n) := by
  by_cases hn : n ≤ l.length
  · obtain ⟨us, us', rfl, h1, h2⟩ := DL.split (l.take n) (by rw [List.take_append_drop]; exact h)
    have : us.length = n := by rw [h1.length]; simp [hn]
    rw [List.take_left' this]; exact h1
  · have := h.length
    rw [List.take_of_length_le (by omega), List.take_of_length_le (by omega)]; exact h
theorem VL.drop {E : Env} {l : List AV} {vs : List Value} (h : VL E l vs) (n : Nat) : VL E (l.drop n) (vs.drop n) := by
  by_cases hn : n ≤ l.length
  · obtain ⟨us, us', rfl, h1, h2⟩ := VL.split (l.take n) (by rw [List.take_append_drop]; exact h)
    have : us.length = n := by rw [h1.length]; simp [hn]
    rw [List.drop_left' this]; exact h2
  · have := h.length
    rw [List.drop_eq_nil_of_le (by omega), List.drop_eq_nil_of_le (by omega)]; exact .nil
theorem VL.take {E : Env} {l : List AV} {vs : List Value} (h : VL E l vs) (n : Nat) : VL E (l.take n) (vs.take n) := by
  by_cases hn : n ≤ l.length
  · obtain ⟨us, us', rfl, h1, h2⟩ := VL.split (l.take n) (by rw [List.take_append_drop]; exact h)
    have : us.length = n := by rw [h1.length]; simp [hn]
    rw [List.take_left' this]; exact h1
  · have := h.length
    rw [List.take_of_length_le (by omega), List.take_of_length_le (by omega)]; exact h
theorem add_none (b o j : Nat) : (⟨b, o, none⟩ : Addr).add j = ⟨b, o + j, none⟩ := by unfold Addr.add; split <;> simp_all
theorem run_isAgg {P : Program} {w : World} {t : TypeId} {ag : Bool} (h : isAggT P t = some ag) : (isAgg t).run P w = .ok ag w := by
  unfold isAggT at h
  unfold isAgg
  cases hu : P.underlying t with
  | none => rw [hu] at h; cases h
  | some d =>
    rw [hu] at h
    simp only [Sem.run_bind, run_underlying hu, Result.andThen_ok]
    cases d <;> simp_all
theorem cellsOf_info {P : Program} {t : TypeId} (h : (P.info? t).isSome = true) : ∃ i, P.info? t = some i ∧ P.cellsOf t = i.size ∧ P.bytesOf t = i.bytes := by
  cases hi : P.info? t with
  | none => rw [hi] at h; cases h
  | some i => exact ⟨i, rfl, by simp [Program.cellsOf, hi], by simp [Program.bytesOf, hi]⟩
theorem run_sizeOf {P : Program} {w : World} {t : TypeId} (h : (P.info? t).isSome = true) : (sizeOf t).run P w = .ok (P.cellsOf t) w := by
  obtain ⟨i, h1, h2, _⟩ := cellsOf_info h
  simp [sizeOf, typeInfo, h1, h2]
theorem run_loadVar {P : Program} {w : World} {t : TypeId} {ag : Bool} (hag : isAggT P t = some ag) (hi : (P.info? t).isSome = true) (A : Addr) (us : List Value) (hlen : us.length = P.cellsOf t)
    (hc : ∀ j u, us[j]? = some u → w.cell? (A.add j) = some u) : (ag = true → (loadVar t A).run P w = .ok (.agg us.toArray) w) ∧ (ag = false → ∀ u, us = [u] → (loadVar t A).run P w = .ok u w) := by
  refine ⟨fun h => ?_, fun h u hu => ?_⟩
  · subst h
    have h1 := run_loadCells_list (P := P) w A us hc
    rw [hlen] at h1
    simp [loadVar, run_isAgg hag, run_sizeOf hi, h1]
  · subst h hu
    have h1 := hc 0 u rfl
    have h2 : A.add 0 = A := by simp [Addr.add]
    rw [h2] at h1
    simp [loadVar, run_isAgg hag, h1]
theorem load_cells {P : Program} {E : Env} {t : TypeId} {ag : Bool} (hag : isAggT P t = some ag) (hi : (P.info? t).isSome = true) (A : Addr) {c : List AV} {us : List Value} (h : VL E c us) (hlen : c.length = P.cellsOf t)
    (hc : ∀ j u, us[j]? = some u → E.w.cell? (A.add j) = some u) {v : AV} (hv : mkV ag c = some v) : ∃ v', (loadVar t A).run P E.w = .ok v' E.w ∧ VL E [v] [v'] := by
  obtain ⟨h1, h2⟩ := run_loadVar (P := P) (w := E.w) hag hi A us (by rw [h.length, hlen]) hc
  cases ag with
  | true => simp only [mkV] at hv; cases hv; exact ⟨_, h1 rfl, .agg h .nil⟩
  | false =>
    simp only [mkV] at hv
    split at hv
    · cases hv
      obtain ⟨u, rfl, h3⟩ := h.one_inv
      exact ⟨u, h2 rfl u rfl, h3⟩
    · cases hv
theorem cut_some {cs c : List AV} {off n : Nat} (h : cut cs off n = some c) : off + n ≤ cs.length ∧ c = (cs.drop off).take n := by
  unfold cut at h
  split at h
  · cases h; exact ⟨by assumption, rfl⟩
  · cases h
theorem rowOf_some {h : Store} {k g : Nat} {e : TypeId} {ro : Bool} {xs : List AV} (hr : rowOf h k g = some (e, ro, xs)) : h[k]? = some (.row e g ro xs) := by
  unfold rowOf at hr
  split at hr
  · split at hr
    · cases hr; subst_vars; assumption
    · cases hr
  · cases hr
theorem row_reads {base : Base} {h : Store} {E : Env} (R : Rel base h E) {k g : Nat} {e : TypeId} {ro : Bool} {xs : List AV} (hr : rowOf h k g = some (e, ro, xs)) :
    E.gen k = some g ∧ E.esz k = E.P.cellsOf e ∧ (∀ x, x ∈ xs → x.cells.length = E.P.cellsOf e) ∧ ∃ a cap vals, E.row k = .slice a xs.length cap ∧ xs.length ≤ cap ∧ cap ≤ maxLen ∧ DL E.P E.w E.own (flat xs) vals ∧ (∀ u, u ∈ vals → u.oneCell' = true) ∧
      (∀ j u, vals[j]? = some u → ∃ b, a = some ⟨b, 0, none⟩ ∧ E.w.cell? ⟨b, j, none⟩ = some u) := by
  have hk := rowOf_some hr
  have ho := R.ent k _ hk
  cases ro with
  | false =>
    obtain ⟨h1, _, h3, h4, vals, h5, h6, h7⟩ := ho
    obtain ⟨hl, h8⟩ := h5
    rcases h8 with ⟨hn, a, ha⟩ | ⟨b, cap, cur, h0, hv, hb, hh, hn, hm, hsz, htk⟩
    · refine ⟨h1, h3, h4, a, 0, vals, by rw [ha, hn], by omega, by simp [maxLen], h6, h7, fun j u hu => ?_⟩
      rw [hn, Nat.zero_mul] at hl
      have : vals = [] := List.eq_nil_of_length_eq_zero hl
      rw [this] at hu; cases hu
    · refine ⟨h1, h3, h4, _, cap, vals, hv, hn, hm, h6, h7, fun j u hu => ⟨b, rfl, ?_⟩⟩
      rw [cell_of_row E.w b j cur e (0, 0) hh]
      rw [← htk, List.getElem?_take] at hu
      split at hu
      · simpa using hu
      · cases hu
  | true =>
    obtain ⟨h1, _, h3, h4, hd⟩ := ho
    obtain ⟨a, cap, vals, ha, hc, hm, _, hs, hdl, h7, hrd⟩ := h4.lit_inv
    refine ⟨h1, h3, hs, a, cap, vals, ha, hc, hm, hdl, h7, fun j u hu => ?_⟩
    obtain ⟨b, o, hab, hno, hcell⟩ := hrd j u hu
    have hne : xs ≠ [] := by
      rintro rfl
      have hl := hdl.length
      simp [flat] at hl
      rw [hl] at hu; cases hu
    obtain ⟨b', n', c', hv'⟩ := hd hne
    rw [ha, hab] at hv'
    injection hv' with hv' _ _
    injection hv' with hv'
    injection hv' with hb' ho' _
    subst ho'
    exact ⟨b, hab, by rw [Nat.zero_add] at hcell; exact hcell⟩
theorem getElem?_drop_take {α : Type} {l : List α} {p n j : Nat} {u : α} (h : ((l.drop p).take n)[j]? = some u) : l[p + j]? = some u := by
  rw [List.getElem?_take] at h
  split at h
  · rw [List.getElem?_drop] at h; exact h
  · cases h
theorem lget_some {xs : List AV} {i : Int} {x : AV} (h : Ops.std.lget xs i = some x) : 0 ≤ i ∧ xs[i.toNat]? = some x := by
  simp only [Ops.std] at h
  split at h
  · exact ⟨by assumption, h⟩
  · cases h
theorem load_sound {P : Program} {base : Base} {h : Store} {E : Env} (R : Rel base h E) (hP : E.P = P) {t : TypeId} {ag : Bool} (hag : isAggT P t = some ag) (hi : (P.info? t).isSome = true) {p v : AV} {pv : Value} (hp : VL E [p] [pv])
    (hl : loadAt Ops.std h ag (P.cellsOf t) p = some v) : ∃ v', (Instr.loadAt t pv).run P E.w = .ok v' E.w ∧ VL E [v] [v'] := by
  have sure : ∀ A : Addr, (Instr.loadAt t (.pointer (some A))).run P E.w = (loadVar t A).run P E.w := fun A => by simp [Instr.loadAt, Instr.sureAddr]
  subst hP
  cases p with
  | bptr b off =>
    simp only [loadAt] at hl
    obtain ⟨hb, rfl⟩ := hp.bptr_inv
    split at hl
    · rename_i t' cs hcs
      split at hl
      · rename_i c hc
        obtain ⟨hle, rfl⟩ := cut_some hc
        obtain ⟨_, _, _, _, vals, hh, hvl⟩ := R.ent b _ hcs
        rw [sure]
        refine load_cells hag hi _ ((hvl.drop off).take _) (by simp; omega) (fun j u hu => ?_) hl
        rw [add_none, cell_of_row E.w (E.box b) (off + j) _ _ _ hh]
        simpa using getElem?_drop_take hu
      · cases hl
    · cases hl
  | rptr k g i off =>
    simp only [loadAt] at hl
    obtain ⟨hk, hg, hv⟩ := hp.rptr_inv
    split at hl
    · rename_i e ro xs hr
      obtain ⟨hgen, hesz, hs, a, cap, vals, hrow, hc, hm, hdl, _, hrd⟩ := row_reads R hr
      obtain ⟨b, hb, rfl⟩ := hv hgen
      split at hl
      · rename_i x hx
        obtain ⟨hi0, hxi⟩ := lget_some hx
        split at hl
        · rename_i c hcut
          obtain ⟨hle, rfl⟩ := cut_some hcut
          have hx1 : x ∈ xs := List.mem_of_getElem? hxi
          have hfl := flat_at hs i.toNat x hxi
          have hd : DL E.P E.w E.own x.cells ((vals.drop (i.toNat * E.P.cellsOf e)).take (E.P.cellsOf e)) := by
            rw [← hfl]; exact (hdl.drop _).take _
          rw [sure]
          refine load_cells hag hi _ ((hd.vl.drop off).take _) (by simp; omega) (fun j u hu => ?_) hl
          have hu1 := getElem?_drop_take hu
          rw [List.getElem?_take] at hu1
          split at hu1
          · rw [List.getElem?_drop] at hu1
            obtain ⟨b', hab, hcell⟩ := hrd _ u hu1
            obtain ⟨n', c', hrow'⟩ := hb
            rw [hrow, hab] at hrow'
            injection hrow' with hab' _ _
            injection hab' with hab'
            injection hab' with hbb _ _
            subst hbb
            rw [add_none, hesz, Nat.add_assoc]; exact hcell
          · cases hu1
        · cases hl
      · cases hl
    · cases hl
  | lptr e xs i off =>
    simp only [loadAt] at hl
    obtain ⟨b, o, vals, hs, hdl, hrd, rfl⟩ := hp.lptr_inv
    split at hl
    · rename_i x hx
      obtain ⟨hi0, hxi⟩ := lget_some hx
      split at hl
      · rename_i c hcut
        obtain ⟨hle, rfl⟩ := cut_some hcut
        have hfl := flat_at hs i.toNat x hxi
        have hd : DL E.P E.w E.own x.cells ((vals.drop (i.toNat * E.P.cellsOf e)).take (E.P.cellsOf e)) := by
          rw [← hfl]; exact (hdl.drop _).take _
        rw [sure]
        refine load_cells hag hi _ ((hd.vl.drop off).take _) (by simp; omega) (fun j u hu => ?_) hl
        have hu1 := getElem?_drop_take hu
        rw [List.getElem?_take] at hu1
        split at hu1
        · rw [List.getElem?_drop] at hu1
          have := (hrd _ u hu1).2
          rw [add_none]
          rw [show o + i.toNat * E.P.cellsOf e + off + j = o + (i.toNat * E.P.cellsOf e + (off + j)) by omega]; exact this
        · cases hu1
      · cases hl
    · cases hl
  | _ => simp [loadAt] at hl
end Go.Ab
