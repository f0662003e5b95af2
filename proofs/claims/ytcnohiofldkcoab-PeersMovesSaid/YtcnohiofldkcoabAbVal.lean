/- The abstract values of an interpreter over Go's loaded code, and what they say of values in memory: plain definitions and lemmas, over any program. -/
import Derived.Orders
import Derived.Laws.AppendOwn
import Derived.Laws.MakeOwn
import Derived.Below
namespace Go.Ab
open Go

/-- A value as the interpreter has it: a scalar; a struct's or an array's cells; a tuple; a list that is only read; a row of the interpreter's own store, a part of one; addresses in the store, in a list; a function. -/
inductive AV where
  | sc (v : Value)
  | agg (cs : List AV)
  | tup (vs : List AV)
  | lit (e : TypeId) (full : Bool) (xs : List AV)
  | sl (k g : Nat)
  | sub (k g : Nat) (lo hi : Int)
  | bptr (b off : Nat)
  | rptr (k g : Nat) (i : Int) (off : Nat)
  | lptr (e : TypeId) (xs : List AV) (i : Int) (off : Nat)
  | fn (f : FuncId) (caps : List AV)
  | bad
  deriving Inhabited

def AV.cells : AV → List AV
  | .agg cs => cs
  | v => [v]
def flat (xs : List AV) : List AV := xs.flatMap AV.cells

/-- A variable in memory, or a row that may grow (ro: it is only read from now on). -/
inductive Ent where
  | box (t : TypeId) (cs : List AV)
  | row (e : TypeId) (g : Nat) (ro : Bool) (xs : List AV)
  deriving Inhabited
abbrev Store := List Ent

/-- Values without addresses. -/
def plainSc : Value → Bool
  | .bool _ | .int _ _ | .string _ | .nilFunc | .nilIface | .float _ _ => true
  | .pointer none => true
  | _ => false
theorem plainSc_one {v : Value} (h : plainSc v = true) : v.oneCell' = true := by cases v <;> simp_all [plainSc, Value.oneCell']

/-- Where things lie: the program; the world; how many entries the store has; rows' counts of growth (none: no row), the greatest that each had, their elements' cells, their values; variables' blocks; the blocks that no list that is only read may lie in. -/
structure Env where
  P : Program
  w : World
  n : Nat
  gen : Nat → Option Nat
  top : Nat → Nat
  esz : Nat → Nat
  row : Nat → Value
  box : Nat → Nat
  own : Nat → Prop

/-- Data: scalars, structs and lists that are only read; cell by cell. -/
inductive DL (P : Program) (w : World) (own : Nat → Prop) : List AV → List Value → Prop
  | nil : DL P w own [] []
  | sc {v r rs} (h : plainSc v = true) (t : DL P w own r rs) : DL P w own (.sc v :: r) (v :: rs)
  | agg {cs vs r rs} (h : DL P w own cs vs) (t : DL P w own r rs) : DL P w own (.agg cs :: r) (.agg vs.toArray :: rs)
  | lit {e full xs a cap vals r rs} (hc : xs.length ≤ cap) (hm : cap ≤ maxLen) (hf : full = true → cap = xs.length) (hs : ∀ x, x ∈ xs → x.cells.length = P.cellsOf e) (h : DL P w own (flat xs) vals) (h1 : ∀ u, u ∈ vals → u.oneCell' = true)
      (hr : ∀ j u, vals[j]? = some u → ∃ b o, a = some ⟨b, o, none⟩ ∧ ¬ own b ∧ w.cell? ⟨b, o + j, none⟩ = some u) (t : DL P w own r rs) : DL P w own (.lit e full xs :: r) (.slice a xs.length cap :: rs)

theorem DL.ext {P : Program} {w w' : World} {own own' : Nat → Prop} (x : ∀ a v, ¬ own a.block → w.cell? a = some v → ¬ own' a.block ∧ w'.cell? a = some v) {l : List AV} {vs : List Value} (h : DL P w own l vs) : DL P w' own' l vs := by
  induction h with
  | nil => exact .nil
  | sc h _ it => exact .sc h it
  | agg _ _ ih it => exact .agg ih it
  | lit hc hm hf hs _ h1 hr _ ih it =>
    refine .lit hc hm hf hs ih h1 (fun j u hu => ?_) it
    obtain ⟨b, o, ha, hb, hcell⟩ := hr j u hu
    have := x _ _ hb hcell
    exact ⟨b, o, ha, this.1, this.2⟩

theorem DL.append {P : Program} {w : World} {own : Nat → Prop} {l l' : List AV} {vs vs' : List Value} (h : DL P w own l vs) (h' : DL P w own l' vs') : DL P w own (l ++ l') (vs ++ vs') := by
  induction h with
  | nil => exact h'
  | sc h _ it => exact .sc h it
  | agg h _ _ it => exact .agg h it
  | lit hc hm hf hs h h1 hr _ _ it => exact .lit hc hm hf hs h h1 hr it

theorem DL.length {P : Program} {w : World} {own : Nat → Prop} {l : List AV} {vs : List Value} (h : DL P w own l vs) : vs.length = l.length := by
  induction h <;> simp_all

theorem DL.split {P : Program} {w : World} {own : Nat → Prop} (l : List AV) : ∀ {l' : List AV} {vs : List Value}, DL P w own (l ++ l') vs → ∃ us us', vs = us ++ us' ∧ DL P w own l us ∧ DL P w own l' us' := by
  induction l with
  | nil => intro l' vs h; exact ⟨[], vs, rfl, .nil, h⟩
  | cons x l ih =>
    intro l' vs h
    cases h with
    | sc hp t => obtain ⟨us, us', rfl, h1, h2⟩ := ih t; exact ⟨_ :: us, us', rfl, .sc hp h1, h2⟩
    | agg hp t => obtain ⟨us, us', rfl, h1, h2⟩ := ih t; exact ⟨_ :: us, us', rfl, .agg hp h1, h2⟩
    | lit hc hm hf hs hp h1 hr t => obtain ⟨us, us', rfl, h1', h2⟩ := ih t; exact ⟨_ :: us, us', rfl, .lit hc hm hf hs hp h1 hr h1', h2⟩

/-- A row's value is a slice at the head of block b. -/
def HeadAt (v : Value) (b : Nat) : Prop := ∃ n c, v = .slice (some ⟨b, 0, none⟩) n c

/-- What values say of what they stand for, in an environment. -/
inductive VL (E : Env) : List AV → List Value → Prop
  | nil : VL E [] []
  | data {x v r rs} (h : DL E.P E.w E.own [x] [v]) (t : VL E r rs) : VL E (x :: r) (v :: rs)
  | agg {cs vs r rs} (h : VL E cs vs) (t : VL E r rs) : VL E (.agg cs :: r) (.agg vs.toArray :: rs)
  | tup {cs vs r rs} (h : VL E cs vs) (t : VL E r rs) : VL E (.tup cs :: r) (.tuple vs.toArray :: rs)
  | sl {k g v r rs} (hk : k < E.n) (hg : g ≤ E.top k) (h1 : v.oneCell' = true) (h : E.gen k = some g → v = E.row k) (t : VL E r rs) : VL E (.sl k g :: r) (v :: rs)
  | sub {k g lo hi v r rs} (hk : k < E.n) (hg : g ≤ E.top k) (h1 : v.oneCell' = true)
      (h : E.gen k = some g → 0 ≤ lo ∧ lo ≤ hi ∧ ∃ a cap, v = .slice a (hi - lo).toNat cap ∧ (hi - lo).toNat ≤ cap ∧ cap ≤ maxLen ∧ (lo < hi → ∃ b, HeadAt (E.row k) b ∧ a = some ⟨b, lo.toNat * E.esz k, none⟩) ∧ (lo = 0 → ∃ n, E.row k = .slice a n cap)) (t : VL E r rs) : VL E (.sub k g lo hi :: r) (v :: rs)
  | bptr {b off r rs} (hk : b < E.n) (t : VL E r rs) : VL E (.bptr b off :: r) (.pointer (some ⟨E.box b, off, none⟩) :: rs)
  | rptr {k g i off v r rs} (hk : k < E.n) (hg : g ≤ E.top k) (h1 : v.oneCell' = true) (h : E.gen k = some g → ∃ b, HeadAt (E.row k) b ∧ v = .pointer (some ⟨b, i.toNat * E.esz k + off, none⟩)) (t : VL E r rs) : VL E (.rptr k g i off :: r) (v :: rs)
  | lptr {e xs i off b o vals r rs} (hs : ∀ x, x ∈ xs → x.cells.length = E.P.cellsOf e) (h : DL E.P E.w E.own (flat xs) vals)
      (hr : ∀ j u, vals[j]? = some u → ¬ E.own b ∧ E.w.cell? ⟨b, o + j, none⟩ = some u) (t : VL E r rs) : VL E (.lptr e xs i off :: r) (.pointer (some ⟨b, o + i.toNat * E.P.cellsOf e + off, none⟩) :: rs)
  | fn {f caps vs r rs} (h : VL E caps vs) (t : VL E r rs) : VL E (.fn f caps :: r) (.func (.func f) #[] vs.toArray :: rs)
  | bad {v r rs} (t : VL E r rs) : VL E (.bad :: r) (v :: rs)

/-- What stands of one environment in another one. -/
structure Ext (E E' : Env) : Prop where
  P : E'.P = E.P
  n : E.n ≤ E'.n
  top : ∀ k, k < E.n → E.top k ≤ E'.top k
  gen : ∀ k g, k < E.n → g ≤ E.top k → E'.gen k = some g → E.gen k = some g ∧ E'.row k = E.row k ∧ E'.esz k = E.esz k
  box : ∀ k, k < E.n → E'.box k = E.box k
  keep : ∀ a v, ¬ E.own a.block → E.w.cell? a = some v → ¬ E'.own a.block ∧ E'.w.cell? a = some v

theorem VL.ext {E E' : Env} (x : Ext E E') {l : List AV} {vs : List Value} (h : VL E l vs) : VL E' l vs := by
  induction h with
  | nil => exact .nil
  | data h _ it => exact .data (by rw [x.P]; exact h.ext x.keep) it
  | agg _ _ ih it => exact .agg ih it
  | tup _ _ ih it => exact .tup ih it
  | sl hk hg h1 h _ it => exact .sl (Nat.lt_of_lt_of_le hk x.n) (Nat.le_trans hg (x.top _ hk)) h1 (fun e => by obtain ⟨h1, h2, _⟩ := x.gen _ _ hk hg e; rw [h h1, h2]) it
  | sub hk hg h1 h _ it =>
    refine .sub (Nat.lt_of_lt_of_le hk x.n) (Nat.le_trans hg (x.top _ hk)) h1 (fun e => ?_) it
    obtain ⟨h1, h2, h3⟩ := x.gen _ _ hk hg e
    rw [h2, h3]; exact h h1
  | bptr hk _ it => rw [← x.box _ hk]; exact .bptr (Nat.lt_of_lt_of_le hk x.n) it
  | rptr hk hg h1 h _ it =>
    refine .rptr (Nat.lt_of_lt_of_le hk x.n) (Nat.le_trans hg (x.top _ hk)) h1 (fun e => ?_) it
    obtain ⟨h1, h2, h3⟩ := x.gen _ _ hk hg e
    rw [h2, h3]; exact h h1
  | @lptr e xs i off b o vals r rs hs h hr _ it =>
    have := VL.lptr (E := E') (e := e) (xs := xs) (i := i) (off := off) (b := b) (o := o) (vals := vals) (fun y hy => by rw [x.P]; exact hs y hy) (by rw [x.P]; exact h.ext x.keep) (fun j u hu => by
      obtain ⟨hb, hc⟩ := hr j u hu
      exact x.keep _ _ hb hc) it
    rw [x.P] at this; exact this
  | fn _ _ ih it => exact .fn ih it
  | bad _ it => exact .bad it

theorem VL.length {E : Env} {l : List AV} {vs : List Value} (h : VL E l vs) : vs.length = l.length := by
  induction h <;> simp_all

theorem DL.vl {E : Env} {l : List AV} {vs : List Value} (h : DL E.P E.w E.own l vs) : VL E l vs := by
  generalize hw : E.w = w at h
  generalize ho : E.own = o at h
  generalize hp : E.P = p at h
  induction h with
  | nil => exact .nil
  | sc h _ it => exact .data (.sc h .nil) it
  | agg h _ _ it => subst hw ho hp; exact .data (.agg h .nil) it
  | lit hc hm hf hs h h1 hr _ _ it => subst hw ho hp; exact .data (.lit hc hm hf hs h h1 hr .nil) it

theorem VL.append {E : Env} {l l' : List AV} {vs vs' : List Value} (h : VL E l vs) (h' : VL E l' vs') : VL E (l ++ l') (vs ++ vs') := by
  induction h with
  | nil => exact h'
  | data h _ it => exact .data h it
  | agg h _ _ it => exact .agg h it
  | tup h _ _ it => exact .tup h it
  | sl hk hg h1 h _ it => exact .sl hk hg h1 h it
  | sub hk hg h1 h _ it => exact .sub hk hg h1 h it
  | bptr hk _ it => exact .bptr hk it
  | rptr hk hg h1 h _ it => exact .rptr hk hg h1 h it
  | lptr hs h hr _ it => exact .lptr hs h hr it
  | fn h _ _ it => exact .fn h it
  | bad _ it => exact .bad it

/-- One behind the other. -/
theorem VL.cons {E : Env} {x : AV} {v : Value} {l : List AV} {vs : List Value} (h : VL E [x] [v]) (t : VL E l vs) : VL E (x :: l) (v :: vs) := h.append t
theorem VL.uncons {E : Env} {x : AV} {l : List AV} {vs : List Value} (h : VL E (x :: l) vs) : ∃ v us, vs = v :: us ∧ VL E [x] [v] ∧ VL E l us := by
  cases h with
  | data h t => exact ⟨_, _, rfl, .data h .nil, t⟩
  | agg h t => exact ⟨_, _, rfl, .agg h .nil, t⟩
  | tup h t => exact ⟨_, _, rfl, .tup h .nil, t⟩
  | sl hk hg h1 h t => exact ⟨_, _, rfl, .sl hk hg h1 h .nil, t⟩
  | sub hk hg h1 h t => exact ⟨_, _, rfl, .sub hk hg h1 h .nil, t⟩
  | bptr hk t => exact ⟨_, _, rfl, .bptr hk .nil, t⟩
  | rptr hk hg h1 h t => exact ⟨_, _, rfl, .rptr hk hg h1 h .nil, t⟩
  | lptr hs h hr t => exact ⟨_, _, rfl, .lptr hs h hr .nil, t⟩
  | fn h t => exact ⟨_, _, rfl, .fn h .nil, t⟩
  | bad t => exact ⟨_, _, rfl, .bad .nil, t⟩
theorem VL.get {E : Env} {l : List AV} {vs : List Value} (h : VL E l vs) (i : Nat) (hi : i < l.length) : ∃ v, vs[i]? = some v ∧ VL E [l[i]] [v] := by
  induction l generalizing vs i with
  | nil => cases hi
  | cons x l ih =>
    obtain ⟨v, us, rfl, h1, h2⟩ := h.uncons
    cases i with
    | zero => exact ⟨v, rfl, h1⟩
    | succ i => obtain ⟨u, hu, h3⟩ := ih h2 i (by simpa using hi); exact ⟨u, by simpa using hu, h3⟩
theorem VL.set {E : Env} {l : List AV} {vs : List Value} (h : VL E l vs) (i : Nat) {x : AV} {v : Value} (hx : VL E [x] [v]) : VL E (l.set i x) (vs.set i v) := by
  induction l generalizing vs i with
  | nil => cases h; exact .nil
  | cons y l ih =>
    obtain ⟨u, us, rfl, h1, h2⟩ := h.uncons
    cases i with
    | zero => exact hx.cons h2
    | succ i => exact h1.cons (ih h2 i)
theorem VL.split {E : Env} (l : List AV) : ∀ {l' : List AV} {vs : List Value}, VL E (l ++ l') vs → ∃ us us', vs = us ++ us' ∧ VL E l us ∧ VL E l' us' := by
  induction l with
  | nil => intro l' vs h; exact ⟨[], vs, rfl, .nil, h⟩
  | cons x l ih =>
    intro l' vs h
    obtain ⟨v, us, rfl, h1, h2⟩ := h.uncons
    obtain ⟨p, q, rfl, h3, h4⟩ := ih h2
    exact ⟨v :: p, q, rfl, h1.cons h3, h4⟩
end Go.Ab
