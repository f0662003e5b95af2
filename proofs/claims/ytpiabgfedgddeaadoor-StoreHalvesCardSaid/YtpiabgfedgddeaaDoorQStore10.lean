/- Our texts for this statement, merged: what its theorem leads to. -/
import Derived.Shelf.Unicode.DecodeAny
import Derived.Test.YtpiabgfedgddeaaDoorQStore9
namespace Go.Ab
open Go Go.RowKit Go.Shelf Go.Proofs Go.Lib
set_option linter.unusedSimpArgs false
set_option linter.unusedVariables false
section
variable {P : Program} {base : Base} {h : Store} {E : Env} {ρ : Ren}
theorem below_same (R : Rel base h E) {w' : World} (bel : Below E.w.heap.size E.w w') : Rel base h { E with w := w' } ∧ Step h E h { E with w := w' } := by
  have hheap : ∀ b, b < E.w.heap.size → w'.heap[b]? = E.w.heap[b]? := bel.block
  have hx : Ext E { E with w := w' } := ⟨rfl, Nat.le_refl _, fun _ _ => Nat.le_refl _, fun _ _ _ _ hc => ⟨hc, rfl, rfl⟩, fun _ _ => rfl, keep_of R (fun b hb _ => hheap b hb) (fun b hb => .inl hb)⟩
  have S : Step h E h { E with w := w' } := ⟨hx, bel.os, bel.tape, bel.output, bel.size, fun b hb _ => hheap b hb, fun b hb => .inl hb, fun b hb _ => hb, fun k b hk => .inl ⟨k, hk⟩⟩
  have hb : ∀ j, blkOf { E with w := w' } h j = blkOf E h j := fun j => by
    unfold blkOf
    cases h[j]? with
    | none => rfl
    | some e => exact entBlk_same rfl rfl e
  refine ⟨⟨R.n, R.step_lo S, fun k e hk => ?_, R.nogen, fun k b hk => R.own k b (by rw [← hb]; exact hk), fun k j b hk hj => R.inj k j b (by rw [← hb]; exact hk) (by rw [← hb]; exact hj), fun b hb => Nat.lt_of_lt_of_le (R.lt b hb) bel.size⟩, S⟩
  exact (R.ent k e hk).step hx ⟨rfl, rfl, rfl, rfl, rfl⟩ (fun b hbk => hheap b (R.lt b (R.own k b (by rw [blkOf_of hk]; exact hbk))))
theorem tabs_lo {g3 g4 : Nat} (h3 : g3 < base.n) (h4 : g4 < base.n) {w : World} (L : Lo base w) (T : Utf8Tabs g3 g4 base.w0) : Utf8Tabs g3 g4 w := by
  have e : ∀ b, b < base.n → ∀ c, w.cell? ⟨b, c, none⟩ = base.w0.cell? ⟨b, c, none⟩ := fun b hb c => World.cell?_of_block (L.low b hb)
  exact ⟨fun c hc => by rw [e g3 h3]; exact T.1 c hc, fun i hi => by rw [e g4 h4, e g4 h4]; exact T.2 i hi⟩
def decP (o : Ops) (_ : Store) (args : List AV) : Option AV :=
  match args with
  | [.sc (.string s)] => match o.sdec s 0 with
    | some (c, n) => some (.tup [.sc (.int .i32 c), .sc (.int .i64 n)])
    | none => some (.tup [.sc (.int .i32 65533), .sc (.int .i64 0)])
  | _ => none
theorem dec_ok (L : Lays.n197 P ρ) {fn : Func} (hf : P.funcs[ρ.f 197]? = some fn) (hb : fn.body.isSome = true) (hn : fn.name ≠ "runtime.NumGoroutine") (h3 : ρ.g 3 < base.n) (h4 : ρ.g 4 < base.n) (T : Utf8Tabs (ρ.g 3) (ρ.g 4) base.w0) : PrimOk P base (ρ.f 197) (.look decP) := by
  refine ⟨⟨fn, hf, hb, hn⟩, fun args h v h3' m he E vs hP R V => ?_⟩
  simp only [primOp, Option.map_eq_some_iff] at he
  obtain ⟨v', he, hx⟩ := he
  cases hx
  unfold decP at he
  split at he
  case h_2 => cases he
  rename_i s
  obtain ⟨xv, us, rfl, hx, hnil⟩ := V.uncons
  cases hnil
  obtain rfl := hx.sc_inv.1
  refine (Any.utf8_DecodeRuneInString L s E.w (tabs_lo h3 h4 R.lo T)).mono fun e w' ⟨he', bel⟩ => ?_
  obtain ⟨R', S⟩ := below_same R bel
  refine ⟨_, { E with w := w' }, he', rfl, R', S, ?_⟩
  split at he
  · rename_i c n hd
    cases he
    obtain ⟨_, hlt, rfl, rfl⟩ := sdec_some hd
    have h0 : s.size ≠ 0 := by have : (0 : Int).toNat = 0 := rfl; omega
    have e0 : decodeGo s = Utf8.decode s 0 := by unfold decodeGo; rw [if_neg h0]
    rw [e0]
    have ez : (0 : Int) + (((Utf8.decode s (0 : Int).toNat).2 : Nat) : Int) = (((Utf8.decode s 0).2 : Nat) : Int) := by simp
    rw [ez]
    exact .tup (.data (.sc rfl .nil) (.data (.sc rfl .nil) .nil)) .nil
  · rename_i hd
    cases he
    have h0 : s.size = 0 := by have := sdec_none hd (by omega); have : (0 : Int).toNat = 0 := rfl; omega
    have e0 : decodeGo s = (65533, 0) := by unfold decodeGo; rw [if_pos h0]
    rw [e0]
    exact .tup (.data (.sc rfl .nil) (.data (.sc rfl .nil) .nil)) .nil
end
end Go.Ab
namespace Go.Ab
open Go Go.RowKit Go.Shelf Go.Proofs
set_option linter.unusedSimpArgs false
set_option linter.unusedVariables false
def chP (e u : TypeId) (o : Ops) (h : Store) (args : List AV) : Option AV :=
  match args with
  | [x] => match elemsAt o h e x with
    | some xs => match o.lcut e xs with
      | some ys => some (.lit u false ys)
      | none => none
    | none => none
  | _ => none
section
variable {P : Program} {base : Base} {h : Store} {E : Env}
theorem DL.owns {w : World} {own : Nat → Prop} {B size n : Nat} {e : TypeId} {v : Value} {vals : List Value} {xs : List AV} (h : w.ownsRow B e size v n vals) (hn : xs.length = n) (hs : ∀ x, x ∈ xs → x.cells.length = P.cellsOf e)
    (hown : ∀ b, own b → b < B) (hd : DL P w own (flat xs) vals) (h1 : ∀ u, u ∈ vals → u.oneCell' = true) : DL P w own [.lit e false xs] [v] := by
  subst hn
  rcases h.2 with ⟨rfl, h0⟩ | ⟨g, cap, cur, rfl, hb, hgb, hc, hm, _, ht⟩
  · have : xs = [] := List.eq_nil_of_length_eq_zero h0
    subst this
    exact .lit (Nat.le_refl _) (Nat.zero_le _) (fun h => by cases h) hs hd h1 (fun j u hu => by cases hd; cases hu) .nil
  · refine .lit hc hm (fun h => by cases h) hs hd h1 (fun j u hu => ⟨g, 0, rfl, fun ho => ?_, ?_⟩) .nil
    · have := hown g ho; omega
    · rw [cell_of_row w g (0 + j) cur e (0, 0) hgb, Nat.zero_add, ← Array.getElem?_toList]
      rw [← ht, List.getElem?_take] at hu
      split at hu
      · exact hu
      · cases hu
theorem flat_one {xs : List AV} (h : ∀ x, x ∈ xs → x.cells = [x]) : flat xs = xs := by
  induction xs with
  | nil => rfl
  | cons x xs ih =>
    show x.cells ++ flat xs = _
    rw [h x (List.mem_cons_self ..), ih (fun y hy => h y (List.mem_cons_of_mem _ hy))]
    rfl
def Cuts (P : Program) (f : FuncId) (e u : TypeId) : Prop :=
  ∀ (b off len cap : Nat) (a : Option Addr) (vals : List Value), len ≤ cap → len ≤ 1000000 → ∀ w : World, (0 < len → a = some ⟨b, off, none⟩) → vals.length = 2 * len → (∀ j v, vals[j]? = some v → w.cell? ⟨b, off + j, none⟩ = some v) → (∀ v ∈ vals, v.oneCell' = true) →
    Calls P f #[.slice a len cap] w fun z W' => ∃ v svs, z = .returned v ∧ svs.length = (len + 7) / 8 ∧ W'.ownsRow w.heap.size u 1 v svs.length svs ∧
      (∀ (k : Nat) (sv : Value), svs[k]? = some sv → W'.ownsRow w.heap.size e 2 sv (min 8 (len - 8 * k)) ((vals.drop (16 * k)).take (2 * min 8 (len - 8 * k)))) ∧ Below w.heap.size w W'
theorem parts_dl {w : World} {own : Nat → Prop} {B : Nat} {e : TypeId} (he : P.cellsOf e = 2) {xs : List AV} {vals : List Value} (hs : ∀ x, x ∈ xs → x.cells.length = P.cellsOf e) (hown : ∀ b, own b → b < B) (hd : DL P w own (flat xs) vals)
    (h1 : ∀ u, u ∈ vals → u.oneCell' = true) : ∀ (svs : List Value) (k0 : Nat), (∀ (k : Nat) (sv : Value), svs[k]? = some sv → w.ownsRow B e 2 sv (min 8 (xs.length - 8 * (k0 + k))) ((vals.drop (16 * (k0 + k))).take (2 * min 8 (xs.length - 8 * (k0 + k))))) →
    DL P w own ((List.range' k0 svs.length).map fun k => .lit e false ((xs.drop (8 * k)).take 8)) svs
  | [], _, _ => .nil
  | sv :: svs, k0, hr => by
    have h0 := hr 0 sv rfl
    rw [List.length_cons, List.range'_succ, List.map_cons]
    have hx : DL P w own [.lit e false ((xs.drop (8 * k0)).take 8)] [sv] := by
      refine DL.owns h0 (by rw [List.length_take, List.length_drop]; omega) (fun x hx => hs x (List.mem_of_mem_drop (List.mem_of_mem_take hx))) hown ?_ (fun u hu => h1 u (List.mem_of_mem_drop (List.mem_of_mem_take hu)))
      have hs' : ∀ x, x ∈ xs.drop (8 * k0) → x.cells.length = P.cellsOf e := fun x hx => hs x (List.mem_of_mem_drop hx)
      have ed : (flat xs).drop (16 * k0) = flat (xs.drop (8 * k0)) := by rw [flat_drop hs, he]; congr 1; omega
      have hl : (xs.drop (8 * k0)).take 8 = (xs.drop (8 * k0)).take (min 8 (xs.length - 8 * k0)) := by
        by_cases h8 : 8 ≤ xs.length - 8 * k0
        · rw [Nat.min_eq_left h8]
        · rw [List.take_of_length_le (by rw [List.length_drop]; omega), List.take_of_length_le (by rw [List.length_drop]; omega)]
      rw [hl, flat_take hs', he, ← ed, Nat.mul_comm _ 2]
      exact (hd.drop _).take _
    have ht := parts_dl he hs hown hd h1 svs (k0 + 1) (fun k sv' hk => by
      have := hr (k + 1) sv' hk
      rwa [show k0 + (k + 1) = k0 + 1 + k by omega] at this)
    exact hx.append ht
theorem chunk_ok {f : FuncId} {e u : TypeId} (he : P.cellsOf e = 2) (hu : P.cellsOf u = 1) (hf : ∃ fn, P.funcs[f]? = some fn ∧ fn.body.isSome = true ∧ fn.name ≠ "runtime.NumGoroutine") (hC : Cuts P f e u) : PrimOk P base f (.look (chP e u)) := by
  refine ⟨hf, fun args h v h3' m hp E vs hP R V => ?_⟩
  simp only [primOp, Option.map_eq_some_iff] at hp
  obtain ⟨v', hp, hx⟩ := hp
  cases hx
  unfold chP at hp
  split at hp
  case h_2 => cases hp
  rename_i x
  split at hp
  case h_2 => cases hp
  rename_i xs hxs
  split at hp
  case h_2 => cases hp
  rename_i ys hys
  cases hp
  simp only [Ops.std] at hys
  split at hys
  case isFalse => cases hys
  rename_i hlen
  cases hys
  obtain ⟨xv, us, rfl, hx, hnil⟩ := V.uncons
  cases hnil
  obtain ⟨hel, hs⟩ := elemsAt_some R hx hxs
  obtain ⟨ad, cap, vals, rfl, hc, hm, hd, hone, _, hrd⟩ := elems_vl R hx hel
  subst hP
  have hvl : vals.length = 2 * xs.length := by rw [hd.length, flat_len hs, he, Nat.mul_comm]
  obtain ⟨b, off, hab, hcell⟩ : ∃ b off, (0 < xs.length → ad = some ⟨b, off, none⟩) ∧ ∀ j u, vals[j]? = some u → E.w.cell? ⟨b, off + j, none⟩ = some u := by
    cases vals with
    | nil => exact ⟨0, 0, fun h => by simp at hvl; omega, fun j u hj => by cases hj⟩
    | cons v0 vr =>
      obtain ⟨b, o, hab, _⟩ := hrd 0 v0 rfl
      refine ⟨b, o, fun _ => hab, fun j u hj => ?_⟩
      obtain ⟨b', o', hab', hc'⟩ := hrd j u hj
      rw [hab] at hab'
      injection hab' with hab'
      injection hab' with e1 e2 _
      subst e1 e2
      exact hc'
  refine (hC b off xs.length cap ad vals hc hlen E.w hab hvl hcell hone).mono fun z w' ⟨v, svs, hz, hlv, hrow, heach, bel⟩ => ?_
  obtain ⟨R', S⟩ := below_same R bel
  refine ⟨_, { E with w := w' }, hz, rfl, R', S, .data ?_ .nil⟩
  have hd' : DL E.P w' E.own (flat xs) vals := hd.step S.ext
  have hcl : ∀ y, y ∈ (cut8 xs).map (AV.lit e false) → y.cells = [y] := fun y hy => by
    obtain ⟨_, _, rfl⟩ := List.mem_map.1 hy; rfl
  refine DL.owns hrow (by rw [List.length_map, cut8, List.length_map, List.length_range, hlv]) (fun y hy => by rw [hcl y hy, hu]; rfl) (fun b hb => R.lt b hb) ?_ (fun u hu' => ?_)
  · rw [flat_one hcl]
    have := parts_dl he hs (fun b hb => R.lt b hb) hd' hone svs 0 (fun k sv hk => by rw [Nat.zero_add]; exact heach k sv hk)
    rw [cut8, List.map_map, ← hlv, List.range_eq_range']
    exact this
  · obtain ⟨k, hk⟩ := List.mem_iff_getElem?.1 hu'
    rcases (heach k u hk).2 with ⟨rfl, _⟩ | ⟨_, _, _, rfl, _⟩ <;> rfl
end
end Go.Ab
