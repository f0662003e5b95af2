/- Our texts for this statement, merged: what its theorem leads to. -/
import Derived.Deep.Slices
import Derived.Test.YtpiabgfedgddeaaDoorQStore7
namespace Go.Ab
open Go Go.ChangeShapes Go.WideShapes
set_option linter.unusedSimpArgs false
set_option linter.unusedVariables false
section
variable {H : Type} {enc : TypeId × Value → H} {P : Program} {w : World} {base : Nat} {spare : Nat → Bool} {held : Bool} {fuel : Nat} {cs : List Value} {x : DataW H × List MemPlace}
def ElemAt (P : Program) (w : World) (size : Nat) (Good : AV → Prop) (cs : List Value) (xa : AV) : Prop :=
  DL P w (fun _ => False) xa.cells cs ∧ xa.cells.length = size ∧ (∀ c, c ∈ xa.cells → c.one = true) ∧ Good xa
theorem elems_dl {size : Nat} {Good : AV → Prop} {a : Addr} : ∀ (len : Nat), (∀ i, i < len → ∃ cs' xa, w.cells? base (a.add (i * size)) size = some cs' ∧ ElemAt P w size Good cs' xa) →
    ∃ xs vals, xs.length = len ∧ (∀ x, x ∈ xs → x.cells.length = size ∧ Good x) ∧ DL P w (fun _ => False) (flat xs) vals ∧ vals.length = len * size ∧ (∀ u, u ∈ vals → u.oneCell' = true) ∧ ∀ j u, vals[j]? = some u → w.cell? (a.add j) = some u := by
  intro len
  induction len with
  | zero => intro _; exact ⟨[], [], rfl, fun x h => (by cases h), .nil, by simp, fun u h => (by cases h), fun j u h => by simp at h⟩
  | succ len ih =>
    intro h
    obtain ⟨xs, vals, h1, h2, h3, h4, h5, h6⟩ := ih (fun i hi => h i (by omega))
    obtain ⟨cs', xa, hc, hd, hl, ho, hg⟩ := h len (by omega)
    obtain ⟨hb, hcl, hcell⟩ := World.cells?_some hc
    refine ⟨xs ++ [xa], vals ++ cs', by simp [h1], fun x hx => ?_, ?_, ?_, fun u hu => ?_, fun j u hu => ?_⟩
    · rcases List.mem_append.1 hx with hx | hx
      · exact h2 x hx
      · simp at hx; subst hx; exact ⟨hl, hg⟩
    · rw [flat_append]
      refine h3.append ?_
      simpa [flat] using hd
    · rw [List.length_append, h4, hcl, Nat.add_mul, Nat.one_mul]
    · rcases List.mem_append.1 hu with hu | hu
      · exact h5 u hu
      · exact (hd.vl (E := ⟨P, w, 0, fun _ => none, fun _ => 0, fun _ => 0, fun _ => undef, fun _ => 0, fun _ => False⟩)).one_cells ho u hu
    · by_cases hj : j < vals.length
      · rw [List.getElem?_append_left hj] at hu; exact h6 j u hu
      · rw [List.getElem?_append_right (by omega)] at hu
        have hlt : j - vals.length < size := by
          have := (List.getElem?_eq_some_iff.1 hu).1; omega
        have := hcell (j - vals.length) hlt
        rw [Go.Deep.add_add, ← h4, show vals.length + (j - vals.length) = j by omega] at this
        rw [this]; exact hu
theorem slice_av {t e : TypeId} {size : Nat} (ht : P.underlying t = some (.slice e)) (hc : P.cellsOf e = size) (h0 : 0 < size) {Good : AV → Prop} (h : DataW.trod enc P w base spare held fuel t cs = some x)
    (el : ∀ n cs' y, n < fuel → DataW.trod enc P w base spare held n e cs' = some y → ∃ xa, ElemAt P w size Good cs' xa) :
    ∃ xs v, cs = [v] ∧ DL P w (fun _ => False) [.lit e false xs] [v] ∧ ∀ x, x ∈ xs → Good x := by
  rcases DataW.trod_slice ht h with ⟨rfl, rfl⟩ | ⟨a, len, cap, elems, rest, n, rfl, rfl, rfl, hb, hl, hm, hlen, hel, hsp, hns⟩
  · exact ⟨[], _, rfl, .lit (Nat.le_refl 0) (Nat.zero_le _) (by simp) (fun x h => by cases h) .nil (fun u h => by cases h) (fun j u h => by simp at h) .nil, fun x h => by cases h⟩
  · obtain ⟨xs, vals, h1, h2, h3, h4, h5, h6⟩ := elems_dl (P := P) (w := w) (base := base) (size := size) (Good := Good) (a := a) len (fun i hi => by
      have := hel i hi
      rw [List.getElem?_eq_getElem (by omega)] at this
      obtain ⟨cs', e1, e2⟩ := Option.bind_eq_some_iff.1 this
      obtain ⟨xa, hx⟩ := el n cs' _ (by omega) e2
      rw [hc] at e1
      exact ⟨cs', xa, e1, hx⟩)
    refine ⟨xs, _, rfl, ?_, fun x hx => (h2 x hx).2⟩
    have hd := DL.lit (P := P) (w := w) (own := fun _ => False) (e := e) (full := false) (xs := xs) (a := some a) (cap := cap) (vals := vals) (r := []) (rs := []) (by omega) hm (by simp) (fun x hx => by rw [hc]; exact (h2 x hx).1) h3 h5 (fun j u hu => by
      have hpos : 0 < vals.length := by have := (List.getElem?_eq_some_iff.1 hu).1; omega
      have h00 := h6 0 _ (List.getElem?_eq_getElem hpos)
      have := h6 j u hu
      have hsp : a.spot = none := by
        rw [show a.add 0 = a from if_pos rfl] at h00
        unfold World.cell? at h00
        split at h00
        · split at h00
          · cases h00
          · rename_i hs
            simpa using hs
        · cases h00
      obtain ⟨b, o, s⟩ := a
      simp only at hsp
      subst hsp
      refine ⟨b, o, rfl, id, ?_⟩
      rw [Addr.add_lit] at this
      exact this) .nil
    rw [h1] at hd
    exact hd
theorem slice_cell {t e : TypeId} (ht : P.underlying t = some (.slice e)) {r : Reach} {b0 : Nat} {v : Value} (h : Value.okWide P w r b0 t v) : v.cells = #[v] := by
  unfold Value.okWide at h
  rw [ht] at h
  cases v with
  | agg cs =>
    simp only [Cell.okWide, ht, Cell.ok] at h
  | _ => rfl
end
end Go.Ab
namespace Go.Ab
open Go Go.ChangeShapes Go.WideShapes
set_option linter.unusedVariables false
def Rd {α : Type} (P : Program) (w : World) (e : α → AV) (Ok : α → Prop) (cs : List Value) (a : α) : Prop :=
  DL P w (fun _ => False) (e a).cells cs ∧ (∀ c, c ∈ (e a).cells → c.one = true) ∧ Ok a
abbrev OkU (x : Int) : Prop := 0 ≤ x ∧ x ≤ 18446744073709551615
abbrev OkT (x : ByteArray) : Prop := x.size ≤ maxLen
def OkL {α : Type} (Ok : α → Prop) (l : List α) : Prop := (∀ x, x ∈ l → Ok x) ∧ l.length ≤ maxLen
theorem wf_int {k : IntKind} {n : Int} (h : (Lit.int k n).wf = true) : k.min ≤ n ∧ n ≤ k.max := by
  simpa [Lit.wf] using h
theorem wf_u64 {n : Int} (h : (Lit.int .u64 n).wf = true) : OkU n := wf_int h
section
variable {H : Type} {enc : TypeId × Value → H} {P : Program} {w : World} {base : Nat} {spare : Nat → Bool} {held : Bool} {fuel : Nat} {cs : List Value} {x : DataW H × List MemPlace} {t : TypeId}
theorem rd_string (ht : P.underlying t = some .string) (h : DataW.trod enc P w base spare held fuel t cs = some x) : ∃ s, Rd P w vT OkT cs s := by
  obtain ⟨s, rfl, _, hs⟩ := DataW.trod_string ht h
  exact ⟨s, .sc rfl .nil, fun c hc => by simp [AV.cells] at hc; subst hc; rfl, hs⟩
theorem rd_list {α : Type} {e : TypeId} {size : Nat} {f : α → AV} {Ok : α → Prop} (ht : P.underlying t = some (.slice e)) (hc : P.cellsOf e = size) (h0 : 0 < size) (hf : ∀ a, (f a).cells.length = size) (h : DataW.trod enc P w base spare held fuel t cs = some x)
    (el : ∀ n cs' y, n < fuel → DataW.trod enc P w base spare held n e cs' = some y → ∃ a, Rd P w f Ok cs' a) : ∃ l, Rd P w (eL e f) (OkL Ok) cs l := by
  obtain ⟨xs, v, rfl, hd, hg⟩ := slice_av (P := P) (w := w) (size := size) (Good := fun v => ∃ a, v = f a ∧ Ok a) ht hc h0 h (fun n cs' y hn hy => by
    obtain ⟨a, h1, h2, h3⟩ := el n cs' y hn hy
    exact ⟨f a, h1, hf a, h2, a, rfl, h3⟩)
  have key : ∀ xs : List AV, (∀ x, x ∈ xs → ∃ a, x = f a ∧ Ok a) → ∃ l : List α, xs = l.map f ∧ ∀ a, a ∈ l → Ok a := by
    intro xs
    induction xs with
    | nil => intro _; exact ⟨[], rfl, fun a h => by cases h⟩
    | cons x xs ih =>
      intro h
      obtain ⟨a, rfl, ha⟩ := h x (by simp)
      obtain ⟨l, rfl, hl⟩ := ih (fun y hy => h y (by simp [hy]))
      exact ⟨a :: l, rfl, fun b hb => (List.mem_cons.1 hb).elim (fun e => by rw [e]; exact ha) (hl b)⟩
  obtain ⟨l, rfl, hl⟩ := key xs hg
  have hlen : l.length ≤ maxLen := by
    cases hd with
    | lit h1 h2 _ _ _ _ _ _ => rw [List.length_map] at h1; omega
  exact ⟨l, hd, fun c hc => by simp [eL, AV.cells] at hc; subst hc; rfl, hl, hlen⟩
theorem arg_list {α : Type} {e : TypeId} {f : α → AV} {Ok : List α → Prop} (ht : P.underlying t = some (.slice e)) {r : Reach} {b0 : Nat} {v : Value} (hval : Value.okWide P w r b0 t v) (h : ∃ l, Rd P w (eL e f) Ok v.cells.toList l) : ∃ l, DL P w (fun _ => False) [.lit e false (l.map f)] [v] ∧ Ok l := by
  obtain ⟨l, h1, _, h2⟩ := h
  rw [slice_cell ht hval] at h1
  exact ⟨l, h1, h2⟩
end
end Go.Ab
