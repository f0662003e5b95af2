/- What an instruction's answer hangs on: its operands, and the store only where it reads or acts. -/
import Derived.Test.YtcnohiofldkcoabAbReg
namespace Go.Ab
open Go
set_option linter.unusedSimpArgs false
set_option linter.unusedVariables false

theorem od_congr {t t' : List AV} {x : Od} (h : ∀ n, n ∈ x.tmps → t[n]? = t'[n]?) : od t x = od t' x := by
  cases x with
  | t n => simp [od, List.getD, h n (by simp [Od.tmps])]
  | c v => rfl

theorem ods_congr {t t' : List AV} {xs : List Od} (h : ∀ x, x ∈ xs → od t x = od t' x) : xs.map (od t) = xs.map (od t') := List.map_congr_left h

theorem fillIn_congr {t t' : List AV} (ps : List (Nat × Nat × Od)) : ∀ (cells : List AV), (∀ x, x ∈ ps.map (·.2.2) → od t x = od t' x) → fillIn t cells ps = fillIn t' cells ps := by
  induction ps with
  | nil => intro cells _; rfl
  | cons p ps ih =>
    intro cells h
    obtain ⟨off, n, x⟩ := p
    simp only [fillIn]
    rw [h x (by simp)]
    split
    · exact ih _ fun y hy => h y (by simp only [List.map_cons, List.mem_cons]; exact .inr hy)
    · rfl

theorem bslAll_congr {t t' : List AV} {sh : Sh} {size : Nat} (ps : List Od) : (∀ x, x ∈ ps → od t x = od t' x) → bslAll t sh size ps = bslAll t' sh size ps := by
  induction ps with
  | nil => intro _; rfl
  | cons x ps ih =>
    intro h
    simp only [bslAll]
    rw [h x (by simp), ih fun y hy => h y (by simp [hy])]

theorem bnd_congr {t t' : List AV} {d : Int} {l : Option Od} (h : ∀ x, x ∈ l.toList → od t x = od t' x) : bnd t d l = bnd t' d l := by
  cases l with
  | none => rfl
  | some x => simp only [bnd]; rw [h x (by simp)]

theorem evOp_congr (I : Ifc) (i : Ir) {t t' : List AV} (h : Store) (hx : ∀ x, x ∈ i.ods → od t x = od t' x) : evOp I i t h = evOp I i t' h := by
  cases i
  case build z ps => simp only [evOp]; rw [fillIn_congr ps z hx]
  case bsl e s sh ps => simp only [evOp]; rw [bslAll_congr ps hx]
  case callz f shs ps => simp only [evOp]; rw [ods_congr (xs := ps) hx]
  case nil e => rfl
  case mkfn f ps => simp only [evOp]; rw [ods_congr (xs := ps) hx]
  case call f shs ps => simp only [evOp]; rw [ods_congr (xs := ps) hx]
  case mx f ps => simp only [evOp]; rw [ods_congr (xs := ps) hx]
  case callv x ps => simp only [evOp]; rw [hx x (by simp [Ir.ods]), ods_congr (xs := ps) fun y hy => hx y (by simp [Ir.ods, hy])]
  case ssl x lo hi =>
    simp only [evOp]
    rw [hx x (by simp [Ir.ods]), bnd_congr (l := lo) fun y hy => hx y (by simp only [Ir.ods, List.mem_cons, List.mem_append]; exact .inr (.inl hy))]
    split
    · rw [bnd_congr (l := hi) fun y hy => hx y (by simp only [Ir.ods, List.mem_cons, List.mem_append]; exact .inr (.inr hy))]
    · rfl
  case sls e x lo hi =>
    have e1 := bnd_congr (d := 0) (l := lo) (t := t) (t' := t') fun y hy => hx y (by simp only [Ir.ods, List.mem_cons, List.mem_append]; exact .inr (.inl hy))
    have e2 := fun d => bnd_congr (d := d) (l := hi) (t := t) (t' := t') fun y hy => hx y (by simp only [Ir.ods, List.mem_cons, List.mem_append]; exact .inr (.inr hy))
    simp only [evOp, slsSub]
    rw [hx x (by simp [Ir.ods]), e1]
    simp only [e2]
  case sls3 x lo hi mx =>
    have e1 := bnd_congr (d := 0) (l := lo) (t := t) (t' := t') fun y hy => hx y (by simp only [Ir.ods, List.mem_cons]; exact .inr (.inr (.inr hy)))
    simp only [evOp]
    rw [hx x (by simp [Ir.ods]), hx hi (by simp [Ir.ods]), hx mx (by simp [Ir.ods]), e1]
  case clr e z x => simp only [evOp]; rw [hx x (by simp [Ir.ods])]
  case mov x => simp only [evOp]; rw [hx x (by simp [Ir.ods])]
  case pick c a b => simp only [evOp]; rw [hx c (by simp [Ir.ods]), hx a (by simp [Ir.ods]), hx b (by simp [Ir.ods])]
  case box ty n x => simp only [evOp]; rw [hx x (by simp [Ir.ods])]
  case load ag n x => simp only [evOp]; rw [hx x (by simp [Ir.ods])]
  case un op x => simp only [evOp]; rw [hx x (by simp [Ir.ods])]
  case conv k x => simp only [evOp]; rw [hx x (by simp [Ir.ods])]
  case str x => simp only [evOp]; rw [hx x (by simp [Ir.ods])]
  case fad x off => simp only [evOp]; rw [hx x (by simp [Ir.ods])]
  case fld ag n off x => simp only [evOp]; rw [hx x (by simp [Ir.ods])]
  case len s x => simp only [evOp]; rw [hx x (by simp [Ir.ods])]
  case ext x j => simp only [evOp]; rw [hx x (by simp [Ir.ods])]
  case store n x y => simp only [evOp]; rw [hx x (by simp [Ir.ods]), hx y (by simp [Ir.ods])]
  case bin op c x y => simp only [evOp]; rw [hx x (by simp [Ir.ods]), hx y (by simp [Ir.ods])]
  case eqs neg c x y => simp only [evOp]; rw [hx x (by simp [Ir.ods]), hx y (by simp [Ir.ods])]
  case iadS e x y => simp only [evOp]; rw [hx x (by simp [Ir.ods]), hx y (by simp [Ir.ods])]
  case sidx x y => simp only [evOp]; rw [hx x (by simp [Ir.ods]), hx y (by simp [Ir.ods])]
  case app e b x y => simp only [evOp]; rw [hx x (by simp [Ir.ods]), hx y (by simp [Ir.ods])]

theorem evOp_pure {I : Ifc} {i : Ir} {t : List AV} {h h1 : Store} {v : AV} {m : Nat} (hk : kindOf i = .pure) (he : evOp I i t h = some (v, h1, m)) : h1 = h ∧ m = 0 ∧ ∀ h', evOp I i t h' = some (v, h', 0) := by
  cases i
  case len s x =>
    cases s
    · cases hk
    · simp only [evOp] at he ⊢
      (repeat' split at he) <;> first | (cases he; simp_all; done) | (simp_all; done)
  all_goals first
    | (cases hk; done)
    | (simp only [evOp] at he ⊢
       (repeat' split at he) <;> first | (cases he; done) | (cases he; simp_all; done) | (simp_all; done))

theorem rowOf_keep {h h' : Store} {k g : Nat} (hk : ∀ e, h[k]? = some e → h'[k]? = some e) {r : TypeId × Bool × List AV} (hr : rowOf h k g = some r) : rowOf h' k g = some r := by
  obtain ⟨e, ro, xs⟩ := r
  have h1 := rowOf_some hr
  simp [rowOf, hk _ h1]

theorem elemsOf_keep {o : Ops} {h h' : Store} {x : AV} (hk : ∀ k e, x.key = some k → h[k]? = some e → h'[k]? = some e) {xs : List AV} (hr : elemsOf o h x = some xs) : elemsOf o h' x = some xs := by
  cases x <;> simp only [elemsOf] at hr ⊢
  case lit => exact hr
  case sl k g =>
    split at hr
    · rename_i hh; rw [rowOf_keep (hk k · rfl) hh]; exact hr
    · cases hr
  case sub k g lo hi =>
    split at hr
    · rename_i hh; rw [rowOf_keep (hk k · rfl) hh]; exact hr
    · cases hr
  all_goals cases hr

theorem loadAt_keep {o : Ops} {h h' : Store} {ag : Bool} {n : Nat} {x : AV} (hk : ∀ k e, x.key = some k → h[k]? = some e → h'[k]? = some e) {v : AV} (hr : loadAt o h ag n x = some v) : loadAt o h' ag n x = some v := by
  cases x <;> simp only [loadAt] at hr ⊢
  case lptr => exact hr
  case bptr k off =>
    split at hr
    · rename_i hh; rw [hk k _ rfl hh]; exact hr
    · cases hr
  case rptr k g i off =>
    split at hr
    · rename_i hh; rw [rowOf_keep (hk k · rfl) hh]; exact hr
    · cases hr
  all_goals cases hr

theorem evOp_reads {I : Ifc} {i : Ir} {t : List AV} {h h1 : Store} {v : AV} {m : Nat} (hk : kindOf i = .reads) (he : evOp I i t h = some (v, h1, m)) :
    h1 = h ∧ m = 0 ∧ ∀ h', (∀ k e, (od t i.main).key = some k → h[k]? = some e → h'[k]? = some e) → evOp I i t h' = some (v, h', 0) := by
  cases i
  case load ag n p =>
    simp only [evOp] at he
    split at he
    · rename_i hv; cases he
      refine ⟨rfl, rfl, fun h' hh => ?_⟩
      simp only [evOp]; rw [loadAt_keep (x := od t p) hh hv]
    · cases he
  case len s x =>
    cases s
    · simp only [evOp] at he
      split at he
      · rename_i hv; cases he
        refine ⟨rfl, rfl, fun h' hh => ?_⟩
        simp only [evOp]; rw [elemsOf_keep (x := od t x) hh hv]
      · cases he
    · cases hk
  case fad p off =>
    simp only [evOp] at he
    split at he
    · rename_i hp; cases he
      refine ⟨rfl, rfl, fun h' hh => ?_⟩
      simp only [evOp, hp]
    · rename_i hp
      split at he
      · rename_i hr; cases he
        refine ⟨rfl, rfl, fun h' hh => ?_⟩
        simp only [evOp, hp]
        rw [rowOf_keep (fun e => hh _ e (by simp [Ir.main, hp, AV.key])) hr]
      · cases he
    · rename_i hp; cases he
      refine ⟨rfl, rfl, fun h' hh => ?_⟩
      simp only [evOp, hp]
    · cases he
  case iadS e x j =>
    simp only [evOp] at he
    split at he
    · rename_i n hn
      split at he
      · rename_i hp
        split at he
        · rename_i hee
          split at he
          · rename_i hl; cases he
            refine ⟨rfl, rfl, fun h' hh => ?_⟩
            simp only [evOp, hp, hn]; rw [if_pos hee, hl]
          · cases he
        · cases he
      · rename_i hp
        split at he
        · rename_i hr
          split at he
          · rename_i hee
            split at he
            · rename_i hl; cases he
              refine ⟨rfl, rfl, fun h' hh => ?_⟩
              simp only [evOp, hp, hn]
              rw [rowOf_keep (fun e => hh _ e (by simp [Ir.main, hp, AV.key])) hr]
              simp only []
              rw [if_pos hee, hl]
            · cases he
          · cases he
        · cases he
      · cases he
    · cases he
  case sls3 x lo hi mx =>
    simp only [evOp] at he
    split at he
    · rename_i xs hxs
      split at he
      · rename_i a b c ha hb hc
        split at he
        · rename_i h1 h2; cases he
          refine ⟨rfl, rfl, fun h' hh => ?_⟩
          simp only [evOp]; rw [elemsOf_keep (x := od t x) hh hxs]; simp only [ha, hb, hc, h1, h2]
        · cases he
      · cases he
    · cases he
  case sls e x lo hi =>
    simp only [evOp] at he
    split at he
    · rename_i k g l0 h0 hp
      split at he
      · rename_i hs; cases he
        refine ⟨rfl, rfl, fun h' hh => ?_⟩
        simp only [evOp, hp]
        have : slsSub I.o h' t e k g l0 h0 lo hi = some v := by
          unfold slsSub at hs ⊢
          split at hs
          · rename_i hr
            rw [rowOf_keep (fun e => hh _ e (by simp [Ir.main, hp, AV.key])) hr]
            exact hs
          · cases hs
        rw [this]
      · cases he
    · rename_i hnosub
      split at he
      case h_2 => cases he
      rename_i xs hxs
      split at he
      · rename_i a b ha hb
        split at he
        · rename_i ys hys
          split at he
          · rename_i hp
            split at he
            · rename_i hee; cases he
              refine ⟨rfl, rfl, fun h' hh => ?_⟩
              simp only [evOp]; rw [elemsOf_keep (x := od t x) hh hxs]; simp only [ha, hb, hys, hp]; rw [if_pos hee]
            · rename_i hee
              split at he
              · cases he
                refine ⟨rfl, rfl, fun h' hh => ?_⟩
                simp only [evOp]; rw [elemsOf_keep (x := od t x) hh hxs]; simp only [ha, hb, hys, hp]; rw [if_neg hee]
              · cases he
          · rename_i hp
            split at he
            · rename_i hr
              split at he
              · rename_i hee; cases he
                refine ⟨rfl, rfl, fun h' hh => ?_⟩
                simp only [evOp]; rw [elemsOf_keep (x := od t x) hh hxs]; simp only [ha, hb, hys, hp]
                rw [rowOf_keep (fun e => hh _ e (by simp [Ir.main, hp, AV.key])) hr]
                simp only []; rw [if_pos hee]
              · cases he
            · cases he
          · cases he
        · cases he
      · cases he
  all_goals cases hk

theorem bump1_zero {l : List Nat} (h : bump1 l = 0) : l = [] := by cases l <;> simp_all [bump1]
theorem bump2_le {l : List Nat} (h : bump2 l ≤ 1) : l = [] := by cases l <;> simp_all [bump2]

/-- Variables stay as they are, and rows stay rows. -/
def Boxes (h h1 : Store) : Prop := h.length ≤ h1.length ∧ ∀ k, k < h.length → ∀ t cs, (h[k]? = some (Ent.box t cs) ↔ h1[k]? = some (Ent.box t cs))
theorem Boxes.refl (h : Store) : Boxes h h := ⟨Nat.le_refl _, fun _ _ _ _ => Iff.rfl⟩
theorem Boxes.trans {a b c : Store} (x : Boxes a b) (y : Boxes b c) : Boxes a c := ⟨Nat.le_trans x.1 y.1, fun k hk t cs => (x.2 k hk t cs).trans (y.2 k (Nat.lt_of_lt_of_le hk x.1) t cs)⟩
theorem Boxes.append (h new : Store) : Boxes h (h ++ new) := ⟨by simp, fun k hk t cs => by rw [List.getElem?_append_left hk]⟩
theorem Boxes.set {h : Store} {k : Nat} {e : TypeId} {g : Nat} {ro : Bool} {xs : List AV} (hk : h[k]? = some (.row e g ro xs)) (e' : TypeId) (g' : Nat) (ro' : Bool) (xs' : List AV) : Boxes h (h.set k (.row e' g' ro' xs')) := by
  refine ⟨by simp, fun j hj t cs => ?_⟩
  by_cases hjk : j = k
  · subst hjk
    rw [hk, List.getElem?_set_self hj]
    constructor <;> intro h <;> cases h
  · rw [List.getElem?_set_ne (Ne.symm hjk)]
theorem Boxes.shut (ks : List Nat) : ∀ (h : Store), Boxes h (Go.Ab.shut ks h) := by
  intro h
  obtain ⟨h1, h2⟩ := shut_spec ks h
  refine ⟨by rw [h1]; exact Nat.le_refl _, fun k hk t cs => ?_⟩
  rcases h2 k with h3 | ⟨e, g, ro, xs, h3, h4, _⟩
  · rw [h3]
  · rw [h3, h4]
    constructor <;> intro h <;> cases h

theorem shut_new {new : Store} : ∀ (ks : List Nat) (h : Store), (∀ k, k ∈ ks → h.length ≤ k) → ∃ new', Go.Ab.shut ks (h ++ new) = h ++ new' := by
  intro ks
  induction ks generalizing new with
  | nil => intro h _; exact ⟨new, rfl⟩
  | cons k ks ih =>
    intro h hk
    have h1 : ∃ n', shut1 k (h ++ new) = h ++ n' := by
      unfold shut1
      split
      · rename_i e g ro xs hx
        exact ⟨new.set (k - h.length) (.row e g true xs), by rw [List.set_append]; simp [Nat.not_lt.2 (hk k (by simp))]⟩
      · exact ⟨new, rfl⟩
    obtain ⟨n', e⟩ := h1
    show ∃ new', Go.Ab.shut ks (shut1 k (h ++ new)) = h ++ new'
    rw [e]
    exact ih h (fun j hj => hk j (by simp [hj]))

theorem callFn_boxes {I : Ifc} {f : FuncId} {args : List AV} {h h1 : Store} {v : AV} {m : Nat} (he : callFn I f args h = some (v, h1, m)) (hm : m ≤ 1) : Boxes h h1 ∧ (m = 0 → ∃ new, h1 = h ++ new) := by
  unfold callFn at he
  split at he
  · cases he
  · rename_i args' ix hl
    split at he
    · cases he
    · split at he
      · cases he
      · split at he
        · cases he
        · rename_i h' new hwb
          split at he
          · split at he
            · simp only [Option.some.injEq, Prod.mk.injEq] at he
              obtain ⟨_, rfl, rfl⟩ := he
              have hix := bump2_le hm
              subst hix
              simp only [writeBack] at hwb
              cases hwb
              exact ⟨Boxes.refl _, fun _ => ⟨[], by simp⟩⟩
            · cases he
          · split at he
            · simp only [Option.some.injEq, Prod.mk.injEq] at he
              obtain ⟨_, rfl, rfl⟩ := he
              have hix := bump2_le (l := ix) (by omega)
              subst hix
              simp only [writeBack] at hwb
              cases hwb
              refine ⟨(Boxes.shut _ _).trans (Boxes.append _ _), fun h0 => ?_⟩
              have har := bump1_zero (l := refs args) (by simp [bump2] at h0; exact h0)
              exact ⟨_, by rw [har]; rfl⟩
            · cases he

theorem primOp_boxes {o : Ops} {p : Prim} {args : List AV} {h h1 : Store} {v : AV} {m : Nat} (he : primOp o p args h = some (v, h1, m)) : Boxes h h1 ∧ (m = 0 → ∃ new, h1 = h ++ new) := by
  unfold primOp at he
  (repeat' split at he) <;> first
    | (cases he; done)
    | (cases he; exact ⟨Boxes.append _ _, fun _ => ⟨_, rfl⟩⟩)
    | (cases he
       refine ⟨?_, fun h => by cases h⟩
       have hr := (by assumption : rowOf _ _ _ = some (_, false, _))
       exact Boxes.set (rowOf_some hr) _ _ _ _)

theorem callMv_boxes {I : Ifc} {f : FuncId} {args : List AV} {h h1 : Store} {v : AV} {m : Nat} (he : callMv I f args h = some (v, h1, m)) (hm : m ≤ 1) : Boxes h h1 ∧ (m = 0 → ∃ new, h1 = h ++ new) := by
  unfold callMv callMv1 at he
  generalize reach h 64 (rfs args) [] = ix at he
  split at he
  · cases he
  · split at he
    · cases he
    · split at he
      · cases he
      · split at he
        · cases he
        · split at he
          · cases he
          · rename_i h' hb
            injection he with he
            injection he with _ he
            injection he with e1 e2
            subst e1 e2
            have hix := bump2_le hm
            subst hix
            simp only [backM] at hb
            injection hb with hb
            subst hb
            exact ⟨Boxes.append _ _, fun _ => ⟨_, rfl⟩⟩

theorem callOp_boxes {I : Ifc} {f : FuncId} {args : List AV} {h h1 : Store} {v : AV} {m : Nat} (he : callOp I f args h = some (v, h1, m)) (hm : m ≤ 1) : Boxes h h1 ∧ (m = 0 → ∃ new, h1 = h ++ new) := by
  unfold callOp at he
  split at he
  · exact callFn_boxes he hm
  · exact callMv_boxes he hm
  · exact primOp_boxes he

theorem evOp_boxes {I : Ifc} {i : Ir} {t : List AV} {h h1 : Store} {v : AV} {m : Nat} (he : evOp I i t h = some (v, h1, m)) (hm : m ≤ 1) : Boxes h h1 ∧ (m = 0 → ∃ new, h1 = h ++ new) := by
  cases hk : kindOf i with
  | pure => rw [(evOp_pure hk he).1]; exact ⟨Boxes.refl _, fun _ => ⟨[], by simp⟩⟩
  | reads => rw [(evOp_reads hk he).1]; exact ⟨Boxes.refl _, fun _ => ⟨[], by simp⟩⟩
  | acts =>
    cases i
    case call f shs args => exact callOp_boxes he hm
    case callz f shs args =>
      simp only [evOp] at he
      split at he
      · rename_i v0 h0 m0 hc
        split at he
        · simp only [Option.some.injEq, Prod.mk.injEq] at he
          obtain ⟨_, rfl, rfl⟩ := he
          obtain ⟨b1, b2⟩ := callOp_boxes hc (by omega)
          refine ⟨b1.trans (Boxes.shut _ _), fun hz => ?_⟩
          obtain ⟨new, rfl⟩ := b2 (by omega)
          have hf := bump1_zero (l := (refs1 v0).filter fun k => decide (k < h.length)) (by omega)
          refine shut_new _ _ fun k hk => ?_
          have := List.filter_eq_nil_iff.1 hf k hk
          simpa using this
        · cases he
      · cases he
    case callv x args =>
      simp only [evOp] at he
      split at he
      · exact callOp_boxes he hm
      · cases he
    case box ty n x =>
      simp only [evOp] at he
      split at he
      · cases he; exact ⟨Boxes.append _ _, fun _ => ⟨_, rfl⟩⟩
      · cases he
    case store n p x =>
      simp only [evOp] at he
      split at he
      · rename_i h' hst
        cases he
        unfold storeAt at hst
        split at hst
        · split at hst
          · rename_i hp; simp [bumpP, hp] at hm
          · rename_i hp
            split at hst
            · split at hst
              · split at hst
                · rename_i hr
                  split at hst
                  · split at hst
                    · cases hst
                      exact ⟨(Boxes.shut _ _).trans (Boxes.set (rowOf_some hr) _ _ _ _), fun hz => by simp [bumpP, hp] at hz⟩
                    · cases hst
                  · cases hst
                · cases hst
              · cases hst
            · cases hst
          · cases hst
        · cases hst
      · cases he
    case app e b x y =>
      simp only [evOp] at he
      split at he
      · split at he
        · split at he
          · cases he; exact ⟨Boxes.append _ _, fun _ => ⟨_, rfl⟩⟩
          · cases he
        · split at he
          · split at he
            · cases he; exact ⟨Boxes.refl _, fun _ => ⟨[], by simp⟩⟩
            · cases he
          · cases he
        · split at he
          · rename_i hr
            split at he
            · split at he
              · cases he; exact ⟨Boxes.set (rowOf_some hr) _ _ _ _, fun h => by cases h⟩
              · cases he
            · cases he
          · cases he
        · split at he
          · rename_i hs
            cases he
            unfold appSub at hs
            split at hs
            · rename_i hr
              split at hs
              · split at hs
                · cases hs
                · split at hs
                  · cases hs
                  · split at hs
                    · cases hs
                    · cases hs; exact ⟨Boxes.set (rowOf_some hr) _ _ _ _, fun h => by cases h⟩
              · cases hs
            · cases hs
          · cases he
        · cases he
      · cases he
    case clr e z x =>
      simp only [evOp] at he
      split at he
      · split at he
        · rename_i hr
          split at he
          · split at he
            · cases he; exact ⟨Boxes.set (rowOf_some hr) _ _ _ _, fun h => by cases h⟩
            · cases he
          · cases he
        · cases he
      · cases he
    case nil e => simp only [evOp] at he; cases he; exact ⟨Boxes.append _ _, fun _ => ⟨_, rfl⟩⟩
    case len s x => cases s <;> cases hk
    all_goals cases hk

theorem evOp_grows {I : Ifc} {i : Ir} {t : List AV} {h h1 : Store} {v : AV} (he : evOp I i t h = some (v, h1, 0)) : ∃ new, h1 = h ++ new := (evOp_boxes he (by omega)).2 rfl
end Go.Ab
