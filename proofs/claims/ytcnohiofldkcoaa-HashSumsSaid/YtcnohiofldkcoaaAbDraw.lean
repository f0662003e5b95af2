/- What an instruction's answer hangs on: its operands, and the store only where it reads or acts. -/
import Derived.Test.YtcnohiofldkcoaaAbReg
namespace Go.Ab
open Go
set_option linter.unusedSimpArgs false
set_option linter.unusedVariables false

theorem od_congr {t t' : List AV} {x : Od} (h : ∀ n, n ∈ x.tmps → t[n]? = t'[n]?) : od t x = od t' x := by
  cases x with
  | t n => simp [od, List.getD, h n (by simp [Od.tmps])]
  | c v => rfl

theorem ods_congr {t t' : List AV} {xs : List Od} (h : ∀ x, x ∈ xs → od t x = od t' x) : xs.map (od t) = xs.map (od t') := List.map_congr_left h

theorem fillIn_congr {t t' : List AV} (ps : List (Nat × Nat × Od)) : ∀ (cells : List AV), (∀ x, x ∈ ps.map (·.2.2) → od t x = od t' x) → fillIn t cells ps = fillIn t' cells ps := by
  induction ps with
  | nil => intro cells _; rfl
  | cons p ps ih =>
    intro cells h
    obtain ⟨off, n, x⟩ := p
    simp only [fillIn]
    rw [h x (by simp)]
    split
    · exact ih _ fun y hy => h y (by simp only [List.map_cons, List.mem_cons]; exact .inr hy)
    · rfl

theorem bslAll_congr {t t' : List AV} {size : Nat} (ps : List Od) : (∀ x, x ∈ ps → od t x = od t' x) → bslAll t size ps = bslAll t' size ps := by
  induction ps with
  | nil => intro _; rfl
  | cons x ps ih =>
    intro h
    simp only [bslAll]
    rw [h x (by simp), ih fun y hy => h y (by simp [hy])]

theorem bnd_congr {t t' : List AV} {d : Int} {l : Option Od} (h : ∀ x, x ∈ l.toList → od t x = od t' x) : bnd t d l = bnd t' d l := by
  cases l with
  | none => rfl
  | some x => simp only [bnd]; rw [h x (by simp)]

theorem evOp_congr (I : Ifc) (i : Ir) {t t' : List AV} (h : Store) (hx : ∀ x, x ∈ i.ods → od t x = od t' x) : evOp I i t h = evOp I i t' h := by
  cases i
  case build z ps => simp only [evOp]; rw [fillIn_congr ps z hx]
  case bsl e s ps => simp only [evOp]; rw [bslAll_congr ps hx]
  case mkfn f ps => simp only [evOp]; rw [ods_congr (xs := ps) hx]
  case call f ps => simp only [evOp]; rw [ods_congr (xs := ps) hx]
  case mx f ps => simp only [evOp]; rw [ods_congr (xs := ps) hx]
  case callv x ps => simp only [evOp]; rw [hx x (by simp [Ir.ods]), ods_congr (xs := ps) fun y hy => hx y (by simp [Ir.ods, hy])]
  case ssl x lo hi =>
    simp only [evOp]
    rw [hx x (by simp [Ir.ods]), bnd_congr (l := lo) fun y hy => hx y (by simp only [Ir.ods, List.mem_cons, List.mem_append]; exact .inr (.inl hy))]
    split
    · rw [bnd_congr (l := hi) fun y hy => hx y (by simp only [Ir.ods, List.mem_cons, List.mem_append]; exact .inr (.inr hy))]
    · rfl
  case sls e x lo hi =>
    simp only [evOp]
    rw [hx x (by simp [Ir.ods]), bnd_congr (l := lo) fun y hy => hx y (by simp only [Ir.ods, List.mem_cons, List.mem_append]; exact .inr (.inl hy))]
    split
    · rw [bnd_congr (l := hi) fun y hy => hx y (by simp only [Ir.ods, List.mem_cons, List.mem_append]; exact .inr (.inr hy))]
    · rfl
  case mov x => simp only [evOp]; rw [hx x (by simp [Ir.ods])]
  case pick c a b => simp only [evOp]; rw [hx c (by simp [Ir.ods]), hx a (by simp [Ir.ods]), hx b (by simp [Ir.ods])]
  case box ty n x => simp only [evOp]; rw [hx x (by simp [Ir.ods])]
  case load ag n x => simp only [evOp]; rw [hx x (by simp [Ir.ods])]
  case un op x => simp only [evOp]; rw [hx x (by simp [Ir.ods])]
  case conv k x => simp only [evOp]; rw [hx x (by simp [Ir.ods])]
  case str x => simp only [evOp]; rw [hx x (by simp [Ir.ods])]
  case fad x off => simp only [evOp]; rw [hx x (by simp [Ir.ods])]
  case fld ag n off x => simp only [evOp]; rw [hx x (by simp [Ir.ods])]
  case len s x => simp only [evOp]; rw [hx x (by simp [Ir.ods])]
  case ext x j => simp only [evOp]; rw [hx x (by simp [Ir.ods])]
  case store n x y => simp only [evOp]; rw [hx x (by simp [Ir.ods]), hx y (by simp [Ir.ods])]
  case bin op c x y => simp only [evOp]; rw [hx x (by simp [Ir.ods]), hx y (by simp [Ir.ods])]
  case eqs neg c x y => simp only [evOp]; rw [hx x (by simp [Ir.ods]), hx y (by simp [Ir.ods])]
  case iadS e x y => simp only [evOp]; rw [hx x (by simp [Ir.ods]), hx y (by simp [Ir.ods])]
  case sidx x y => simp only [evOp]; rw [hx x (by simp [Ir.ods]), hx y (by simp [Ir.ods])]
  case app e b x y => simp only [evOp]; rw [hx x (by simp [Ir.ods]), hx y (by simp [Ir.ods])]

theorem evOp_pure {I : Ifc} {i : Ir} {t : List AV} {h h1 : Store} {v : AV} {m : Bool} (hk : kindOf i = .pure) (he : evOp I i t h = some (v, h1, m)) : h1 = h ∧ m = false ∧ ∀ h', evOp I i t h' = some (v, h', false) := by
  cases i
  case len s x =>
    cases s
    · cases hk
    · simp only [evOp] at he ⊢
      (repeat' split at he) <;> first | (cases he; simp_all; done) | (simp_all; done)
  all_goals first
    | (cases hk; done)
    | (simp only [evOp] at he ⊢
       (repeat' split at he) <;> first | (cases he; done) | (cases he; simp_all; done) | (simp_all; done))

theorem rowOf_keep {h h' : Store} {k g : Nat} (hk : ∀ e, h[k]? = some e → h'[k]? = some e) {r : TypeId × Bool × List AV} (hr : rowOf h k g = some r) : rowOf h' k g = some r := by
  obtain ⟨e, ro, xs⟩ := r
  have h1 := rowOf_some hr
  simp [rowOf, hk _ h1]

theorem elemsOf_keep {o : Ops} {h h' : Store} {x : AV} (hk : ∀ k e, x.key = some k → h[k]? = some e → h'[k]? = some e) {xs : List AV} (hr : elemsOf o h x = some xs) : elemsOf o h' x = some xs := by
  cases x <;> simp only [elemsOf] at hr ⊢
  case lit => exact hr
  case sl k g =>
    split at hr
    · rename_i hh; rw [rowOf_keep (hk k · rfl) hh]; exact hr
    · cases hr
  case sub k g lo hi =>
    split at hr
    · rename_i hh; rw [rowOf_keep (hk k · rfl) hh]; exact hr
    · cases hr
  all_goals cases hr

theorem loadAt_keep {o : Ops} {h h' : Store} {ag : Bool} {n : Nat} {x : AV} (hk : ∀ k e, x.key = some k → h[k]? = some e → h'[k]? = some e) {v : AV} (hr : loadAt o h ag n x = some v) : loadAt o h' ag n x = some v := by
  cases x <;> simp only [loadAt] at hr ⊢
  case lptr => exact hr
  case bptr k off =>
    split at hr
    · rename_i hh; rw [hk k _ rfl hh]; exact hr
    · cases hr
  case rptr k g i off =>
    split at hr
    · rename_i hh; rw [rowOf_keep (hk k · rfl) hh]; exact hr
    · cases hr
  all_goals cases hr

theorem evOp_reads {I : Ifc} {i : Ir} {t : List AV} {h h1 : Store} {v : AV} {m : Bool} (hk : kindOf i = .reads) (he : evOp I i t h = some (v, h1, m)) :
    h1 = h ∧ m = false ∧ ∀ h', (∀ k e, (od t i.main).key = some k → h[k]? = some e → h'[k]? = some e) → evOp I i t h' = some (v, h', false) := by
  cases i
  case load ag n p =>
    simp only [evOp] at he
    split at he
    · rename_i hv; cases he
      refine ⟨rfl, rfl, fun h' hh => ?_⟩
      simp only [evOp]; rw [loadAt_keep (x := od t p) hh hv]
    · cases he
  case len s x =>
    cases s
    · simp only [evOp] at he
      split at he
      · rename_i hv; cases he
        refine ⟨rfl, rfl, fun h' hh => ?_⟩
        simp only [evOp]; rw [elemsOf_keep (x := od t x) hh hv]
      · cases he
    · cases hk
  case fad p off =>
    simp only [evOp] at he
    split at he
    · rename_i hp; cases he
      refine ⟨rfl, rfl, fun h' hh => ?_⟩
      simp only [evOp, hp]
    · rename_i hp
      split at he
      · rename_i hr; cases he
        refine ⟨rfl, rfl, fun h' hh => ?_⟩
        simp only [evOp, hp]
        rw [rowOf_keep (fun e => hh _ e (by simp [Ir.main, hp, AV.key])) hr]
      · cases he
    · rename_i hp; cases he
      refine ⟨rfl, rfl, fun h' hh => ?_⟩
      simp only [evOp, hp]
    · cases he
  case iadS e x j =>
    simp only [evOp] at he
    split at he
    · rename_i n hn
      split at he
      · rename_i hp
        split at he
        · rename_i hee
          split at he
          · rename_i hl; cases he
            refine ⟨rfl, rfl, fun h' hh => ?_⟩
            simp only [evOp, hp, hn]; rw [if_pos hee, hl]
          · cases he
        · cases he
      · rename_i hp
        split at he
        · rename_i hr
          split at he
          · rename_i hee
            split at he
            · rename_i hl; cases he
              refine ⟨rfl, rfl, fun h' hh => ?_⟩
              simp only [evOp, hp, hn]
              rw [rowOf_keep (fun e => hh _ e (by simp [Ir.main, hp, AV.key])) hr]
              simp only []
              rw [if_pos hee, hl]
            · cases he
          · cases he
        · cases he
      · cases he
    · cases he
  case sls e x lo hi =>
    simp only [evOp] at he
    split at he
    · rename_i xs hxs
      split at he
      · rename_i a b ha hb
        split at he
        · rename_i ys hys
          split at he
          · rename_i hp
            split at he
            · rename_i hee; cases he
              refine ⟨rfl, rfl, fun h' hh => ?_⟩
              simp only [evOp]; rw [elemsOf_keep (x := od t x) hh hxs]; simp only [ha, hb, hys, hp]; rw [if_pos hee]
            · rename_i hee
              split at he
              · cases he
                refine ⟨rfl, rfl, fun h' hh => ?_⟩
                simp only [evOp]; rw [elemsOf_keep (x := od t x) hh hxs]; simp only [ha, hb, hys, hp]; rw [if_neg hee]
              · cases he
          · rename_i hp
            split at he
            · rename_i hr
              split at he
              · rename_i hee; cases he
                refine ⟨rfl, rfl, fun h' hh => ?_⟩
                simp only [evOp]; rw [elemsOf_keep (x := od t x) hh hxs]; simp only [ha, hb, hys, hp]
                rw [rowOf_keep (fun e => hh _ e (by simp [Ir.main, hp, AV.key])) hr]
                simp only []; rw [if_pos hee]
              · cases he
            · cases he
          · cases he
        · cases he
      · cases he
    · cases he
  all_goals cases hk

theorem shut_same (args : List AV) : ∀ (h : Store), args.any isRowRef = false → shut args h = h := by
  induction args with
  | nil => intro h _; rfl
  | cons x r ih =>
    intro h ha
    simp only [List.any_cons, Bool.or_eq_false_iff] at ha
    cases x <;> first | (simp [isRowRef] at ha; done) | (simp only [shut]; exact ih h ha.2)

theorem callOp_grows {I : Ifc} {f : FuncId} {args : List AV} {h h1 : Store} {v : AV} (he : callOp I f args h = some (v, h1, false)) : ∃ new, h1 = h ++ new := by
  unfold callOp at he
  split at he
  · cases he
  · rename_i args' ix hl
    split at he
    · cases he
    · split at he
      · cases he
      · split at he
        · cases he
        · rename_i h' new hwb
          split at he
          · split at he
            · simp only [Option.some.injEq, Prod.mk.injEq] at he
              obtain ⟨_, rfl, hix⟩ := he
              simp at hix
              subst hix
              simp only [writeBack] at hwb
              cases hwb
              exact ⟨[], by simp⟩
            · cases he
          · split at he
            · simp only [Option.some.injEq, Prod.mk.injEq, Bool.or_eq_false_iff] at he
              obtain ⟨_, rfl, hix, har⟩ := he
              simp at hix
              subst hix
              simp only [writeBack] at hwb
              cases hwb
              exact ⟨_, by rw [shut_same _ _ har]⟩
            · cases he

theorem evOp_grows {I : Ifc} {i : Ir} {t : List AV} {h h1 : Store} {v : AV} (he : evOp I i t h = some (v, h1, false)) : ∃ new, h1 = h ++ new := by
  cases hk : kindOf i with
  | pure => exact ⟨[], by simp [(evOp_pure hk he).1]⟩
  | reads => exact ⟨[], by simp [(evOp_reads hk he).1]⟩
  | acts =>
    cases i
    case call f args => exact callOp_grows he
    case callv x args =>
      simp only [evOp] at he
      split at he
      · exact callOp_grows he
      · cases he
    case box ty n x =>
      simp only [evOp] at he
      split at he
      · cases he; exact ⟨_, rfl⟩
      · cases he
    case store n p x =>
      simp only [evOp] at he
      split at he <;> cases he
    case app e b x y =>
      simp only [evOp] at he
      (repeat' split at he) <;> first | (cases he; done) | (cases he; exact ⟨_, rfl⟩) | (cases he; exact ⟨[], by simp⟩)
    case len s x => cases s <;> cases hk
    all_goals cases hk
end Go.Ab
