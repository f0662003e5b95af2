/- Operations that leave the store as it is: '==' of structs, greatest and least, slices written out. -/
import Derived.Test.YtcnohiofldkcoabAbOp2
import Derived.Laws.StructEq
namespace Go.Ab
open Go
set_option linter.unusedSimpArgs false
set_option linter.unusedVariables false

section
variable {P : Program} {base : Nat} {h : Store} {E : Env} {t : List AV} {a : Act}

theorem cls_agg {ty : TypeId} {c : Cls} (hc : clsOf P ty = some c) : isAggT P ty = some false := by
  unfold clsOf at hc
  unfold isAggT
  split at hc <;> first | (cases hc; done) | (rename_i hu; rw [hu])

theorem eqFlat_sound {w : World} {xs ys : List AV} {us vs : List Value} (hx : VL E xs us) (hy : VL E ys vs) (d : Nat) (fs : List Field) :
    ∀ (n : Nat) {cs : List Cls} {r : Bool}, clsFlat P n fs = some cs → eqCells Ops.std cs (xs.drop n) (ys.drop n) = some r → (Op.eqFields (d + 1) us.toArray vs.toArray fs).run P w = .ok r w := by
  induction fs with
  | nil =>
    intro n cs r hc he
    simp only [clsFlat] at hc; cases hc
    unfold eqCells at he
    split at he <;> first | (cases he; simp [Op.eqFields]; done) | (cases he; done) | simp_all
  | cons f fs ih =>
    intro n cs r hc he
    simp only [clsFlat] at hc
    split at hc
    · rename_i c l hcf hl
      split at hc
      · cases hc
        rename_i hcond
        obtain ⟨hoff, hname, hsz⟩ := hcond
        unfold eqCells at he
        split at he
        · rename_i e1 _ _; cases e1
        · rename_i c' cs' x xr y yr e1 e2 e3
          cases e1
          have hxn : xs[n]? = some x := by
            have : (xs.drop n)[0]? = some x := by rw [e2]; rfl
            simpa using this
          have hyn : ys[n]? = some y := by
            have : (ys.drop n)[0]? = some y := by rw [e3]; rfl
            simpa using this
          obtain ⟨hlx, rfl⟩ := List.getElem?_eq_some_iff.1 hxn
          obtain ⟨hly, rfl⟩ := List.getElem?_eq_some_iff.1 hyn
          obtain ⟨u, hu, hux⟩ := hx.get n hlx
          obtain ⟨v, hv, hvy⟩ := hy.get n hly
          have part1 : (part f.type us.toArray f.offset).run P w = .ok u w := by
            unfold part; simp [run_isAgg (cls_agg hcf), hoff, hu]
          have part2 : (part f.type vs.toArray f.offset).run P w = .ok v w := by
            unfold part; simp [run_isAgg (cls_agg hcf), hoff, hv]
          have hxr : xs.drop (n + 1) = xr := by rw [← List.drop_drop, e2]; rfl
          have hyr : ys.drop (n + 1) = yr := by rw [← List.drop_drop, e3]; rfl
          have eqv : ∀ b, scBin Ops.std .eql c xs[n] ys[n] = some (.sc (.bool b)) → (Op.equalIn (d + 1) f.type u v).run P w = .ok b w := fun b hb => by
            obtain ⟨xv, yv, e1, e2⟩ := scBin_args hb
            rw [e1] at hux; rw [e2] at hvy
            rw [hux.sc_inv.1, hvy.sc_inv.1]
            exact equalIn_sc d hcf e1 e2 hb
          split at he
          · rename_i hb
            simp only [Op.eqFields, hname, ne_eq, not_false_eq_true, if_true, Sem.run_bind, part1, part2, Result.andThen_ok, eqv _ hb]
            simp only [Bool.not_true, Bool.false_eq_true, if_false]
            exact ih (n + 1) hl (by rw [hxr, hyr]; exact he)
          · rename_i hb
            cases he
            simp only [Op.eqFields, hname, ne_eq, not_false_eq_true, if_true, Sem.run_bind, part1, part2, Result.andThen_ok, eqv _ hb]
            simp
          · cases he
        · cases he
      · cases hc
    · cases hc

theorem eqCells_append {o : Ops} : ∀ (cs l : List Cls) (xs ys xr yr : List AV) {r : Bool}, xs.length = cs.length → ys.length = cs.length → eqCells o (cs ++ l) (xs ++ xr) (ys ++ yr) = some r →
    (eqCells o cs xs ys = some true ∧ eqCells o l xr yr = some r) ∨ (eqCells o cs xs ys = some false ∧ r = false) := by
  intro cs
  induction cs with
  | nil =>
    intro l xs ys xr yr r hx hy h
    rw [List.eq_nil_of_length_eq_zero hx, List.eq_nil_of_length_eq_zero hy] at h ⊢
    exact .inl ⟨rfl, h⟩
  | cons c cs ih =>
    intro l xs ys xr yr r hx hy h
    match xs, ys, hx, hy with
    | x :: xs, y :: ys, hx, hy =>
      simp only [List.cons_append, eqCells] at h ⊢
      split at h
      · rename_i hb
        try rw [hb]
        exact ih l xs ys xr yr (by simpa using hx) (by simpa using hy) h
      · rename_i hb
        try rw [hb]
        cases h; exact .inr ⟨rfl, rfl⟩
      · cases h

theorem cut_mid {xs : List AV} {n k : Nat} (h : n + k ≤ xs.length) : cut xs n k = some ((xs.drop n).take k) := by unfold cut; rw [if_pos h]

theorem eqFields_sound {w : World} {xs ys : List AV} {us vs : List Value} (hx : VL E xs us) (hy : VL E ys vs) (d : Nat) (fs : List Field) :
    ∀ (n : Nat) {cs : List Cls} {r : Bool}, clsFields P n fs = some cs → n + cs.length = xs.length → n + cs.length = ys.length → eqCells Ops.std cs (xs.drop n) (ys.drop n) = some r → (Op.eqFields (d + 2) us.toArray vs.toArray fs).run P w = .ok r w := by
  induction fs with
  | nil =>
    intro n cs r hc _ _ he
    simp only [clsFields] at hc; cases hc
    unfold eqCells at he
    split at he <;> first | (cases he; simp [Op.eqFields]; done) | (cases he; done) | simp_all
  | cons f fs ih =>
    intro n cs r hc hlx hly he
    simp only [clsFields] at hc
    split at hc
    · rename_i c hcf
      split at hc
      · rename_i l hl
        split at hc
        · cases hc
          rename_i hcond
          obtain ⟨hoff, hname, hsz⟩ := hcond
          have one : eqCells Ops.std [c] (((xs.drop n).take 1)) ((ys.drop n).take 1) = some true ∧ eqCells Ops.std l (xs.drop (n + 1)) (ys.drop (n + 1)) = some r ∨ eqCells Ops.std [c] ((xs.drop n).take 1) ((ys.drop n).take 1) = some false ∧ r = false := by
            refine eqCells_append [c] l _ _ _ _ ?_ ?_ ?_
            · simp only [List.length_cons] at hlx; simp; omega
            · simp only [List.length_cons] at hly; simp; omega
            · rw [← List.drop_drop, ← List.drop_drop, List.take_append_drop, List.take_append_drop]; exact he
          -- the one field, by itself
          have fl : ∀ b, eqCells Ops.std [c] ((xs.drop n).take 1) ((ys.drop n).take 1) = some b → ∃ u v, (part f.type us.toArray f.offset).run P w = .ok u w ∧ (part f.type vs.toArray f.offset).run P w = .ok v w ∧ (Op.equalIn (d + 2) f.type u v).run P w = .ok b w := fun b hb => by
            simp only [List.length_cons] at hlx hly
            have hlx' : n < xs.length := by omega
            have hly' : n < ys.length := by omega
            obtain ⟨u, hu, hux⟩ := hx.get n hlx'
            obtain ⟨v, hv, hvy⟩ := hy.get n hly'
            refine ⟨u, v, by unfold part; simp [run_isAgg (cls_agg hcf), hoff, hu], by unfold part; simp [run_isAgg (cls_agg hcf), hoff, hv], ?_⟩
            rw [List.drop_eq_getElem_cons hlx', List.drop_eq_getElem_cons hly'] at hb
            simp only [List.take_succ_cons, List.take_zero, eqCells] at hb
            split at hb
            · rename_i hb2
              cases hb
              obtain ⟨xv, yv, e1, e2⟩ := scBin_args hb2
              rw [e1] at hux; rw [e2] at hvy
              rw [hux.sc_inv.1, hvy.sc_inv.1]
              exact equalIn_sc (d + 1) hcf e1 e2 hb2
            · rename_i hb2
              cases hb
              obtain ⟨xv, yv, e1, e2⟩ := scBin_args hb2
              rw [e1] at hux; rw [e2] at hvy
              rw [hux.sc_inv.1, hvy.sc_inv.1]
              exact equalIn_sc (d + 1) hcf e1 e2 hb2
            · cases hb
          rcases one with ⟨h1, h2⟩ | ⟨h1, rfl⟩
          · obtain ⟨u, v, p1, p2, p3⟩ := fl _ h1
            simp only [Op.eqFields, hname, ne_eq, not_false_eq_true, if_true, Sem.run_bind, p1, p2, Result.andThen_ok, p3]
            simp only [Bool.not_true, Bool.false_eq_true, if_false]
            exact ih (n + 1) hl (by simp only [List.length_cons] at hlx; omega) (by simp only [List.length_cons] at hly; omega) h2
          · obtain ⟨u, v, p1, p2, p3⟩ := fl _ h1
            simp only [Op.eqFields, hname, ne_eq, not_false_eq_true, if_true, Sem.run_bind, p1, p2, Result.andThen_ok, p3]
            simp
        · cases hc
      · cases hc
    · split at hc
      · rename_i gs hgs
        split at hc
        · rename_i cs1 hcs1
          split at hc
          · rename_i l hl
            split at hc
            · cases hc
              rename_i hcond
              obtain ⟨hoff, hname, hsz, hst, hinf⟩ := hcond
              simp only [List.length_append] at hlx hly
              have hag : isAggT P f.type = some true := by unfold isAggT; rw [hgs]
              have sp := eqCells_append cs1 l ((xs.drop n).take cs1.length) ((ys.drop n).take cs1.length) (xs.drop (n + cs1.length)) (ys.drop (n + cs1.length)) (r := r) (by simp; omega) (by simp; omega) (by
                rw [← List.drop_drop, ← List.drop_drop, List.take_append_drop, List.take_append_drop]; exact he)
              obtain ⟨u, p1, hu⟩ := run_part (w := w) hag hinf hx (off := f.offset) (c := (xs.drop n).take cs1.length) (v := .agg ((xs.drop n).take cs1.length)) (by rw [hoff, hsz]; exact cut_mid (by omega)) rfl
              obtain ⟨v, p2, hv⟩ := run_part (w := w) hag hinf hy (off := f.offset) (c := (ys.drop n).take cs1.length) (v := .agg ((ys.drop n).take cs1.length)) (by rw [hoff, hsz]; exact cut_mid (by omega)) rfl
              obtain ⟨us', rfl, hus⟩ := hu.agg_inv
              obtain ⟨vs', rfl, hvs⟩ := hv.agg_inv
              have inner : ∀ b, eqCells Ops.std cs1 ((xs.drop n).take cs1.length) ((ys.drop n).take cs1.length) = some b → (Op.equalIn (d + 2) f.type (.agg us'.toArray) (.agg vs'.toArray)).run P w = .ok b w := fun b hb => by
                have hf : P.fieldsOf f.type = gs := by simp [Program.fieldsOf, hgs]
                rw [run_equalIn_struct w (d + 1) f.type us'.toArray vs'.toArray (by rw [hf]; exact hgs) hst, hf]
                exact eqFlat_sound (P := P) (w := w) hus hvs d gs.toList 0 hcs1 (by simpa using hb)
              rcases sp with ⟨h1, h2⟩ | ⟨h1, rfl⟩
              · simp only [Op.eqFields, hname, ne_eq, not_false_eq_true, if_true, Sem.run_bind, p1, p2, Result.andThen_ok, inner _ h1]
                simp only [Bool.not_true, Bool.false_eq_true, if_false]
                exact ih (n + cs1.length) hl (by omega) (by omega) h2
              · simp only [Op.eqFields, hname, ne_eq, not_false_eq_true, if_true, Sem.run_bind, p1, p2, Result.andThen_ok, inner _ h1]
                simp
            · cases hc
          · cases hc
        · cases hc
      · cases hc

theorem op_eqs (R : Rel base h E) (ht : VL E t a.tmps.toList) {o : Oper} {ty yt : TypeId} {x y : Operand} {fs : Array Field} (hs : P.underlying ty = some (.struct fs)) (hst : P.stoodInHeld ty = false) (hgt : P.eqGuardType P.depth ty = false) {cs : List Cls} (hcs : clsFields P 0 fs.toList = some cs)
    {x' y' : Od} (hx : cmpOd x = some x') (hy : cmpOd y = some y') {p q : List AV} (hp : od t x' = .agg p) (hq : od t y' = .agg q) {r : Bool} (hlp : p.length = cs.length) (hlq : q.length = cs.length) (hr : eqCells Ops.std cs p q = some r) :
    (o.op = .binOp .eql ty x y yt → Comes1 P base o a h E (.sc (.bool r)) h) ∧ (o.op = .binOp .neq ty x y yt → Comes1 P base o a h E (.sc (.bool (!r))) h) := by
  have h1 := od_vl ht hx
  have h2 := od_vl ht hy
  rw [hp] at h1; rw [hq] at h2
  obtain ⟨us, hu, hul⟩ := h1.agg_inv
  obtain ⟨vs, hv, hvl⟩ := h2.agg_inv
  have hf : P.fieldsOf ty = fs := by simp [Program.fieldsOf, hs]
  have he := eqFields_sound (P := P) (w := E.w) hul hvl 9997 fs.toList 0 hcs (by omega) (by omega) (by simpa using hr)
  have hein : (Op.equalIn 10000 ty (.agg us.toArray) (.agg vs.toArray)).run P E.w = .ok r E.w := by
    rw [show (10000 : Nat) = 9999 + 1 from rfl, run_equalIn_struct E.w 9999 ty us.toArray vs.toArray (by rw [hf]; exact hs) hst, hf]; exact he
  refine ⟨fun ho => ?_, fun ho => ?_⟩
  · refine Comes1.same R (v' := .bool r) ?_ (.data (.sc rfl .nil) .nil)
    simp only [execOp, ho, hu, hv, Sem.run_bind, run_eqGuard_agg E.w .eql ty x y us.toArray vs.toArray hgt, run_eql_struct, hein, Result.andThen_ok, Sem.run_pure]
  · refine Comes1.same R (v' := .bool (!r)) ?_ (.data (.sc rfl .nil) .nil)
    simp only [execOp, ho, hu, hv, Sem.run_bind, run_eqGuard_agg E.w .neq ty x y us.toArray vs.toArray hgt, run_neq_struct, hein, Result.andThen_ok, Sem.run_pure]

theorem mx_sound {w : World} {big : Bool} {k : IntKind} {r : List AV} : ∀ {n m : Int} {us : List Value}, VL E r us → mxInts Ops.std big k n r = some m →
    (us.foldlM (if big then Builtin.max2 else Builtin.min2) (Value.int k n)).run P w = .ok (.int k m) w := by
  induction r with
  | nil => intro n m us hu hm; cases hu; simp only [mxInts] at hm; cases hm; rfl
  | cons x r ih =>
    intro n m us hu hm
    obtain ⟨u, us', rfl, h1, h2⟩ := hu.uncons
    unfold mxInts at hm
    split at hm
    · rename_i e1; cases e1
    · rename_i a' k' b r' e1
      cases e1
      have hb := h1.sc_inv.1
      subst hb
      split at hm
      · rename_i hk
        subst hk
        rw [List.foldlM_cons]
        cases big with
        | true =>
          simp only at hm
          split at hm
          · rename_i hlt
            have h3 := ih h2 hm
            simp only [Ops.std, decide_eq_true_eq] at hlt
            simp [Builtin.max2, hlt]; exact h3
          · rename_i hlt
            have h3 := ih h2 hm
            simp only [Ops.std, decide_eq_false_iff_not] at hlt
            simp [Builtin.max2, hlt]; exact h3
        | false =>
          simp only at hm
          split at hm
          · rename_i hlt
            have h3 := ih h2 hm
            simp only [Ops.std, decide_eq_true_eq] at hlt
            simp [Builtin.min2, hlt]; exact h3
          · rename_i hlt
            have h3 := ih h2 hm
            simp only [Ops.std, decide_eq_false_iff_not] at hlt
            simp [Builtin.min2, hlt]; exact h3
      · cases hm
    · cases hm

theorem op_mx (R : Rel base h E) (ht : VL E t a.tmps.toList) {o : Oper} {big : Bool} {args : Array Operand} {tys : Array TypeId} (ho : o.op = .call { callee := .builtin (if big then .max else .min), args, argTypes := tys }) {l : List Od} (hl : cmpOds args.toList = some l)
    {k : IntKind} {n m : Int} {r : List AV} (hr : l.map (od t) = .sc (.int k n) :: r) (hm : mxInts Ops.std big k n r = some m) : Comes1 P base o a h E (.sc (.int k m)) h := by
  have hv := ods_vl ht hl
  rw [hr] at hv
  obtain ⟨u, us, hus, h1, h2⟩ := hv.uncons
  have h3 := mx_sound (P := P) (w := E.w) h2 hm
  have h4 := h1.sc_inv.1
  subst h4
  have ha : (args.map a.eval).toList = .int k n :: us := by rw [Array.toList_map]; exact hus
  refine Comes1.same R (v' := .int k m) ?_ (.data (.sc rfl .nil) .nil)
  cases big with
  | true =>
    simp only [if_true] at ho h3
    simp only [execOp, ho, resolve, invoke, builtin, Builtin.max_, ha, Sem.run_bind, Sem.run_pure, Result.andThen_ok, h3]
  | false =>
    simp only [Bool.false_eq_true, if_false] at ho h3
    simp only [execOp, ho, resolve, invoke, builtin, Builtin.min_, ha, Sem.run_bind, Sem.run_pure, Result.andThen_ok, h3]

/-! ### A slice written out -/
theorem data_dl {x : AV} {v : Value} (hx : VL E [x] [v]) (hd : x.data = true) : DL E.P E.w E.own [x] [v] := by
  suffices H : ∀ (x : AV), (∀ v, VL E [x] [v] → x.data = true → DL E.P E.w E.own [x] [v]) from H x v hx hd
  intro x
  refine AV.rec (motive_1 := fun x => ∀ v, VL E [x] [v] → x.data = true → DL E.P E.w E.own [x] [v]) (motive_2 := fun l => ∀ vs, VL E l vs → AV.data.go l = true → DL E.P E.w E.own l vs) ?_ ?_ ?_ ?_ ?_ ?_ ?_ ?_ ?_ ?_ ?_ ?_ ?_ x
  · intro v u hu _
    obtain ⟨rfl, hp⟩ := hu.sc_inv
    exact .sc hp .nil
  · intro cs ih u hu hd
    obtain ⟨vs, rfl, h2⟩ := hu.agg_inv
    exact .agg (ih vs h2 (by simpa [AV.data] using hd)) .nil
  · intro cs _ u _ hd; simp [AV.data] at hd
  · intro e f xs _ u hu _; exact hu.lit_inv
  · intro k g u _ hd; simp [AV.data] at hd
  · intro k g lo hi u _ hd; simp [AV.data] at hd
  · intro k g u _ hd; simp [AV.data] at hd
  · intro k g i o u _ hd; simp [AV.data] at hd
  · intro e xs i o _ u _ hd; simp [AV.data] at hd
  · intro f cs _ u _ hd; simp [AV.data] at hd
  · intro u _ hd; simp [AV.data] at hd
  · intro vs h _; cases h; exact .nil
  · intro x l ihx ihl vs h hd
    obtain ⟨u, us, rfl, h1, h2⟩ := h.uncons
    unfold AV.data.go at hd
    split at hd
    · rename_i hx; exact DL.append (ihx u h1 hx) (ihl us h2 hd)
    · cases hd

theorem data_cells {x : AV} {v : Value} (hx : DL E.P E.w E.own [x] [v]) : DL E.P E.w E.own x.cells v.cells.toList := by
  cases hx with
  | sc h t => have : v.cells = #[v] := by cases v <;> simp_all [plainSc, Value.cells]
              simpa [AV.cells, this] using DL.sc h .nil
  | agg h t => simpa [AV.cells, Value.cells] using h
  | lit hc hm hf hs h h1 hr t => simpa [AV.cells, Value.cells] using DL.lit hc hm hf hs h h1 hr .nil

mutual
/-- A value as every value of its type is told: still data. -/
theorem norm_dl {P : Program} {w : World} {own : Nat → Prop} : ∀ (sh : Sh) (v : AV) {u : Value}, DL P w own [v] [u] → DL P w own [normV sh v] [u] := by
  intro sh v u h
  unfold normV
  split
  · obtain ⟨ad, cap, vals, rfl, hc, hm, _, hs, hd, h1, hr⟩ := h.lit_inv
    split
    · rename_i hee; subst hee
      exact .lit hc hm (by simp) hs hd h1 hr .nil
    · split
      · exact .lit hc hm (by simp) (fun x hx => by cases hx) hd h1 hr .nil
      · exact .lit hc hm (by simp) hs hd h1 hr .nil
  · rename_i shs cs
    cases h with
    | agg h1 t => exact .agg (normL_dl shs cs h1) t
  · exact h
theorem normL_dl {P : Program} {w : World} {own : Nat → Prop} : ∀ (shs : List Sh) (l : List AV) {us : List Value}, DL P w own l us → DL P w own (normL shs l) us := by
  intro shs l us h
  unfold normL
  split
  · rename_i sh shs v vs
    obtain ⟨a, b, rfl, h1, h2⟩ := DL.split [v] h
    have hl := h1.length
    match a, hl with
    | [u], _ => exact (norm_dl sh v h1).append (normL_dl shs vs h2)
  · exact h
end
theorem normL_len : ∀ (shs : List Sh) (l : List AV), (normL shs l).length = l.length := by
  intro shs
  induction shs with
  | nil => intro l; simp [normL]
  | cons sh shs ih =>
    intro l
    cases l with
    | nil => simp [normL]
    | cons v vs => simp [normL, ih]
theorem norm_len (sh : Sh) (v : AV) : (normV sh v).cells.length = v.cells.length := by
  unfold normV
  split
  · split
    · rfl
    · split <;> rfl
  · simp [AV.cells, normL_len]
  · rfl

theorem fillFull {size : Nat} {sh : Sh} (ht : VL E t a.tmps.toList) (ps : List (Nat × Operand)) : ∀ {n : Nat} {l : List Od} {xs : List AV} {cells : Array Value} {pre : List Value}, cmpFull n ps = some l → bslAll t sh size l = some xs → cells.size = (n + ps.length) * size → cells.toList.take (n * size) = pre →
    ∃ us vals, Instr.fill (fun i => some (i * size, size)) cells (ps.map fun (i, x) => (i, a.eval x)) = some us ∧ us.toList = pre ++ vals ∧ DL E.P E.w E.own (flat xs) vals ∧ (∀ u, u ∈ vals → u.oneCell' = true) ∧ xs.length = ps.length ∧ ∀ x, x ∈ xs → x.cells.length = size := by
  induction ps with
  | nil =>
    intro n l xs cells pre hl hx hsz hpre
    simp only [cmpFull] at hl; cases hl
    simp only [bslAll] at hx; cases hx
    refine ⟨cells, [], rfl, ?_, .nil, (fun u hu => by cases hu), rfl, (fun x hx => by cases hx)⟩
    rw [List.append_nil, ← hpre, List.take_of_length_le]
    simp at hsz ⊢; omega
  | cons p ps ih =>
    intro n l xs cells pre hl hx hsz hpre
    obtain ⟨i, x⟩ := p
    simp only [cmpFull] at hl
    split at hl
    · rename_i hin
      subst hin
      split at hl
      · cases hl
        rename_i y l' hy hl'
        unfold bslAll at hx
        split at hx
        · rename_i hd
          split at hx
          · rename_i hc
            obtain ⟨hc1, hc2⟩ := hc
            split at hx
            · cases hx
              rename_i xs' hxs'
              have hv := od_vl ht hy
              have hdl := data_dl hv hd
              have hcl := data_cells hdl
              have hcn := data_cells (norm_dl sh _ hdl)
              have hlen : (a.eval x).cells.toList.length = size := by rw [hcl.length, hc1]
              simp only [List.length_cons] at hsz
              have hle : i * size + size ≤ cells.size := by
                rw [hsz, ← Nat.succ_mul]; exact Nat.mul_le_mul_right _ (by omega)
              obtain ⟨cells', e1, e2, e3⟩ := fill_one (fun i => some (i * size, size)) cells i (i * size) size (a.eval x) (ps.map fun (i, x) => (i, a.eval x)) rfl (by rw [← Array.length_toList]; exact hlen) hle
              have hpl : pre.length = i * size := by rw [← hpre, List.length_take]; simp; omega
              obtain ⟨us, vals, h1, h2, h3, h4, h5, h6⟩ := ih (n := i + 1) (cells := cells') (pre := pre ++ (a.eval x).cells.toList) hl' hxs' (by rw [e1, hsz]; congr 1; omega) (by
                rw [e2, hpre, List.take_append, List.take_of_length_le (by rw [List.length_append, hpl, hlen, Nat.add_mul, Nat.one_mul]; exact Nat.le_refl _)]
                rw [List.length_append, hpl, hlen, Nat.add_mul, Nat.one_mul, Nat.sub_self]; simp)
              refine ⟨us, (a.eval x).cells.toList ++ vals, by rw [List.map_cons, e3]; exact h1, by rw [h2, List.append_assoc], ?_, ?_, by simp [h5], ?_⟩
              · simp only [flat, List.flatMap_cons]; exact hcn.append h3
              · intro u hu
                rcases List.mem_append.1 hu with hu | hu
                · exact (hcl.vl).one_cells (fun c hc => by simpa using List.all_eq_true.1 hc2 c hc) u hu
                · exact h4 u hu
              · intro z hz
                rcases List.mem_cons.1 hz with rfl | hz
                · rw [norm_len]; exact hc1
                · exact h6 z hz
            · cases hx
          · cases hx
        · cases hx
      · cases hl
    · cases hl

theorem op_bsl (R : Rel base h E) (hP : E.P = P) (ht : VL E t a.tmps.toList) {o : Oper} {ty e : TypeId} {len : Nat} {ps : Array (Nat × Operand)} (ho : o.op = .buildSlice ty len ps) (hs : P.underlying ty = some (.slice e)) {z : AV} (hz : zeroOf P e = some z) (h0 : 0 < P.cellsOf e) (hm : len * P.cellsOf e ≤ 2 ^ 24)
    {l : List Od} {sh : Sh} (hl : cmpFull 0 ps.toList = some l) (hlen : l.length = len) {xs : List AV} (hx : bslAll t sh (P.cellsOf e) l = some xs) : Comes1 P base o a h E (.lit e true xs) h := by
  obtain ⟨i, zv, hi, hzv, hzs, _, _⟩ := zeroOf_some (E := E) hz
  subst hP
  have hpl : ps.toList.length = len := by
    have : ∀ (ps : List (Nat × Operand)) n l, cmpFull n ps = some l → l.length = ps.length := fun ps => by
      induction ps with
      | nil => intro n l h; simp only [cmpFull] at h; cases h; rfl
      | cons p ps ih =>
        intro n l h
        obtain ⟨i, x⟩ := p
        simp only [cmpFull] at h
        split at h
        · split at h
          · cases h; rename_i h2; simp [ih _ _ h2]
          · cases h
        · cases h
    rw [← this _ _ _ hl, hlen]
  obtain ⟨us, vals, h1, h2, h3, h4, h5, h6⟩ := fillFull ht ps.toList (cells := madeCells zv.cells (len * E.P.cellsOf e)) (pre := []) hl hx (by rw [size_madeCells, hpl]; simp) (by simp)
  have hisz : (sizeOf e).run E.P E.w = .ok (E.P.cellsOf e) E.w := run_sizeOf (by rw [hi]; rfl)
  have hz0 : (zeroValue e).run E.P E.w = .ok zv E.w := by simp [zeroValue, typeInfo, hi, hzv]
  have hxl : xs.length = len := by rw [h5, hpl]
  have hfill : Instr.fill (fun i => some (i * E.P.cellsOf e, E.P.cellsOf e)) ((Array.range (len * E.P.cellsOf e)).map (zv.cells[· % zv.cells.size]!)) (ps.map fun (i, x) => (i, a.eval x)).toList = some us := by
    rw [Array.toList_map]; exact h1
  obtain ⟨R', S'⟩ := alloc_free R (.cells us e)
  have run : (execOp a.eval o).run E.P E.w = .ok (.value (.slice (some ⟨E.w.heap.size, 0, none⟩) len len)) (E.w.alloc (.cells us e)) := by
    by_cases hn : len * E.P.cellsOf e = 0
    · have hl0 : len = 0 := by rcases Nat.mul_eq_zero.1 hn with h | h; exact h; omega
      subst hl0
      have hps : ps.toList = [] := List.eq_nil_of_length_eq_zero hpl
      have hpe : ps = #[] := Array.ext' hps
      subst hpe
      have : us = #[] := by
        have : Instr.fill (fun i => some (i * E.P.cellsOf e, E.P.cellsOf e)) (madeCells zv.cells (0 * E.P.cellsOf e)) [] = some us := h1
        simp only [Instr.fill, Nat.zero_mul] at this
        injection this with this
        rw [← this]; apply Array.eq_empty_of_size_eq_zero; rw [size_madeCells]
      subst this
      simp [execOp, ho, Instr.buildSlice, run_underlying hs, hisz, Instr.fill, newRow]
      congr 2
      apply Array.eq_empty_of_size_eq_zero
      simp
    · have hgt : ¬ len * E.P.cellsOf e > 2 ^ 24 := by omega
      simp only [execOp, ho, Instr.buildSlice, Sem.run_bind, run_underlying hs, hisz, Result.andThen_ok, hgt, if_false, hn, hz0, Sem.run_pure]
      rw [hfill]
      simp [newRow]
  refine ⟨_, _, .inl run, R', S', .data ?_ .nil⟩
  have hd := h3.step (E := E) (E' := { E with w := E.w.alloc (.cells us e) }) S'.ext
  have := DL.lit (P := E.P) (w := E.w.alloc (.cells us e)) (own := E.own) (e := e) (full := true) (xs := xs) (a := some ⟨E.w.heap.size, 0, none⟩) (cap := len) (vals := vals) (r := []) (rs := []) (by omega) (by
    have : len ≤ len * E.P.cellsOf e := Nat.le_mul_of_pos_right _ h0
    simp only [maxLen]; omega) (fun _ => hxl.symm) h6 hd h4 (fun j u hu => ⟨E.w.heap.size, 0, rfl, fun ho => by have := R.lt _ ho; omega, by
      rw [Nat.zero_add]
      have hus : us[j]? = some u := by rw [← Array.getElem?_toList, h2]; simpa using hu
      simpa using hus⟩) .nil
  rw [hxl] at this
  exact this
end
end Go.Ab
