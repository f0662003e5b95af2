/- Our texts for this statement, merged: what its theorem leads to. -/
import Derived.Laws.StructEq
import Derived.Test.YtpiabgfedgddeaaDoorQStore3
namespace Go.Ab
open Go
set_option linter.unusedSimpArgs false
set_option linter.unusedVariables false
section
variable {P : Program} {base : Base} {h : Store} {E : Env} {t : List AV} {a : Act}
theorem cls_agg {ty : TypeId} {c : Cls} (hc : clsOf P ty = some c) : isAggT P ty = some false := by
  unfold clsOf at hc
  unfold isAggT
  split at hc <;> first | (cases hc; done) | (rename_i hu; rw [hu])
theorem eqFlat_sound {w : World} {xs ys : List AV} {us vs : List Value} (hx : VL E xs us) (hy : VL E ys vs) (d : Nat) (fs : List Field) :
    ∀ (n : Nat) {cs : List Cls} {r : Bool}, clsFlat P n fs = some cs → eqCells Ops.std cs (xs.drop n) (ys.drop n) = some r → (Op.eqFields (d + 1) us.toArray vs.toArray fs).run P w = .ok r w := by
  induction fs with
  | nil =>
    intro n cs r hc he
    simp only [clsFlat] at hc; cases hc
    unfold eqCells at he
    split at he <;> first | (cases he; simp [Op.eqFields]; done) | (cases he; done) | simp_all
  | cons f fs ih =>
    intro n cs r hc he
    simp only [clsFlat] at hc
    split at hc
    · rename_i c l hcf hl
      split at hc
      · cases hc
        rename_i hcond
        obtain ⟨hoff, hname, hsz⟩ := hcond
        unfold eqCells at he
        split at he
        · rename_i e1 _ _; cases e1
        · rename_i c' cs' x xr y yr e1 e2 e3
          cases e1
          have hxn : xs[n]? = some x := by
            have : (xs.drop n)[0]? = some x := by rw [e2]; rfl
            simpa using this
          have hyn : ys[n]? = some y := by
            have : (ys.drop n)[0]? = some y := by rw [e3]; rfl
            simpa using this
          obtain ⟨hlx, rfl⟩ := List.getElem?_eq_some_iff.1 hxn
          obtain ⟨hly, rfl⟩ := List.getElem?_eq_some_iff.1 hyn
          obtain ⟨u, hu, hux⟩ := hx.get n hlx
          obtain ⟨v, hv, hvy⟩ := hy.get n hly
          have part1 : (part f.type us.toArray f.offset).run P w = .ok u w := by
            unfold part; simp [run_isAgg (cls_agg hcf), hoff, hu]
          have part2 : (part f.type vs.toArray f.offset).run P w = .ok v w := by
            unfold part; simp [run_isAgg (cls_agg hcf), hoff, hv]
          have hxr : xs.drop (n + 1) = xr := by rw [← List.drop_drop, e2]; rfl
          have hyr : ys.drop (n + 1) = yr := by rw [← List.drop_drop, e3]; rfl
          have eqv : ∀ b, scBin Ops.std .eql c xs[n] ys[n] = some (.sc (.bool b)) → (Op.equalIn (d + 1) f.type u v).run P w = .ok b w := fun b hb => by
            obtain ⟨xv, yv, e1, e2⟩ := scBin_args hb
            rw [e1] at hux; rw [e2] at hvy
            rw [hux.sc_inv.1, hvy.sc_inv.1]
            exact equalIn_sc d hcf e1 e2 hb
          split at he
          · rename_i hb
            simp only [Op.eqFields, hname, ne_eq, not_false_eq_true, if_true, Sem.run_bind, part1, part2, Result.andThen_ok, eqv _ hb]
            simp only [Bool.not_true, Bool.false_eq_true, if_false]
            exact ih (n + 1) hl (by rw [hxr, hyr]; exact he)
          · rename_i hb
            cases he
            simp only [Op.eqFields, hname, ne_eq, not_false_eq_true, if_true, Sem.run_bind, part1, part2, Result.andThen_ok, eqv _ hb]
            simp
          · cases he
        · cases he
      · cases hc
    · cases hc
theorem eqCells_append {o : Ops} : ∀ (cs l : List Cls) (xs ys xr yr : List AV) {r : Bool}, xs.length = cs.length → ys.length = cs.length → eqCells o (cs ++ l) (xs ++ xr) (ys ++ yr) = some r →
    (eqCells o cs xs ys = some true ∧ eqCells o l xr yr = some r) ∨ (eqCells o cs xs ys = some false ∧ r = false) := by
  intro cs
  induction cs with
  | nil =>
    intro l xs ys xr yr r hx hy h
    rw [List.eq_nil_of_length_eq_zero hx, List.eq_nil_of_length_eq_zero hy] at h ⊢
    exact .inl ⟨rfl, h⟩
  | cons c cs ih =>
    intro l xs ys xr yr r hx hy h
    match xs, ys, hx, hy with
    | x :: xs, y :: ys, hx, hy =>
      simp only [List.cons_append, eqCells] at h ⊢
      split at h
      · rename_i hb
        try rw [hb]
        exact ih l xs ys xr yr (by simpa using hx) (by simpa using hy) h
      · rename_i hb
        try rw [hb]
        cases h; exact .inr ⟨rfl, rfl⟩
      · cases h
theorem cut_mid {xs : List AV} {n k : Nat} (h : n + k ≤ xs.length) : cut xs n k = some ((xs.drop n).take k) := by unfold cut; rw [if_pos h]
theorem eqFields_sound {w : World} {xs ys : List AV} {us vs : List Value} (hx : VL E xs us) (hy : VL E ys vs) (d : Nat) (fs : List Field) :
    ∀ (n : Nat) {cs : List Cls} {r : Bool}, clsFields P n fs = some cs → n + cs.length = xs.length → n + cs.length = ys.length → eqCells Ops.std cs (xs.drop n) (ys.drop n) = some r → (Op.eqFields (d + 2) us.toArray vs.toArray fs).run P w = .ok r w := by
  induction fs with
  | nil =>
    intro n cs r hc _ _ he
    simp only [clsFields] at hc; cases hc
    unfold eqCells at he
    split at he <;> first | (cases he; simp [Op.eqFields]; done) | (cases he; done) | simp_all
  | cons f fs ih =>
    intro n cs r hc hlx hly he
    simp only [clsFields] at hc
    split at hc
    · rename_i c hcf
      split at hc
      · rename_i l hl
        split at hc
        · cases hc
          rename_i hcond
          obtain ⟨hoff, hname, hsz⟩ := hcond
          have one : eqCells Ops.std [c] (((xs.drop n).take 1)) ((ys.drop n).take 1) = some true ∧ eqCells Ops.std l (xs.drop (n + 1)) (ys.drop (n + 1)) = some r ∨ eqCells Ops.std [c] ((xs.drop n).take 1) ((ys.drop n).take 1) = some false ∧ r = false := by
            refine eqCells_append [c] l _ _ _ _ ?_ ?_ ?_
            · simp only [List.length_cons] at hlx; simp; omega
            · simp only [List.length_cons] at hly; simp; omega
            · rw [← List.drop_drop, ← List.drop_drop, List.take_append_drop, List.take_append_drop]; exact he
          have fl : ∀ b, eqCells Ops.std [c] ((xs.drop n).take 1) ((ys.drop n).take 1) = some b → ∃ u v, (part f.type us.toArray f.offset).run P w = .ok u w ∧ (part f.type vs.toArray f.offset).run P w = .ok v w ∧ (Op.equalIn (d + 2) f.type u v).run P w = .ok b w := fun b hb => by
            simp only [List.length_cons] at hlx hly
            have hlx' : n < xs.length := by omega
            have hly' : n < ys.length := by omega
            obtain ⟨u, hu, hux⟩ := hx.get n hlx'
            obtain ⟨v, hv, hvy⟩ := hy.get n hly'
            refine ⟨u, v, by unfold part; simp [run_isAgg (cls_agg hcf), hoff, hu], by unfold part; simp [run_isAgg (cls_agg hcf), hoff, hv], ?_⟩
            rw [List.drop_eq_getElem_cons hlx', List.drop_eq_getElem_cons hly'] at hb
            simp only [List.take_succ_cons, List.take_zero, eqCells] at hb
            split at hb
            · rename_i hb2
              cases hb
              obtain ⟨xv, yv, e1, e2⟩ := scBin_args hb2
              rw [e1] at hux; rw [e2] at hvy
              rw [hux.sc_inv.1, hvy.sc_inv.1]
              exact equalIn_sc (d + 1) hcf e1 e2 hb2
            · rename_i hb2
              cases hb
              obtain ⟨xv, yv, e1, e2⟩ := scBin_args hb2
              rw [e1] at hux; rw [e2] at hvy
              rw [hux.sc_inv.1, hvy.sc_inv.1]
              exact equalIn_sc (d + 1) hcf e1 e2 hb2
            · cases hb
          rcases one with ⟨h1, h2⟩ | ⟨h1, rfl⟩
          · obtain ⟨u, v, p1, p2, p3⟩ := fl _ h1
            simp only [Op.eqFields, hname, ne_eq, not_false_eq_true, if_true, Sem.run_bind, p1, p2, Result.andThen_ok, p3]
            simp only [Bool.not_true, Bool.false_eq_true, if_false]
            exact ih (n + 1) hl (by simp only [List.length_cons] at hlx; omega) (by simp only [List.length_cons] at hly; omega) h2
          · obtain ⟨u, v, p1, p2, p3⟩ := fl _ h1
            simp only [Op.eqFields, hname, ne_eq, not_false_eq_true, if_true, Sem.run_bind, p1, p2, Result.andThen_ok, p3]
            simp
        · cases hc
      · cases hc
    · split at hc
      · rename_i gs hgs
        split at hc
        · rename_i cs1 hcs1
          split at hc
          · rename_i l hl
            split at hc
            · cases hc
              rename_i hcond
              obtain ⟨hoff, hname, hsz, hst, hinf⟩ := hcond
              simp only [List.length_append] at hlx hly
              have hag : isAggT P f.type = some true := by unfold isAggT; rw [hgs]
              have sp := eqCells_append cs1 l ((xs.drop n).take cs1.length) ((ys.drop n).take cs1.length) (xs.drop (n + cs1.length)) (ys.drop (n + cs1.length)) (r := r) (by simp; omega) (by simp; omega) (by
                rw [← List.drop_drop, ← List.drop_drop, List.take_append_drop, List.take_append_drop]; exact he)
              obtain ⟨u, p1, hu⟩ := run_part (w := w) hag hinf hx (off := f.offset) (c := (xs.drop n).take cs1.length) (v := .agg ((xs.drop n).take cs1.length)) (by rw [hoff, hsz]; exact cut_mid (by omega)) rfl
              obtain ⟨v, p2, hv⟩ := run_part (w := w) hag hinf hy (off := f.offset) (c := (ys.drop n).take cs1.length) (v := .agg ((ys.drop n).take cs1.length)) (by rw [hoff, hsz]; exact cut_mid (by omega)) rfl
              obtain ⟨us', rfl, hus⟩ := hu.agg_inv
              obtain ⟨vs', rfl, hvs⟩ := hv.agg_inv
              have inner : ∀ b, eqCells Ops.std cs1 ((xs.drop n).take cs1.length) ((ys.drop n).take cs1.length) = some b → (Op.equalIn (d + 2) f.type (.agg us'.toArray) (.agg vs'.toArray)).run P w = .ok b w := fun b hb => by
                have hf : P.fieldsOf f.type = gs := by simp [Program.fieldsOf, hgs]
                rw [run_equalIn_struct w (d + 1) f.type us'.toArray vs'.toArray (by rw [hf]; exact hgs) hst, hf]
                exact eqFlat_sound (P := P) (w := w) hus hvs d gs.toList 0 hcs1 (by simpa using hb)
              rcases sp with ⟨h1, h2⟩ | ⟨h1, rfl⟩
              · simp only [Op.eqFields, hname, ne_eq, not_false_eq_true, if_true, Sem.run_bind, p1, p2, Result.andThen_ok, inner _ h1]
                simp only [Bool.not_true, Bool.false_eq_true, if_false]
                exact ih (n + cs1.length) hl (by omega) (by omega) h2
              · simp only [Op.eqFields, hname, ne_eq, not_false_eq_true, if_true, Sem.run_bind, p1, p2, Result.andThen_ok, inner _ h1]
                simp
            · cases hc
          · cases hc
        · cases hc
      · cases hc
theorem op_eqs (R : Rel base h E) (ht : VL E t a.tmps.toList) {o : Oper} {ty yt : TypeId} {x y : Operand} {fs : Array Field} (hs : P.underlying ty = some (.struct fs)) (hst : P.stoodInHeld ty = false) (hgt : P.eqGuardType P.depth ty = false) {cs : List Cls} (hcs : clsFields P 0 fs.toList = some cs)
    {x' y' : Od} (hx : cmpOd x = some x') (hy : cmpOd y = some y') {p q : List AV} (hp : od t x' = .agg p) (hq : od t y' = .agg q) {r : Bool} (hlp : p.length = cs.length) (hlq : q.length = cs.length) (hr : eqCells Ops.std cs p q = some r) :
    (o.op = .binOp .eql ty x y yt → Comes1 P base o a h E (.sc (.bool r)) h) ∧ (o.op = .binOp .neq ty x y yt → Comes1 P base o a h E (.sc (.bool (!r))) h) := by
  have h1 := od_vl ht hx
  have h2 := od_vl ht hy
  rw [hp] at h1; rw [hq] at h2
  obtain ⟨us, hu, hul⟩ := h1.agg_inv
  obtain ⟨vs, hv, hvl⟩ := h2.agg_inv
  have hf : P.fieldsOf ty = fs := by simp [Program.fieldsOf, hs]
  have he := eqFields_sound (P := P) (w := E.w) hul hvl 9997 fs.toList 0 hcs (by omega) (by omega) (by simpa using hr)
  have hein : (Op.equalIn 10000 ty (.agg us.toArray) (.agg vs.toArray)).run P E.w = .ok r E.w := by
    rw [show (10000 : Nat) = 9999 + 1 from rfl, run_equalIn_struct E.w 9999 ty us.toArray vs.toArray (by rw [hf]; exact hs) hst, hf]; exact he
  refine ⟨fun ho => ?_, fun ho => ?_⟩
  · refine Comes1.same R (v' := .bool r) ?_ (.data (.sc rfl .nil) .nil)
    simp only [execOp, ho, hu, hv, Sem.run_bind, run_eqGuard_agg E.w .eql ty x y us.toArray vs.toArray hgt, run_eql_struct, hein, Result.andThen_ok, Sem.run_pure]
  · refine Comes1.same R (v' := .bool (!r)) ?_ (.data (.sc rfl .nil) .nil)
    simp only [execOp, ho, hu, hv, Sem.run_bind, run_eqGuard_agg E.w .neq ty x y us.toArray vs.toArray hgt, run_neq_struct, hein, Result.andThen_ok, Sem.run_pure]
theorem mx_sound {w : World} {big : Bool} {k : IntKind} {r : List AV} : ∀ {n m : Int} {us : List Value}, VL E r us → mxInts Ops.std big k n r = some m →
    (us.foldlM (if big then Builtin.max2 else Builtin.min2) (Value.int k n)).run P w = .ok (.int k m) w := by
  induction r with
  | nil => intro n m us hu hm; cases hu; simp only [mxInts] at hm; cases hm; rfl
  | cons x r ih =>
    intro n m us hu hm
    obtain ⟨u, us', rfl, h1, h2⟩ := hu.uncons
    unfold mxInts at hm
    split at hm
    · rename_i e1; cases e1
    · rename_i a' k' b r' e1
      cases e1
      have hb := h1.sc_inv.1
      subst hb
      split at hm
      · rename_i hk
        subst hk
        rw [List.foldlM_cons]
        cases big with
        | true =>
          simp only at hm
          split at hm
          · rename_i hlt
            have h3 := ih h2 hm
            simp only [Ops.std, decide_eq_true_eq] at hlt
            simp [Builtin.max2, hlt]; exact h3
          · rename_i hlt
            have h3 := ih h2 hm
            simp only [Ops.std, decide_eq_false_iff_not] at hlt
            simp [Builtin.max2, hlt]; exact h3
        | false =>
          simp only at hm
          split at hm
          · rename_i hlt
            have h3 := ih h2 hm
            simp only [Ops.std, decide_eq_true_eq] at hlt
            simp [Builtin.min2, hlt]; exact h3
          · rename_i hlt
            have h3 := ih h2 hm
            simp only [Ops.std, decide_eq_false_iff_not] at hlt
            simp [Builtin.min2, hlt]; exact h3
      · cases hm
    · cases hm
theorem op_mx (R : Rel base h E) (ht : VL E t a.tmps.toList) {o : Oper} {big : Bool} {args : Array Operand} {tys : Array TypeId} (ho : o.op = .call { callee := .builtin (if big then .max else .min), args, argTypes := tys }) {l : List Od} (hl : cmpOds args.toList = some l)
    {k : IntKind} {n m : Int} {r : List AV} (hr : l.map (od t) = .sc (.int k n) :: r) (hm : mxInts Ops.std big k n r = some m) : Comes1 P base o a h E (.sc (.int k m)) h := by
  have hv := ods_vl ht hl
  rw [hr] at hv
  obtain ⟨u, us, hus, h1, h2⟩ := hv.uncons
  have h3 := mx_sound (P := P) (w := E.w) h2 hm
  have h4 := h1.sc_inv.1
  subst h4
  have ha : (args.map a.eval).toList = .int k n :: us := by rw [Array.toList_map]; exact hus
  refine Comes1.same R (v' := .int k m) ?_ (.data (.sc rfl .nil) .nil)
  cases big with
  | true =>
    simp only [if_true] at ho h3
    simp only [execOp, ho, resolve, invoke, builtin, Builtin.max_, ha, Sem.run_bind, Sem.run_pure, Result.andThen_ok, h3]
  | false =>
    simp only [Bool.false_eq_true, if_false] at ho h3
    simp only [execOp, ho, resolve, invoke, builtin, Builtin.min_, ha, Sem.run_bind, Sem.run_pure, Result.andThen_ok, h3]
theorem data_dl {x : AV} {v : Value} (hx : VL E [x] [v]) (hd : x.data = true) : DL E.P E.w E.own [x] [v] := by
  suffices H : ∀ (x : AV), (∀ v, VL E [x] [v] → x.data = true → DL E.P E.w E.own [x] [v]) from H x v hx hd
  intro x
  refine AV.rec (motive_1 := fun x => ∀ v, VL E [x] [v] → x.data = true → DL E.P E.w E.own [x] [v]) (motive_2 := fun l => ∀ vs, VL E l vs → AV.data.go l = true → DL E.P E.w E.own l vs) ?_ ?_ ?_ ?_ ?_ ?_ ?_ ?_ ?_ ?_ ?_ ?_ ?_ x
  · intro v u hu _
    obtain ⟨rfl, hp⟩ := hu.sc_inv
    exact .sc hp .nil
  · intro cs ih u hu hd
    obtain ⟨vs, rfl, h2⟩ := hu.agg_inv
    exact .agg (ih vs h2 (by simpa [AV.data] using hd)) .nil
  · intro cs _ u _ hd; simp [AV.data] at hd
  · intro e f xs _ u hu _; exact hu.lit_inv
  · intro k g u _ hd; simp [AV.data] at hd
  · intro k g lo hi u _ hd; simp [AV.data] at hd
  · intro k g u _ hd; simp [AV.data] at hd
  · intro k g i o u _ hd; simp [AV.data] at hd
  · intro e xs i o _ u _ hd; simp [AV.data] at hd
  · intro f cs _ u _ hd; simp [AV.data] at hd
  · intro u _ hd; simp [AV.data] at hd
  · intro vs h _; cases h; exact .nil
  · intro x l ihx ihl vs h hd
    obtain ⟨u, us, rfl, h1, h2⟩ := h.uncons
    unfold AV.data.go at hd
    split at hd
    · rename_i hx; exact DL.append (ihx u h1 hx) (ihl us h2 hd)
    · cases hd
theorem data_cells {x : AV} {v : Value} (hx : DL E.P E.w E.own [x] [v]) : DL E.P E.w E.own x.cells v.cells.toList := by
  cases hx with
  | sc h t => have : v.cells = #[v] := by cases v <;> simp_all [plainSc, Value.cells]
              simpa [AV.cells, this] using DL.sc h .nil
  | agg h t => simpa [AV.cells, Value.cells] using h
  | lit hc hm hf hs h h1 hr t => simpa [AV.cells, Value.cells] using DL.lit hc hm hf hs h h1 hr .nil
mutual
theorem norm_dl {P : Program} {w : World} {own : Nat → Prop} : ∀ (sh : Sh) (v : AV) {u : Value}, DL P w own [v] [u] → DL P w own [normV sh v] [u] := by
  intro sh v u h
  unfold normV
  split
  · obtain ⟨ad, cap, vals, rfl, hc, hm, _, hs, hd, h1, hr⟩ := h.lit_inv
    split
    · rename_i hee; subst hee
      exact .lit hc hm (by simp) hs hd h1 hr .nil
    · split
      · exact .lit hc hm (by simp) (fun x hx => by cases hx) hd h1 hr .nil
      · exact .lit hc hm (by simp) hs hd h1 hr .nil
  · rename_i shs cs
    cases h with
    | agg h1 t => exact .agg (normL_dl shs cs h1) t
  · exact h
theorem normL_dl {P : Program} {w : World} {own : Nat → Prop} : ∀ (shs : List Sh) (l : List AV) {us : List Value}, DL P w own l us → DL P w own (normL shs l) us := by
  intro shs l us h
  unfold normL
  split
  · rename_i sh shs v vs
    obtain ⟨a, b, rfl, h1, h2⟩ := DL.split [v] h
    have hl := h1.length
    match a, hl with
    | [u], _ => exact (norm_dl sh v h1).append (normL_dl shs vs h2)
  · exact h
end
theorem normL_len : ∀ (shs : List Sh) (l : List AV), (normL shs l).length = l.length := by
  intro shs
  induction shs with
  | nil => intro l; simp [normL]
  | cons sh shs ih =>
    intro l
    cases l with
    | nil => simp [normL]
    | cons v vs => simp [normL, ih]
theorem norm_len (sh : Sh) (v : AV) : (normV sh v).cells.length = v.cells.length := by
  unfold normV
  split
  · split
    · rfl
    · split <;> rfl
  · simp [AV.cells, normL_len]
  · rfl
theorem fillFull {size : Nat} {sh : Sh} (ht : VL E t a.tmps.toList) (ps : List (Nat × Operand)) : ∀ {n : Nat} {l : List Od} {xs : List AV} {cells : Array Value} {pre : List Value}, cmpFull n ps = some l → bslAll t sh size l = some xs → cells.size = (n + ps.length) * size → cells.toList.take (n * size) = pre →
    ∃ us vals, Instr.fill (fun i => some (i * size, size)) cells (ps.map fun (i, x) => (i, a.eval x)) = some us ∧ us.toList = pre ++ vals ∧ DL E.P E.w E.own (flat xs) vals ∧ (∀ u, u ∈ vals → u.oneCell' = true) ∧ xs.length = ps.length ∧ ∀ x, x ∈ xs → x.cells.length = size := by
  induction ps with
  | nil =>
    intro n l xs cells pre hl hx hsz hpre
    simp only [cmpFull] at hl; cases hl
    simp only [bslAll] at hx; cases hx
    refine ⟨cells, [], rfl, ?_, .nil, (fun u hu => by cases hu), rfl, (fun x hx => by cases hx)⟩
    rw [List.append_nil, ← hpre, List.take_of_length_le]
    simp at hsz ⊢; omega
  | cons p ps ih =>
    intro n l xs cells pre hl hx hsz hpre
    obtain ⟨i, x⟩ := p
    simp only [cmpFull] at hl
    split at hl
    · rename_i hin
      subst hin
      split at hl
      · cases hl
        rename_i y l' hy hl'
        unfold bslAll at hx
        split at hx
        · rename_i hd
          split at hx
          · rename_i hc
            obtain ⟨hc1, hc2⟩ := hc
            split at hx
            · cases hx
              rename_i xs' hxs'
              have hv := od_vl ht hy
              have hdl := data_dl hv hd
              have hcl := data_cells hdl
              have hcn := data_cells (norm_dl sh _ hdl)
              have hlen : (a.eval x).cells.toList.length = size := by rw [hcl.length, hc1]
              simp only [List.length_cons] at hsz
              have hle : i * size + size ≤ cells.size := by
                rw [hsz, ← Nat.succ_mul]; exact Nat.mul_le_mul_right _ (by omega)
              obtain ⟨cells', e1, e2, e3⟩ := fill_one (fun i => some (i * size, size)) cells i (i * size) size (a.eval x) (ps.map fun (i, x) => (i, a.eval x)) rfl (by rw [← Array.length_toList]; exact hlen) hle
              have hpl : pre.length = i * size := by rw [← hpre, List.length_take]; simp; omega
              obtain ⟨us, vals, h1, h2, h3, h4, h5, h6⟩ := ih (n := i + 1) (cells := cells') (pre := pre ++ (a.eval x).cells.toList) hl' hxs' (by rw [e1, hsz]; congr 1; omega) (by
                rw [e2, hpre, List.take_append, List.take_of_length_le (by rw [List.length_append, hpl, hlen, Nat.add_mul, Nat.one_mul]; exact Nat.le_refl _)]
                rw [List.length_append, hpl, hlen, Nat.add_mul, Nat.one_mul, Nat.sub_self]; simp)
              refine ⟨us, (a.eval x).cells.toList ++ vals, by rw [List.map_cons, e3]; exact h1, by rw [h2, List.append_assoc], ?_, ?_, by simp [h5], ?_⟩
              · simp only [flat, List.flatMap_cons]; exact hcn.append h3
              · intro u hu
                rcases List.mem_append.1 hu with hu | hu
                · exact (hcl.vl).one_cells (fun c hc => by simpa using List.all_eq_true.1 hc2 c hc) u hu
                · exact h4 u hu
              · intro z hz
                rcases List.mem_cons.1 hz with rfl | hz
                · rw [norm_len]; exact hc1
                · exact h6 z hz
            · cases hx
          · cases hx
        · cases hx
      · cases hl
    · cases hl
theorem op_bsl (R : Rel base h E) (hP : E.P = P) (ht : VL E t a.tmps.toList) {o : Oper} {ty e : TypeId} {len : Nat} {ps : Array (Nat × Operand)} (ho : o.op = .buildSlice ty len ps) (hs : P.underlying ty = some (.slice e)) {z : AV} (hz : zeroOf P e = some z) (h0 : 0 < P.cellsOf e) (hm : len * P.cellsOf e ≤ 2 ^ 24)
    {l : List Od} {sh : Sh} (hl : cmpFull 0 ps.toList = some l) (hlen : l.length = len) {xs : List AV} (hx : bslAll t sh (P.cellsOf e) l = some xs) : Comes1 P base o a h E (.lit e true xs) h := by
  obtain ⟨i, zv, hi, hzv, hzs, _, _⟩ := zeroOf_some (E := E) hz
  subst hP
  have hpl : ps.toList.length = len := by
    have : ∀ (ps : List (Nat × Operand)) n l, cmpFull n ps = some l → l.length = ps.length := fun ps => by
      induction ps with
      | nil => intro n l h; simp only [cmpFull] at h; cases h; rfl
      | cons p ps ih =>
        intro n l h
        obtain ⟨i, x⟩ := p
        simp only [cmpFull] at h
        split at h
        · split at h
          · cases h; rename_i h2; simp [ih _ _ h2]
          · cases h
        · cases h
    rw [← this _ _ _ hl, hlen]
  obtain ⟨us, vals, h1, h2, h3, h4, h5, h6⟩ := fillFull ht ps.toList (cells := madeCells zv.cells (len * E.P.cellsOf e)) (pre := []) hl hx (by rw [size_madeCells, hpl]; simp) (by simp)
  have hisz : (sizeOf e).run E.P E.w = .ok (E.P.cellsOf e) E.w := run_sizeOf (by rw [hi]; rfl)
  have hz0 : (zeroValue e).run E.P E.w = .ok zv E.w := by simp [zeroValue, typeInfo, hi, hzv]
  have hxl : xs.length = len := by rw [h5, hpl]
  have hfill : Instr.fill (fun i => some (i * E.P.cellsOf e, E.P.cellsOf e)) ((Array.range (len * E.P.cellsOf e)).map (zv.cells[· % zv.cells.size]!)) (ps.map fun (i, x) => (i, a.eval x)).toList = some us := by
    rw [Array.toList_map]; exact h1
  obtain ⟨R', S'⟩ := alloc_free R (.cells us e)
  have run : (execOp a.eval o).run E.P E.w = .ok (.value (.slice (some ⟨E.w.heap.size, 0, none⟩) len len)) (E.w.alloc (.cells us e)) := by
    by_cases hn : len * E.P.cellsOf e = 0
    · have hl0 : len = 0 := by rcases Nat.mul_eq_zero.1 hn with h | h; exact h; omega
      subst hl0
      have hps : ps.toList = [] := List.eq_nil_of_length_eq_zero hpl
      have hpe : ps = #[] := Array.ext' hps
      subst hpe
      have : us = #[] := by
        have : Instr.fill (fun i => some (i * E.P.cellsOf e, E.P.cellsOf e)) (madeCells zv.cells (0 * E.P.cellsOf e)) [] = some us := h1
        simp only [Instr.fill, Nat.zero_mul] at this
        injection this with this
        rw [← this]; apply Array.eq_empty_of_size_eq_zero; rw [size_madeCells]
      subst this
      simp [execOp, ho, Instr.buildSlice, run_underlying hs, hisz, Instr.fill, newRow]
      congr 2
      apply Array.eq_empty_of_size_eq_zero
      simp
    · have hgt : ¬ len * E.P.cellsOf e > 2 ^ 24 := by omega
      simp only [execOp, ho, Instr.buildSlice, Sem.run_bind, run_underlying hs, hisz, Result.andThen_ok, hgt, if_false, hn, hz0, Sem.run_pure]
      rw [hfill]
      simp [newRow]
  refine ⟨_, _, .inl run, R', S', .data ?_ .nil⟩
  have hd := h3.step (E := E) (E' := { E with w := E.w.alloc (.cells us e) }) S'.ext
  have := DL.lit (P := E.P) (w := E.w.alloc (.cells us e)) (own := E.own) (e := e) (full := true) (xs := xs) (a := some ⟨E.w.heap.size, 0, none⟩) (cap := len) (vals := vals) (r := []) (rs := []) (by omega) (by
    have : len ≤ len * E.P.cellsOf e := Nat.le_mul_of_pos_right _ h0
    simp only [maxLen]; omega) (fun _ => hxl.symm) h6 hd h4 (fun j u hu => ⟨E.w.heap.size, 0, rfl, fun ho => by have := R.lt _ ho; omega, by
      rw [Nat.zero_add]
      have hus : us[j]? = some u := by rw [← Array.getElem?_toList, h2]; simpa using hu
      simpa using hus⟩) .nil
  rw [hxl] at this
  exact this
end
end Go.Ab
namespace Go.Ab
open Go
set_option linter.unusedSimpArgs false
set_option linter.unusedVariables false
section
variable {P : Program} {base : Base} {h : Store} {E : Env} {t : List AV} {a : Act}
theorem blk_lt (R : Rel base h E) {k b : Nat} (hb : blkOf E h k = some b) : b < E.w.heap.size := R.lt b (R.own k b hb)
theorem blkOf_lt {k b : Nat} (hb : blkOf E h k = some b) : k < h.length := by
  obtain ⟨e, he, _⟩ := blkOf_some hb
  exact (List.getElem?_eq_some_iff.1 he).1
theorem ext_write (R : Rel base h E) {k g : Nat} (hb : blkOf E h k = some g) (cs' : Array Value) : Ext E { E with w := E.w.setRow g cs' } :=
  ⟨rfl, Nat.le_refl _, fun _ _ => Nat.le_refl _, fun _ _ _ _ h => ⟨h, rfl, rfl⟩, fun _ _ => rfl, fun a v ho hc => ⟨ho, by
    have hne : a.block ≠ g := fun e => ho (by rw [e]; exact R.own k g hb)
    rw [← hc]; exact World.cell?_of_block (setRow_other E.w g a.block cs' hne)⟩⟩
theorem rel_write (R : Rel base h E) {k g : Nat} (hb : blkOf E h k = some g) (cs' : Array Value) (e' : Ent) (hbk : entBlk E k e' = some g) (ok : EntOk base { E with w := E.w.setRow g cs' } k e') :
    Rel base (h.set k e') { E with w := E.w.setRow g cs' } ∧ Step h E (h.set k e') { E with w := E.w.setRow g cs' } := by
  have hk := blkOf_lt hb
  have hbo : ∀ j, j ≠ k → blkOf { E with w := E.w.setRow g cs' } (h.set k e') j = blkOf E h j := fun j hj => by
    unfold blkOf; rw [List.getElem?_set_ne (Ne.symm hj)]
    cases h[j]? with
    | none => rfl
    | some e => exact entBlk_same rfl rfl e
  have hbk' : blkOf { E with w := E.w.setRow g cs' } (h.set k e') k = some g := by
    rw [blkOf_of (List.getElem?_set_self hk)]; exact (entBlk_same rfl rfl e').trans hbk
  have S : Step h E (h.set k e') { E with w := E.w.setRow g cs' } := ⟨ext_write R hb cs', rfl, rfl, rfl, by simp, fun b _ hn => setRow_other E.w g b cs' (fun e => hn k (by rw [e]; exact hb)), fun _ h => .inl h, fun _ h _ => h, fun j b hj => .inl (by
    by_cases e : j = k
    · subst e; rw [hbk'] at hj; cases hj; exact ⟨j, hb⟩
    · rw [hbo j e] at hj; exact ⟨j, hj⟩)⟩
  refine ⟨Rel.upd k e' R S (by simp; exact R.n) (by simp) (List.getElem?_set_self hk) (fun j hj => List.getElem?_set_ne (Ne.symm hj)) (fun _ _ => ⟨rfl, rfl, rfl, rfl, rfl⟩) (fun j hj b hjb => ⟨setRow_other E.w g b cs' (fun e => hj (R.inj j k g (by rw [← e]; exact hjb) hb)), R.own j b hjb⟩) ok
    (fun b hkb => ?_) (fun b hb => by simp; exact R.lt b hb), S⟩
  rw [hbk'] at hkb; cases hkb
  exact ⟨R.own k g hb, fun j hj hjb => hj (R.inj j k g hjb hb)⟩
theorem new_box (R : Rel base h E) {cs : List AV} {vals : List Value} (hv : VL E cs vals) (h1 : ∀ c, c ∈ cs → c.one = true) (ty : TypeId) :
    ∃ E', E'.w = E.w.alloc (.cells vals.toArray ty) ∧ Rel base (h ++ [.box ty cs]) E' ∧ Step h E (h ++ [.box ty cs]) E' ∧ VL E' [.bptr h.length 0] [.pointer (some ⟨E.w.heap.size, 0, none⟩)] := by
  let E' : Env := { E with w := E.w.alloc (.cells vals.toArray ty), n := E.n + 1, top := fun k => if k = h.length then 0 else E.top k, box := fun k => if k = h.length then E.w.heap.size else E.box k, own := fun b => E.own b ∨ b = E.w.heap.size }
  have hx : Ext E E' := ⟨rfl, Nat.le_succ _, fun k hk => by
      show E.top k ≤ if k = h.length then 0 else E.top k
      rw [if_neg (by rw [R.n] at hk; omega)]; exact Nat.le_refl _, fun _ _ _ _ h => ⟨h, rfl, rfl⟩, fun k hk => by
      show (if k = h.length then _ else _) = _
      rw [if_neg (by rw [R.n] at hk; omega)], fun a v ho hc => by
      have hlt := block_lt_of_cell hc
      exact ⟨fun h => by rcases h with h | h; exact ho h; omega, by rw [← hc]; exact World.cell?_of_block (heap_alloc_old E.w _ _ hlt)⟩⟩
  have hbo : ∀ j, j ≠ h.length → blkOf E' (h ++ [.box ty cs]) j = blkOf E h j := fun j hj => by
    unfold blkOf
    by_cases hlt : j < h.length
    · rw [List.getElem?_append_left hlt]
      cases h[j]? with
      | none => rfl
      | some e => exact entBlk_same (E := E) (E' := E') (k := j) rfl (if_neg hj) e
    · rw [List.getElem?_eq_none (by simp; omega), List.getElem?_eq_none (by omega)]; rfl
  have hnew : blkOf E' (h ++ [.box ty cs]) h.length = some E.w.heap.size := by
    rw [blkOf_of (e := .box ty cs) (by simp)]
    show some (if h.length = h.length then _ else _) = _
    rw [if_pos rfl]
  have S : Step h E (h ++ [.box ty cs]) E' := ⟨hx, rfl, rfl, rfl, by simp [E'], fun b hb _ => heap_alloc_old E.w _ b hb, fun b hb => by
      rcases hb with hb | hb
      · exact .inl hb
      · exact .inr (by omega), fun b hb _ => .inl hb, fun j b hj => by
      by_cases e : j = h.length
      · subst e; rw [hnew] at hj; cases hj; exact .inr (Nat.le_refl _)
      · rw [hbo j e] at hj; exact .inl ⟨j, hj⟩⟩
  refine ⟨E', rfl, Rel.upd h.length (.box ty cs) R S (by simp [E', R.n]) (by simp) (by simp) (fun j hj => ?_) (fun j hj => ⟨rfl, if_neg hj, rfl, rfl, ?_⟩) (fun j hj b hjb => ⟨heap_alloc_old E.w _ b (blk_lt R hjb), .inl (R.own j b hjb)⟩) ?_ (fun b hb => ?_) (fun b hb => ?_), S, ?_⟩
  · by_cases hlt : j < h.length
    · exact List.getElem?_append_left hlt
    · rw [List.getElem?_eq_none (by simp; omega), List.getElem?_eq_none (by omega)]
  · show (if j = h.length then _ else _) = _
    rw [if_neg hj]
  · have hb0 : E'.box h.length = E.w.heap.size := if_pos rfl
    refine ⟨R.nogen _ (Nat.le_refl _), if_pos rfl, by rw [hb0]; exact R.le, h1, vals, ?_, hv.ext hx⟩
    rw [hb0]; exact heap_alloc_new E.w _
  · rw [hnew] at hb; cases hb
    exact ⟨.inr rfl, fun j hj hjb => by have := blk_lt R hjb; omega⟩
  · rcases hb with hb | hb
    · have := R.lt b hb; simp [E']; omega
    · simp [E', hb]
  · have : (⟨E.w.heap.size, 0, none⟩ : Addr) = ⟨E'.box h.length, 0, none⟩ := by
      have hb0 : E'.box h.length = E.w.heap.size := if_pos rfl
      rw [hb0]
    rw [this]
    exact .bptr (by show h.length < E.n + 1; rw [R.n]; omega) .nil
theorem op_box (R : Rel base h E) (ht : VL E t a.tmps.toList) {o : Oper} {ty : TypeId} {x : Operand} (ho : o.op = .box ty x) {x' : Od} (hx : cmpOd x = some x') (h1 : (od t x').cells.all AV.one = true) : Comes1 P base o a h E (.bptr h.length 0) (h ++ [.box ty (od t x').cells]) := by
  have hv := cells_vl (od_vl ht hx) h1
  obtain ⟨E', hw, R', S, V⟩ := new_box R hv (fun c hc => by simpa using List.all_eq_true.1 h1 c hc) ty
  refine ⟨_, E', .inl ?_, R', S, V⟩
  rw [hw]
  simp [execOp, ho, Instr.box, newVar, newRow]
theorem op_alloc (R : Rel base h E) {o : Oper} {ty : TypeId} (ho : o.op = .alloc ty) {z : AV} (hz : zeroOf P ty = some z) (h1 : z.cells.all AV.one = true) : Comes1 P base o a h E (.bptr h.length 0) (h ++ [.box ty z.cells]) := by
  obtain ⟨i, zv, hi, hzv, _, hvl, _⟩ := zeroOf_some (E := E) hz
  obtain ⟨E', hw, R', S, V⟩ := new_box R hvl (fun c hc => by simpa using List.all_eq_true.1 h1 c hc) ty
  refine ⟨_, E', .inl ?_, R', S, V⟩
  rw [hw]
  simp [execOp, ho, Instr.alloc, zeroValue, typeInfo, hi, hzv, newVar, newRow]
theorem run_storeVar {w : World} {ty : TypeId} (hi : (P.info? ty).isSome = true) {b o : Nat} {T : TypeId} {cur : Array Value} (hg : w.heap[b]? = some (.cells cur T (0, 0))) {v : Value} (hs : v.cells.size = P.cellsOf ty) (hle : o + v.cells.size ≤ cur.size) (h1 : ∀ u, u ∈ v.cells.toList → u.oneCell' = true) :
    (storeVar ty ⟨b, o, none⟩ v).run P w = .ok () (w.setRow b (cur.toList.take o ++ v.cells.toList ++ cur.toList.drop (o + v.cells.toList.length)).toArray) := by
  have := run_storeCells_at (P := P) b o T v.cells.toList 0 cur w hg (by simpa using hle) h1
  simp only [Nat.add_zero] at this
  simp only [storeVar, Sem.run_bind, run_sizeOf hi, Result.andThen_ok, hs, ne_eq, not_true_eq_false, if_false, this]
theorem op_storeB (R : Rel base h E) (ht : VL E t a.tmps.toList) {o : Oper} {ty : TypeId} {p x : Operand} (ho : o.op = .store ty p x) (hi : (P.info? ty).isSome = true) {p' x' : Od} (hp : cmpOd p = some p') (hx : cmpOd x = some x')
    (hn : (od t x').cells.length = P.cellsOf ty) (h1 : (od t x').cells.all AV.one = true) {b off : Nat} (hb : od t p' = .bptr b off) {T : TypeId} {cs : List AV} (hcs : h[b]? = some (.box T cs)) (hle : off + P.cellsOf ty ≤ cs.length) :
    Comes1 P base o a h E .bad (h.set b (.box T (splice cs off (od t x').cells))) := by
  have hpv := od_vl ht hp
  rw [hb] at hpv
  obtain ⟨hbn, hpe⟩ := hpv.bptr_inv
  have hcv := cells_vl (od_vl ht hx) h1
  have ho1 := hcv.one_cells (fun c hc => by simpa using List.all_eq_true.1 h1 c hc)
  obtain ⟨hg, htop, hbase, hone, vals, hh, hvl⟩ := R.ent b _ hcs
  have hsz : (a.eval x).cells.size = P.cellsOf ty := by rw [← hn, ← hcv.length]; simp
  have hbl : blkOf E h b = some (E.box b) := blkOf_of hcs
  have hlv := hvl.length
  have run := run_storeVar (P := P) (w := E.w) (ty := ty) hi (b := E.box b) (o := off) hh (v := a.eval x) hsz (by simp; omega) ho1
  obtain ⟨R', S'⟩ := rel_write R hbl (vals.toArray.toList.take off ++ (a.eval x).cells.toList ++ vals.toArray.toList.drop (off + (a.eval x).cells.toList.length)).toArray (.box T (splice cs off (od t x').cells)) rfl (by
    refine ⟨hg, htop, hbase, fun c hc => ?_, _, setRow_heap E.w (E.box b) _ _ T (0, 0) hh, ?_⟩
    · simp only [splice, List.mem_append] at hc
      rcases hc with (hc | hc) | hc
      · exact hone c (List.mem_of_mem_take hc)
      · simpa using List.all_eq_true.1 h1 c hc
      · exact hone c (List.mem_of_mem_drop hc)
    · exact (splice_vl hvl hcv off).ext (ext_write R hbl _))
  refine ⟨undef, _, .inr ⟨?_, rfl⟩, R', S', .bad .nil⟩
  simp only [execOp, ho, hpe, Instr.storeAt, Instr.sureAddr, Sem.run_bind, Sem.run_pure, Result.andThen_ok, run]
end
end Go.Ab
namespace Go.Ab
open Go
set_option linter.unusedSimpArgs false
set_option linter.unusedVariables false
section
variable {P : Program} {w : World}
theorem run_append_zero {ty rt e : TypeId} (ht : P.underlying ty = some (.slice e)) (hi : (P.info? e).isSome = true) (bd ad : Option Addr) (n cap c : Nat) (hc : n ≤ cap) :
    (Builtin.append_ #[ty, ty] rt #[.slice bd n cap, .slice ad 0 c]).run P w = .ok (.slice bd n cap) w := by
  have h1 := run_sizeOf (P := P) (w := w) hi
  have hf : ∀ size, (Builtin.firstCells size 0 (.slice ad 0 c)).run P w = .ok #[] w := fun size => by
    cases ad with
    | none => simp [Builtin.firstCells]
    | some b => simp [Builtin.firstCells, loadCells, loadCellsFrom]
  cases bd with
  | none => simp [Builtin.append_, run_underlying ht, h1, Builtin.lenOf, hc, hf]
  | some b => simp [Builtin.append_, run_underlying ht, h1, Builtin.lenOf, hc, hf, storeCells]
theorem run_append_grows {ty rt e : TypeId} (ht : P.underlying ty = some (.slice e)) {z : AV} (hz : zeroOf P e = some z) (hsz : 0 < P.cellsOf e) {bd ad : Option Addr} {n cap m c : Nat} (hnone : bd = none → cap = 0 ∧ n = 0) {olds news : List Value} (hol : olds.length = n * P.cellsOf e) (hnl : news.length = m * P.cellsOf e)
    (ho : ∀ j u, olds[j]? = some u → ∃ b o, bd = some ⟨b, o, none⟩ ∧ w.cell? ⟨b, o + j, none⟩ = some u) (hn : ∀ j u, news[j]? = some u → ∃ b o, ad = some ⟨b, o, none⟩ ∧ w.cell? ⟨b, o + j, none⟩ = some u) (hm : 0 < m) (hg : cap < n + m)
    (hb : (n + m) * P.bytesOf e ≤ 140737488355328) (hl : n + m ≤ maxLen) :
    ∃ C cap', (Builtin.append_ #[ty, ty] rt #[.slice bd n cap, .slice ad m c]).run P w = .ok (.slice (some ⟨w.heap.size, 0, none⟩) (n + m) cap') (w.drew.alloc (.cells C e)) ∧ n + m ≤ cap' ∧ cap' ≤ maxLen ∧ C.size = cap' * P.cellsOf e ∧ C.toList.take ((n + m) * P.cellsOf e) = olds ++ news := by
  obtain ⟨i, zv, hi, hzv, hzs, _, _⟩ := zeroOf_some (E := (⟨P, w, 0, fun _ => none, fun _ => 0, fun _ => 0, fun _ => undef, fun _ => 0, fun _ => False⟩ : Env)) hz
  have his : P.cellsOf e = i.size := by simp [Program.cellsOf, hi]
  have hib : P.bytesOf e = i.bytes := by simp [Program.bytesOf, hi]
  rw [his] at hsz hol hnl hzs ⊢
  rw [hib] at hb
  have hm63 : ((n + m : Nat) : Int) ≤ 9223372036854775807 := by simp only [maxLen] at hl; omega
  have hfit : Builtin.nextslicecap (n + m) cap * i.bytes ≤ 281474976710656 := growslice_fits hg hb
  have hne : ∃ u, news[0]? = some u := ⟨news[0]'(by rw [hnl]; exact Nat.mul_pos hm hsz), List.getElem?_eq_getElem _⟩
  obtain ⟨u, hu⟩ := hne
  obtain ⟨b, o, rfl, _⟩ := hn 0 u hu
  have hnews : ∀ j v, news[j]? = some v → w.cell? ((⟨b, o, none⟩ : Addr).add j) = some v := fun j v hj => by
    obtain ⟨b', o', hab, hc⟩ := hn j v hj
    injection hab with hab
    injection hab with e1 e2 _
    subst e1 e2
    rw [add_none]; exact hc
  have hge := grownCap_ge w (n + m) cap e
  have hle := grownCap_le_maxLen w (n + m) cap e hl
  cases bd with
  | none =>
    obtain ⟨rfl, rfl⟩ := hnone rfl
    have hol0 : olds = [] := List.eq_nil_of_length_eq_zero (by simpa using hol)
    subst hol0
    simp only [Nat.zero_add] at hm63 hfit hge hle hb hl ⊢
    have hr := run_append_nil (P := P) w ty rt e i zv ht hi hzv ⟨b, o, none⟩ m c news hnl hnews hm hm63 (by omega)
    refine ⟨_, _, hr, hge, hle, ?_, ?_⟩
    · simp only [Array.size_append, List.size_toArray, size_zeroCells, hzs, hnl, ← Nat.add_mul]
      congr 1; omega
    · simp only [Array.toList_append, List.nil_append]
      rw [← hnl]; exact List.take_left
  | some bA =>
    have holds : ∀ j v, olds[j]? = some v → w.cell? (bA.add j) = some v := fun j v hj => by
      obtain ⟨b', o', hab, hc⟩ := ho j v hj
      injection hab with hab
      subst hab
      rw [add_none]; exact hc
    have hr := run_append_grow (P := P) w ty rt e i zv ht hi hzv bA n cap olds hol holds ⟨b, o, none⟩ m c news hnl hnews hg hm63 hfit
    refine ⟨_, _, hr, hge, hle, ?_, ?_⟩
    · simp only [Array.size_append, List.size_toArray, size_zeroCells, hzs, hnl, hol, ← Nat.add_mul]
      congr 1; omega
    · simp only [Array.toList_append]
      have hlen : (olds ++ news).length = (n + m) * i.size := by rw [List.length_append, hol, hnl, Nat.add_mul]
      rw [← hlen]; exact List.take_left
end
section
variable {P : Program} {base : Base} {h : Store} {E : Env} {t : List AV} {a : Act}
theorem room_std {bytes : Nat} {xs ys : List AV} (h : Ops.std.room bytes xs ys = true) : (xs.length + ys.length) * bytes ≤ 140737488355328 ∧ xs.length + ys.length ≤ maxLen := by
  simpa [Ops.std] using h
theorem drew_free (R : Rel base h E) : Rel base h { E with w := E.w.drew } ∧ Step h E h { E with w := E.w.drew } := by
  have hx : Ext E { E with w := E.w.drew } := ⟨rfl, Nat.le_refl _, fun _ _ => Nat.le_refl _, fun _ _ _ _ h => ⟨h, rfl, rfl⟩, fun _ _ => rfl, fun a v ho hc => ⟨ho, hc⟩⟩
  refine ⟨⟨R.n, ⟨R.lo.le, R.lo.low⟩, fun k e he => (R.ent k e he).step hx ⟨rfl, rfl, rfl, rfl, rfl⟩ (fun b hb => rfl), R.nogen, R.own, R.inj, R.lt⟩, ⟨hx, rfl, rfl, rfl, Nat.le_refl _, fun _ _ _ => rfl, fun _ h => .inl h, fun _ h _ => h, fun k _ h => .inl ⟨k, h⟩⟩⟩
theorem row_new (R : Rel base h E) {k g : Nat} {e : TypeId} {xs : List AV} (hk : h[k]? = some (.row e g false xs)) {w' : World} {v' : Value} {xs' : List AV} {vals' : List Value} (hos : w'.os = E.w.os) (htape : w'.tape = E.w.tape) (hout : w'.output = E.w.output) (hsz : E.w.heap.size ≤ w'.heap.size)
    (hheap : ∀ b, b < E.w.heap.size → rowBlk (E.row k) ≠ some b → w'.heap[b]? = E.w.heap[b]?) (hblk : ∀ b, rowBlk v' = some b → (rowBlk (E.row k) = some b ∨ E.w.heap.size ≤ b) ∧ b < w'.heap.size)
    (hrow : RowAt base w' e (E.P.cellsOf e) v' xs'.length vals') (h1 : v'.oneCell' = true) (hs : ∀ x, x ∈ xs' → x.cells.length = E.P.cellsOf e) (hone : ∀ u, u ∈ vals' → u.oneCell' = true) (hdl : DL E.P E.w E.own (flat xs') vals') :
    ∃ E', E'.w = w' ∧ Rel base (h.set k (.row e (g + 1) false xs')) E' ∧ Step h E (h.set k (.row e (g + 1) false xs')) E' ∧ VL E' [.sl k (g + 1)] [v'] := by
  have hkl : k < h.length := (List.getElem?_eq_some_iff.1 hk).1
  obtain ⟨hgen, htop, hesz, _⟩ := R.ent k _ hk
  let E' : Env := { E with w := w', gen := fun j => if j = k then some (g + 1) else E.gen j, top := fun j => if j = k then g + 1 else E.top j, row := fun j => if j = k then v' else E.row j, own := fun b => (E.own b ∧ rowBlk (E.row k) ≠ some b) ∨ rowBlk v' = some b }
  have hbk : blkOf E h k = rowBlk (E.row k) := blkOf_of hk
  have hheap' : ∀ b, b < E.w.heap.size → (∀ j, blkOf E h j ≠ some b) → w'.heap[b]? = E.w.heap[b]? := fun b hb hn => hheap b hb (by rw [← hbk]; exact hn k)
  have hfresh : ∀ b, E'.own b → E.own b ∨ E.w.heap.size ≤ b := fun b hb => by
    rcases hb with ⟨h, _⟩ | h
    · exact .inl h
    · rcases (hblk b h).1 with h | h
      · exact .inl (R.own k b (by rw [hbk]; exact h))
      · exact .inr h
  have hx : Ext E E' := ⟨rfl, Nat.le_refl _, fun j hj => by
      show E.top j ≤ if j = k then g + 1 else E.top j
      split
      · rename_i e; subst e; rw [htop]; omega
      · exact Nat.le_refl _, fun j g' hj hg' hc => by
      have hc' : (if j = k then some (g + 1) else E.gen j) = some g' := hc
      show E.gen j = some g' ∧ (if j = k then v' else E.row j) = E.row j ∧ E.esz j = E.esz j
      by_cases e : j = k
      · subst e
        rw [if_pos rfl] at hc'
        cases hc'
        rw [htop] at hg'; omega
      · rw [if_neg e] at hc'
        exact ⟨hc', if_neg e, rfl⟩, fun _ _ => rfl, keep_of R hheap' hfresh⟩
  have hrk : E'.row k = v' := if_pos rfl
  have hro : ∀ j, j ≠ k → E'.row j = E.row j := fun j hj => if_neg hj
  have hbo : ∀ j, j ≠ k → blkOf E' (h.set k (.row e (g + 1) false xs')) j = blkOf E h j := fun j hj => by
    unfold blkOf; rw [List.getElem?_set_ne (Ne.symm hj)]
    cases h[j]? with
    | none => rfl
    | some e' => exact entBlk_same (E := E) (E' := E') (k := j) (hro j hj) rfl e'
  have hbk' : blkOf E' (h.set k (.row e (g + 1) false xs')) k = rowBlk v' := by
    rw [blkOf_of (List.getElem?_set_self hkl)]
    show rowBlk (E'.row k) = _
    rw [hrk]
  have S : Step h E (h.set k (.row e (g + 1) false xs')) E' := ⟨hx, hos, htape, hout, hsz, hheap', hfresh, fun b hb hn => .inl ⟨hb, by rw [← hbk]; exact hn k⟩, fun j b hj => by
      by_cases ej : j = k
      · subst ej; rw [hbk'] at hj
        rcases (hblk b hj).1 with h | h
        · exact .inl ⟨j, by rw [hbk]; exact h⟩
        · exact .inr h
      · rw [hbo j ej] at hj; exact .inl ⟨j, hj⟩⟩
  refine ⟨E', rfl, Rel.upd k (.row e (g + 1) false xs') R S (by simp; exact R.n) (by simp) (List.getElem?_set_self hkl) (fun j hj => List.getElem?_set_ne (Ne.symm hj)) (fun j hj => ⟨if_neg hj, if_neg hj, rfl, hro j hj, rfl⟩) (fun j hj b hjb => ?_) ?_ (fun b hb => ?_) (fun b hb => ?_), S, ?_⟩
  · have hne : rowBlk (E.row k) ≠ some b := fun hc => hj (R.inj j k b hjb (by rw [hbk]; exact hc))
    exact ⟨hheap b (blk_lt R hjb) hne, .inl ⟨R.own j b hjb, hne⟩⟩
  · exact ⟨if_pos rfl, if_pos rfl, hesz, hs, vals', by rw [hrk]; exact hrow, hdl.step hx, hone⟩
  · rw [hbk'] at hb
    refine ⟨.inr hb, fun j hj hjb => ?_⟩
    rcases (hblk b hb).1 with h | h
    · exact hj (R.inj j k b hjb (by rw [hbk]; exact h))
    · have := blk_lt R hjb; omega
  · rcases hb with ⟨hb, _⟩ | hb
    · exact Nat.lt_of_lt_of_le (R.lt b hb) hsz
    · exact (hblk b hb).2
  · refine .sl (by show k < E.n; rw [R.n]; exact hkl) ?_ h1 (fun _ => hrk.symm) .nil
    show g + 1 ≤ if k = k then g + 1 else E.top k
    rw [if_pos rfl]; exact Nat.le_refl _
theorem row_fresh (R : Rel base h E) {e : TypeId} {w' : World} {v' : Value} {xs' : List AV} {vals' : List Value} (hos : w'.os = E.w.os) (htape : w'.tape = E.w.tape) (hout : w'.output = E.w.output) (hsz : E.w.heap.size ≤ w'.heap.size)
    (hheap : ∀ b, b < E.w.heap.size → w'.heap[b]? = E.w.heap[b]?) (hblk : ∀ b, rowBlk v' = some b → E.w.heap.size ≤ b ∧ b < w'.heap.size)
    (hrow : RowAt base w' e (E.P.cellsOf e) v' xs'.length vals') (h1 : v'.oneCell' = true) (hs : ∀ x, x ∈ xs' → x.cells.length = E.P.cellsOf e) (hone : ∀ u, u ∈ vals' → u.oneCell' = true) (hdl : DL E.P E.w E.own (flat xs') vals') :
    ∃ E', E'.w = w' ∧ Rel base (h ++ [.row e 0 false xs']) E' ∧ Step h E (h ++ [.row e 0 false xs']) E' ∧ VL E' [.sl h.length 0] [v'] := by
  let E' : Env := { E with w := w', n := E.n + 1, gen := fun j => if j = h.length then some 0 else E.gen j, top := fun j => if j = h.length then 0 else E.top j, esz := fun j => if j = h.length then E.P.cellsOf e else E.esz j, row := fun j => if j = h.length then v' else E.row j, own := fun b => E.own b ∨ rowBlk v' = some b }
  have hheap' : ∀ b, b < E.w.heap.size → (∀ j, blkOf E h j ≠ some b) → w'.heap[b]? = E.w.heap[b]? := fun b hb _ => hheap b hb
  have hfresh : ∀ b, E'.own b → E.own b ∨ E.w.heap.size ≤ b := fun b hb => by
    rcases hb with h | h
    · exact .inl h
    · exact .inr (hblk b h).1
  have hx : Ext E E' := ⟨rfl, Nat.le_succ _, fun j hj => by
      show E.top j ≤ if j = h.length then 0 else E.top j
      rw [if_neg (by rw [R.n] at hj; omega)]; exact Nat.le_refl _, fun j g' hj hg' hc => by
      have hne : j ≠ h.length := by rw [R.n] at hj; omega
      have hc' : (if j = h.length then some 0 else E.gen j) = some g' := hc
      rw [if_neg hne] at hc'
      exact ⟨hc', if_neg hne, if_neg hne⟩, fun _ _ => rfl, keep_of R hheap' hfresh⟩
  have hrk : E'.row h.length = v' := if_pos rfl
  have hro : ∀ j, j ≠ h.length → E'.row j = E.row j := fun j hj => if_neg hj
  have hbo : ∀ j, j ≠ h.length → blkOf E' (h ++ [.row e 0 false xs']) j = blkOf E h j := fun j hj => by
    unfold blkOf
    by_cases hlt : j < h.length
    · rw [List.getElem?_append_left hlt]
      cases h[j]? with
      | none => rfl
      | some e' => exact entBlk_same (E := E) (E' := E') (k := j) (hro j hj) rfl e'
    · rw [List.getElem?_eq_none (by simp; omega), List.getElem?_eq_none (by omega)]; rfl
  have hnew : blkOf E' (h ++ [.row e 0 false xs']) h.length = rowBlk v' := by
    rw [blkOf_of (e := .row e 0 false xs') (by simp)]
    show rowBlk (E'.row h.length) = _
    rw [hrk]
  have S : Step h E (h ++ [.row e 0 false xs']) E' := ⟨hx, hos, htape, hout, hsz, hheap', hfresh, fun b hb _ => .inl hb, fun j b hj => by
      by_cases ej : j = h.length
      · subst ej; rw [hnew] at hj; exact .inr (hblk b hj).1
      · rw [hbo j ej] at hj; exact .inl ⟨j, hj⟩⟩
  refine ⟨E', rfl, Rel.upd h.length (.row e 0 false xs') R S (by simp [E', R.n]) (by simp) (by simp) (fun j hj => ?_) (fun j hj => ⟨if_neg hj, if_neg hj, if_neg hj, hro j hj, rfl⟩) (fun j hj b hjb => ⟨hheap b (blk_lt R hjb), .inl (R.own j b hjb)⟩) ?_ (fun b hb => ?_) (fun b hb => ?_), S, ?_⟩
  · by_cases hlt : j < h.length
    · exact List.getElem?_append_left hlt
    · rw [List.getElem?_eq_none (by simp; omega), List.getElem?_eq_none (by omega)]
  · exact ⟨if_pos rfl, if_pos rfl, if_pos rfl, hs, vals', by rw [hrk]; exact hrow, hdl.step hx, hone⟩
  · rw [hnew] at hb
    exact ⟨.inr hb, fun j hj hjb => by have := blk_lt R hjb; have := (hblk b hb).1; omega⟩
  · rcases hb with hb | hb
    · exact Nat.lt_of_lt_of_le (R.lt b hb) hsz
    · exact (hblk b hb).2
  · refine .sl (by show h.length < E.n + 1; rw [R.n]; omega) ?_ h1 (fun _ => hrk.symm) .nil
    show 0 ≤ _
    exact Nat.zero_le _
theorem flat_append (xs ys : List AV) : flat (xs ++ ys) = flat xs ++ flat ys := by simp [flat]
theorem alloc_row {base : Base} {w : World} {C : Array Value} {e : TypeId} {size n cap : Nat} {vals : List Value} (hb : base ≤ w.heap.size) (h0 : 0 < n) (hn : n ≤ cap) (hm : cap ≤ maxLen) (hsz : C.size = cap * size) (ht : C.toList.take (n * size) = vals) (hl : vals.length = n * size) :
    RowAt base (w.drew.alloc (.cells C e)) e size (.slice (some ⟨w.heap.size, 0, none⟩) n cap) n vals :=
  ⟨hl, .inr ⟨w.heap.size, cap, C, by omega, rfl, hb, heap_alloc_new w.drew _, hn, hm, hsz, ht⟩⟩
section
variable {o : Oper} {ty e : TypeId} {x y : Operand} {args : Array Operand} {tys : Array TypeId} {x' y' : Od} {z : AV} {ys : List AV}
theorem app_run (ho : o.op = .call { callee := .builtin .append, args, argTypes := tys }) (hargs : args.toList = [x, y]) (htys : tys.toList = [ty, ty]) {v : Value} {w w' : World} (hr : (Builtin.append_ #[ty, ty] o.type #[a.eval x, a.eval y]).run P w = .ok v w') : (execOp a.eval o).run P w = .ok (.value v) w' := by
  have ea : args = #[x, y] := Array.ext' hargs
  have et : tys = #[ty, ty] := Array.ext' htys
  subst ea et
  simp [execOp, ho, resolve, invoke, builtin, hr]
theorem op_app0 (R : Rel base h E) (hP : E.P = P) (ht : VL E t a.tmps.toList) (ho : o.op = .call { callee := .builtin .append, args, argTypes := tys }) (hargs : args.toList = [x, y]) (htys : tys.toList = [ty, ty]) (hs : P.underlying ty = some (.slice e)) (hz : zeroOf P e = some z) (h0 : 0 < P.cellsOf e)
    (hx : cmpOd x = some x') (hy : cmpOd y = some y') (hys : elemsOf Ops.std h (od t y') = some ys) (hsize : ∀ x, x ∈ ys → x.cells.length = P.cellsOf e) {e' : TypeId} (hlit : od t x' = .lit e' true []) (hroom : Ops.std.room (P.bytesOf e) [] ys = true) :
    Comes1 P base o a h E (.sl h.length 0) (h ++ [.row e 0 false ys]) := by
  have hxv := od_vl ht hx
  rw [hlit] at hxv
  obtain ⟨bd, cap, _, hv, _, _, hf, _⟩ := hxv.lit_inv.lit_inv
  have hcap : cap = 0 := hf rfl
  subst hcap
  obtain ⟨ad, c, news, hyv, hc, hm, hd, hone, _, hrd⟩ := elems_vl R (od_vl ht hy) hys
  obtain ⟨hb, hl⟩ := room_std hroom
  have hinfo : (P.info? e).isSome = true := by obtain ⟨i, _, hi, _⟩ := zeroOf_some (E := E) hz; rw [hi]; rfl
  subst hP
  have hnl : news.length = ys.length * E.P.cellsOf e := by rw [hd.length, flat_len hsize]
  simp only [List.length_nil, Nat.zero_add] at hb hl
  by_cases hm0 : ys.length = 0
  · have hyn : ys = [] := List.eq_nil_of_length_eq_zero hm0
    subst hyn
    have hr := run_append_zero (w := E.w) (rt := o.type) hs hinfo bd ad 0 0 c (Nat.le_refl _)
    obtain ⟨E', hw, R', S, V⟩ := row_fresh (base := base) R (e := e) (w' := E.w) (v' := .slice bd 0 0) (xs' := []) (vals' := []) rfl rfl rfl (Nat.le_refl _) (fun _ _ => rfl) (fun b hb => by cases bd <;> simp [rowBlk] at hb)
      ⟨by simp, .inl ⟨rfl, bd, rfl⟩⟩ rfl (fun x hx => by cases hx) (fun u hu => by cases hu) .nil
    refine ⟨_, E', .inl ?_, R', S, V⟩
    rw [hw]
    exact app_run ho hargs htys (by rw [hv, hyv]; exact hr)
  · obtain ⟨C, cap', hr, hge, hle, hcs, htk⟩ := run_append_grows (w := E.w) (ty := ty) (rt := o.type) hs hz h0 (bd := bd) (ad := ad) (n := 0) (cap := 0) (m := ys.length) (c := c) (fun _ => ⟨rfl, rfl⟩) (olds := []) (news := news) (by simp) hnl (fun j u hu => by cases hu) hrd (by omega) (by omega) (by simpa using hb) (by simpa using hl)
    simp only [Nat.zero_add] at hr hge htk
    obtain ⟨E', hw, R', S, V⟩ := row_fresh (base := base) R (e := e) (w' := E.w.drew.alloc (.cells C e)) (v' := .slice (some ⟨E.w.heap.size, 0, none⟩) ys.length cap') (xs' := ys) (vals' := news) rfl rfl rfl (by simp) (fun b hb => heap_alloc_old E.w.drew _ b hb)
      (fun b hb => by
        cases cap' with
        | zero => simp [rowBlk] at hb
        | succ c' => simp [rowBlk] at hb; subst hb; simp)
      (alloc_row R.le (by omega) hge hle hcs (by simpa using htk) hnl) rfl hsize hone hd
    refine ⟨_, E', .inl ?_, R', S, V⟩
    rw [hw]
    exact app_run ho hargs htys (by rw [hv, hyv]; exact hr)
theorem op_app1 (R : Rel base h E) (hP : E.P = P) (ht : VL E t a.tmps.toList) (ho : o.op = .call { callee := .builtin .append, args, argTypes := tys }) (hargs : args.toList = [x, y]) (htys : tys.toList = [ty, ty]) (hs : P.underlying ty = some (.slice e)) (hz : zeroOf P e = some z) (h0 : 0 < P.cellsOf e)
    (hx : cmpOd x = some x') (hy : cmpOd y = some y') (hys : elemsOf Ops.std h (od t y') = some ys) (hsize : ∀ x, x ∈ ys → x.cells.length = P.cellsOf e) {xs : List AV} (hlit : od t x' = .lit e true xs) (hroom : Ops.std.room (P.bytesOf e) xs ys = true) :
    Comes1 P base o a h E (.lit e false (xs ++ ys)) h := by
  have hxv := od_vl ht hx
  rw [hlit] at hxv
  have hlv := hxv.lit_inv
  obtain ⟨bd, cap, olds, hv, hcx, hmx, hf, hsx, hdx, honex, hrdx⟩ := hlv.lit_inv
  have hcap : cap = xs.length := hf rfl
  subst hcap
  obtain ⟨ad, c, news, hyv, hc, hm, hd, hone, _, hrd⟩ := elems_vl R (od_vl ht hy) hys
  obtain ⟨hb, hl⟩ := room_std hroom
  have hinfo : (P.info? e).isSome = true := by obtain ⟨i, _, hi, _⟩ := zeroOf_some (E := E) hz; rw [hi]; rfl
  subst hP
  have hnl : news.length = ys.length * E.P.cellsOf e := by rw [hd.length, flat_len hsize]
  have hol : olds.length = xs.length * E.P.cellsOf e := by rw [hdx.length, flat_len hsx]
  by_cases hm0 : ys.length = 0
  · have hyn : ys = [] := List.eq_nil_of_length_eq_zero hm0
    subst hyn
    have hr := run_append_zero (w := E.w) (rt := o.type) hs hinfo bd ad xs.length xs.length c (Nat.le_refl _)
    refine Comes1.same R (v' := .slice bd xs.length xs.length) (app_run ho hargs htys (by rw [hv, hyv]; exact hr)) (.data ?_ .nil)
    rw [List.append_nil]
    exact .lit (Nat.le_refl _) hmx (fun _ => rfl) hsx hdx honex hrdx .nil
  · have hnone : bd = none → xs.length = 0 ∧ xs.length = 0 := fun hbn => by
      have : xs.length = 0 := by
        rcases Nat.eq_zero_or_pos xs.length with h | h
        · exact h
        · obtain ⟨u, hu⟩ := elem_cell hsx h0 hdx.length h
          obtain ⟨_, _, hb, _⟩ := hrdx _ u hu
          rw [hbn] at hb; cases hb
      exact ⟨this, this⟩
    obtain ⟨C, cap', hr, hge, hle, hcs, htk⟩ := run_append_grows (w := E.w) (ty := ty) (rt := o.type) hs hz h0 (bd := bd) (ad := ad) (n := xs.length) (cap := xs.length) (m := ys.length) (c := c) hnone hol hnl (fun j u hu => by obtain ⟨b, o', h1, _, h2⟩ := hrdx j u hu; exact ⟨b, o', h1, h2⟩) hrd (by omega) (by omega) hb hl
    obtain ⟨R1, S1⟩ := drew_free R
    obtain ⟨R2, S2⟩ := alloc_free R1 (.cells C e)
    have S := S1.trans S2 R.lt
    refine ⟨_, _, .inl (app_run ho hargs htys (by rw [hv, hyv]; exact hr)), R2, S, .data ?_ .nil⟩
    rw [← List.length_append]
    refine .lit (by rw [List.length_append]; exact hge) hle (by intro h; cases h) (fun x hx => by
      rcases List.mem_append.1 hx with hx | hx
      · exact hsx x hx
      · exact hsize x hx) (vals := olds ++ news) (by rw [flat_append]; exact (hdx.step S.ext).append (hd.step S.ext)) (fun u hu => by
      rcases List.mem_append.1 hu with hu | hu
      · exact honex u hu
      · exact hone u hu) (fun j u hu => ⟨E.w.heap.size, 0, rfl, fun ho => by have := R.lt _ ho; omega, ?_⟩) .nil
    rw [← htk, List.getElem?_take] at hu
    split at hu
    · rw [Nat.zero_add]
      have : (E.w.drew.alloc (.cells C e)).cell? ⟨E.w.heap.size, j, none⟩ = C[j]? := cell_of_row _ _ j C e (0, 0) (heap_alloc_new E.w.drew _)
      exact this.trans (by simpa using hu)
    · cases hu
theorem op_app2 (R : Rel base h E) (hP : E.P = P) (ht : VL E t a.tmps.toList) (ho : o.op = .call { callee := .builtin .append, args, argTypes := tys }) (hargs : args.toList = [x, y]) (htys : tys.toList = [ty, ty]) (hs : P.underlying ty = some (.slice e)) (hz : zeroOf P e = some z) (h0 : 0 < P.cellsOf e)
    (hx : cmpOd x = some x') (hy : cmpOd y = some y') (hys : elemsOf Ops.std h (od t y') = some ys) (hsize : ∀ x, x ∈ ys → x.cells.length = P.cellsOf e) {k g : Nat} {xs : List AV} (hsl : od t x' = .sl k g) (hr : rowOf h k g = some (e, false, xs)) (hroom : Ops.std.room (P.bytesOf e) xs ys = true) :
    Comes1 P base o a h E (.sl k (g + 1)) (h.set k (.row e (g + 1) false (xs ++ ys))) := by
  have hxv := od_vl ht hx
  rw [hsl] at hxv
  have hk := rowOf_some hr
  obtain ⟨hgen, htop, hesz, hsx, olds, hrow, hdx, honex⟩ := R.ent k _ hk
  have hv := hxv.sl_inv.2.2.2 hgen
  obtain ⟨ad, c, news, hyv, hc, hm, hd, hone, _, hrd⟩ := elems_vl R (od_vl ht hy) hys
  obtain ⟨hb, hl⟩ := room_std hroom
  have hinfo : (P.info? e).isSome = true := by obtain ⟨i, _, hi, _⟩ := zeroOf_some (E := E) hz; rw [hi]; rfl
  subst hP
  have hnl : news.length = ys.length * E.P.cellsOf e := by rw [hd.length, flat_len hsize]
  have hol := hrow.1
  have hsize' : ∀ x, x ∈ xs ++ ys → x.cells.length = E.P.cellsOf e := fun x hx => by
    rcases List.mem_append.1 hx with hx | hx
    · exact hsx x hx
    · exact hsize x hx
  have hone' : ∀ u, u ∈ olds ++ news → u.oneCell' = true := fun u hu => by
    rcases List.mem_append.1 hu with hu | hu
    · exact honex u hu
    · exact hone u hu
  have hdl' : DL E.P E.w E.own (flat (xs ++ ys)) (olds ++ news) := by rw [flat_append]; exact hdx.append hd
  have grow : ∀ bd cap, E.row k = .slice bd xs.length cap → xs.length ≤ cap → (bd = none → cap = 0 ∧ xs.length = 0) → (∀ j u, olds[j]? = some u → ∃ b o, bd = some ⟨b, o, none⟩ ∧ E.w.cell? ⟨b, o + j, none⟩ = some u) → 0 < ys.length → cap < xs.length + ys.length →
      Comes1 E.P base o a h E (.sl k (g + 1)) (h.set k (.row e (g + 1) false (xs ++ ys))) := fun bd cap he hcap hnone hro hy0 hgt => by
    obtain ⟨C, cap', hr, hge, hle, hcs, htk⟩ := run_append_grows (w := E.w) (ty := ty) (rt := o.type) hs hz h0 (bd := bd) (ad := ad) (n := xs.length) (cap := cap) (m := ys.length) (c := c) hnone hol hnl hro hrd hy0 hgt hb hl
    obtain ⟨E', hw, R', S, V⟩ := row_new (base := base) R hk (w' := E.w.drew.alloc (.cells C e)) (v' := .slice (some ⟨E.w.heap.size, 0, none⟩) (xs.length + ys.length) cap') (xs' := xs ++ ys) (vals' := olds ++ news) rfl rfl rfl (by simp) (fun b hb _ => heap_alloc_old E.w.drew _ b hb)
      (fun b hb => by
        cases cap' with
        | zero => simp [rowBlk] at hb
        | succ c' => simp [rowBlk] at hb; subst hb; exact ⟨.inr (Nat.le_refl _), by simp⟩)
      (by rw [List.length_append]; exact alloc_row R.le (by omega) hge hle hcs htk (by rw [List.length_append, hol, hnl, Nat.add_mul])) rfl hsize' hone' hdl'
    refine ⟨_, E', .inl ?_, R', S, V⟩
    rw [hw]
    exact app_run ho hargs htys (by rw [hv, he, hyv]; exact hr)
  by_cases hm0 : ys.length = 0
  · have hyn : ys = [] := List.eq_nil_of_length_eq_zero hm0
    subst hyn
    have hne : news = [] := List.eq_nil_of_length_eq_zero (by rw [hnl]; simp)
    subst hne
    have hrv : ∃ bd cap, E.row k = .slice bd xs.length cap ∧ xs.length ≤ cap := by
      rcases hrow.2 with ⟨hn, a', ha⟩ | ⟨g', cap, cur, _, ha, _, _, hle, _⟩
      · exact ⟨a', 0, by rw [ha, hn], by omega⟩
      · exact ⟨_, cap, ha, hle⟩
    obtain ⟨bd, cap, he, hle⟩ := hrv
    have hr0 := run_append_zero (w := E.w) (rt := o.type) hs hinfo bd ad xs.length cap c hle
    obtain ⟨E', hw, R', S, V⟩ := row_new (base := base) R hk (w' := E.w) (v' := E.row k) (xs' := xs ++ []) (vals' := olds ++ []) rfl rfl rfl (Nat.le_refl _) (fun _ _ _ => rfl) (fun b hb => ⟨.inl hb, blk_lt R (k := k) (by rw [blkOf_of hk]; exact hb)⟩)
      (by rw [List.append_nil, List.append_nil]; exact hrow) (by rw [he]; rfl) hsize' hone' hdl'
    refine ⟨_, E', .inl ?_, R', S, V⟩
    rw [hw]
    refine app_run ho hargs htys ?_
    rw [hv, hyv, he]; exact hr0
  · rcases hrow.2 with ⟨hn, a', ha⟩ | ⟨b0, cap, cur, hc0, ha, hbb, hh, hle, hmx, hcs, htk⟩
    · refine grow a' 0 (by rw [ha, hn]) (by omega) (fun _ => ⟨rfl, hn⟩) (fun j u hu => ?_) (by omega) (by omega)
      rw [hn, Nat.zero_mul] at hol
      rw [List.eq_nil_of_length_eq_zero hol] at hu; cases hu
    · by_cases hroomy : xs.length + ys.length ≤ cap
      · obtain ⟨i, zv, hi, hzv, hzs, _, _⟩ := zeroOf_some (E := E) hz
        have his : E.P.cellsOf e = i.size := by simp [Program.cellsOf, hi]
        have hne : ∃ u, news[0]? = some u := ⟨news[0]'(by rw [hnl]; exact Nat.mul_pos (by omega) h0), List.getElem?_eq_getElem _⟩
        obtain ⟨u0, hu0⟩ := hne
        obtain ⟨b1, o1, rfl, _⟩ := hrd 0 u0 hu0
        have hnews : ∀ j v, news[j]? = some v → E.w.cell? ((⟨b1, o1, none⟩ : Addr).add j) = some v := fun j v hj => by
          obtain ⟨b', o', hab, hc'⟩ := hrd j v hj
          injection hab with hab
          injection hab with e1 e2 _
          subst e1 e2
          rw [add_none]; exact hc'
        have hfit : xs.length * i.size + news.length ≤ cur.size := by
          rw [hcs, hnl, ← his, ← Nat.add_mul]; exact Nat.mul_le_mul_right _ hroomy
        have hra := run_append_room (P := E.P) E.w ty o.type e i hs hi b0 xs.length cap cur hh ⟨b1, o1, none⟩ ys.length c news (by rw [hnl, his]) hnews hone hroomy hfit
        have hblk0 : rowBlk (E.row k) = some b0 := by
          rw [ha]
          cases cap with
          | zero => omega
          | succ c' => rfl
        have hbk : blkOf E h k = some b0 := (blkOf_of hk).trans hblk0
        have hrv' : rowBlk (.slice (some ⟨b0, 0, none⟩) (xs.length + ys.length) cap) = some b0 := by
          cases cap with
          | zero => omega
          | succ c' => rfl
        obtain ⟨E', hw, R', S, V⟩ := row_new (base := base) R hk (w' := E.w.setRow b0 (cur.toList.take (xs.length * i.size) ++ news ++ cur.toList.drop (xs.length * i.size + news.length)).toArray) (v' := .slice (some ⟨b0, 0, none⟩) (xs.length + ys.length) cap) (xs' := xs ++ ys) (vals' := olds ++ news) rfl rfl rfl (by simp)
          (fun b _ hne => setRow_other E.w b0 b _ (fun e => hne (by rw [hblk0, e])))
          (fun b hb => by rw [hrv'] at hb; cases hb; exact ⟨.inl hblk0, by simp; exact blk_lt R hbk⟩)
          (by
            refine ⟨by rw [List.length_append, List.length_append, hol, hnl, Nat.add_mul], .inr ⟨b0, cap, _, hc0, by rw [List.length_append], hbb, setRow_heap E.w b0 cur _ e (0, 0) hh, by rw [List.length_append]; exact hroomy, hmx, ?_, ?_⟩⟩
            · have hc3 : cur.toList.length = cap * E.P.cellsOf e := by simpa using hcs
              simp only [List.size_toArray, List.length_append, List.length_take, List.length_drop, hc3]
              rw [← his] at hfit ⊢
              rw [hcs] at hfit
              omega
            · have hl1 : (cur.toList.take (xs.length * i.size)) = olds := by rw [← his]; exact htk
              simp only [List.append_assoc]
              rw [hl1, List.length_append, ← List.append_assoc]
              have hlen : (olds ++ news).length = (xs.length + ys.length) * E.P.cellsOf e := by rw [List.length_append, hol, hnl, Nat.add_mul]
              rw [← hlen]; exact List.take_left) rfl hsize' hone' hdl'
        refine ⟨_, E', .inl ?_, R', S, V⟩
        rw [hw]
        refine app_run ho hargs htys ?_
        rw [hv, hyv, ha]; exact hra
      · refine grow _ cap ha hle (fun h => by cases h) (fun j u hu => ⟨b0, 0, rfl, ?_⟩) (by omega) (by omega)
        rw [Nat.zero_add, cell_of_row E.w b0 j cur e (0, 0) hh]
        rw [← htk, List.getElem?_take] at hu
        split at hu
        · simpa using hu
        · cases hu
end
end
end Go.Ab
namespace Go.Ab
open Go
set_option linter.unusedSimpArgs false
set_option linter.unusedVariables false
section
variable {P : Program} {base : Base} {h : Store} {E : Env} {t : List AV} {a : Act}
theorem elemsAt_some (R : Rel base h E) {x : AV} {xv : Value} (hx : VL E [x] [xv]) {e : TypeId} {xs : List AV} (he : elemsAt Ops.std h e x = some xs) : elemsOf Ops.std h x = some xs ∧ ∀ y, y ∈ xs → y.cells.length = E.P.cellsOf e := by
  cases x with
  | lit e' f ys =>
    obtain ⟨_, _, _, _, _, _, _, hs, _⟩ := hx.lit_inv.lit_inv
    simp only [elemsAt] at he
    split at he
    · rename_i hee; subst hee; cases he; exact ⟨rfl, hs⟩
    · split at he
      · cases he; exact ⟨rfl, fun y hy => by cases hy⟩
      · cases he
  | sl k g =>
    simp only [elemsAt] at he
    split at he
    · rename_i e' ro ys hr
      split at he
      · rename_i hee; subst hee; cases he
        exact ⟨by simp only [elemsOf, hr], (row_reads R hr).2.2.1⟩
      · cases he
    · cases he
  | sub k g lo hi =>
    simp only [elemsAt] at he
    split at he
    · rename_i e' ro ys hr
      split at he
      · rename_i hee; subst hee
        refine ⟨by simp only [elemsOf, hr]; exact he, fun y hy => ?_⟩
        simp only [Ops.std] at he
        split at he
        · cases he
          exact (row_reads R hr).2.2.1 y (List.mem_of_mem_take (List.mem_of_mem_drop hy))
        · cases he
      · cases he
    · cases he
  | _ => simp [elemsAt] at he
theorem flat_set {xs : List AV} {s : Nat} (hs : ∀ x, x ∈ xs → x.cells.length = s) : ∀ (i : Nat) (y : AV), i < xs.length → y.cells.length = s → flat (xs.set i y) = (flat xs).take (i * s) ++ y.cells ++ (flat xs).drop (i * s + s) := by
  induction xs with
  | nil => intro i y hi; cases hi
  | cons x xs ih =>
    intro i y hi hy
    have hx := hs x (List.mem_cons_self ..)
    cases i with
    | zero =>
      simp only [List.set_cons_zero, flat, List.flatMap_cons, Nat.zero_mul, List.take_zero, List.nil_append, Nat.zero_add]
      rw [List.drop_append, List.drop_eq_nil_of_le (by omega), List.nil_append, show s - x.cells.length = 0 by omega]; rfl
    | succ i =>
      have := ih (fun z hz => hs z (List.mem_cons_of_mem _ hz)) i y (by simpa using hi) hy
      simp only [flat, List.set_cons_succ, List.flatMap_cons] at this ⊢
      rw [this, Nat.add_mul, Nat.one_mul, List.take_append, List.take_of_length_le (l := x.cells) (by omega), show i * s + s - x.cells.length = i * s by omega]
      rw [List.drop_append, List.drop_eq_nil_of_le (as := x.cells) (by omega), List.nil_append, show i * s + s + s - x.cells.length = i * s + s by omega]
      simp [List.append_assoc]
theorem cells_of_one {v : AV} (h : v.one = true) : v.cells = [v] := by cases v <;> first | rfl | (simp [AV.one] at h)
theorem reElem_cells {y x : AV} {off n : Nat} (hn : x.cells.length = n) (h1 : x.cells.all AV.one = true) (hle : off + n ≤ y.cells.length) : (reElem y off x.cells).cells = splice y.cells off x.cells := by
  cases y with
  | agg cs => rfl
  | _ =>
    simp only [AV.cells, List.length_singleton] at hle
    unfold reElem
    split
    · rename_i hx; cases hx
    · rename_i hne
      match hc : x.cells, hn with
      | [], hn => simp [splice, AV.cells]
      | [v], hn =>
        have hv : v.one = true := by have := List.all_eq_true.1 h1 v (by rw [hc]; simp); exact this
        have : off = 0 := by simp at hn; omega
        subst this
        show v.cells = splice _ 0 [v]
        rw [cells_of_one hv]; rfl
      | _ :: _ :: _, hn => simp at hn; omega
theorem take_drop_join {α : Type} (M : List α) {k s : Nat} (h : k ≤ s) : (M.take s).drop k ++ M.drop s = M.drop k := by
  have h1 : M.drop k = ((M.take s) ++ M.drop s).drop k := by rw [List.take_append_drop]
  rw [h1, List.drop_append]
  by_cases hs : s ≤ M.length
  · rw [show k - (M.take s).length = 0 by rw [List.length_take]; omega]; rfl
  · rw [List.drop_eq_nil_of_le (as := M) (by omega)]; simp
theorem splice_in {α : Type} (L : List α) (p s off n : Nat) (new : List α) (h : off + n ≤ s) : L.take p ++ (((L.drop p).take s).take off ++ new ++ ((L.drop p).take s).drop (off + n)) ++ L.drop (p + s) = L.take (p + off) ++ new ++ L.drop (p + off + n) := by
  have e1 : L.drop (p + s) = (L.drop p).drop s := by rw [List.drop_drop]
  have e2 : L.drop (p + off + n) = (L.drop p).drop (off + n) := by rw [List.drop_drop, Nat.add_assoc]
  rw [List.take_take, Nat.min_eq_left (by omega), List.take_add, e1, e2, ← take_drop_join (L.drop p) h]
  simp only [List.append_assoc]
theorem take_splice {α : Type} (L new : List α) (q m N : Nat) (h : q + m ≤ N) (hN : N ≤ L.length) (hl : new.length = m) : (L.take q ++ new ++ L.drop (q + m)).take N = (L.take N).take q ++ new ++ (L.take N).drop (q + m) := by
  rw [List.take_append, List.take_of_length_le (by rw [List.length_append, List.length_take]; omega), List.take_take, Nat.min_eq_left (by omega)]
  congr 1
  rw [List.length_append, List.length_take, hl, List.take_drop]
  congr 2; omega
theorem op_storeR (R : Rel base h E) (hP : E.P = P) {o : Oper} {ty : TypeId} {p x : Operand} (ho : o.op = .store ty p x) (hi : (P.info? ty).isSome = true) {xa : AV} (hxv : VL E [xa] [a.eval x])
    (hn : xa.cells.length = P.cellsOf ty) (h1 : xa.cells.all AV.one = true) {k g : Nat} {i : Int} {off : Nat} (hpv : VL E [.rptr k g i off] [a.eval p]) {e : TypeId} {xs : List AV} (hr : rowOf h k g = some (e, false, xs)) {y : AV} (hy : Ops.std.lget xs i = some y) (hxd : xa.data = true) (hle : off + P.cellsOf ty ≤ y.cells.length) :
    Comes1 P base o a h E .bad (h.set k (.row e g false (Ops.std.lset xs i (reElem y off xa.cells)))) := by
  obtain ⟨hkn, hgt, hpe⟩ := hpv.rptr_inv
  have hcv := cells_vl hxv h1
  have hcd := data_cells (data_dl hxv hxd)
  have ho1 := hcv.one_cells (fun c hc => by simpa using List.all_eq_true.1 h1 c hc)
  have hk := rowOf_some hr
  obtain ⟨hgen, htop, hesz, hsx, olds, hrow, hdx, honex⟩ := R.ent k _ hk
  obtain ⟨b, hhead, hpv'⟩ := hpe hgen
  obtain ⟨hi0, hyi⟩ := lget_some hy
  have hilt : i.toNat < xs.length := (List.getElem?_eq_some_iff.1 hyi).1
  have hys : y.cells.length = E.P.cellsOf e := hsx y (List.mem_of_getElem? hyi)
  subst hP
  rcases hrow.2 with ⟨hn0, _⟩ | ⟨b0, cap, cur, hc0, ha, hbb, hh, hlec, hmx, hcs, htk⟩
  · omega
  · obtain ⟨n', c', ha'⟩ := hhead
    rw [ha] at ha'
    injection ha' with hab _ _
    injection hab with hab
    injection hab with hbb' _ _
    subst hbb'
    have hsz : (a.eval x).cells.size = E.P.cellsOf ty := by rw [← hn, ← hcv.length]; simp
    have hblk0 : rowBlk (E.row k) = some b0 := by
      rw [ha]
      cases cap with
      | zero => omega
      | succ c' => rfl
    have hbk : blkOf E h k = some b0 := (blkOf_of hk).trans hblk0
    have hpos : i.toNat * E.P.cellsOf e + off + E.P.cellsOf ty ≤ xs.length * E.P.cellsOf e := by
      have h2 : (i.toNat + 1) * E.P.cellsOf e ≤ xs.length * E.P.cellsOf e := Nat.mul_le_mul_right _ hilt
      rw [Nat.add_mul, Nat.one_mul] at h2
      omega
    have hcl : cur.toList.length = cap * E.P.cellsOf e := by simpa using hcs
    have hcap : xs.length * E.P.cellsOf e ≤ cap * E.P.cellsOf e := Nat.mul_le_mul_right _ hlec
    generalize hpp : i.toNat * E.P.cellsOf e + off = q at *
    have run := run_storeVar (P := E.P) (w := E.w) (ty := ty) hi (b := b0) (o := q) hh (v := a.eval x) hsz (by rw [hsz, hcs]; omega) ho1
    have hnl : (a.eval x).cells.toList.length = E.P.cellsOf ty := by rw [hcv.length, hn]
    have hnew : (reElem y off xa.cells).cells.length = E.P.cellsOf e := by rw [reElem_cells hn h1 hle, splice_length (by omega), hys]
    have hfl : flat (xs.set i.toNat (reElem y off xa.cells)) = (flat xs).take q ++ xa.cells ++ (flat xs).drop (q + E.P.cellsOf ty) := by
      rw [flat_set hsx i.toNat _ hilt hnew, reElem_cells hn h1 hle]
      have hfa := flat_at hsx i.toNat y hyi
      have hfll : (flat xs).length = xs.length * E.P.cellsOf e := flat_len hsx
      rw [← hfa]
      simp only [splice, hn]
      rw [splice_in _ _ _ _ _ _ (by omega), hpp]
    have hdl' : DL E.P E.w E.own (flat (xs.set i.toNat (reElem y off xa.cells))) (olds.take q ++ (a.eval x).cells.toList ++ olds.drop (q + E.P.cellsOf ty)) := by
      rw [hfl]; exact ((hdx.take q).append hcd).append (hdx.drop _)
    have hol := hrow.1
    obtain ⟨R', S'⟩ := rel_write R hbk (cur.toList.take q ++ (a.eval x).cells.toList ++ cur.toList.drop (q + (a.eval x).cells.toList.length)).toArray (.row e g false (xs.set i.toNat (reElem y off xa.cells))) hblk0 (by
      refine ⟨hgen, htop, hesz, fun z hz => ?_, olds.take q ++ (a.eval x).cells.toList ++ olds.drop (q + E.P.cellsOf ty), ?_, hdl'.step (ext_write R hbk _), fun u hu => ?_⟩
      · rcases List.mem_or_eq_of_mem_set hz with hz | rfl
        · exact hsx z hz
        · exact hnew
      · refine ⟨by simp only [List.length_append, List.length_take, List.length_drop, List.length_set, hol, hnl]; omega, .inr ⟨b0, cap, _, hc0, by rw [List.length_set]; exact ha, hbb, setRow_heap E.w b0 cur _ e (0, 0) hh, by rw [List.length_set]; exact hlec, hmx, ?_, ?_⟩⟩
        · simp only [List.size_toArray, List.length_append, List.length_take, List.length_drop, hcl, hnl]; omega
        · rw [List.length_set, ← htk, hnl]
          exact take_splice cur.toList (a.eval x).cells.toList q (E.P.cellsOf ty) (xs.length * E.P.cellsOf e) hpos (by omega) hnl
      · rcases List.mem_append.1 hu with hu | hu
        · rcases List.mem_append.1 hu with hu | hu
          · exact honex u (List.mem_of_mem_take hu)
          · exact ho1 u hu
        · exact honex u (List.mem_of_mem_drop hu))
    refine ⟨undef, _, .inr ⟨?_, rfl⟩, R', S', .bad .nil⟩
    rw [hesz, hpp] at hpv'
    simp only [execOp, ho, hpv', Instr.storeAt, Instr.sureAddr, Sem.run_bind, Sem.run_pure, Result.andThen_ok, run]
end
end Go.Ab
