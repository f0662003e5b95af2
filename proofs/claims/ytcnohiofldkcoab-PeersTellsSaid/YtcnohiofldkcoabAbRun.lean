/- Regions, code, functions: what the interpreter comes to is what the loaded code comes to. -/
import Derived.Test.YtcnohiofldkcoabAbFrz
import Derived.Test.YtcnohiofldkcoabAbMv
namespace Go.Ab
open Go
set_option linter.unusedSimpArgs false
set_option linter.unusedVariables false

section
variable {P : Program} {base : Nat} {h : Store} {E : Env} {t : List AV} {a : Act}

theorem comes_wp {o : Oper} {v : AV} {h' : Store} {K : Act → World → Prop} {Q : Exit → Act → World → Prop} (hc : Comes1 P base o a h E v h') (hK : ∀ E' v', Rel base h' E' → Step h E h' E' → VL E' [v] [v'] → K (a.put o.dst v') E'.w) : o.wp P a E.w K Q := by
  obtain ⟨v', E', hr, R, S, V⟩ := hc
  unfold Oper.wp
  rcases hr with hr | ⟨hr, rfl⟩
  · rw [hr]; exact hK E' v' R S V
  · rw [hr]; exact hK E' undef R S V

theorem callFunc_run {w : World} {f : FuncId} {fn : Func} (hf : P.funcs[f]? = some fn) (hb : fn.body.isSome = true) (hn : fn.name ≠ "runtime.NumGoroutine") (args : Array Value) : (callFunc f args).run P w = .ok (.enter f args) w := by
  obtain ⟨b, hb⟩ := Option.isSome_iff_exists.1 hb
  simp [callFunc, hf, hn, hb]

/-- The functions that the interpreter may be asked for have bodies in the program. -/
def FnsOk (P : Program) (I : Ifc) : Prop := ∀ (f : FuncId) (args : List AV) (s : Store) (r : AV × Store), I.call f args s = some r → ∃ fn, P.funcs[f]? = some fn ∧ fn.body.isSome = true ∧ fn.name ≠ "runtime.NumGoroutine"

/-- What the program's own functions of the library do where the interpreter has one step. -/
def PrimOk (P : Program) (base : Nat) (f : FuncId) (p : Prim) : Prop :=
  (∃ fn, P.funcs[f]? = some fn ∧ fn.body.isSome = true ∧ fn.name ≠ "runtime.NumGoroutine") ∧
  ∀ (args : List AV) (h : Store) (v : AV) (h3 : Store) (m : Nat), primOp Ops.std p args h = some (v, h3, m) → ∀ (E : Env) (vs : List Value), E.P = P → Rel base h E → VL E args vs →
    Calls P f vs.toArray E.w fun e w' => ∃ v' E', e = .returned v' ∧ E'.w = w' ∧ Rel base h3 E' ∧ Step h E h3 E' ∧ VL E' [v] [v']
def PrimsOk (P : Program) (base : Nat) (I : Ifc) : Prop := ∀ f p, I.prim f = some p → PrimOk P base f p

theorem callFn_fn {I : Ifc} (hF : FnsOk P I) {f : FuncId} {args : List AV} {h : Store} {r : AV × Store × Nat} (he : callFn I f args h = some r) : ∃ fn, P.funcs[f]? = some fn ∧ fn.body.isSome = true ∧ fn.name ≠ "runtime.NumGoroutine" := by
  unfold callFn at he
  split at he
  · cases he
  · split at he
    · cases he
    · split at he
      · cases he
      · rename_i hc
        exact hF _ _ _ _ hc

theorem callOp_fn {I : Ifc} (hF : FnsOk P I) (hPr : PrimsOk P base I) {f : FuncId} {args : List AV} {h : Store} {r : AV × Store × Nat} (he : callOp I f args h = some r) : ∃ fn, P.funcs[f]? = some fn ∧ fn.body.isSome = true ∧ fn.name ≠ "runtime.NumGoroutine" := by
  unfold callOp at he
  split at he
  · exact callFn_fn hF he
  · rename_i hp; exact (hPr f _ hp).1
  · rename_i p _ hp; exact (hPr f p hp).1

theorem callOp_sound {I : Ifc} (hI : I.o = Ops.std) (IH : CallOk P base I) (hPr : PrimsOk P base I) (R : Rel base h E) (hP : E.P = P) {args : List AV} {vs : List Value} (hv : VL E args vs) {f : FuncId} {v : AV} {h3 : Store} {m : Nat} (he : callOp I f args h = some (v, h3, m)) :
    Calls P f vs.toArray E.w fun e w' => ∃ v' E', e = .returned v' ∧ E'.w = w' ∧ Rel base h3 E' ∧ Step h E h3 E' ∧ VL E' [v] [v'] := by
  unfold callOp at he
  split at he
  · exact callFn_sound hI IH R hP hv he
  · exact callMv_sound IH R hP hv he
  · rename_i p _ hp
    rw [hI] at he
    exact (hPr f p hp).2 args h v h3 m he E vs hP R hv

/-- A function that takes what it is handed by reference. -/
theorem mv_ok {f : FuncId} {fn : Func} (hf : P.funcs[f]? = some fn) (hb : fn.body.isSome = true) (hn : fn.name ≠ "runtime.NumGoroutine") : PrimOk P base f .mv :=
  ⟨⟨fn, hf, hb, hn⟩, fun args h v h3 m he => by simp [primOp] at he⟩

mutual
theorem norm_vl : ∀ (sh : Sh) (v : AV) {u : Value}, VL E [v] [u] → VL E [normV sh v] [u] := by
  intro sh v u h
  unfold normV
  split
  · obtain ⟨ad, cap, vals, rfl, hc, hm, _, hs, hd, h1, hr⟩ := h.lit_inv.lit_inv
    split
    · rename_i hee; subst hee
      exact .data (.lit hc hm (by simp) hs hd h1 hr .nil) .nil
    · split
      · exact .data (.lit hc hm (by simp) (fun x hx => by cases hx) hd h1 hr .nil) .nil
      · exact .data (.lit hc hm (by simp) hs hd h1 hr .nil) .nil
  · rename_i shs cs
    obtain ⟨us, rfl, h2⟩ := h.agg_inv
    exact .agg (normL_vl shs cs h2) .nil
  · exact h
theorem normL_vl : ∀ (shs : List Sh) (l : List AV) {us : List Value}, VL E l us → VL E (normL shs l) us := by
  intro shs l us h
  unfold normL
  split
  · rename_i sh shs v vs
    obtain ⟨u, us', rfl, h1, h2⟩ := h.uncons
    exact (norm_vl sh v h1).cons (normL_vl shs vs h2)
  · exact h
end

theorem call_wp {I : Ifc} (hI : I.o = Ops.std) (IH : CallOk P base I) (hPr : PrimsOk P base I) (hF : FnsOk P I) (R : Rel base h E) (hP : E.P = P) {o : Oper} {args : List AV} {vs : List Value} (hv : VL E args vs) {f : FuncId} {v : AV} {h3 : Store} {m : Nat} (he : callOp I f args h = some (v, h3, m)) (hrun : ∀ fn, P.funcs[f]? = some fn → fn.body.isSome = true → fn.name ≠ "runtime.NumGoroutine" → (execOp a.eval o).run P E.w = .ok (.enter f vs.toArray) E.w)
    {K : Act → World → Prop} {Q : Exit → Act → World → Prop} (hK : ∀ E' v', Rel base h3 E' → Step h E h3 E' → VL E' [v] [v'] → K (a.put o.dst v') E'.w) : o.wp P a E.w K Q := by
  obtain ⟨fn, h1, h2, h4⟩ := callOp_fn hF hPr he
  unfold Oper.wp
  rw [hrun fn h1 h2 h4, Oper.upon_enter]
  refine (callOp_sound hI IH hPr R hP hv he).mono fun e w' ⟨v', E', hev, hw, R', S', V'⟩ => ?_
  subst hev
  rw [← hw]
  exact hK E' v' R' S' V'

theorem op_wp {I : Ifc} (hI : I.o = Ops.std) (IH : CallOk P base I) (hPr : PrimsOk P base I) (hF : FnsOk P I) (R : Rel base h E) (hP : E.P = P) (ht : VL E t a.tmps.toList) {o : Oper} {i : Ir} (hc : cmpOp P o = some i) {v : AV} {h' : Store} {m : Nat} (he : evOp I i t h = some (v, h', m))
    {K : Act → World → Prop} {Q : Exit → Act → World → Prop} (hK : ∀ E' v', Rel base h' E' → Step h E h' E' → VL E' [v] [v'] → K (a.put o.dst v') E'.w) : o.wp P a E.w K Q := by
  unfold cmpOp at hc
  split at hc
  -- move, assign
  · rename_i x ho
    obtain ⟨x', hx, rfl⟩ := mapped hc
    simp only [evOp] at he; cases he
    exact comes_wp (Comes1.same R (by simp only [execOp, ho]; rfl) (od_vl ht hx)) hK
  · rename_i x ho
    obtain ⟨x', hx, rfl⟩ := mapped hc
    simp only [evOp] at he; cases he
    exact comes_wp (Comes1.same R (by simp only [execOp, ho]; rfl) (od_vl ht hx)) hK
  -- pick
  · rename_i c x y ho
    split at hc
    · cases hc
      rename_i hc' hx hy
      simp only [evOp] at he
      split at he
      · cases he; rename_i hb; have := op_pick (P := P) R ht ho hc' hx hy hb; exact comes_wp this hK
      · cases he; rename_i hb; have := op_pick (P := P) R ht ho hc' hx hy hb; exact comes_wp this hK
      · cases he
    · cases hc
  -- alloc
  · rename_i e ho
    split at hc
    · cases hc
      rename_i z hz
      simp only [evOp] at he
      split at he
      · cases he
        rename_i hcond
        exact comes_wp (op_alloc R ho hz hcond.2) hK
      · cases he
    · cases hc
  -- box
  · rename_i e x ho
    obtain ⟨x', hx, rfl⟩ := mapped hc
    simp only [evOp] at he
    split at he
    · cases he
      rename_i hcond
      exact comes_wp (op_box R ht ho hx hcond.2) hK
    · cases he
  -- build
  · rename_i ty ps ho
    split at hc
    · rename_i fs z l hs hz hl
      split at hc
      · cases hc
        rename_i hfs
        simp only [evOp] at he
        split at he
        · cases he; rename_i hf; exact comes_wp (op_build R hP ht ho hs hfs hz hl hf) hK
        · cases he
      · cases hc
    · cases hc
  -- buildSlice
  · rename_i ty len ps ho
    split at hc
    · rename_i e l hs hl
      split at hc
      · rename_i z hz
        split at hc
        · rename_i hcond
          cases hc
          simp only [evOp] at he
          split at he
          · cases he; rename_i hx; exact comes_wp (op_bsl R hP ht ho hs hz hcond.2.1 hcond.2.2 hl hcond.1 hx) hK
          · cases he
        · cases hc
      · cases hc
    · cases hc
  -- load
  · rename_i ty p ho
    split at hc
    · rename_i ag p' hag hp
      split at hc
      · cases hc
        rename_i hi
        simp only [evOp, hI] at he
        split at he
        · cases he; rename_i hv; exact comes_wp (op_load R hP ht ho hag hi hp hv) hK
        · cases he
      · cases hc
    · cases hc
  -- store
  · rename_i ty p x ho
    split at hc
    · rename_i p' x' hp hx
      split at hc
      · cases hc
        rename_i hi
        simp only [evOp, hI] at he
        split at he
        · cases he
          rename_i hst
          unfold storeAt at hst
          split at hst
          · rename_i hcond
            split at hst
            · rename_i b off hb
              split at hst
              · rename_i T cs hcs
                split at hst
                · cases hst; rename_i hle; exact comes_wp (op_storeB R ht ho hi hp hx hcond.1 hcond.2 hb hcs hle) hK
                · cases hst
              · cases hst
            · rename_i k g j off hb
              split at hst
              · rename_i xa hxa
                split at hst
                · rename_i hszd
                  rw [Bool.and_eq_true] at hszd
                  split at hst
                  · rename_i e xs hr
                    split at hst
                    · rename_i y hy
                      split at hst
                      · cases hst; rename_i hle; exact comes_wp (op_storeF R hP ht ho hi hp hx hxa hszd.1 hszd.2 hb hr hy hle) hK
                      · cases hst
                    · cases hst
                  · cases hst
                · cases hst
              · cases hst
            · cases hst
          · cases hst
        · cases he
      · cases hc
    · cases hc
  -- binOp
  · rename_i op ty x y yt ho
    split at hc
    · rename_i x' y' hx hy
      split at hc
      · cases hc
        rename_i c hcl
        simp only [evOp, hI] at he
        split at he
        · cases he; rename_i hv; exact comes_wp (op_bin R ht ho hx hy hcl hv) hK
        · cases he
      · split at hc
        · rename_i fs _ hs
          split at hc
          · rename_i hcond
            obtain ⟨cs, hcs, rfl⟩ := mapped hc
            simp only [evOp, hI] at he
            split at he
            · rename_i p q hp hq
              split at he
              · split at he
                · cases he; rename_i hll _ r hr; exact comes_wp ((op_eqs R ht hs hcond.1 hcond.2 hcs hx hy hp hq hll.1 hll.2 hr).1 ho) hK
                · cases he
              · cases he
            · cases he
          · cases hc
        · rename_i fs _ hs
          split at hc
          · rename_i hcond
            obtain ⟨cs, hcs, rfl⟩ := mapped hc
            simp only [evOp, hI] at he
            split at he
            · rename_i p q hp hq
              split at he
              · split at he
                · cases he; rename_i hll _ r hr; exact comes_wp ((op_eqs R ht hs hcond.1 hcond.2 hcs hx hy hp hq hll.1 hll.2 hr).2 ho) hK
                · cases he
              · cases he
            · cases he
          · cases hc
        · cases hc
    · cases hc
  -- unOp
  · rename_i op ty x ho
    split at hc
    · obtain ⟨x', hx, rfl⟩ := mapped hc
      simp only [evOp, hI] at he
      split at he
      · cases he; rename_i hb; exact comes_wp ((op_un R ht hx).1 ho _ hb) hK
      · rename_i e _; cases e
      · cases he
    · obtain ⟨x', hx, rfl⟩ := mapped hc
      simp only [evOp, hI] at he
      split at he
      · rename_i e _; cases e
      · cases he; rename_i hb; exact comes_wp ((op_un R ht hx).2 ho _ _ hb) hK
      · cases he
    · cases hc
  -- convert
  · rename_i s d x ho
    split at hc
    · cases hc
      rename_i k0 k x' hs hd hx
      simp only [evOp, hI] at he
      split at he
      · cases he; rename_i hn; exact comes_wp (op_conv R ht ho hs hd hx hn) hK
      · cases he
    · cases hc
      rename_i x' hs hd hx
      simp only [evOp] at he
      split at he
      · cases he
        rename_i b hb
        have hv := od_vl ht hx
        rw [hb] at hv
        have hav := VL.sc_inv hv
        refine comes_wp (Comes1.same R (v' := .string b) ?_ (hav.1 ▸ hv)) hK
        simp [execOp, ho, convert, run_underlying hs, run_underlying hd, hav.1]
      · cases he
    · cases hc
  -- makeFunc
  · rename_i f first caps ho
    split at hc
    · obtain ⟨l, hl, rfl⟩ := mapped hc
      rename_i hf
      simp only [evOp] at he; cases he
      exact comes_wp (op_mkfn R ht ho hf hl) hK
    · cases hc
  -- slice
  · rename_i ty x lo hi ho
    split at hc
    · cases hc
      rename_i x' lo' hi' hs hx hl hh
      simp only [evOp, hI] at he
      split at he
      · rename_i s hsx
        split at he
        · rename_i i j hi1 hj1
          split at he
          · cases he; rename_i r hr; exact comes_wp (op_ssl R ht ho hs hx hl hh hsx hi1 hj1 hr) hK
          · cases he
        · cases he
      · cases he
    · rename_i e x' lo' hi' hs hx hl hh
      split at hc
      · cases hc
        rename_i hcond
        simp only [evOp, hI] at he
        split at he
        · rename_i k g l0 h0 hz
          split at he
          · cases he; rename_i hss; exact comes_wp (op_slsSub R hP hcond.2 ht ho hs hcond.1 hx hl hh hz hss) hK
          · cases he
        · split at he
          case h_2 => cases he
          rename_i hnosub _ xs hxs
          split at he
          · rename_i i j hi1 hj1
            split at he
            · rename_i ys hr
              have H := op_sls R hP hcond.2 ht ho hs hcond.1 hx hl hh hxs hi1 hj1 hr
              split at he
              · rename_i e' f zs hz
                split at he
                · cases he; rename_i hee; subst hee; exact comes_wp (H.1 _ _ hz) hK
                · split at he
                  · cases he; exact comes_wp (H.2.1 _ _ hz) hK
                  · cases he
              · rename_i k g hz
                split at he
                · rename_i e' ro' xs' hrow
                  split at he
                  · cases he; rename_i hee; subst hee
                    have : xs' = xs := by
                      rw [hz] at hxs
                      simp only [elemsOf, hrow] at hxs
                      first | (cases hxs; rfl) | (simpa using hxs)
                    subst this
                    exact comes_wp (H.2.2 _ _ _ hz hrow) hK
                  · cases he
                · cases he
              · cases he
            · cases he
          · cases he
      · cases hc
    · cases hc
  -- slice of three bounds
  · rename_i ty x lo y z ho
    split at hc
    · rename_i e x' lo' y' z' hs hx hl hy hz
      split at hc
      · cases hc
        rename_i hinfo
        simp only [evOp, hI] at he
        split at he
        · rename_i xs hxs
          split at he
          · rename_i i j m hi1 hj1 hm1
            split at he
            · cases he; rename_i hr hr2; exact comes_wp (op_sls3 R hP ht ho hs hinfo hx hy hz hl hxs hi1 hj1 hm1 hr hr2) hK
            · cases he
          · cases he
        · cases he
      · cases hc
    · cases hc
  -- fieldAddr
  · rename_i s x f ho
    split at hc
    · rename_i f' x' hf hx
      split at hc
      · cases hc
        rename_i hcond
        have H := op_fad (P := P) (a := a) R ht ho hf hcond.1 hcond.2 hx
        simp only [evOp] at he
        split at he
        · cases he; rename_i hb; exact comes_wp (H.1 _ _ hb) hK
        · split at he
          · cases he; rename_i hb _ _ hr; exact comes_wp (H.2.1 _ _ _ _ hb (by rw [hr]; simp)) hK
          · cases he
        · cases he; rename_i hb; exact comes_wp (H.2.2 _ _ _ _ hb) hK
        · cases he
      · cases hc
    · cases hc
  -- field
  · rename_i s x f ho
    split at hc
    · rename_i f' x' hf hx
      split at hc
      · rename_i ag hag
        split at hc
        · cases hc
          rename_i hi
          simp only [evOp] at he
          split at he
          · rename_i cs hcs
            split at he
            · rename_i c hcut
              split at he
              · cases he; rename_i hm; exact comes_wp (op_fld R ht ho hf hi hag hx hcs hcut hm) hK
              · cases he
            · cases he
          · cases he
        · cases hc
      · cases hc
    · cases hc
  -- indexAddr
  · rename_i ty x i ho
    split at hc
    · rename_i e x' i' hs hx hi'
      split at hc
      · cases hc
        rename_i hcond
        simp only [evOp, hI] at he
        split at he
        · rename_i j hj
          have H := op_iadS (P := P) (a := a) R hP ht ho hs hcond.1 hcond.2 hx hi' hj
          split at he
          · rename_i e' f xs hz
            split at he
            · rename_i hee; subst hee
              split at he
              · cases he; rename_i y hy; exact comes_wp (H.1 _ _ _ hz hy) hK
              · cases he
            · cases he
          · rename_i k g hz
            split at he
            · rename_i e' ro xs hrow
              split at he
              · rename_i hee; subst hee
                split at he
                · cases he; rename_i y hy; exact comes_wp (H.2 _ _ _ _ _ hz hrow hy) hK
                · cases he
              · cases he
            · cases he
          · cases he
        · cases he
      · cases hc
    · cases hc
  -- index
  · rename_i ty x i ho
    split at hc
    · cases hc
      rename_i x' i' hs hx hi'
      simp only [evOp, hI] at he
      split at he
      · rename_i s j hsx hj
        split at he
        · cases he; rename_i c hcc; exact comes_wp (op_sidx R ht ho hs hx hi' hj hsx hcc) hK
        · cases he
      · cases he
    · cases hc
  -- extract
  · rename_i x i ho
    obtain ⟨x', hx, rfl⟩ := mapped hc
    simp only [evOp] at he
    split at he
    · rename_i vs hvs
      split at he
      · cases he; rename_i hv; exact comes_wp (op_ext R ht ho hx hvs hv) hK
      · cases he
    · cases he
  -- len
  · rename_i args tys _ ho
    split at hc
    · rename_i x ty hargs htys
      split at hc
      · cases hc
        rename_i x' hs hx
        have H := op_len (P := P) (a := a) (h := h) R ht ho hargs htys hx
        simp only [evOp, hI] at he
        split at he
        · cases he; rename_i s hsx; exact comes_wp (H.1 hs _ hsx) hK
        · cases he
      · cases hc
        rename_i e x' hs hx
        have H := op_len (P := P) (a := a) (h := h) R ht ho hargs htys hx
        simp only [evOp, hI] at he
        split at he
        · cases he
          rename_i xs hxs
          exact comes_wp (H.2 _ hs _ hxs) hK
        · cases he
      · cases hc
    · cases hc
  -- append
  · rename_i args tys _ ho
    split at hc
    · rename_i x y ty ty' hargs htys
      split at hc
      · rename_i e x' y' hs hx hy
        split at hc
        · rename_i z hz
          split at hc
          · cases hc
            rename_i hcond
            obtain ⟨rfl, h0⟩ := hcond
            simp only [evOp, hI] at he
            split at he
            · rename_i ys hys
              obtain ⟨hel, hsize⟩ := elemsAt_some R (od_vl ht hy) hys
              rw [hP] at hsize
              split at he
              · rename_i e' hz'
                split at he
                · cases he; rename_i hroom; exact comes_wp (op_app0 R hP ht ho hargs htys hs hz h0 hx hy hel hsize hz' hroom) hK
                · cases he
              · rename_i e' xs hne hz'
                split at he
                · rename_i hee; subst hee
                  split at he
                  · cases he; rename_i hroom; exact comes_wp (op_app1 R hP ht ho hargs htys hs hz h0 hx hy hel hsize hz' hroom) hK
                  · cases he
                · cases he
              · rename_i k g hz'
                split at he
                · rename_i e' xs hrow
                  split at he
                  · rename_i hee; subst hee
                    split at he
                    · cases he; rename_i hroom; exact comes_wp (op_app2 R hP ht ho hargs htys hs hz h0 hx hy hel hsize hz' hrow hroom) hK
                    · cases he
                  · cases he
                · cases he
              · rename_i k g lo hi hz'
                split at he
                · cases he; rename_i hsub; exact comes_wp (op_app3 R hP ht ho hargs htys hs hz h0 hx hy hel hsize hz' hsub) hK
                · cases he
              · cases he
            · cases he
          · cases hc
        · cases hc
      · cases hc
    · cases hc
  -- clear
  · rename_i args tys _ ho
    split at hc
    · rename_i x ty hargs htys
      split at hc
      · rename_i e x' hs hx
        split at hc
        · rename_i z hz
          split at hc
          · cases hc
            rename_i h0
            simp only [evOp, hI] at he
            split at he
            · rename_i k g lo hi hz'
              split at he
              · rename_i e' xs hrow
                split at he
                · rename_i hee; subst hee
                  split at he
                  · cases he; rename_i hzs; exact comes_wp (op_clr R hP ht ho hargs htys hs hz h0 hx hz' hrow hzs) hK
                  · cases he
                · cases he
              · cases he
            · cases he
          · cases hc
        · cases hc
      · cases hc
    · cases hc
  -- max, min
  · rename_i args tys _ ho
    obtain ⟨l, hl, rfl⟩ := mapped hc
    simp only [evOp, hI] at he
    split at he
    · rename_i k n r hr
      split at he
      · cases he; rename_i hm; exact comes_wp (op_mx (big := true) R ht ho hl hr hm) hK
      · cases he
    · cases he
  · rename_i args tys _ ho
    obtain ⟨l, hl, rfl⟩ := mapped hc
    simp only [evOp, hI] at he
    split at he
    · rename_i k n r hr
      split at he
      · cases he; rename_i hm; exact comes_wp (op_mx (big := false) R ht ho hl hr hm) hK
      · cases he
    · cases he
  -- call
  · rename_i f args tys _ ho
    split at hc
    · split at hc
      · obtain ⟨l, hl, rfl⟩ := mapped hc
        simp only [evOp] at he
        refine call_wp hI IH hPr hF R hP (normL_vl _ _ (ods_vl ht hl)) he (fun fn h1 h2 h3 => ?_) hK
        simp [execOp, ho, resolve, Act.eval, invoke, Deferred.ofValue, callFunc_run h1 h2 h3]
        exact Array.ext' (by simp)
      · cases hc
    · cases hc
  · rename_i x args tys ho
    obtain ⟨l, hl, rfl⟩ := mapped hc
    simp only [evOp] at he
    split at he
    · rename_i f caps hfx
      have hv := VL.of_getD ht x
      simp only [od] at hfx
      rw [hfx] at hv
      obtain ⟨cvs, hcv, hcvs⟩ := hv.fn_inv
      refine call_wp hI IH hPr hF R hP ((ods_vl ht hl).append hcvs) he (fun fn h1 h2 h3 => ?_) hK
      simp [execOp, ho, resolve, Act.eval, invoke, Deferred.ofValue, hcv, callFunc_run h1 h2 h3]
    · cases he
  · cases hc
end
end Go.Ab
