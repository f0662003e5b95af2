/- A function: its call. -/
import Derived.Test.YtcnohiofldkcoabAbFn2
namespace Go.Ab
open Go
set_option linter.unusedSimpArgs false
set_option linter.unusedVariables false

theorem cmpFn_some {P : Program} {kmd : Md} {fz : List Nat} {f : FuncId} {fn : Fn} (h : cmpFn P kmd fz f = some fn) : ∃ g c, P.funcs[f]? = some g ∧ g.body = some c ∧ (∃ rt af, cmp P fz rt [] af c = some fn.body) ∧ cmpRs P g.results.toList = some fn.results ∧ fn.ntmps = g.ntmps ∧ g.name ≠ "runtime.NumGoroutine" := by
  unfold cmpFn at h
  split at h
  · rename_i g hg
    split at h
    · rename_i c hc
      split at h
      · rename_i rs hrs
        split at h
        · rename_i b hb
          split at h
          · rename_i hn
            cases h
            exact ⟨g, c, hg, hc, ⟨_, _, hb⟩, hrs, rfl, hn⟩
          · cases h
        · cases h
      · cases h
    · cases h
  · cases h

def packV : List Value → Value
  | [v] => v
  | l => .tuple l.toArray

theorem results_eq (fn : Func) (tmps : Array Value) {P : Program} {w : World} {us : List Value} (h : (fn.results.toList.mapM (resOne tmps)).run P w = .ok us w) : (Go.results fn tmps).run P w = .ok (packV us) w := by
  have e : Go.results fn tmps = (do let vs ← fn.results.mapM (resOne tmps); pure (if h : vs.size = 1 then vs[0] else .tuple vs)) := by
    unfold Go.results
    congr 1
  rw [e, Array.mapM_eq_mapM_toList]
  rcases us with _ | ⟨v, _ | ⟨v', r⟩⟩ <;> simp [h, packV]

theorem pack_vl {E : Env} {l : List AV} {us : List Value} (h : VL E l us) : VL E [match (generalizing := false) l with | [v] => v | l => .tup l] [packV us] := by
  have hl := h.length
  match l, us, hl, h with
  | [], [], _, h => exact .tup h .nil
  | [x], [v], _, h => exact h
  | x :: y :: r, v :: u :: q, _, h => exact .tup h .nil

theorem runFn_sound {P : Program} {base : Nat} {I : Ifc} (hm : P.follows .mixedOrders = true) (hI : I.o = Ops.std) (IH : CallOk P base I) (hPr : PrimsOk P base I) (hF : FnsOk P I) (hL : LoopOk P base I) (hS : SegOk P base I) {kmd : Md} {fz : List Nat} {f : FuncId} {fn : Fn} (hc : cmpFn P kmd fz f = some fn) {args : List AV} {s h2 : Store} {r : AV} (hr : runFn I fn args s = some (r, h2)) (E : Env) (vs : List Value) (hP : E.P = P) (R : Rel base s E) (V : VL E args vs) :
    Calls P f vs.toArray E.w fun e w' => ∃ v E', e = .returned v ∧ E'.w = w' ∧ Rel base h2 E' ∧ Step s E h2 E' ∧ VL E' [r] [v] := by
  obtain ⟨g, c, hg, hb, ⟨rt, af, hcc⟩, hrs, hnt, _⟩ := cmpFn_some hc
  have hlen : vs.toArray.size = args.length := by simpa using V.length
  have V0 : VL E (args ++ List.replicate (fn.ntmps - args.length) .bad) (vs.toArray ++ Array.replicate (g.ntmps - vs.toArray.size) undef).toList := by
    rw [Array.toList_append, hlen, hnt]
    refine VL.append V ?_
    simp only [Array.toList_replicate]
    generalize g.ntmps - args.length = m
    induction m with
    | zero => exact .nil
    | succ m ih => exact .bad ih
  unfold runFn at hr
  split at hr
  · cases hr
  · cases hr
  · rename_i x st hne hex
    split at hr
    · cases hr
    · rename_i rs hres
      have lit : ∀ md : Md, (match lay I.o s.length st.h md.kp (normL fn.rsh rs) [] with
          | none => none
          | some (rs', ks) => match outer s.length st.h, kept st.h ks with
            | some a, some b => some (match (generalizing := false) rs' with | [v] => v | l => .tup l, a ++ b)
            | _, _ => none) = some (r, h2) →
          Calls P f vs.toArray E.w fun e w' => ∃ v E', e = .returned v ∧ E'.w = w' ∧ Rel base h2 E' ∧ Step s E h2 E' ∧ VL E' [r] [v] := fun md hr => by
        split at hr
        · cases hr
        · rename_i rs' ks hlay
          split at hr
          · rename_i a b ha hkb
            simp only [Option.some.injEq, Prod.mk.injEq] at hr
            obtain ⟨rfl, rfl⟩ := hr
            rw [hI] at hres hlay
            refine calls_of_wp hg hb ?_
            refine exec_sound hm hI IH hPr hF hL hS c fz rt [] af fn.body hcc _ x st hex E _ _ hP R V0 fun E1 a1 R1 S1 V1 hd => ?_
            obtain ⟨us, h1, h3⟩ := results_run R1 (S1.ext.P.trans hP) V1 g.results.toList hrs hres
            have hbox : ∀ k, k < s.length → ∃ t cs, st.h[k]? = some (Ent.box t cs) := fun k hk => by
              obtain ⟨_, _, h⟩ := outer_some _ ha
              obtain ⟨_, t, cs, h, _⟩ := h k hk
              exact ⟨t, cs, h⟩
            have hk0 : KsOk st.h s.length [] := ⟨List.nodup_nil, fun k hk => by simp at hk⟩
            obtain ⟨hks, _, hkf⟩ := lay_ks _ _ _ _ hlay hk0
            have V2 := lay_vl R1 hbox _ hlay hk0 (normL_vl _ _ h3) ⟨[], by simp⟩ hkf
            have R2 := out_rel R1 ha hkb hks
            have S2 := out_step R rfl S1 ha hkb R1
            have hpost : a1.defers = [] ∧ ∃ v, (Go.results g a1.tmps).run P E1.w = .ok v E1.w ∧ ∃ v' E', Ending.returned v = .returned v' ∧ E'.w = E1.w ∧ Rel base (a ++ b) E' ∧ Step s E (a ++ b) E' ∧ VL E' [match (generalizing := false) rs' with | [v] => v | l => .tup l] [v'] :=
              ⟨hd, _, results_eq g a1.tmps h1, _, outEnv E1 st.h s.length ks, rfl, rfl, R2, S2, pack_vl V2⟩
            cases x with
            | nor => exact hpost
            | ret => exact hpost
            | brk id => exact absurd rfl (hne id)
          · cases hr
      split at hr
      · split at hr
        case h_1 => cases hr
        rename_i rs1 hs1 htr
        split at hr
        · cases hr
        · rename_i rs' s' hgc
          simp only [Option.some.injEq, Prod.mk.injEq] at hr
          obtain ⟨rfl, rfl⟩ := hr
          rw [hI] at hres htr
          refine calls_of_wp hg hb ?_
          refine exec_sound hm hI IH hPr hF hL hS c fz rt [] af fn.body hcc _ x st hex E _ _ hP R V0 fun E1 a1 R1 S1 V1 hd => ?_
          obtain ⟨us, h1, h3⟩ := results_run R1 (S1.ext.P.trans hP) V1 g.results.toList hrs hres
          obtain ⟨E2, w2, R2, S2, V2⟩ := trim_ok R1 (normL_vl fn.rsh rs h3) htr
          obtain ⟨E3, w3, R3, S3, V3⟩ := gc_ok R (S1.trans S2 R.lt) R2 V2 hgc
          have hpost : a1.defers = [] ∧ ∃ v, (Go.results g a1.tmps).run P E1.w = .ok v E1.w ∧ ∃ v' E', Ending.returned v = .returned v' ∧ E'.w = E1.w ∧ Rel base s' E' ∧ Step s E s' E' ∧ VL E' [match (generalizing := false) rs' with | [v] => v | l => .tup l] [v'] :=
            ⟨hd, _, results_eq g a1.tmps h1, _, E3, rfl, w3.trans w2, R3, S3, pack_vl V3⟩
          cases x with
          | nor => exact hpost
          | ret => exact hpost
          | brk id => exact absurd rfl (hne id)
      · exact lit _ hr
end Go.Ab
