/- slices.Insert into a row of the interpreter's own, as one step. -/
import Derived.Test.YtcnohiofldkcoabAbPrim3
namespace Go.Ab
open Go Go.RowKit Go.Shelf Go.Proofs Go.Lib
set_option linter.unusedSimpArgs false
set_option linter.unusedVariables false

section
variable {P : Program} {base : Nat} {h : Store} {E : Env} {ρ : Ren}

theorem append_own (R : Rel base h E) (hP : E.P = P) {ty e : TypeId} (hs : P.underlying ty = some (.slice e)) {z : AV} (hz : zeroOf P e = some z) (h0 : 0 < P.cellsOf e) {k g : Nat} {xs ys : List AV} (hr : rowOf h k g = some (e, false, xs)) {y : AV} {rv yv : Value} (hx : VL E [.sl k g] [rv]) (hy : VL E [y] [yv])
    (hys : elemsOf Ops.std h y = some ys) (hsize : ∀ x, x ∈ ys → x.cells.length = P.cellsOf e) (hroom : Ops.std.room (P.bytesOf e) xs ys = true) :
    ∃ v' E', (∀ rt, (Builtin.append_ #[ty, ty] rt #[rv, yv]).run P E.w = .ok v' E'.w) ∧ Rel base (h.set k (.row e (g + 1) false (xs ++ ys))) E' ∧ Step h E (h.set k (.row e (g + 1) false (xs ++ ys))) E' ∧ VL E' [.sl k (g + 1)] [v'] := by
  let o : Oper := { (default : Oper) with op := .call { callee := .builtin .append, args := #[.tmp 0, .tmp 1], argTypes := #[ty, ty] } }
  let a : Act := { tmps := #[rv, yv], defers := [] }
  have ht : VL E [.sl k g, y] a.tmps.toList := hx.cons hy
  obtain ⟨v', E', hrun, R', S', V'⟩ := op_app2 (P := P) (a := a) (o := o) (x := .tmp 0) (y := .tmp 1) (x' := .t 0) (y' := .t 1) (args := #[.tmp 0, .tmp 1]) (tys := #[ty, ty]) R hP ht rfl rfl rfl hs hz h0 rfl rfl (ys := ys) hys hsize (k := k) (g := g) rfl hr hroom
  refine ⟨v', E', fun rt => ?_, R', S', V'⟩
  have e1 : a.eval (.tmp 0) = rv := rfl
  have e2 : a.eval (.tmp 1) = yv := rfl
  show (Builtin.append_ #[ty, ty] o.type #[rv, yv]).run P E.w = _
  cases hX : (Builtin.append_ #[ty, ty] o.type #[rv, yv]).run P E.w with
  | ok v w1 =>
    have := app_run (P := P) (a := a) (o := o) (x := .tmp 0) (y := .tmp 1) (args := #[.tmp 0, .tmp 1]) (tys := #[ty, ty]) rfl rfl rfl hX
    rcases hrun with hrun | ⟨hrun, _⟩
    · rw [this] at hrun; cases hrun; rfl
    · rw [this] at hrun; cases hrun
  | halt hl w1 =>
    exfalso
    have hx2 : (execOp a.eval o).run P E.w = .halt hl w1 := by
      simp [execOp, o, resolve, invoke, builtin, e1, e2, hX, Result.andThen]
    rcases hrun with hrun | ⟨hrun, _⟩ <;> (rw [hx2] at hrun; cases hrun)

theorem setCells_heap {b : Nat} {t : TypeId} {fr : Nat × Nat} : ∀ (vs : List Value) (o : Nat) (w : World) (cur : Array Value), w.heap[b]? = some (.cells cur t fr) → o + vs.length ≤ cur.size →
    ∃ cur' : Array Value, (w.setCells b o vs).heap[b]? = some (.cells cur' t fr) ∧ cur'.toList = cur.toList.take o ++ vs ++ cur.toList.drop (o + vs.length) ∧ (w.setCells b o vs).os = w.os ∧ (w.setCells b o vs).tape = w.tape ∧ (w.setCells b o vs).output = w.output ∧ (w.setCells b o vs).heap.size = w.heap.size ∧ ∀ j, j ≠ b → (w.setCells b o vs).heap[j]? = w.heap[j]? := by
  intro vs
  induction vs with
  | nil => intro o w cur hh hle; exact ⟨cur, hh, by simp, rfl, rfl, rfl, rfl, fun _ _ => rfl⟩
  | cons v r ih =>
    intro o w cur hh hle
    simp only [List.length_cons] at hle
    have h1 : (w.setCell ⟨b, o, none⟩ v).heap[b]? = some (.cells (cur.setIfInBounds o v) t fr) := by
      have hb := (Array.getElem?_eq_some_iff.1 hh).1
      simp only [World.setCell, Array.getElem?_modify, if_true]
      rw [hh]; rfl
    obtain ⟨cur', e1, e2, e3, e4, e5, e6, e7⟩ := ih (o + 1) (w.setCell ⟨b, o, none⟩ v) _ h1 (by simp; omega)
    refine ⟨cur', e1, ?_, e3, e4, e5, by rw [World.setCells, e6]; simp [World.setCell], fun j hj => by
      rw [World.setCells, e7 j hj]
      simp only [World.setCell, Array.getElem?_modify]
      rw [if_neg (Ne.symm hj)]⟩
    rw [e2]
    have hol : o < cur.toList.length := by simp; omega
    simp only [Array.toList_setIfInBounds, List.length_cons]
    rw [List.take_set, List.take_succ_eq_append_getElem hol, List.drop_set_of_lt (by omega)]
    rw [List.set_append_right _ _ (by simp; omega)]
    simp only [Nat.add_assoc, Nat.add_comm 1, List.length_take, List.append_assoc]
    rw [show o - min o cur.toList.length = 0 by omega]
    rfl

theorem ins_list1 {α : Type} (cur olds news : List α) (p s N : Nat) (ho : olds = cur.take N) (hn : news.length = s) (hp : p ≤ N) (hle : N + s ≤ cur.length) (c1 c2 : List α)
    (h1 : c1 = cur.take (p + s) ++ olds.drop p ++ cur.drop (p + s + (olds.drop p).length)) (h2 : c2 = c1.take p ++ news ++ c1.drop (p + news.length)) :
    c2.take (N + s) = olds.take p ++ (news ++ olds.drop p) ∧ c2.length = cur.length := by
  have hol : olds.length = N := by rw [ho, List.length_take]; omega
  have hl1 : c1.length = cur.length := by rw [h1]; simp only [List.length_append, List.length_take, List.length_drop, hol]; omega
  have ht : c1.take p = olds.take p := by
    rw [h1, List.append_assoc, List.take_append_of_le_length (by rw [List.length_take]; omega), List.take_take, ho, List.take_take]
    congr 1; omega
  have hd : c1.drop (p + s) = olds.drop p ++ cur.drop (p + s + (olds.drop p).length) := by
    rw [h1, List.append_assoc]
    exact List.drop_left' (by rw [List.length_take]; omega)
  rw [hn, ht, hd] at h2
  refine ⟨?_, ?_⟩
  · have : c2 = (olds.take p ++ (news ++ olds.drop p)) ++ cur.drop (p + s + (olds.drop p).length) := by rw [h2]; simp [List.append_assoc]
    rw [this]
    have hl : (olds.take p ++ (news ++ olds.drop p)).length = N + s := by simp only [List.length_append, List.length_take, List.length_drop, hol, hn]; omega
    rw [← hl]; exact List.take_left
  · rw [h2]; simp only [List.length_append, List.length_take, List.length_drop, hol, hn]; omega

theorem ins_list2 {α : Type} (row olds news : List α) (p s N : Nat) (hol : olds.length = N) (hr : row.take p = olds.take p) (hn : news.length = s) (hp : p ≤ N) (hle : N + s ≤ row.length) (c1 c2 : List α)
    (h1 : c1 = row.take p ++ news ++ row.drop (p + news.length)) (h2 : c2 = c1.take (p + s) ++ olds.drop p ++ c1.drop (p + s + (olds.drop p).length)) :
    c2.take (N + s) = olds.take p ++ (news ++ olds.drop p) ∧ c2.length = row.length := by
  have hl1 : c1.length = row.length := by rw [h1]; simp only [List.length_append, List.length_take, List.length_drop, hn]; omega
  have ht : c1.take (p + s) = olds.take p ++ news := by
    rw [h1, hr]
    have : (olds.take p ++ news).length = p + s := by simp only [List.length_append, List.length_take, hn, hol]; omega
    rw [← this]; exact List.take_left
  rw [ht] at h2
  refine ⟨?_, ?_⟩
  · have : c2 = (olds.take p ++ (news ++ olds.drop p)) ++ c1.drop (p + s + (olds.drop p).length) := by rw [h2]; simp [List.append_assoc]
    rw [this]
    have hl : (olds.take p ++ (news ++ olds.drop p)).length = N + s := by simp only [List.length_append, List.length_take, List.length_drop, hol, hn]; omega
    rw [← hl]; exact List.take_left
  · rw [h2]; simp only [List.length_append, List.length_take, List.length_drop, hol, hn, hl1]; omega

theorem insert_ok (L : InsLaid P ρ) {z : AV} (hz : zeroOf P (ρ.t 9) = some z) (h0 : 0 < P.cellsOf (ρ.t 9)) : PrimOk P base (ρ.f 22) (.insert (ρ.t 9) (P.bytesOf (ρ.t 9))) := by
  refine ⟨?_, fun args h v h3 m he E vs hP R V => ?_⟩
  · obtain ⟨nm, hn, hf⟩ := L.f22
    exact ⟨_, hf, rfl, by simpa using hn⟩
  · simp only [primOp] at he
    split at he
    · rename_i k g i e2 f ys
      split at he
      · rename_i y hye
        split at he
        · rename_i e' xs hr
          split at he
          · rename_i hee
            subst hee
            split at he
            · rename_i la lb hroom hla hlb
              cases he
              obtain ⟨rv, us1, rfl, hx, V1⟩ := V.uncons
              obtain ⟨iv, us2, rfl, hiv, V2⟩ := V1.uncons
              obtain ⟨yv, us3, rfl, hy, V3⟩ := V2.uncons
              cases V3
              have hiv := hiv.sc_inv.1
              subst hiv
              subst hP
              -- the bounds
              have hi0 : 0 ≤ i ∧ i ≤ xs.length ∧ la = xs.take i.toNat ∧ lb = xs.drop i.toNat := by
                simp only [Ops.std] at hla hlb
                split at hla
                · rename_i hc
                  cases hla
                  split at hlb
                  · cases hlb
                    refine ⟨hc.2.1, hc.2.2, by simp, by simp⟩
                  · cases hlb
                · cases hla
              obtain ⟨hi0, hin, rfl, rfl⟩ := hi0
              obtain ⟨i, rfl⟩ := Int.eq_ofNat_of_zero_le hi0
              simp only [Int.ofNat_eq_natCast, Int.toNat_natCast] at *
              have hin : i ≤ xs.length := by omega
              obtain ⟨hel, hsy⟩ := elemsAt_some R hy hye
              have hk := rowOf_some hr
              obtain ⟨hgen, htop, hesz, hsx, olds, hrow, hdx, honex⟩ := R.ent k _ hk
              have hv := hx.sl_inv.2.2.2 hgen
              obtain ⟨ad, yc, news, rfl, hyc, hym, _, _, hdy, honey, hrdy⟩ := hy.lit_inv.lit_inv
              have hys1 : ys = [y] := by simpa [elemsOf] using hel
              subst hys1
              obtain ⟨hb, hl⟩ := room_std hroom
              simp only [List.length_singleton] at hb hl
              obtain ⟨i0, zv, hi, hzv, hzs, _, _⟩ := zeroOf_some (E := E) hz
              have his : i0.size = E.P.cellsOf (ρ.t 9) := by simp [Program.cellsOf, hi]
              have hib : i0.bytes = E.P.bytesOf (ρ.t 9) := by simp [Program.bytesOf, hi]
              have z9 : ∀ w, (Go.sizeOf (ρ.t 9)).run E.P w = .ok (E.P.cellsOf (ρ.t 9)) w := fun w => run_sizeOf (by rw [hi]; rfl)
              have hk9 : (E.P.info? (ρ.t 9)).map (·.size) = some (E.P.cellsOf (ρ.t 9)) := by rw [hi]; simp [his]
              show Calls E.P (ρ.f 22) #[rv, .int .i64 i, .slice ad [y].length yc] E.w _
              have hol := hrow.1
              have hnl : news.length = 1 * E.P.cellsOf (ρ.t 9) := by rw [hdy.length, flat_len hsy]; rfl
              by_cases hend : i = xs.length
              · subst hend
                obtain ⟨v', E', hrun, R', S', V'⟩ := append_own R rfl L.t24 hz h0 hr hx hy hel hsy hroom
                have hlist : Ops.std.lapp (xs.take xs.length) (Ops.std.lapp [y] (xs.drop xs.length)) = xs ++ [y] := by simp [Ops.std]
                rw [hlist]
                rw [hv] at hrun ⊢
                have hrv : ∃ bd cap, E.row k = .slice bd xs.length cap := by
                  rcases hrow.2 with ⟨hn, a', ha⟩ | ⟨g', cap, cur, _, ha, _⟩
                  · exact ⟨a', 0, by rw [ha, hn]⟩
                  · exact ⟨_, cap, ha⟩
                obtain ⟨bd, cap, hre⟩ := hrv
                rw [hre] at hrun ⊢
                exact (ins_end L z9 bd xs.length cap 1 yc ad E.w E'.w v' (by omega) hrun).mono fun e w' ⟨he, hw⟩ => ⟨v', E', he, hw.symm, R', S', V'⟩
              · have hlt : i < xs.length := by omega
                have hnpos : 0 < news.length := by rw [hnl]; omega
                obtain ⟨vb, voff, rfl, hvown, hv0⟩ := hrdy 0 _ (List.getElem?_eq_getElem hnpos)
                have hvs : ∀ j u, news[j]? = some u → E.w.cell? ⟨vb, voff + j, none⟩ = some u := fun j u hj => by
                  obtain ⟨b', o', hab, _, hc'⟩ := hrdy j u hj
                  injection hab with hab
                  injection hab with e1 e2 _
                  subst e1 e2
                  exact hc'
                rcases hrow.2 with ⟨hn0, _⟩ | ⟨b0, cap, cur, hc0, ha, hbb, hh, hle, hmx, hcs, htk⟩
                · omega
                · have hblk0 : rowBlk (E.row k) = some b0 := by
                    rw [ha]
                    cases cap with
                    | zero => omega
                    | succ c' => rfl
                  have hbk : blkOf E h k = some b0 := (blkOf_of hk).trans hblk0
                  have hne : vb ≠ b0 := fun e => hvown (by rw [e]; exact R.own k b0 hbk)
                  generalize hS : E.P.cellsOf (ρ.t 9) = s at *
                  have hcell : ∀ q, E.w.cell? ⟨b0, q, none⟩ = cur[q]? := fun q => cell_of_row E.w b0 q cur _ (0, 0) hh
                  have hfro : ∀ q, E.w.frozen? ⟨b0, q, none⟩ = false := fun q => by simp [World.frozen?, hh]
                  have hmul : i * s ≤ xs.length * s := Nat.mul_le_mul_right _ hin
                  have hn1 : news.length = s := by rw [hnl, Nat.one_mul]
                  have hsz1 : (xs.length + 1) * s = xs.length * s + s := by rw [Nat.add_mul, Nat.one_mul]
                  have hiz1 : (i + 1) * s = i * s + s := by rw [Nat.add_mul, Nat.one_mul]
                  have hs' : ∀ x, x ∈ xs.take i ++ ([y] ++ xs.drop i) → x.cells.length = E.P.cellsOf (ρ.t 9) := fun x hx => by
                    rw [hS]
                    rcases List.mem_append.1 hx with hx | hx
                    · exact hsx x (List.mem_of_mem_take hx)
                    · rcases List.mem_append.1 hx with hx | hx
                      · exact hsy x hx
                      · exact hsx x (List.mem_of_mem_drop hx)
                  have hone' : ∀ u, u ∈ olds.take (i * s) ++ (news ++ olds.drop (i * s)) → u.oneCell' = true := fun u hu => by
                    rcases List.mem_append.1 hu with hu | hu
                    · exact honex u (List.mem_of_mem_take hu)
                    · rcases List.mem_append.1 hu with hu | hu
                      · exact honey u hu
                      · exact honex u (List.mem_of_mem_drop hu)
                  have hdl' : DL E.P E.w E.own (flat (xs.take i ++ ([y] ++ xs.drop i))) (olds.take (i * s) ++ (news ++ olds.drop (i * s))) := by
                    rw [flat_append, flat_append, flat_take hsx, flat_drop hsx]
                    exact (hdx.take _).append (hdy.append (hdx.drop _))
                  have hxl : (xs.take i ++ ([y] ++ xs.drop i)).length = xs.length + 1 := by simp only [List.length_append, List.length_take, List.length_drop, List.length_singleton]; omega
                  have hvl' : (olds.take (i * s) ++ (news ++ olds.drop (i * s))).length = (xs.length + 1) * s := by
                    simp only [List.length_append, List.length_take, List.length_drop, hol, hn1]; omega
                  have hlist : Ops.std.lapp (xs.take i) (Ops.std.lapp [y] (xs.drop i)) = xs.take i ++ ([y] ++ xs.drop i) := rfl
                  rw [hlist, hv, ha]
                  have hcur : cur.toList.length = cap * s := by simpa using hcs
                  by_cases hroomy : xs.length + 1 ≤ cap
                  · have hcap : (xs.length + 1) * s ≤ cap * s := Nat.mul_le_mul_right _ hroomy
                    have hov : ∀ lb cb, (callFunc (ρ.f 29) #[.slice (some ⟨vb, voff, none⟩) 1 yc, .slice (some ⟨b0, 0 + (i + 1) * s, none⟩) lb cb]).run E.P E.w = .ok (.value (.bool false)) E.w := fun lb cb =>
                      L.ov _ _ _ (run_overlaps_two E.w (ρ.t 24) (ρ.t 4) (ρ.t 9) L.t24 s z9 ⟨vb, voff, none⟩ ⟨b0, 0 + (i + 1) * s, none⟩ 1 yc lb cb hne (hvs 0 _ (List.getElem?_eq_getElem hnpos)) hh (by rw [hcs]; have := Nat.mul_pos hc0 h0; omega))
                    refine (ins_shift L hk9 z9 b0 0 xs.length cap i vb voff 1 yc olds news E.w hlt (by omega) hroomy (by unfold maxLen at hmx; omega) hne hol hnl
                      (fun j u hj => by rw [Nat.zero_add, hcell, ← Array.getElem?_toList]; rw [← htk, List.getElem?_take] at hj; split at hj; exact hj; cases hj)
                      (fun j hj => by rw [Nat.zero_add, hcell, Array.getElem?_eq_getElem (by rw [hcs]; omega)]; rfl) (fun j _ => hfro _) hvs honex honey hov).mono fun e w' ⟨he, hw⟩ => ?_
                    rw [Nat.zero_add, Nat.zero_add] at hw
                    obtain ⟨c1, a1, a2, a3, a4, a5, a6, a7⟩ := setCells_heap (b := b0) (olds.drop (i * s)) ((i + 1) * s) E.w.drew cur hh (by simp only [List.length_drop, hol]; rw [hcs]; omega)
                    have hl1 : c1.size = cur.size := by
                      have : c1.toList.length = cur.toList.length := by rw [a2]; simp only [List.length_append, List.length_take, List.length_drop, hol, hcur]; omega
                      simpa using this
                    obtain ⟨c2, b1, b2, b3, b4, b5, b6, b7⟩ := setCells_heap (b := b0) news (i * s) _ c1 a1 (by rw [hn1, hl1, hcs]; omega)
                    rw [hiz1] at a2
                    obtain ⟨l1, l2⟩ := ins_list1 cur.toList olds news (i * s) s (xs.length * s) htk.symm hn1 hmul (by rw [hcur]; omega) c1.toList c2.toList a2 b2
                    rw [← hw] at b1 b3 b4 b5 b6 b7
                    have hrv' : rowBlk (.slice (some ⟨b0, 0, none⟩) (xs.length + 1) cap) = some b0 := by
                      cases cap with
                      | zero => omega
                      | succ c' => rfl
                    obtain ⟨E', hw', R', S', V'⟩ := row_new (base := base) R hk (w' := w') (v' := .slice (some ⟨b0, 0, none⟩) (xs.length + 1) cap) (xs' := xs.take i ++ ([y] ++ xs.drop i)) (vals' := olds.take (i * s) ++ (news ++ olds.drop (i * s))) (b3.trans a3) (b4.trans a4) (b5.trans a5) (by rw [b6, a6]; exact Nat.le_refl _)
                      (fun b _ hnb => by
                        have : b ≠ b0 := fun e => hnb (by rw [hblk0, e])
                        rw [b7 b this, a7 b this]; rfl)
                      (fun b hb => by rw [hrv'] at hb; cases hb; exact ⟨.inl hblk0, by rw [b6, a6]; exact blk_lt R hbk⟩)
                      (by
                        rw [hS]
                        refine ⟨by rw [hvl', hxl], .inr ⟨b0, cap, c2, hc0, by rw [hxl], hbb, b1, by rw [hxl]; exact hroomy, hmx, ?_, ?_⟩⟩
                        · have : c2.toList.length = cap * s := by rw [l2, hcur]
                          simpa using this
                        · rw [hxl, hsz1]; exact l1) rfl hs' hone' hdl'
                    exact ⟨_, E', he, hw', R', S', V'⟩
                  · have hgt : cap < xs.length + 1 := by omega
                    refine (ins_grow L i0 zv hi hzv his h0 hzs z9 b0 0 xs.length cap i vb voff 1 yc olds news E.w hlt (by omega) hle hgt (by rw [hib]; exact hb) hl hol hnl
                      (fun j u hj => by rw [Nat.zero_add, hcell, ← Array.getElem?_toList]; rw [← htk, List.getElem?_take] at hj; split at hj; exact hj; cases hj) hvs honex honey).mono fun e w' ⟨he, hw⟩ => ?_
                    have hge := grownCap_ge E.w (xs.length + 1) cap (ρ.t 9)
                    have hgl := grownCap_le_maxLen E.w (xs.length + 1) cap (ρ.t 9) hl
                    generalize hG : grownCap E.w (xs.length + 1) cap (ρ.t 9) = G at *
                    generalize hROW : (olds.take (i * s)).toArray ++ Builtin.zeroCells zv.cells (xs.length + 1 - i) ++ Builtin.zeroCells zv.cells (G - (xs.length + 1)) = ROW at *
                    have hRs : ROW.size = G * s := by
                      rw [← hROW]
                      simp only [Array.size_append, List.size_toArray, List.length_take, size_zeroCells, hzs, hol]
                      have e1 : i * s + (xs.length + 1 - i) * s = (xs.length + 1) * s := by rw [← Nat.add_mul]; congr 1; omega
                      have e2 : (xs.length + 1) * s + (G - (xs.length + 1)) * s = G * s := by rw [← Nat.add_mul]; congr 1; omega
                      omega
                    have hRl : ROW.toList.length = G * s := (Array.length_toList (xs := ROW)).trans hRs
                    have hcapG : (xs.length + 1) * s ≤ G * s := Nat.mul_le_mul_right _ hge
                    have hRt : ROW.toList.take (i * s) = olds.take (i * s) := by
                      rw [← hROW]
                      simp only [Array.toList_append, List.append_assoc]
                      rw [List.take_append_of_le_length (by simp only [List.length_take, hol]; omega), List.take_take, Nat.min_self]
                    obtain ⟨c1, a1, a2, a3, a4, a5, a6, a7⟩ := setCells_heap (b := E.w.heap.size) news (i * s) ((E.w.alloc (.cells ROW (ρ.t 9))).drew) ROW (heap_alloc_new E.w _) (by rw [hRs, hn1]; omega)
                    have hl1 : c1.size = ROW.size := by
                      have : c1.toList.length = ROW.toList.length := by rw [a2]; simp only [List.length_append, List.length_take, List.length_drop, hn1, Array.length_toList, hRs]; omega
                      simpa using this
                    obtain ⟨c2, b1, b2, b3, b4, b5, b6, b7⟩ := setCells_heap (b := E.w.heap.size) (olds.drop (i * s)) ((i + 1) * s) ((((E.w.alloc (.cells ROW (ρ.t 9))).drew).setCells E.w.heap.size (i * s) news).drew) c1 a1 (by rw [hl1, hRs]; simp only [List.length_drop, hol]; omega)
                    rw [hiz1] at b2
                    obtain ⟨l1, l2⟩ := ins_list2 ROW.toList olds news (i * s) s (xs.length * s) hol hRt hn1 hmul (by rw [hRl]; omega) c1.toList c2.toList a2 b2
                    rw [← hw] at b1 b3 b4 b5 b6 b7
                    have hrv' : rowBlk (.slice (some ⟨E.w.heap.size, 0, none⟩) (xs.length + 1) G) = some E.w.heap.size := by
                      cases G with
                      | zero => omega
                      | succ c' => rfl
                    have hsz' : w'.heap.size = E.w.heap.size + 1 := by
                      rw [b6]
                      show (((E.w.alloc (.cells ROW (ρ.t 9))).drew).setCells E.w.heap.size (i * s) news).heap.size = _
                      rw [a6]
                      show (E.w.alloc (.cells ROW (ρ.t 9))).heap.size = _
                      simp
                    obtain ⟨E', hw', R', S', V'⟩ := row_new (base := base) R hk (w' := w') (v' := .slice (some ⟨E.w.heap.size, 0, none⟩) (xs.length + 1) G) (xs' := xs.take i ++ ([y] ++ xs.drop i)) (vals' := olds.take (i * s) ++ (news ++ olds.drop (i * s))) (b3.trans a3) (b4.trans a4) (b5.trans a5) (by omega)
                      (fun b hb _ => by
                        have hbn : b ≠ E.w.heap.size := by omega
                        rw [b7 b hbn]
                        show (((E.w.alloc (.cells ROW (ρ.t 9))).drew).setCells E.w.heap.size (i * s) news).heap[b]? = _
                        rw [a7 b hbn]
                        exact Go.heap_alloc_old E.w _ hb)
                      (fun b hb => by rw [hrv'] at hb; cases hb; exact ⟨.inr (Nat.le_refl _), by omega⟩)
                      (by
                        rw [hS]
                        refine ⟨by rw [hvl', hxl], .inr ⟨E.w.heap.size, G, c2, by omega, by rw [hxl], R.le, b1, by rw [hxl]; exact hge, hgl, ?_, ?_⟩⟩
                        · have : c2.toList.length = G * s := by rw [l2, hRl]
                          simpa using this
                        · rw [hxl, hsz1]; exact l1) rfl hs' hone' hdl'
                    exact ⟨_, E', he, hw', R', S', V'⟩
            · cases he
          · cases he
        · cases he
      · cases he
    · cases he
end
end Go.Ab
