/- Rows that are only read from now on; stores and lists of what leads to rows. -/
import Derived.Test.YtcnohiofldkcoabAbCall
namespace Go.Ab
open Go
set_option linter.unusedSimpArgs false
set_option linter.unusedVariables false

section
variable {P : Program} {base : Nat} {h : Store} {E : Env} {t : List AV} {a : Act}

def shutEnv (E : Env) (h : Store) (ks : List Nat) : Env := { E with own := fun b => E.own b ∧ ¬ LentK E h ks b }

theorem shut_rel (R : Rel base h E) (ks : List Nat) : Rel base (shut ks h) (shutEnv E h ks) ∧ Step h E (shut ks h) (shutEnv E h ks) := by
  obtain ⟨hlen, hsp⟩ := shut_spec ks h
  have hx : Ext E (shutEnv E h ks) := ⟨rfl, Nat.le_refl _, fun _ _ => Nat.le_refl _, fun _ _ _ _ h => ⟨h, rfl, rfl⟩, fun _ _ => rfl, fun a v ho hc => ⟨fun hh => ho hh.1, hc⟩⟩
  have hblk : ∀ k b, blkOf (shutEnv E h ks) (shut ks h) k = some b → blkOf E h k = some b ∧ ¬ (k ∈ ks ∧ ∃ e g ro xs, h[k]? = some (Ent.row e g ro xs)) := fun k b hb => by
    obtain ⟨e, he, hbe⟩ := blkOf_some hb
    rw [entBlk_same (E := E) (E' := shutEnv E h ks) rfl rfl] at hbe
    have hno : ¬ (k ∈ ks ∧ ∃ e g ro xs, h[k]? = some (Ent.row e g ro xs)) := fun ⟨hk, e', g, ro, xs, hr⟩ => by
      rw [shut_row ks hk hr] at he
      cases he
      cases hbe
    rcases hsp k with h1 | ⟨e', g, ro, xs, h1, h2, h3⟩
    · exact ⟨by rw [blkOf_of (h1.symm.trans he)]; exact hbe, hno⟩
    · exact absurd ⟨h3, e', g, ro, xs, h1⟩ hno
  refine ⟨⟨R.n.trans hlen.symm, R.le, fun k e he => ?_, fun k hk => R.nogen k (by rw [← hlen]; exact hk), fun k b hb => ?_, fun i j b hi hj => R.inj i j b (hblk i b hi).1 (hblk j b hj).1, fun b hb => R.lt b hb.1⟩,
    ⟨hx, rfl, rfl, rfl, Nat.le_refl _, fun _ _ _ => rfl, fun _ hb => .inl hb.1, fun b hb hn => ⟨hb, fun ⟨k, _, _, hk⟩ => hn k hk⟩, fun k b hb => .inl ⟨k, (hblk k b hb).1⟩⟩⟩
  · rcases hsp k with h1 | ⟨e', g, ro, xs, h1, h2, h3⟩
    · exact (R.ent k e (h1.symm.trans he)).step hx ⟨rfl, rfl, rfl, rfl, rfl⟩ (fun b hb => rfl)
    · rw [h2] at he; cases he
      have hro := R.ent k _ h1
      have hr : rowOf h k g = some (e', ro, xs) := by simp only [rowOf, h1, if_true]
      obtain ⟨hgen, hesz, _⟩ := row_reads R hr
      have htop : E.top k = g := by cases ro with
        | true => exact hro.2.1
        | false => exact hro.2.1
      have hd := row_lit (L := LentK E h ks) R hr (fun b hb => ⟨k, h3, ⟨_, _, _, _, h1⟩, hb⟩)
      refine ⟨hgen, htop, hesz, hd, fun hne => ?_⟩
      cases ro with
      | true => exact hro.2.2.2.2 hne
      | false =>
        obtain ⟨_, _, _, _, vals, hrow, _⟩ := hro
        rcases hrow.2 with ⟨hn, _⟩ | ⟨b0, cap, cur, _, ha, _⟩
        · exact absurd (List.eq_nil_of_length_eq_zero hn) hne
        · exact ⟨b0, _, _, ha⟩
  · obtain ⟨h1, h2⟩ := hblk k b hb
    refine ⟨R.own k b h1, fun ⟨k', hk', hr', hb'⟩ => ?_⟩
    have := R.inj k' k b hb' h1
    subst this
    exact h2 ⟨hk', hr'⟩

theorem sized_one {n : Nat} {x : AV} (hs : sized n [x] = true) : x.cells.length = n ∧ x.cells.all AV.one = true := by
  simpa [sized] using hs

theorem op_storeF (R : Rel base h E) (hP : E.P = P) (ht : VL E t a.tmps.toList) {o : Oper} {ty : TypeId} {p x : Operand} (ho : o.op = .store ty p x) (hi : (P.info? ty).isSome = true) {p' x' : Od} (hp : cmpOd p = some p') (hx : cmpOd x = some x')
    {xa : AV} (hxa : lendV Ops.std h (od t x') = some xa) (hsz : sized (P.cellsOf ty) [xa] = true) (hxd : xa.data = true) {k g : Nat} {i : Int} {off : Nat} (hb : od t p' = .rptr k g i off) {e : TypeId} {xs : List AV} (hr : rowOf (shut (refs1 (od t x')) h) k g = some (e, false, xs)) {y : AV} (hy : Ops.std.lget xs i = some y) (hle : off + P.cellsOf ty ≤ y.cells.length) :
    Comes1 P base o a h E .bad ((shut (refs1 (od t x')) h).set k (.row e g false (Ops.std.lset xs i (reElem y off xa.cells)))) := by
  obtain ⟨R1, S1⟩ := shut_rel R (refs1 (od t x'))
  have hpv := od_vl ht hp
  rw [hb] at hpv
  have hxv := lendV_dl (L := LentK E h (refs1 (od t x'))) R _ hxa (od_vl ht hx) (fun b hb => hb)
  obtain ⟨hn, h1⟩ := sized_one hsz
  obtain ⟨v', E', hrun, R', S', V'⟩ := op_storeR (P := P) (a := a) R1 hP ho hi (xa := xa) (.data hxv .nil) hn h1 (hpv.ext S1.ext) hr hy hxd hle
  exact ⟨v', E', hrun, R', S1.trans S' R.lt, V'⟩

end
end Go.Ab
