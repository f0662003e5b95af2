/- Our texts for this statement, merged: what its theorem leads to. -/
import Derived.Test.YtjmmobicnfojeaaGreatDoorQServeKeeps4
namespace Go.Ab.Tryz
open Go Go.Ab Go.Proofs
set_option linter.unusedVariables false
set_option linter.unusedSimpArgs false
set_option maxRecDepth 10000
set_option maxHeartbeats 4000000
noncomputable def r04_Width_s3_x (γ : Nat → Nat) : Int → X × St
  | a0 => (.ret, ⟨bd 4 (vI a0 :: bd 123 []), []⟩)
instance : InjS r04_Width_s3_x := ⟨fun γ γ' x y h => by
  rcases x with a0 <;> rcases y with a0' <;> simp only [r04_Width_s3_x] at h <;> exact inj_⟩
noncomputable def r04_Width_s3 (s : ByteArray) (at_ : Int) (c : Int) : Option (Int) := asks (fun γ => (lim F pr).seg [4] b153_3 ⟨vT s :: vI at_ :: bd 3 (vB c :: vI (Ops.std.isub .i64 (Ops.std.slen s) at_) :: bd 121 []), []⟩) r04_Width_s3_x
noncomputable def r04_Width_s0_x (s : ByteArray) (at_ : Int) (γ : Nat → Nat) : Int ⊕ Int → X × St
  | .inl a0 => (.ret, ⟨bd 4 (vI a0 :: bd 123 []), []⟩)
  | .inr b0 => (.nor, ⟨vT s :: vI at_ :: bd 3 (vB b0 :: vI (Ops.std.isub .i64 (Ops.std.slen s) at_) :: bd 121 []), []⟩)
instance {s at_} : InjS (r04_Width_s0_x s at_) := ⟨fun γ γ' x y h => by
  rcases x with a0 | b0 <;> rcases y with a0' | b0' <;> simp only [r04_Width_s0_x] at h <;> exact inj_⟩
noncomputable def r04_Width_s0 (s : ByteArray) (at_ : Int) (c : Int) (t56 : Bool) : Option (Int ⊕ Int) := asks (fun γ => (lim F pr).seg [6, 5, 0, 1] b153_0 ⟨vT s :: vI at_ :: bd 3 (vB c :: vI (Ops.std.isub .i64 (Ops.std.slen s) at_) :: bd 49 (vF t56 :: bd 71 [])), []⟩) (r04_Width_s0_x s at_)
noncomputable def r04_Width_s2_x (γ : Nat → Nat) : Int → X × St
  | a0 => (.ret, ⟨bd 4 (vI a0 :: bd 123 []), []⟩)
instance : InjS r04_Width_s2_x := ⟨fun γ γ' x y h => by
  rcases x with a0 <;> rcases y with a0' <;> simp only [r04_Width_s2_x] at h <;> exact inj_⟩
noncomputable def r04_Width_s2 (s : ByteArray) (at_ : Int) (c : Int) : Option (Int) := asks (fun γ => (lim F pr).seg [4] b153_2 ⟨vT s :: vI at_ :: bd 3 (vB c :: vI (Ops.std.isub .i64 (Ops.std.slen s) at_) :: bd 121 []), []⟩) r04_Width_s2_x
noncomputable def r04_Width_s1_x (γ : Nat → Nat) : Int ⊕ Unit → X × St
  | .inl a0 => (.ret, ⟨bd 4 (vI a0 :: bd 123 []), []⟩)
  | .inr () => (.nor, ⟨bd 128 [], []⟩)
instance : InjS r04_Width_s1_x := ⟨fun γ γ' x y h => by
  rcases x with a0 | _ <;> rcases y with a0' | _ <;> simp only [r04_Width_s1_x] at h <;> exact inj_⟩
noncomputable def r04_Width_s1 (s : ByteArray) (at_ : Int) (c : Int) (t107 : Bool) : Option (Int ⊕ Unit) := asks (fun γ => (lim F pr).seg [] b153_1 ⟨vT s :: vI at_ :: bd 3 (vB c :: bd 101 (vF t107 :: bd 20 [])), []⟩) r04_Width_s1_x
noncomputable def r04_Width_s3_b (s : ByteArray) (at_ : Int) (c : Int) : Option (Int) :=
  bif Ops.std.ile 224 c then
    bif Ops.std.ile c 239 then
      bif Ops.std.ilt 2 (Ops.std.isub .i64 (Ops.std.slen s) at_) then
        (xsget s (Ops.std.iadd .i64 at_ 1)).bind fun b =>
        (r04_tail b).bind fun res =>
        bif res then
          (xsget s (Ops.std.iadd .i64 at_ 2)).bind fun b1 =>
          (r04_tail b1).bind fun res1 =>
          (r04_Width_s0 s at_ c res1).bind fun r => match r with
            | .inl t4 =>
              some t4
            | .inr c1 =>
              r04_Width_s2 s at_ c1
        else
          (r04_Width_s0 s at_ c false).bind fun r => match r with
            | .inl t4 =>
              some t4
            | .inr c1 =>
              r04_Width_s2 s at_ c1
      else
        (r04_Width_s0 s at_ c false).bind fun r => match r with
          | .inl t4 =>
            some t4
          | .inr c1 =>
            r04_Width_s2 s at_ c1
    else
      (r04_Width_s0 s at_ c false).bind fun r => match r with
        | .inl t4 =>
          some t4
        | .inr c1 =>
          r04_Width_s2 s at_ c1
  else
    (r04_Width_s0 s at_ c false).bind fun r => match r with
      | .inl t4 =>
        some t4
      | .inr c1 =>
        r04_Width_s2 s at_ c1
theorem r04_Width_s3_r {s at_ c r} (h : r04_Width_s3_b s at_ c = some r) : r04_Width_s3 s at_ c = some r := by
  unfold r04_Width_s3_b at h
  refine asks_of fun γ => ?_
  rcases cond_some h with ⟨h1, h⟩ | ⟨h1, h⟩
  rcases cond_some h with ⟨h2, h⟩ | ⟨h2, h⟩
  rcases cond_some h with ⟨h3, h⟩ | ⟨h3, h⟩
  obtain ⟨b, h4, h⟩ := bind_some h
  obtain ⟨res, h5, h⟩ := bind_ask h
  rcases cond_some h with ⟨h6, h⟩ | ⟨h6, h⟩
  obtain ⟨b1, h7, h⟩ := bind_some h
  obtain ⟨res1, h8, h⟩ := bind_ask h
  obtain ⟨r9, γ3, h9, h⟩ := bind_asks h (gam [])
  rcases r9 with t4 | c1
  cases h; refine ⟨gam [], seg_lim ?_⟩; rotate_left
  obtain ⟨γ4, h10⟩ := asks_some h (gam [])
  rcases r with t4
  refine ⟨gam [], seg_lim ?_⟩; rotate_left
  obtain ⟨r7, γ2, h7, h⟩ := bind_asks h (gam [])
  rcases r7 with t4 | c1
  cases h; refine ⟨gam [], seg_lim ?_⟩; rotate_left
  obtain ⟨γ3, h8⟩ := asks_some h (gam [])
  rcases r with t4
  refine ⟨gam [], seg_lim ?_⟩; rotate_left
  obtain ⟨r4, γ1, h4, h⟩ := bind_asks h (gam [])
  rcases r4 with t4 | c1
  cases h; refine ⟨gam [], seg_lim ?_⟩; rotate_left
  obtain ⟨γ2, h5⟩ := asks_some h (gam [])
  rcases r with t4
  refine ⟨gam [], seg_lim ?_⟩; rotate_left
  obtain ⟨r3, γ1, h3, h⟩ := bind_asks h (gam [])
  rcases r3 with t4 | c1
  cases h; refine ⟨gam [], seg_lim ?_⟩; rotate_left
  obtain ⟨γ2, h4⟩ := asks_some h (gam [])
  rcases r with t4
  refine ⟨gam [], seg_lim ?_⟩; rotate_left
  obtain ⟨r2, γ1, h2, h⟩ := bind_asks h (gam [])
  rcases r2 with t4 | c1
  cases h; refine ⟨gam [], seg_lim ?_⟩; rotate_left
  obtain ⟨γ2, h3⟩ := asks_some h (gam [])
  rcases r with t4
  refine ⟨gam [], seg_lim ?_⟩; rotate_left
  all_goals (dsimp only [R1, r04_Width_s0_x, r04_Width_s2_x, r04_Width_s3_x] at *; show Ifc.apart IF_ _ (b153_3F b153_0 b153_2) _ = _; generalize b153_0 = c0, b153_2 = c1 at *; exact fin_)
noncomputable def r04_Width_s0_b (s : ByteArray) (at_ : Int) (c : Int) (t56 : Bool) : Option (Int ⊕ Int) :=
  bif t56 then
    bif Ops.std.ieq c 224 then
      (xsget s (Ops.std.iadd .i64 at_ 1)).bind fun b =>
      bif Ops.std.ilt b 160 then some (.inl 0) else
      some (.inl 3)
    else
      bif Ops.std.ieq c 237 then
        (xsget s (Ops.std.iadd .i64 at_ 1)).bind fun b =>
        bif Ops.std.ilt 159 b then some (.inl 0) else
        some (.inl 3)
      else
        some (.inl 3)
  else
    some (.inr c)
theorem r04_Width_s0_r {s at_ c t56 r} (h : r04_Width_s0_b s at_ c t56 = some r) : r04_Width_s0 s at_ c t56 = some r := by
  unfold r04_Width_s0_b at h
  refine asks_of fun γ => ?_
  rcases cond_some h with ⟨h1, h⟩ | ⟨h1, h⟩
  rcases cond_some h with ⟨h2, h⟩ | ⟨h2, h⟩
  obtain ⟨b, h3, h⟩ := bind_some h
  rcases cond_some h with ⟨h4, h⟩ | ⟨h4, h⟩
  cases h; refine ⟨gam [], seg_lim ?_⟩; rotate_left
  have h5 := ieq_other h2 (b := 237) (by decide)
  cases h; refine ⟨gam [], seg_lim ?_⟩; rotate_left
  rcases cond_some h with ⟨h3, h⟩ | ⟨h3, h⟩
  obtain ⟨b, h4, h⟩ := bind_some h
  rcases cond_some h with ⟨h5, h⟩ | ⟨h5, h⟩
  cases h; refine ⟨gam [], seg_lim ?_⟩; rotate_left
  cases h; refine ⟨gam [], seg_lim ?_⟩; rotate_left
  cases h; refine ⟨gam [], seg_lim ?_⟩; rotate_left
  cases h; refine ⟨gam [], seg_lim ?_⟩; rotate_left
  all_goals (dsimp only [r04_Width_s0_x] at *; show Ifc.apart IF_ _ b153_0F _ = _; exact fin_)
noncomputable def r04_Width_s2_b (s : ByteArray) (at_ : Int) (c : Int) : Option (Int) :=
  bif Ops.std.ile 240 c then
    bif Ops.std.ile c 244 then
      bif Ops.std.ilt 3 (Ops.std.isub .i64 (Ops.std.slen s) at_) then
        (xsget s (Ops.std.iadd .i64 at_ 1)).bind fun b =>
        (r04_tail b).bind fun res =>
        bif res then
          (xsget s (Ops.std.iadd .i64 at_ 2)).bind fun b1 =>
          (r04_tail b1).bind fun res1 =>
          bif res1 then
            (xsget s (Ops.std.iadd .i64 at_ 3)).bind fun b2 =>
            (r04_tail b2).bind fun res2 =>
            (r04_Width_s1 s at_ c res2).bind fun r => match r with
              | .inl t4 =>
                some t4
              | .inr () =>
                some 0
          else
            (r04_Width_s1 s at_ c false).bind fun r => match r with
              | .inl t4 =>
                some t4
              | .inr () =>
                some 0
        else
          (r04_Width_s1 s at_ c false).bind fun r => match r with
            | .inl t4 =>
              some t4
            | .inr () =>
              some 0
      else
        (r04_Width_s1 s at_ c false).bind fun r => match r with
          | .inl t4 =>
            some t4
          | .inr () =>
            some 0
    else
      (r04_Width_s1 s at_ c false).bind fun r => match r with
        | .inl t4 =>
          some t4
        | .inr () =>
          some 0
  else
    (r04_Width_s1 s at_ c false).bind fun r => match r with
      | .inl t4 =>
        some t4
      | .inr () =>
        some 0
theorem r04_Width_s2_r {s at_ c r} (h : r04_Width_s2_b s at_ c = some r) : r04_Width_s2 s at_ c = some r := by
  unfold r04_Width_s2_b at h
  refine asks_of fun γ => ?_
  rcases cond_some h with ⟨h1, h⟩ | ⟨h1, h⟩
  rcases cond_some h with ⟨h2, h⟩ | ⟨h2, h⟩
  rcases cond_some h with ⟨h3, h⟩ | ⟨h3, h⟩
  obtain ⟨b, h4, h⟩ := bind_some h
  obtain ⟨res, h5, h⟩ := bind_ask h
  rcases cond_some h with ⟨h6, h⟩ | ⟨h6, h⟩
  obtain ⟨b1, h7, h⟩ := bind_some h
  obtain ⟨res1, h8, h⟩ := bind_ask h
  rcases cond_some h with ⟨h9, h⟩ | ⟨h9, h⟩
  obtain ⟨b2, h10, h⟩ := bind_some h
  obtain ⟨res2, h11, h⟩ := bind_ask h
  obtain ⟨r12, γ4, h12, h⟩ := bind_asks h (gam [])
  rcases r12 with t4 | _
  cases h; refine ⟨gam [], seg_lim ?_⟩; rotate_left
  cases h; refine ⟨gam [], seg_lim ?_⟩; rotate_left
  obtain ⟨r10, γ3, h10, h⟩ := bind_asks h (gam [])
  rcases r10 with t4 | _
  cases h; refine ⟨gam [], seg_lim ?_⟩; rotate_left
  cases h; refine ⟨gam [], seg_lim ?_⟩; rotate_left
  obtain ⟨r7, γ2, h7, h⟩ := bind_asks h (gam [])
  rcases r7 with t4 | _
  cases h; refine ⟨gam [], seg_lim ?_⟩; rotate_left
  cases h; refine ⟨gam [], seg_lim ?_⟩; rotate_left
  obtain ⟨r4, γ1, h4, h⟩ := bind_asks h (gam [])
  rcases r4 with t4 | _
  cases h; refine ⟨gam [], seg_lim ?_⟩; rotate_left
  cases h; refine ⟨gam [], seg_lim ?_⟩; rotate_left
  obtain ⟨r3, γ1, h3, h⟩ := bind_asks h (gam [])
  rcases r3 with t4 | _
  cases h; refine ⟨gam [], seg_lim ?_⟩; rotate_left
  cases h; refine ⟨gam [], seg_lim ?_⟩; rotate_left
  obtain ⟨r2, γ1, h2, h⟩ := bind_asks h (gam [])
  rcases r2 with t4 | _
  cases h; refine ⟨gam [], seg_lim ?_⟩; rotate_left
  cases h; refine ⟨gam [], seg_lim ?_⟩; rotate_left
  all_goals (dsimp only [R1, r04_Width_s1_x, r04_Width_s2_x] at *; show Ifc.apart IF_ _ (b153_2F b153_1) _ = _; generalize b153_1 = c0 at *; exact fin_)
noncomputable def r04_Width_s1_b (s : ByteArray) (at_ : Int) (c : Int) (t107 : Bool) : Option (Int ⊕ Unit) :=
  bif t107 then
    bif Ops.std.ieq c 240 then
      (xsget s (Ops.std.iadd .i64 at_ 1)).bind fun b =>
      bif Ops.std.ilt b 144 then some (.inl 0) else
      some (.inl 4)
    else
      bif Ops.std.ieq c 244 then
        (xsget s (Ops.std.iadd .i64 at_ 1)).bind fun b =>
        bif Ops.std.ilt 143 b then some (.inl 0) else
        some (.inl 4)
      else
        some (.inl 4)
  else
    some (.inr ())
theorem r04_Width_s1_r {s at_ c t107 r} (h : r04_Width_s1_b s at_ c t107 = some r) : r04_Width_s1 s at_ c t107 = some r := by
  unfold r04_Width_s1_b at h
  refine asks_of fun γ => ?_
  rcases cond_some h with ⟨h1, h⟩ | ⟨h1, h⟩
  rcases cond_some h with ⟨h2, h⟩ | ⟨h2, h⟩
  obtain ⟨b, h3, h⟩ := bind_some h
  rcases cond_some h with ⟨h4, h⟩ | ⟨h4, h⟩
  cases h; refine ⟨gam [], seg_lim ?_⟩; rotate_left
  have h5 := ieq_other h2 (b := 244) (by decide)
  cases h; refine ⟨gam [], seg_lim ?_⟩; rotate_left
  rcases cond_some h with ⟨h3, h⟩ | ⟨h3, h⟩
  obtain ⟨b, h4, h⟩ := bind_some h
  rcases cond_some h with ⟨h5, h⟩ | ⟨h5, h⟩
  cases h; refine ⟨gam [], seg_lim ?_⟩; rotate_left
  cases h; refine ⟨gam [], seg_lim ?_⟩; rotate_left
  cases h; refine ⟨gam [], seg_lim ?_⟩; rotate_left
  cases h; refine ⟨gam [], seg_lim ?_⟩; rotate_left
  all_goals (dsimp only [r04_Width_s1_x] at *; show Ifc.apart IF_ _ b153_1F _ = _; exact fin_)
noncomputable def r04_Width_b (s : ByteArray) (at_ : Int) : Option (Int) :=
  (xsget s at_).bind fun b =>
  bif Ops.std.ilt b 128 then some 1 else
  bif Ops.std.ile 194 b then
    bif Ops.std.ile b 223 then
      bif Ops.std.ilt 1 (Ops.std.isub .i64 (Ops.std.slen s) at_) then
        (xsget s (Ops.std.iadd .i64 at_ 1)).bind fun b1 =>
        (r04_tail b1).bind fun res =>
        bif res then some 2 else
        r04_Width_s3 s at_ b
      else
        r04_Width_s3 s at_ b
    else
      r04_Width_s3 s at_ b
  else
    r04_Width_s3 s at_ b
theorem r04_Width_r {s at_ r} (h : r04_Width_b s at_ = some r) : r04_Width s at_ = some r := by
  unfold r04_Width_b at h
  refine ask_of ?_
  obtain ⟨b, h1, h⟩ := bind_some h
  rcases cond_some h with ⟨h2, h⟩ | ⟨h2, h⟩
  cases h; refine call_lim rfl ?_; rotate_left
  rcases cond_some h with ⟨h3, h⟩ | ⟨h3, h⟩
  rcases cond_some h with ⟨h4, h⟩ | ⟨h4, h⟩
  rcases cond_some h with ⟨h5, h⟩ | ⟨h5, h⟩
  obtain ⟨b1, h6, h⟩ := bind_some h
  obtain ⟨res, h7, h⟩ := bind_ask h
  rcases cond_some h with ⟨h8, h⟩ | ⟨h8, h⟩
  cases h; refine call_lim rfl ?_; rotate_left
  obtain ⟨γ2, h9⟩ := asks_some h (gam [])
  rcases r with t4
  refine call_lim rfl ?_; rotate_left
  obtain ⟨γ1, h6⟩ := asks_some h (gam [])
  rcases r with t4
  refine call_lim rfl ?_; rotate_left
  obtain ⟨γ1, h5⟩ := asks_some h (gam [])
  rcases r with t4
  refine call_lim rfl ?_; rotate_left
  obtain ⟨γ1, h4⟩ := asks_some h (gam [])
  rcases r with t4
  refine call_lim rfl ?_; rotate_left
  all_goals (dsimp only [R1, r04_Width_s3_x] at *; show runFn IF_ (g153F b153_3) _ _ = _; generalize b153_3 = c0 at *; exact fin_)
noncomputable def r04_tail_b (c : Int) : Option (Bool) :=
  bif Ops.std.ile 128 c then some (Ops.std.ile c 191) else
  some false
theorem r04_tail_r {c r} (h : r04_tail_b c = some r) : r04_tail c = some r := by
  unfold r04_tail_b at h
  refine ask_of ?_
  rcases cond_some h with ⟨h1, h⟩ | ⟨h1, h⟩
  cases h; refine call_lim rfl ?_; rotate_left
  cases h; refine call_lim rfl ?_; rotate_left
  all_goals (dsimp only [R1] at *; show runFn IF_ g207F _ _ = _; exact fin_)
end Go.Ab.Tryz
