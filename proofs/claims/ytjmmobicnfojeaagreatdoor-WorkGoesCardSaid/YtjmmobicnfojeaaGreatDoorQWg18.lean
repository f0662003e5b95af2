/- Our texts for this statement, merged: what its theorem leads to. -/
import Derived.Test.YtjmmobicnfojeaaGreatDoorQWg10
set_option linter.unusedVariables false
set_option linter.unusedSimpArgs false
noncomputable section
namespace Go.Ab.Tryz
open Go Go.Ab Go.Proofs
set_option maxRecDepth 10000
set_option maxHeartbeats 4000000
def ztf (s:ByteArray):Option (Bool):=
 bif Ops.std.ilt 0 (Ops.std.slen s) then
  bif Ops.std.ilt (Ops.std.slen s) 97 then
   (zte s).bind fun res=>
   bif res then
    (zoM s).bind fun res1=>
    some (Ops.std.ilt (xlen vT res1) 33)
   else
    some false
  else
   some false
 else
  some false
theorem zGf {s r} (h:ztf s=some r):zxt s=some r:=by
 unfold ztf at h
 refine zas ?_
 rcases zaa h with ⟨h1,h⟩ | ⟨h1,h⟩
 rcases zaa h with ⟨h2,h⟩ | ⟨h2,h⟩
 obtain ⟨res,h3,h⟩:=zac h
 rcases zaa h with ⟨h4,h⟩ | ⟨h4,h⟩
 obtain ⟨res1,h5,h⟩:=zac h
 cases h;refine zab rfl ?_;rotate_left
 cases h;refine zab rfl ?_;rotate_left
 cases h;refine zab rfl ?_;rotate_left
 cases h;refine zab rfl ?_;rotate_left
 all_goals (dsimp only [R1] at *;show zar IF_ g25F _ _=_;exact fin_)
def zg3 (a:ByteArray) (b:ByteArray) (γ:Nat → Nat):Bool ⊕ Unit → X × St
 | .inl a0=>(.ret,⟨bd 4 (vF a0 :: bd 32 []),[]⟩)
 | .inr ()=>(.brk 0,⟨vT a :: vT b :: bd 35 [],[]⟩)
instance {a b}:InjS (zg3 a b):=⟨fun γ γ' x y h=>by
 rcases x with a0 | _ <;> rcases y with a0' | _ <;> simp only [zg3] at h <;> exact inj_⟩
def zjA (a:ByteArray) (b:ByteArray) (i:Int):Option (Bool ⊕ Unit):=asks (fun γ=>(lim F pr).loop [5,0,1] 0 zp8 ⟨vT a :: vT b :: bd 3 (vI i :: bd 31 []),[]⟩) (zg3 a b)
def zg4 (a:ByteArray) (b:ByteArray) (γ:Nat → Nat):Int ⊕ Bool → X × St
 | .inl a0=>(.nor,⟨vT a :: vT b :: bd 3 (vI a0 :: bd 31 []),[]⟩)
 | .inr b0=>(.ret,⟨bd 4 (vF b0 :: bd 32 []),[]⟩)
instance {a b}:InjS (zg4 a b):=⟨fun γ γ' x y h=>by
 rcases x with a0 | b0 <;> rcases y with a0' | b0' <;> simp only [zg4] at h <;> exact inj_⟩
def zmi (a:ByteArray) (b:ByteArray) (i:Int):Option (Int ⊕ Bool):=asks (fun γ=>(lim F pr).seg [5,0,1] zwa ⟨vT a :: vT b :: bd 3 (vI i :: bd 31 []),[]⟩) (zg4 a b)
def zeI (a:ByteArray) (b:ByteArray) (i:Int):Option (Bool ⊕ Unit):=
 bif Ops.std.ilt i (Ops.std.slen a) then
  bif Ops.std.ilt i (Ops.std.slen b) then
   (zmi a b i).bind fun r=>match r with
    | .inl i1=>
     zjA a b i1
    | .inr t4=>
     some (.inl t4)
  else
   some (.inr ())
 else
  some (.inr ())
theorem zjT {a b i r} (h:zeI a b i=some r):zjA a b i=some r:=by
 unfold zeI at h
 refine zap fun γ=>?_
 rcases zaa h with ⟨h1,h⟩ | ⟨h1,h⟩
 rcases zaa h with ⟨h2,h⟩ | ⟨h2,h⟩
 obtain ⟨r3,γ1,h3,h⟩:=zag h (gam [])
 rcases r3 with i1 | t4
 replace h:=zal h (gam []);obtain ⟨γ',h0⟩:=h;refine ⟨γ',zad ?_⟩;rotate_left
 cases h;refine ⟨gam [],zad ?_⟩;rotate_left
 cases h;refine ⟨gam [],zad ?_⟩;rotate_left
 cases h;refine ⟨gam [],zad ?_⟩;rotate_left
 all_goals (dsimp only [zg3,zg4] at *;show zaR IF_ _ _ zp8 (zCF zwa) _=_;generalize zp8=c0,zwa=c1 at *;exact fin_)
def zjU (a:ByteArray) (b:ByteArray) (i:Int):Option (Int ⊕ Bool):=
 (zcH a i).bind fun b1=>
 (zcH b i).bind fun b2=>
 bif Ops.std.ieq b1 b2 then some (.inl (Ops.std.iadd .i64 i 1)) else
 some (.inr (Ops.std.ilt b1 b2))
theorem zr8 {a b i r} (h:zjU a b i=some r):zmi a b i=some r:=by
 unfold zjU at h
 refine zap fun γ=>?_
 obtain ⟨b1,h1,h⟩:=bind_some h
 obtain ⟨b2,h2,h⟩:=bind_some h
 rcases zaa h with ⟨h3,h⟩ | ⟨h3,h⟩
 cases h;refine ⟨gam [],zak ?_⟩;rotate_left
 cases h;refine ⟨gam [],zak ?_⟩;rotate_left
 all_goals (dsimp only [zg4] at *;show Ifc.apart IF_ _ zCE _=_;exact fin_)
def zrr (a:ByteArray) (b:ByteArray):Option (Bool):=
 (zjA a b 0).bind fun r=>match r with
  | .inl t4=>
   some t4
  | .inr ()=>
   some (Ops.std.ilt (Ops.std.slen a) (Ops.std.slen b))
theorem zEe {a b r} (h:zrr a b=some r):zrq a b=some r:=by
 unfold zrr at h
 refine zas ?_
 obtain ⟨r1,γ1,h1,h⟩:=zag h (gam [])
 rcases r1 with t4 | _
 cases h;refine zab rfl ?_;rotate_left
 cases h;refine zab rfl ?_;rotate_left
 all_goals (dsimp only [R1,zg3] at *;show zar IF_ (zIv zp8) _ _=_;generalize zp8=c0 at *;exact fin_)
def zfR (γ:Nat → Nat):Unit ⊕ Unit → X × St
 | .inl ()=>(.ret,⟨bd 2 (vF false :: bd 16 []),[]⟩)
 | .inr ()=>(.brk 0,⟨bd 19 [],[]⟩)
instance :InjS zfR:=⟨fun γ γ' x y h=>by
 rcases x with _ | _ <;> rcases y with _ | _ <;> simp only [zfR] at h <;> exact inj_⟩
def zic (l:List ByteArray) (i:Int):Option (Unit ⊕ Unit):=asks (fun γ=>(lim F pr).loop [3,4] 0 zuw ⟨bd 3 (.lit 9 false (List.map vT l) :: vI i :: bd 14 []),[]⟩) zfR
def zfQ (l:List ByteArray) (i:Int):Option (Unit ⊕ Unit):=
 bif Ops.std.ilt i (xlen vT l) then
  (xget vT l i).bind fun x=>
  (zid x 0).bind fun res=>
  bif Ops.std.ieq res 0 then some (.inl ()) else
  zic l (Ops.std.iadd .i64 i 1)
 else
  some (.inr ())
theorem zlP {l i r} (h:zfQ l i=some r):zic l i=some r:=by
 unfold zfQ at h
 refine zap fun γ=>?_
 rcases zaa h with ⟨h1,h⟩ | ⟨h1,h⟩
 obtain ⟨x,h2,h⟩:=zac h
 obtain ⟨res,h3,h⟩:=zac h
 rcases zaa h with ⟨h4,h⟩ | ⟨h4,h⟩
 cases h;refine ⟨gam [],zad ?_⟩;rotate_left
 replace h:=zal h (gam []);obtain ⟨γ',h0⟩:=h;refine ⟨γ',zad ?_⟩;rotate_left
 cases h;refine ⟨gam [],zad ?_⟩;rotate_left
 all_goals (dsimp only [R1,zfR] at *;show zaR IF_ _ _ zuw zFt _=_;generalize zuw=c0 at *;exact fin_)
def zpp (s:ByteArray):Option (Bool):=
 (zoM s).bind fun res=>
 (zic res 0).bind fun r=>match r with
  | .inl ()=>
   some false
  | .inr ()=>
   some true
theorem zBF {s r} (h:zpp s=some r):zte s=some r:=by
 unfold zpp at h
 refine zas ?_
 obtain ⟨res,h1,h⟩:=zac h
 obtain ⟨r2,γ2,h2,h⟩:=zag h (gam [])
 rcases r2 with _ | _
 cases h;refine zab rfl ?_;rotate_left
 cases h;refine zab rfl ?_;rotate_left
 all_goals (dsimp only [R1,zfR] at *;show zar IF_ (g85F zuw) _ _=_;generalize zuw=c0 at *;exact fin_)
def zfP (γ:Nat → Nat):(List ByteArray) → X × St
 | a0=>(.brk 0,⟨bd 3 (.sl 1 ((γ 1)) :: bd 24 []),[.row 9 (γ 0) false (List.map vT []),.row 9 (γ 1) false (List.map vT a0)]⟩)
instance :InjS zfP:=⟨fun γ γ' x y h=>by
 rcases x with a0 <;> rcases y with a0' <;> simp only [zfP] at h <;> exact inj_⟩
def zfO (s:ByteArray) (at_:Int) (r1:List ByteArray):Option ((List ByteArray)):=asks (fun γ=>(lim F pr).loop [0,4,3] 2 zux ⟨vT s :: bd 2 (.sl 1 ((γ 1)) :: vI at_ :: bd 23 []),[.row 9 (γ 0) false (List.map vT []),.row 9 (γ 1) false (List.map vT r1)]⟩) zfP
def ziW (s:ByteArray) (at_:Int) (r1:List ByteArray):Option ((List ByteArray)):=
 bif Ops.std.ilt at_ (Ops.std.slen s) then
  (zid s at_).bind fun res=>
  bif Ops.std.ieq res 0 then
   (zuO s at_ (Ops.std.iadd .i64 at_ 1)).bind fun z=>
   bif zaK vT 16 r1 [z] then zfO s (Ops.std.iadd .i64 at_ 1) (r1 ++ [z]) else
   none
  else
   (zuO s at_ (Ops.std.iadd .i64 at_ res)).bind fun z=>
   bif zaK vT 16 r1 [z] then zfO s (Ops.std.iadd .i64 at_ res) (r1 ++ [z]) else
   none
 else
  some r1
theorem zqv {s at_ r1 r} (h:ziW s at_ r1=some r):zfO s at_ r1=some r:=by
 unfold ziW at h
 refine zap fun γ=>?_
 rcases zaa h with ⟨h1,h⟩ | ⟨h1,h⟩
 obtain ⟨res,h2,h⟩:=zac h
 rcases zaa h with ⟨h3,h⟩ | ⟨h3,h⟩
 obtain ⟨z,h4,h⟩:=bind_some h
 obtain ⟨h5,h⟩:=zat h
 replace h:=zal h (gam [(γ 0),((γ 1) + 1)]);obtain ⟨γ',h0⟩:=h;refine ⟨γ',zad ?_⟩;rotate_left
 obtain ⟨z,h4,h⟩:=bind_some h
 obtain ⟨h5,h⟩:=zat h
 replace h:=zal h (gam [(γ 0),((γ 1) + 1)]);obtain ⟨γ',h0⟩:=h;refine ⟨γ',zad ?_⟩;rotate_left
 cases h;refine ⟨gam [(γ 0),(γ 1)],zad ?_⟩;rotate_left
 all_goals (dsimp only [R1,zfP] at *;show zaR IF_ _ _ zux zFu _=_;generalize zux=c0 at *;exact fin_)
def zpo (s:ByteArray):Option ((List ByteArray)):=
 zfO s 0 []
theorem zBE {s r} (h:zpo s=some r):zoM s=some r:=by
 unfold zpo at h
 refine zas ?_
 obtain ⟨γ1,h1⟩:=zal h (gam [0,0])
 rcases r with r1
 refine zab rfl ?_;rotate_left
 all_goals (dsimp only [R1,zfP] at *;show zar IF_ (g86F zux) _ _=_;generalize zux=c0 at *;exact fin_)
def zfW (γ:Nat → Nat):Int → X × St
 | a0=>(.ret,⟨bd 4 (vI a0 :: bd 123 []),[]⟩)
instance :InjS zfW:=⟨fun γ γ' x y h=>by
 rcases x with a0 <;> rcases y with a0' <;> simp only [zfW] at h <;> exact inj_⟩
def zfV (s:ByteArray) (at_:Int) (c:Int):Option (Int):=asks (fun γ=>(lim F pr).seg [4] zwe ⟨vT s :: vI at_ :: bd 3 (vB c :: vI (Ops.std.isub .i64 (Ops.std.slen s) at_) :: bd 121 []),[]⟩) zfW
def zfS (s:ByteArray) (at_:Int) (γ:Nat → Nat):Int ⊕ Int → X × St
 | .inl a0=>(.ret,⟨bd 4 (vI a0 :: bd 123 []),[]⟩)
 | .inr b0=>(.nor,⟨vT s :: vI at_ :: bd 3 (vB b0 :: vI (Ops.std.isub .i64 (Ops.std.slen s) at_) :: bd 121 []),[]⟩)
instance {s at_}:InjS (zfS s at_):=⟨fun γ γ' x y h=>by
 rcases x with a0 | b0 <;> rcases y with a0' | b0' <;> simp only [zfS] at h <;> exact inj_⟩
def zdq (s:ByteArray) (at_:Int) (c:Int) (t56:Bool):Option (Int ⊕ Int):=asks (fun γ=>(lim F pr).seg [6,5,0,1] zwb ⟨vT s :: vI at_ :: bd 3 (vB c :: vI (Ops.std.isub .i64 (Ops.std.slen s) at_) :: bd 49 (vF t56 :: bd 71 [])),[]⟩) (zfS s at_)
def zfU (γ:Nat → Nat):Int → X × St
 | a0=>(.ret,⟨bd 4 (vI a0 :: bd 123 []),[]⟩)
instance :InjS zfU:=⟨fun γ γ' x y h=>by
 rcases x with a0 <;> rcases y with a0' <;> simp only [zfU] at h <;> exact inj_⟩
def zer (s:ByteArray) (at_:Int) (c:Int):Option (Int):=asks (fun γ=>(lim F pr).seg [4] zwd ⟨vT s :: vI at_ :: bd 3 (vB c :: vI (Ops.std.isub .i64 (Ops.std.slen s) at_) :: bd 121 []),[]⟩) zfU
def zfT (γ:Nat → Nat):Int ⊕ Unit → X × St
 | .inl a0=>(.ret,⟨bd 4 (vI a0 :: bd 123 []),[]⟩)
 | .inr ()=>(.nor,⟨bd 128 [],[]⟩)
instance :InjS zfT:=⟨fun γ γ' x y h=>by
 rcases x with a0 | _ <;> rcases y with a0' | _ <;> simp only [zfT] at h <;> exact inj_⟩
def zcP (s:ByteArray) (at_:Int) (c:Int) (t107:Bool):Option (Int ⊕ Unit):=asks (fun γ=>(lim F pr).seg [] zwc ⟨vT s :: vI at_ :: bd 3 (vB c :: bd 101 (vF t107 :: bd 20 [])),[]⟩) zfT
def zlT (s:ByteArray) (at_:Int) (c:Int):Option (Int):=
 bif Ops.std.ile 224 c then
  bif Ops.std.ile c 239 then
   bif Ops.std.ilt 2 (Ops.std.isub .i64 (Ops.std.slen s) at_) then
    (zcH s (Ops.std.iadd .i64 at_ 1)).bind fun b=>
    (zie b).bind fun res=>
    bif res then
     (zcH s (Ops.std.iadd .i64 at_ 2)).bind fun b1=>
     (zie b1).bind fun res1=>
     (zdq s at_ c res1).bind fun r=>match r with
      | .inl t4=>
       some t4
      | .inr c1=>
       zer s at_ c1
    else
     (zdq s at_ c false).bind fun r=>match r with
      | .inl t4=>
       some t4
      | .inr c1=>
       zer s at_ c1
   else
    (zdq s at_ c false).bind fun r=>match r with
     | .inl t4=>
      some t4
     | .inr c1=>
      zer s at_ c1
  else
   (zdq s at_ c false).bind fun r=>match r with
    | .inl t4=>
     some t4
    | .inr c1=>
     zer s at_ c1
 else
  (zdq s at_ c false).bind fun r=>match r with
   | .inl t4=>
    some t4
   | .inr c1=>
    zer s at_ c1
theorem zxs {s at_ c r} (h:zlT s at_ c=some r):zfV s at_ c=some r:=by
 unfold zlT at h
 refine zap fun γ=>?_
 rcases zaa h with ⟨h1,h⟩ | ⟨h1,h⟩
 rcases zaa h with ⟨h2,h⟩ | ⟨h2,h⟩
 rcases zaa h with ⟨h3,h⟩ | ⟨h3,h⟩
 obtain ⟨b,h4,h⟩:=bind_some h
 obtain ⟨res,h5,h⟩:=zac h
 rcases zaa h with ⟨h6,h⟩ | ⟨h6,h⟩
 obtain ⟨b1,h7,h⟩:=bind_some h
 obtain ⟨res1,h8,h⟩:=zac h
 obtain ⟨r9,γ3,h9,h⟩:=zag h (gam [])
 rcases r9 with t4 | c1
 cases h;refine ⟨gam [],zak ?_⟩;rotate_left
 obtain ⟨γ4,h10⟩:=zal h (gam [])
 rcases r with t4
 refine ⟨gam [],zak ?_⟩;rotate_left
 obtain ⟨r7,γ2,h7,h⟩:=zag h (gam [])
 rcases r7 with t4 | c1
 cases h;refine ⟨gam [],zak ?_⟩;rotate_left
 obtain ⟨γ3,h8⟩:=zal h (gam [])
 rcases r with t4
 refine ⟨gam [],zak ?_⟩;rotate_left
 obtain ⟨r4,γ1,h4,h⟩:=zag h (gam [])
 rcases r4 with t4 | c1
 cases h;refine ⟨gam [],zak ?_⟩;rotate_left
 obtain ⟨γ2,h5⟩:=zal h (gam [])
 rcases r with t4
 refine ⟨gam [],zak ?_⟩;rotate_left
 obtain ⟨r3,γ1,h3,h⟩:=zag h (gam [])
 rcases r3 with t4 | c1
 cases h;refine ⟨gam [],zak ?_⟩;rotate_left
 obtain ⟨γ2,h4⟩:=zal h (gam [])
 rcases r with t4
 refine ⟨gam [],zak ?_⟩;rotate_left
 obtain ⟨r2,γ1,h2,h⟩:=zag h (gam [])
 rcases r2 with t4 | c1
 cases h;refine ⟨gam [],zak ?_⟩;rotate_left
 obtain ⟨γ2,h3⟩:=zal h (gam [])
 rcases r with t4
 refine ⟨gam [],zak ?_⟩;rotate_left
 all_goals (dsimp only [R1,zfS,zfU,zfW] at *;show Ifc.apart IF_ _ (zCJ zwb zwd) _=_;generalize zwb=c0,zwd=c1 at *;exact fin_)
def zlQ (s:ByteArray) (at_:Int) (c:Int) (t56:Bool):Option (Int ⊕ Int):=
 bif t56 then
  bif Ops.std.ieq c 224 then
   (zcH s (Ops.std.iadd .i64 at_ 1)).bind fun b=>
   bif Ops.std.ilt b 160 then some (.inl 0) else
   some (.inl 3)
  else
   bif Ops.std.ieq c 237 then
    (zcH s (Ops.std.iadd .i64 at_ 1)).bind fun b=>
    bif Ops.std.ilt 159 b then some (.inl 0) else
    some (.inl 3)
   else
    some (.inl 3)
 else
  some (.inr c)
theorem zqw {s at_ c t56 r} (h:zlQ s at_ c t56=some r):zdq s at_ c t56=some r:=by
 unfold zlQ at h
 refine zap fun γ=>?_
 rcases zaa h with ⟨h1,h⟩ | ⟨h1,h⟩
 rcases zaa h with ⟨h2,h⟩ | ⟨h2,h⟩
 obtain ⟨b,h3,h⟩:=bind_some h
 rcases zaa h with ⟨h4,h⟩ | ⟨h4,h⟩
 cases h;refine ⟨gam [],zak ?_⟩;rotate_left
 have h5:=zxX h2 (b:=237) (by decide)
 cases h;refine ⟨gam [],zak ?_⟩;rotate_left
 rcases zaa h with ⟨h3,h⟩ | ⟨h3,h⟩
 obtain ⟨b,h4,h⟩:=bind_some h
 rcases zaa h with ⟨h5,h⟩ | ⟨h5,h⟩
 cases h;refine ⟨gam [],zak ?_⟩;rotate_left
 cases h;refine ⟨gam [],zak ?_⟩;rotate_left
 cases h;refine ⟨gam [],zak ?_⟩;rotate_left
 cases h;refine ⟨gam [],zak ?_⟩;rotate_left
 all_goals (dsimp only [zfS] at *;show Ifc.apart IF_ _ zCG _=_;exact fin_)
def zlS (s:ByteArray) (at_:Int) (c:Int):Option (Int):=
 bif Ops.std.ile 240 c then
  bif Ops.std.ile c 244 then
   bif Ops.std.ilt 3 (Ops.std.isub .i64 (Ops.std.slen s) at_) then
    (zcH s (Ops.std.iadd .i64 at_ 1)).bind fun b=>
    (zie b).bind fun res=>
    bif res then
     (zcH s (Ops.std.iadd .i64 at_ 2)).bind fun b1=>
     (zie b1).bind fun res1=>
     bif res1 then
      (zcH s (Ops.std.iadd .i64 at_ 3)).bind fun b2=>
      (zie b2).bind fun res2=>
      (zcP s at_ c res2).bind fun r=>match r with
       | .inl t4=>
        some t4
       | .inr ()=>
        some 0
     else
      (zcP s at_ c false).bind fun r=>match r with
       | .inl t4=>
        some t4
       | .inr ()=>
        some 0
    else
     (zcP s at_ c false).bind fun r=>match r with
      | .inl t4=>
       some t4
      | .inr ()=>
       some 0
   else
    (zcP s at_ c false).bind fun r=>match r with
     | .inl t4=>
      some t4
     | .inr ()=>
      some 0
  else
   (zcP s at_ c false).bind fun r=>match r with
    | .inl t4=>
     some t4
    | .inr ()=>
     some 0
 else
  (zcP s at_ c false).bind fun r=>match r with
   | .inl t4=>
    some t4
   | .inr ()=>
    some 0
theorem zxr {s at_ c r} (h:zlS s at_ c=some r):zer s at_ c=some r:=by
 unfold zlS at h
 refine zap fun γ=>?_
 rcases zaa h with ⟨h1,h⟩ | ⟨h1,h⟩
 rcases zaa h with ⟨h2,h⟩ | ⟨h2,h⟩
 rcases zaa h with ⟨h3,h⟩ | ⟨h3,h⟩
 obtain ⟨b,h4,h⟩:=bind_some h
 obtain ⟨res,h5,h⟩:=zac h
 rcases zaa h with ⟨h6,h⟩ | ⟨h6,h⟩
 obtain ⟨b1,h7,h⟩:=bind_some h
 obtain ⟨res1,h8,h⟩:=zac h
 rcases zaa h with ⟨h9,h⟩ | ⟨h9,h⟩
 obtain ⟨b2,h10,h⟩:=bind_some h
 obtain ⟨res2,h11,h⟩:=zac h
 obtain ⟨r12,γ4,h12,h⟩:=zag h (gam [])
 rcases r12 with t4 | _
 cases h;refine ⟨gam [],zak ?_⟩;rotate_left
 cases h;refine ⟨gam [],zak ?_⟩;rotate_left
 obtain ⟨r10,γ3,h10,h⟩:=zag h (gam [])
 rcases r10 with t4 | _
 cases h;refine ⟨gam [],zak ?_⟩;rotate_left
 cases h;refine ⟨gam [],zak ?_⟩;rotate_left
 obtain ⟨r7,γ2,h7,h⟩:=zag h (gam [])
 rcases r7 with t4 | _
 cases h;refine ⟨gam [],zak ?_⟩;rotate_left
 cases h;refine ⟨gam [],zak ?_⟩;rotate_left
 obtain ⟨r4,γ1,h4,h⟩:=zag h (gam [])
 rcases r4 with t4 | _
 cases h;refine ⟨gam [],zak ?_⟩;rotate_left
 cases h;refine ⟨gam [],zak ?_⟩;rotate_left
 obtain ⟨r3,γ1,h3,h⟩:=zag h (gam [])
 rcases r3 with t4 | _
 cases h;refine ⟨gam [],zak ?_⟩;rotate_left
 cases h;refine ⟨gam [],zak ?_⟩;rotate_left
 obtain ⟨r2,γ1,h2,h⟩:=zag h (gam [])
 rcases r2 with t4 | _
 cases h;refine ⟨gam [],zak ?_⟩;rotate_left
 cases h;refine ⟨gam [],zak ?_⟩;rotate_left
 all_goals (dsimp only [R1,zfT,zfU] at *;show Ifc.apart IF_ _ (zCI zwc) _=_;generalize zwc=c0 at *;exact fin_)
def zlR (s:ByteArray) (at_:Int) (c:Int) (t107:Bool):Option (Int ⊕ Unit):=
 bif t107 then
  bif Ops.std.ieq c 240 then
   (zcH s (Ops.std.iadd .i64 at_ 1)).bind fun b=>
   bif Ops.std.ilt b 144 then some (.inl 0) else
   some (.inl 4)
  else
   bif Ops.std.ieq c 244 then
    (zcH s (Ops.std.iadd .i64 at_ 1)).bind fun b=>
    bif Ops.std.ilt 143 b then some (.inl 0) else
    some (.inl 4)
   else
    some (.inl 4)
 else
  some (.inr ())
theorem zqx {s at_ c t107 r} (h:zlR s at_ c t107=some r):zcP s at_ c t107=some r:=by
 unfold zlR at h
 refine zap fun γ=>?_
 rcases zaa h with ⟨h1,h⟩ | ⟨h1,h⟩
 rcases zaa h with ⟨h2,h⟩ | ⟨h2,h⟩
 obtain ⟨b,h3,h⟩:=bind_some h
 rcases zaa h with ⟨h4,h⟩ | ⟨h4,h⟩
 cases h;refine ⟨gam [],zak ?_⟩;rotate_left
 have h5:=zxX h2 (b:=244) (by decide)
 cases h;refine ⟨gam [],zak ?_⟩;rotate_left
 rcases zaa h with ⟨h3,h⟩ | ⟨h3,h⟩
 obtain ⟨b,h4,h⟩:=bind_some h
 rcases zaa h with ⟨h5,h⟩ | ⟨h5,h⟩
 cases h;refine ⟨gam [],zak ?_⟩;rotate_left
 cases h;refine ⟨gam [],zak ?_⟩;rotate_left
 cases h;refine ⟨gam [],zak ?_⟩;rotate_left
 cases h;refine ⟨gam [],zak ?_⟩;rotate_left
 all_goals (dsimp only [zfT] at *;show Ifc.apart IF_ _ zCH _=_;exact fin_)
def zpq (s:ByteArray) (at_:Int):Option (Int):=
 (zcH s at_).bind fun b=>
 bif Ops.std.ilt b 128 then some 1 else
 bif Ops.std.ile 194 b then
  bif Ops.std.ile b 223 then
   bif Ops.std.ilt 1 (Ops.std.isub .i64 (Ops.std.slen s) at_) then
    (zcH s (Ops.std.iadd .i64 at_ 1)).bind fun b1=>
    (zie b1).bind fun res=>
    bif res then some 2 else
    zfV s at_ b
   else
    zfV s at_ b
  else
   zfV s at_ b
 else
  zfV s at_ b
theorem zBG {s at_ r} (h:zpq s at_=some r):zid s at_=some r:=by
 unfold zpq at h
 refine zas ?_
 obtain ⟨b,h1,h⟩:=bind_some h
 rcases zaa h with ⟨h2,h⟩ | ⟨h2,h⟩
 cases h;refine zab rfl ?_;rotate_left
 rcases zaa h with ⟨h3,h⟩ | ⟨h3,h⟩
 rcases zaa h with ⟨h4,h⟩ | ⟨h4,h⟩
 rcases zaa h with ⟨h5,h⟩ | ⟨h5,h⟩
 obtain ⟨b1,h6,h⟩:=bind_some h
 obtain ⟨res,h7,h⟩:=zac h
 rcases zaa h with ⟨h8,h⟩ | ⟨h8,h⟩
 cases h;refine zab rfl ?_;rotate_left
 obtain ⟨γ2,h9⟩:=zal h (gam [])
 rcases r with t4
 refine zab rfl ?_;rotate_left
 obtain ⟨γ1,h6⟩:=zal h (gam [])
 rcases r with t4
 refine zab rfl ?_;rotate_left
 obtain ⟨γ1,h5⟩:=zal h (gam [])
 rcases r with t4
 refine zab rfl ?_;rotate_left
 obtain ⟨γ1,h4⟩:=zal h (gam [])
 rcases r with t4
 refine zab rfl ?_;rotate_left
 all_goals (dsimp only [R1,zfW] at *;show zar IF_ (zIA zwe) _ _=_;generalize zwe=c0 at *;exact fin_)
def zro (c:Int):Option (Bool):=
 bif Ops.std.ile 128 c then some (Ops.std.ile c 191) else
 some false
theorem zEb {c r} (h:zro c=some r):zie c=some r:=by
 unfold zro at h
 refine zas ?_
 rcases zaa h with ⟨h1,h⟩ | ⟨h1,h⟩
 cases h;refine zab rfl ?_;rotate_left
 cases h;refine zab rfl ?_;rotate_left
 all_goals (dsimp only [R1] at *;show zar IF_ zIY _ _=_;exact fin_)
end Go.Ab.Tryz
