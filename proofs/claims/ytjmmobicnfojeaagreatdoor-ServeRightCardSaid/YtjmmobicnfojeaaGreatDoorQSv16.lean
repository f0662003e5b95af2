/- Our texts for this statement, merged: what its theorem leads to. -/
import Derived.Test.YtjmmobicnfojeaaGreatDoorQSv9
set_option linter.unusedVariables false
set_option linter.unusedSimpArgs false
noncomputable section
namespace Go.Ab.Tryz
open Go Go.Ab Go.Proofs
set_option maxRecDepth 10000
set_option maxHeartbeats 4000000
def zco (γ:Nat → Nat):Int ⊕ Unit → X × St
 | .inl a0=>(.ret,⟨bd 4 (vI a0 :: bd 14 []),[]⟩)
 | .inr ()=>(.brk 0,⟨bd 19 [],[]⟩)
instance:InjS zco:=⟨fun γ γ' x y h=>by
 rcases x with a0 | _ <;> rcases y with a0' | _ <;> simp only [zco] at h <;> exact inj_⟩
def zee (s:List Pair) (t8:Int):Option (Int ⊕ Unit):=asks (fun γ=>(lim F pr).loop [7,1,0,8] 0 zbC ⟨.lit 78 false (List.map zae s) :: .fn 172 [] :: bd 5 (vI (xlen zae s) :: vI t8 :: bd 10 []),[]⟩) zco
def zcn (s:List Pair) (t8:Int):Option (Int ⊕ Unit):=
 bif Ops.std.ilt t8 (xlen zae s) then
  (xget zae s t8).bind fun x=>
  (zqb x).bind fun res=>
  bif res then some (.inl t8) else
  zee s (Ops.std.iadd .i64 t8 1)
 else
  some (.inr ())
theorem zfb {s t8 r} (h:zcn s t8=some r):zee s t8=some r:=by
 unfold zcn at h
 refine zaq fun γ=>?_
 rcases zaa h with ⟨h1,h⟩ | ⟨h1,h⟩
 obtain ⟨x,h2,h⟩:=zac h
 obtain ⟨res,h3,h⟩:=zac h
 rcases zaa h with ⟨h4,h⟩ | ⟨h4,h⟩
 cases h;refine ⟨gam [],zad ?_⟩;rotate_left
 replace h:=zai h (gam []);obtain ⟨γ',h0⟩:=h;refine ⟨γ',zad ?_⟩;rotate_left
 cases h;refine ⟨gam [],zad ?_⟩;rotate_left
 all_goals (dsimp only [zco,R1] at *;show zaH IF_ _ _ zbC zmw _=_;generalize zbC=c0 at *;exact fin_)
def zhv (s:List Pair):Option (Int):=
 (zee s 0).bind fun r=>match r with
  | .inl t4=>
   some t4
  | .inr ()=>
   some (-1)
theorem zrI {s r} (h:zhv s=some r):zjm s=some r:=by
 unfold zhv at h
 refine zar ?_
 obtain ⟨r1,γ1,h1,h⟩:=zan h (gam [])
 rcases r1 with t4 | _
 cases h;refine zab rfl ?_;rotate_left
 cases h;refine zab rfl ?_;rotate_left
 all_goals (dsimp only [zco,R1] at *;show zat IF_ (ztI zbC) _ _=_;generalize zbC=c0 at *;exact fin_)
def zfv (γ:Nat → Nat):Int → X × St
 | a0=>(.ret,⟨bd 4 (vI a0 :: bd 123 []),[]⟩)
instance:InjS zfv:=⟨fun γ γ' x y h=>by
 rcases x with a0 <;> rcases y with a0' <;> simp only [zfv] at h <;> exact inj_⟩
def zfu (s:ByteArray) (at_:Int) (c:Int):Option (Int):=asks (fun γ=>(lim F pr).seg [4] zvo ⟨vT s :: vI at_ :: bd 3 (vB c :: vI (Ops.std.isub .i64 (Ops.std.slen s) at_) :: bd 121 []),[]⟩) zfv
def zfr (s:ByteArray) (at_:Int) (γ:Nat → Nat):Int ⊕ Int → X × St
 | .inl a0=>(.ret,⟨bd 4 (vI a0 :: bd 123 []),[]⟩)
 | .inr b0=>(.nor,⟨vT s :: vI at_ :: bd 3 (vB b0 :: vI (Ops.std.isub .i64 (Ops.std.slen s) at_) :: bd 121 []),[]⟩)
instance {s at_}:InjS (zfr s at_):=⟨fun γ γ' x y h=>by
 rcases x with a0 | b0 <;> rcases y with a0' | b0' <;> simp only [zfr] at h <;> exact inj_⟩
def zdl (s:ByteArray) (at_:Int) (c:Int) (t56:Bool):Option (Int ⊕ Int):=asks (fun γ=>(lim F pr).seg [6,5,0,1] zvl ⟨vT s :: vI at_ :: bd 3 (vB c :: vI (Ops.std.isub .i64 (Ops.std.slen s) at_) :: bd 49 (vF t56 :: bd 71 [])),[]⟩) (zfr s at_)
def zft (γ:Nat → Nat):Int → X × St
 | a0=>(.ret,⟨bd 4 (vI a0 :: bd 123 []),[]⟩)
instance:InjS zft:=⟨fun γ γ' x y h=>by
 rcases x with a0 <;> rcases y with a0' <;> simp only [zft] at h <;> exact inj_⟩
def zd4 (s:ByteArray) (at_:Int) (c:Int):Option (Int):=asks (fun γ=>(lim F pr).seg [4] zvn ⟨vT s :: vI at_ :: bd 3 (vB c :: vI (Ops.std.isub .i64 (Ops.std.slen s) at_) :: bd 121 []),[]⟩) zft
def zfs (γ:Nat → Nat):Int ⊕ Unit → X × St
 | .inl a0=>(.ret,⟨bd 4 (vI a0 :: bd 123 []),[]⟩)
 | .inr ()=>(.nor,⟨bd 128 [],[]⟩)
instance:InjS zfs:=⟨fun γ γ' x y h=>by
 rcases x with a0 | _ <;> rcases y with a0' | _ <;> simp only [zfs] at h <;> exact inj_⟩
def zcB (s:ByteArray) (at_:Int) (c:Int) (t107:Bool):Option (Int ⊕ Unit):=asks (fun γ=>(lim F pr).seg [] zvm ⟨vT s :: vI at_ :: bd 3 (vB c :: bd 101 (vF t107 :: bd 20 [])),[]⟩) zfs
def zkI (s:ByteArray) (at_:Int) (c:Int):Option (Int):=
 bif Ops.std.ile 224 c then
  bif Ops.std.ile c 239 then
   bif Ops.std.ilt 2 (Ops.std.isub .i64 (Ops.std.slen s) at_) then
    (zbZ s (Ops.std.iadd .i64 at_ 1)).bind fun b=>
    (zhG b).bind fun res=>
    bif res then
     (zbZ s (Ops.std.iadd .i64 at_ 2)).bind fun b1=>
     (zhG b1).bind fun res1=>
     (zdl s at_ c res1).bind fun r=>match r with
      | .inl t4=>
       some t4
      | .inr c1=>
       zd4 s at_ c1
    else
     (zdl s at_ c false).bind fun r=>match r with
      | .inl t4=>
       some t4
      | .inr c1=>
       zd4 s at_ c1
   else
    (zdl s at_ c false).bind fun r=>match r with
     | .inl t4=>
      some t4
     | .inr c1=>
      zd4 s at_ c1
  else
   (zdl s at_ c false).bind fun r=>match r with
    | .inl t4=>
     some t4
    | .inr c1=>
     zd4 s at_ c1
 else
  (zdl s at_ c false).bind fun r=>match r with
   | .inl t4=>
    some t4
   | .inr c1=>
    zd4 s at_ c1
theorem zwF {s at_ c r} (h:zkI s at_ c=some r):zfu s at_ c=some r:=by
 unfold zkI at h
 refine zaq fun γ=>?_
 rcases zaa h with ⟨h1,h⟩ | ⟨h1,h⟩
 rcases zaa h with ⟨h2,h⟩ | ⟨h2,h⟩
 rcases zaa h with ⟨h3,h⟩ | ⟨h3,h⟩
 obtain ⟨b,h4,h⟩:=bind_some h
 obtain ⟨res,h5,h⟩:=zac h
 rcases zaa h with ⟨h6,h⟩ | ⟨h6,h⟩
 obtain ⟨b1,h7,h⟩:=bind_some h
 obtain ⟨res1,h8,h⟩:=zac h
 obtain ⟨r9,γ3,h9,h⟩:=zan h (gam [])
 rcases r9 with t4 | c1
 cases h;refine ⟨gam [],zak ?_⟩;rotate_left
 obtain ⟨γ4,h10⟩:=zai h (gam [])
 rcases r with t4
 refine ⟨gam [],zak ?_⟩;rotate_left
 obtain ⟨r7,γ2,h7,h⟩:=zan h (gam [])
 rcases r7 with t4 | c1
 cases h;refine ⟨gam [],zak ?_⟩;rotate_left
 obtain ⟨γ3,h8⟩:=zai h (gam [])
 rcases r with t4
 refine ⟨gam [],zak ?_⟩;rotate_left
 obtain ⟨r4,γ1,h4,h⟩:=zan h (gam [])
 rcases r4 with t4 | c1
 cases h;refine ⟨gam [],zak ?_⟩;rotate_left
 obtain ⟨γ2,h5⟩:=zai h (gam [])
 rcases r with t4
 refine ⟨gam [],zak ?_⟩;rotate_left
 obtain ⟨r3,γ1,h3,h⟩:=zan h (gam [])
 rcases r3 with t4 | c1
 cases h;refine ⟨gam [],zak ?_⟩;rotate_left
 obtain ⟨γ2,h4⟩:=zai h (gam [])
 rcases r with t4
 refine ⟨gam [],zak ?_⟩;rotate_left
 obtain ⟨r2,γ1,h2,h⟩:=zan h (gam [])
 rcases r2 with t4 | c1
 cases h;refine ⟨gam [],zak ?_⟩;rotate_left
 obtain ⟨γ2,h3⟩:=zai h (gam [])
 rcases r with t4
 refine ⟨gam [],zak ?_⟩;rotate_left
 all_goals (dsimp only [R1,zfr,zft,zfv] at *;show Ifc.apart IF_ _ (zB0 zvl zvn) _=_;generalize zvl=c0,zvn=c1 at *;exact fin_)
def zkF (s:ByteArray) (at_:Int) (c:Int) (t56:Bool):Option (Int ⊕ Int):=
 bif t56 then
  bif Ops.std.ieq c 224 then
   (zbZ s (Ops.std.iadd .i64 at_ 1)).bind fun b=>
   bif Ops.std.ilt b 160 then some (.inl 0) else
   some (.inl 3)
  else
   bif Ops.std.ieq c 237 then
    (zbZ s (Ops.std.iadd .i64 at_ 1)).bind fun b=>
    bif Ops.std.ilt 159 b then some (.inl 0) else
    some (.inl 3)
   else
    some (.inl 3)
 else
  some (.inr c)
theorem zpe {s at_ c t56 r} (h:zkF s at_ c t56=some r):zdl s at_ c t56=some r:=by
 unfold zkF at h
 refine zaq fun γ=>?_
 rcases zaa h with ⟨h1,h⟩ | ⟨h1,h⟩
 rcases zaa h with ⟨h2,h⟩ | ⟨h2,h⟩
 obtain ⟨b,h3,h⟩:=bind_some h
 rcases zaa h with ⟨h4,h⟩ | ⟨h4,h⟩
 cases h;refine ⟨gam [],zak ?_⟩;rotate_left
 have h5:=zlu h2 (b:=237) (by decide)
 cases h;refine ⟨gam [],zak ?_⟩;rotate_left
 rcases zaa h with ⟨h3,h⟩ | ⟨h3,h⟩
 obtain ⟨b,h4,h⟩:=bind_some h
 rcases zaa h with ⟨h5,h⟩ | ⟨h5,h⟩
 cases h;refine ⟨gam [],zak ?_⟩;rotate_left
 cases h;refine ⟨gam [],zak ?_⟩;rotate_left
 cases h;refine ⟨gam [],zak ?_⟩;rotate_left
 cases h;refine ⟨gam [],zak ?_⟩;rotate_left
 all_goals (dsimp only [zfr] at *;show Ifc.apart IF_ _ zBX _=_;exact fin_)
def zkH (s:ByteArray) (at_:Int) (c:Int):Option (Int):=
 bif Ops.std.ile 240 c then
  bif Ops.std.ile c 244 then
   bif Ops.std.ilt 3 (Ops.std.isub .i64 (Ops.std.slen s) at_) then
    (zbZ s (Ops.std.iadd .i64 at_ 1)).bind fun b=>
    (zhG b).bind fun res=>
    bif res then
     (zbZ s (Ops.std.iadd .i64 at_ 2)).bind fun b1=>
     (zhG b1).bind fun res1=>
     bif res1 then
      (zbZ s (Ops.std.iadd .i64 at_ 3)).bind fun b2=>
      (zhG b2).bind fun res2=>
      (zcB s at_ c res2).bind fun r=>match r with
       | .inl t4=>
        some t4
       | .inr ()=>
        some 0
     else
      (zcB s at_ c false).bind fun r=>match r with
       | .inl t4=>
        some t4
       | .inr ()=>
        some 0
    else
     (zcB s at_ c false).bind fun r=>match r with
      | .inl t4=>
       some t4
      | .inr ()=>
       some 0
   else
    (zcB s at_ c false).bind fun r=>match r with
     | .inl t4=>
      some t4
     | .inr ()=>
      some 0
  else
   (zcB s at_ c false).bind fun r=>match r with
    | .inl t4=>
     some t4
    | .inr ()=>
     some 0
 else
  (zcB s at_ c false).bind fun r=>match r with
   | .inl t4=>
    some t4
   | .inr ()=>
    some 0
theorem zwE {s at_ c r} (h:zkH s at_ c=some r):zd4 s at_ c=some r:=by
 unfold zkH at h
 refine zaq fun γ=>?_
 rcases zaa h with ⟨h1,h⟩ | ⟨h1,h⟩
 rcases zaa h with ⟨h2,h⟩ | ⟨h2,h⟩
 rcases zaa h with ⟨h3,h⟩ | ⟨h3,h⟩
 obtain ⟨b,h4,h⟩:=bind_some h
 obtain ⟨res,h5,h⟩:=zac h
 rcases zaa h with ⟨h6,h⟩ | ⟨h6,h⟩
 obtain ⟨b1,h7,h⟩:=bind_some h
 obtain ⟨res1,h8,h⟩:=zac h
 rcases zaa h with ⟨h9,h⟩ | ⟨h9,h⟩
 obtain ⟨b2,h10,h⟩:=bind_some h
 obtain ⟨res2,h11,h⟩:=zac h
 obtain ⟨r12,γ4,h12,h⟩:=zan h (gam [])
 rcases r12 with t4 | _
 cases h;refine ⟨gam [],zak ?_⟩;rotate_left
 cases h;refine ⟨gam [],zak ?_⟩;rotate_left
 obtain ⟨r10,γ3,h10,h⟩:=zan h (gam [])
 rcases r10 with t4 | _
 cases h;refine ⟨gam [],zak ?_⟩;rotate_left
 cases h;refine ⟨gam [],zak ?_⟩;rotate_left
 obtain ⟨r7,γ2,h7,h⟩:=zan h (gam [])
 rcases r7 with t4 | _
 cases h;refine ⟨gam [],zak ?_⟩;rotate_left
 cases h;refine ⟨gam [],zak ?_⟩;rotate_left
 obtain ⟨r4,γ1,h4,h⟩:=zan h (gam [])
 rcases r4 with t4 | _
 cases h;refine ⟨gam [],zak ?_⟩;rotate_left
 cases h;refine ⟨gam [],zak ?_⟩;rotate_left
 obtain ⟨r3,γ1,h3,h⟩:=zan h (gam [])
 rcases r3 with t4 | _
 cases h;refine ⟨gam [],zak ?_⟩;rotate_left
 cases h;refine ⟨gam [],zak ?_⟩;rotate_left
 obtain ⟨r2,γ1,h2,h⟩:=zan h (gam [])
 rcases r2 with t4 | _
 cases h;refine ⟨gam [],zak ?_⟩;rotate_left
 cases h;refine ⟨gam [],zak ?_⟩;rotate_left
 all_goals (dsimp only [R1,zfs,zft] at *;show Ifc.apart IF_ _ (zBZ zvm) _=_;generalize zvm=c0 at *;exact fin_)
def zkG (s:ByteArray) (at_:Int) (c:Int) (t107:Bool):Option (Int ⊕ Unit):=
 bif t107 then
  bif Ops.std.ieq c 240 then
   (zbZ s (Ops.std.iadd .i64 at_ 1)).bind fun b=>
   bif Ops.std.ilt b 144 then some (.inl 0) else
   some (.inl 4)
  else
   bif Ops.std.ieq c 244 then
    (zbZ s (Ops.std.iadd .i64 at_ 1)).bind fun b=>
    bif Ops.std.ilt 143 b then some (.inl 0) else
    some (.inl 4)
   else
    some (.inl 4)
 else
  some (.inr ())
theorem zpf {s at_ c t107 r} (h:zkG s at_ c t107=some r):zcB s at_ c t107=some r:=by
 unfold zkG at h
 refine zaq fun γ=>?_
 rcases zaa h with ⟨h1,h⟩ | ⟨h1,h⟩
 rcases zaa h with ⟨h2,h⟩ | ⟨h2,h⟩
 obtain ⟨b,h3,h⟩:=bind_some h
 rcases zaa h with ⟨h4,h⟩ | ⟨h4,h⟩
 cases h;refine ⟨gam [],zak ?_⟩;rotate_left
 have h5:=zlu h2 (b:=244) (by decide)
 cases h;refine ⟨gam [],zak ?_⟩;rotate_left
 rcases zaa h with ⟨h3,h⟩ | ⟨h3,h⟩
 obtain ⟨b,h4,h⟩:=bind_some h
 rcases zaa h with ⟨h5,h⟩ | ⟨h5,h⟩
 cases h;refine ⟨gam [],zak ?_⟩;rotate_left
 cases h;refine ⟨gam [],zak ?_⟩;rotate_left
 cases h;refine ⟨gam [],zak ?_⟩;rotate_left
 cases h;refine ⟨gam [],zak ?_⟩;rotate_left
 all_goals (dsimp only [zfs] at *;show Ifc.apart IF_ _ zBY _=_;exact fin_)
def zn9 (s:ByteArray) (at_:Int):Option (Int):=
 (zbZ s at_).bind fun b=>
 bif Ops.std.ilt b 128 then some 1 else
 bif Ops.std.ile 194 b then
  bif Ops.std.ile b 223 then
   bif Ops.std.ilt 1 (Ops.std.isub .i64 (Ops.std.slen s) at_) then
    (zbZ s (Ops.std.iadd .i64 at_ 1)).bind fun b1=>
    (zhG b1).bind fun res=>
    bif res then some 2 else
    zfu s at_ b
   else
    zfu s at_ b
  else
   zfu s at_ b
 else
  zfu s at_ b
theorem zA0 {s at_ r} (h:zn9 s at_=some r):zhF s at_=some r:=by
 unfold zn9 at h
 refine zar ?_
 obtain ⟨b,h1,h⟩:=bind_some h
 rcases zaa h with ⟨h2,h⟩ | ⟨h2,h⟩
 cases h;refine zab rfl ?_;rotate_left
 rcases zaa h with ⟨h3,h⟩ | ⟨h3,h⟩
 rcases zaa h with ⟨h4,h⟩ | ⟨h4,h⟩
 rcases zaa h with ⟨h5,h⟩ | ⟨h5,h⟩
 obtain ⟨b1,h6,h⟩:=bind_some h
 obtain ⟨res,h7,h⟩:=zac h
 rcases zaa h with ⟨h8,h⟩ | ⟨h8,h⟩
 cases h;refine zab rfl ?_;rotate_left
 obtain ⟨γ2,h9⟩:=zai h (gam [])
 rcases r with t4
 refine zab rfl ?_;rotate_left
 obtain ⟨γ1,h6⟩:=zai h (gam [])
 rcases r with t4
 refine zab rfl ?_;rotate_left
 obtain ⟨γ1,h5⟩:=zai h (gam [])
 rcases r with t4
 refine zab rfl ?_;rotate_left
 obtain ⟨γ1,h4⟩:=zai h (gam [])
 rcases r with t4
 refine zab rfl ?_;rotate_left
 all_goals (dsimp only [R1,zfv] at *;show zat IF_ (zIb zvo) _ _=_;generalize zvo=c0 at *;exact fin_)
def zgw (γ:Nat → Nat):Int → X × St
 | a0=>(.brk 0,⟨vU a0 :: bd 13 [],[]⟩)
instance:InjS zgw:=⟨fun γ γ' x y h=>by
 rcases x with a0 <;> rcases y with a0' <;> simp only [zgw] at h <;> exact inj_⟩
def zk9 (by_:Int) (u':Int) (i:Int):Option (Int):=asks (fun γ=>(lim F pr).loop [1,5,0] 0 zo1 ⟨vU u' :: vI by_ :: bd 3 (vI i :: bd 8 []),[]⟩) zgw
def ziZ (by_:Int) (u':Int) (i:Int):Option (Int):=
 bif Ops.std.ilt i by_ then
  bif Ops.std.ieq 2 0 then none else
  zk9 by_ (Ops.std.iquo .u64 u' 2) (Ops.std.iadd .i64 i 1)
 else
  some u'
theorem zq5 {by_ u' i r} (h:ziZ by_ u' i=some r):zk9 by_ u' i=some r:=by
 unfold ziZ at h
 refine zaq fun γ=>?_
 rcases zaa h with ⟨h1,h⟩ | ⟨h1,h⟩
 obtain ⟨h2,h⟩:=zmo h
 replace h:=zai h (gam []);obtain ⟨γ',h0⟩:=h;refine ⟨γ',zad ?_⟩;rotate_left
 cases h;refine ⟨gam [],zad ?_⟩;rotate_left
 all_goals (dsimp only [zgw] at *;show zaH IF_ _ _ zo1 zCc _=_;generalize zo1=c0 at *;exact fin_)
def zvV (u:Int) (by_:Int):Option (Int):=
 zk9 by_ u 0
theorem zDt {u by_ r} (h:zvV u by_=some r):zhI u by_=some r:=by
 unfold zvV at h
 refine zar ?_
 obtain ⟨γ1,h1⟩:=zai h (gam [])
 rcases r with u'
 refine zab rfl ?_;rotate_left
 all_goals (dsimp only [R1,zgw] at *;show zat IF_ (zIF zo1) _ _=_;generalize zo1=c0 at *;exact fin_)
def zmZ (p:Pair):Option (Bool):=
 (zmA p.key).bind fun res=>
 some (!res)
theorem zzw {p r} (h:zmZ p=some r):zqd p=some r:=by
 unfold zmZ at h
 refine zar ?_
 obtain ⟨res,h1,h⟩:=zac h
 cases h;refine zab rfl ?_;rotate_left
 all_goals (dsimp only [R1] at *;show zat IF_ zIk _ _=_;exact fin_)
def zmY (p:Pair):Option (Bool):=
 some (Ops.std.ilt 512 (Ops.std.slen p.val))
theorem zzu {p r} (h:zmY p=some r):zqb p=some r:=by
 unfold zmY at h
 refine zar ?_
 cases h;refine zab rfl ?_;rotate_left
 all_goals (dsimp only [R1] at *;show zat IF_ zIl _ _=_;exact fin_)
def zqo (c:Int):Option (Bool):=
 bif Ops.std.ile 128 c then some (Ops.std.ile c 191) else
 some false
theorem zDr {c r} (h:zqo c=some r):zhG c=some r:=by
 unfold zqo at h
 refine zar ?_
 rcases zaa h with ⟨h1,h⟩ | ⟨h1,h⟩
 cases h;refine zab rfl ?_;rotate_left
 cases h;refine zab rfl ?_;rotate_left
 all_goals (dsimp only [R1] at *;show zat IF_ zIE _ _=_;exact fin_)
end Go.Ab.Tryz
