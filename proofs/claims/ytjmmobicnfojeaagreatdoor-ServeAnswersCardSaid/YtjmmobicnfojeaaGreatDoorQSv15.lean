/- Our texts for this statement, merged: what its theorem leads to. -/
import Derived.Test.YtjmmobicnfojeaaGreatDoorQSv9
set_option linter.unusedVariables false
set_option linter.unusedSimpArgs false
noncomputable section
namespace Go.Ab.Tryz
open Go Go.Ab Go.Proofs
set_option maxRecDepth 10000
set_option maxHeartbeats 4000000
def zfI (γ:Nat → Nat):(List Pair) → X × St
 | a0=>(.brk 0,⟨bd 7 (.sl 1 ((γ 1)) :: bd 24 []),[.row 78 (γ 0) false (List.map zae []),.row 78 (γ 1) false (List.map zae a0)]⟩)
instance:InjS zfI:=⟨fun γ γ' x y h=>by
 rcases x with a0 <;> rcases y with a0' <;> simp only [zfI] at h <;> exact inj_⟩
def zhT (l:List Pair) (from_:Int) (to_:Int) (i:Int) (r1:List Pair):Option ((List Pair)):=asks (fun γ=>(lim F pr).loop [1,2,0,8,7] 2 zoL ⟨.lit 78 false (List.map zae l) :: vU from_ :: vU to_ :: bd 4 (.sl 1 ((γ 1)) :: vI i :: bd 23 []),[.row 78 (γ 0) false (List.map zae []),.row 78 (γ 1) false (List.map zae r1)]⟩) zfI
def zio (l:List Pair) (from_:Int) (to_:Int) (i:Int) (r1:List Pair):Option ((List Pair)):=
 bif Ops.std.ilt i (xlen zae l) then
  (xget zae l i).bind fun x=>
  (znH x.key).bind fun res=>
  (zjt from_ res to_).bind fun res1=>
  bif res1 then
   bif zaN zae 32 r1 [x] then zhT l from_ to_ (Ops.std.iadd .i64 i 1) (r1 ++ [x]) else
   none
  else
   zhT l from_ to_ (Ops.std.iadd .i64 i 1) r1
 else
  some r1
theorem zpk {l from_ to_ i r1 r} (h:zio l from_ to_ i r1=some r):zhT l from_ to_ i r1=some r:=by
 unfold zio at h
 refine zaq fun γ=>?_
 rcases zaa h with ⟨h1,h⟩ | ⟨h1,h⟩
 obtain ⟨x,h2,h⟩:=zac h
 obtain ⟨res,h3,h⟩:=zac h
 obtain ⟨res1,h4,h⟩:=zac h
 rcases zaa h with ⟨h5,h⟩ | ⟨h5,h⟩
 obtain ⟨h6,h⟩:=zaw h
 replace h:=zai h (gam [(γ 0),((γ 1) + 1)]);obtain ⟨γ',h0⟩:=h;refine ⟨γ',zad ?_⟩;rotate_left
 replace h:=zai h (gam [(γ 0),(γ 1)]);obtain ⟨γ',h0⟩:=h;refine ⟨γ',zad ?_⟩;rotate_left
 cases h;refine ⟨gam [(γ 0),(γ 1)],zad ?_⟩;rotate_left
 all_goals (dsimp only [R1,zfI] at *;show zaH IF_ _ _ zoL zBR _=_;generalize zoL=c0 at *;exact fin_)
def zoj (l:List Pair) (from_:Int) (to_:Int):Option ((List Pair)):=
 zhT l from_ to_ 0 []
theorem zBe {l from_ to_ r} (h:zoj l from_ to_=some r):zjJ l from_ to_=some r:=by
 unfold zoj at h
 refine zar ?_
 obtain ⟨γ1,h1⟩:=zai h (gam [0,0])
 rcases r with r1
 refine zab rfl ?_;rotate_left
 all_goals (dsimp only [R1,zfI] at *;show zat IF_ (zHY zoL) _ _=_;generalize zoL=c0 at *;exact fin_)
def zlQ (a:Int) (x:Int) (b:Int):Option (Bool):=
 bif Ops.std.ieq a b then some (!(Ops.std.ieq x a)) else
 bif Ops.std.ieq x b then some false else
 zjt a x b
theorem zxQ {a x b r} (h:zlQ a x b=some r):zk7 a x b=some r:=by
 unfold zlQ at h
 refine zar ?_
 rcases zaa h with ⟨h1,h⟩ | ⟨h1,h⟩
 cases h;refine zab rfl ?_;rotate_left
 rcases zaa h with ⟨h2,h⟩ | ⟨h2,h⟩
 cases h;refine zab rfl ?_;rotate_left
 have h3:=ask_some h
 rcases r with res
 refine zab rfl ?_;rotate_left
 all_goals (dsimp only [R1] at *;show zat IF_ zHI _ _=_;exact fin_)
def zfH (γ:Nat → Nat):((List Pair) × Int) → X × St
 | (a0,a1)=>(.brk 0,⟨.lit 78 false (List.map zae a0) :: bd 5 (vI a1 :: bd 38 []),[.row 78 (γ 0) false (List.map zae [])]⟩)
instance:InjS zfH:=⟨fun γ γ' x y h=>by
 rcases x with ⟨a0,a1⟩ <;> rcases y with ⟨a0',a1'⟩ <;> simp only [zfH] at h <;> exact inj_⟩
def zd6 (more:List Pair) (l':List Pair) (met:Int) (i:Int):Option (((List Pair) × Int)):=asks (fun γ=>(lim F pr).loop [1,7,0,6] 1 zoM ⟨.lit 78 false (List.map zae l') :: .lit 78 false (List.map zae more) :: bd 4 (vI met :: vI i :: bd 37 []),[.row 78 (γ 0) false (List.map zae [])]⟩) zfH
def zin (more:List Pair) (l':List Pair) (met:Int) (i:Int):Option (((List Pair) × Int)):=
 bif Ops.std.ilt i (xlen zae more) then
  (xget zae more i).bind fun x=>
  (zlD l' x.key).bind fun res=>
  bif Ops.std.ilt res 0 then
   (zpj l' x.key x.val).bind fun ⟨r0,r1⟩=>
   bif Ops.std.ieq r1 0 then zd6 more r0 met (Ops.std.iadd .i64 i 1) else
   zd6 more r0 r1 (Ops.std.iadd .i64 i 1)
  else
   zd6 more l' met (Ops.std.iadd .i64 i 1)
 else
  some (l',met)
theorem zpi {more l' met i r} (h:zin more l' met i=some r):zd6 more l' met i=some r:=by
 unfold zin at h
 refine zaq fun γ=>?_
 rcases zaa h with ⟨h1,h⟩ | ⟨h1,h⟩
 obtain ⟨x,h2,h⟩:=zac h
 obtain ⟨res,h3,h⟩:=zac h
 rcases zaa h with ⟨h4,h⟩ | ⟨h4,h⟩
 obtain ⟨r5,h5,h⟩:=zac h
 rcases r5 with ⟨r0,r1⟩
 rcases zaa h with ⟨h6,h⟩ | ⟨h6,h⟩
 replace h:=zai h (gam [(γ 0)]);obtain ⟨γ',h0⟩:=h;refine ⟨γ',zad ?_⟩;rotate_left
 replace h:=zai h (gam [(γ 0)]);obtain ⟨γ',h0⟩:=h;refine ⟨γ',zad ?_⟩;rotate_left
 replace h:=zai h (gam [(γ 0)]);obtain ⟨γ',h0⟩:=h;refine ⟨γ',zad ?_⟩;rotate_left
 cases h;refine ⟨gam [(γ 0)],zad ?_⟩;rotate_left
 all_goals (dsimp only [R1,R2,zfH] at *;show zaH IF_ _ _ zoM zBS _=_;generalize zoM=c0 at *;exact fin_)
def zt8 (l:List Pair) (more:List Pair):Option (((List Pair) × Int)):=
 zd6 more l 0 0
theorem zBd {l more r} (h:zt8 l more=some r):zsF l more=some r:=by
 unfold zt8 at h
 refine zar ?_
 obtain ⟨γ1,h1⟩:=zai h (gam [0])
 rcases r with ⟨l',met⟩
 refine zab rfl ?_;rotate_left
 all_goals (dsimp only [R2,zfH] at *;show zat IF_ (zHZ zoM) _ _=_;generalize zoM=c0 at *;exact fin_)
def zob (s:ByteArray):Option (Int):=
 (zwH s).bind fun res=>
 zwG res
theorem zA1 {s r} (h:zob s=some r):znH s=some r:=by
 unfold zob at h
 refine zar ?_
 obtain ⟨res,h1,h⟩:=zac h
 have h2:=ask_some h
 rcases r with res1
 refine zab rfl ?_;rotate_left
 all_goals (dsimp only [R1] at *;show zat IF_ g90F _ _=_;exact fin_)
def zqJ (n:Node) (key:Int):Option (Bool):=
 (zqK n key).bind fun ⟨r0,r1,r2⟩=>
 bif r2 then
  bif Ops.std.ieq r0.id n.me.id then
   bif Ops.std.ieq r0.addr n.me.addr then some true else
   some false
  else
   some false
 else
  some false
theorem zDI {n key r} (h:zqJ n key=some r):zuS n key=some r:=by
 unfold zqJ at h
 refine zar ?_
 obtain ⟨r1,h1,h⟩:=zac h
 rcases r1 with ⟨r0,r1,r2⟩
 rcases zaa h with ⟨h2,h⟩ | ⟨h2,h⟩
 rcases zaa h with ⟨h3,h⟩ | ⟨h3,h⟩
 rcases zaa h with ⟨h4,h⟩ | ⟨h4,h⟩
 cases h;refine zab rfl ?_;rotate_left
 cases h;refine zab rfl ?_;rotate_left
 cases h;refine zab rfl ?_;rotate_left
 cases h;refine zab rfl ?_;rotate_left
 all_goals (dsimp only [R1,R3] at *;show zat IF_ zH0 _ _=_;exact fin_)
def zfK (γ:Nat → Nat):Int ⊕ Unit → X × St
 | .inl a0=>(.ret,⟨bd 4 (vI a0 :: bd 15 []),[]⟩)
 | .inr ()=>(.brk 0,⟨bd 20 [],[]⟩)
instance:InjS zfK:=⟨fun γ γ' x y h=>by
 rcases x with a0 | _ <;> rcases y with a0' | _ <;> simp only [zfK] at h <;> exact inj_⟩
def zj7 (l:List Pair) (key:ByteArray) (i:Int):Option (Int ⊕ Unit):=asks (fun γ=>(lim F pr).loop [0,1,5] 0 zoN ⟨.lit 78 false (List.map zae l) :: vT key :: bd 3 (vI i :: bd 14 []),[]⟩) zfK
def zfJ (l:List Pair) (key:ByteArray) (i:Int):Option (Int ⊕ Unit):=
 bif Ops.std.ilt i (xlen zae l) then
  (xget zae l i).bind fun x=>
  bif Ops.std.seq x.key key then some (.inl i) else
  zj7 l key (Ops.std.iadd .i64 i 1)
 else
  some (.inr ())
theorem zkO {l key i r} (h:zfJ l key i=some r):zj7 l key i=some r:=by
 unfold zfJ at h
 refine zaq fun γ=>?_
 rcases zaa h with ⟨h1,h⟩ | ⟨h1,h⟩
 obtain ⟨x,h2,h⟩:=zac h
 rcases zaa h with ⟨h3,h⟩ | ⟨h3,h⟩
 cases h;refine ⟨gam [],zad ?_⟩;rotate_left
 replace h:=zai h (gam []);obtain ⟨γ',h0⟩:=h;refine ⟨γ',zad ?_⟩;rotate_left
 cases h;refine ⟨gam [],zad ?_⟩;rotate_left
 all_goals (dsimp only [zfK] at *;show zaH IF_ _ _ zoN zBT _=_;generalize zoN=c0 at *;exact fin_)
def zok (l:List Pair) (key:ByteArray):Option (Int):=
 (zj7 l key 0).bind fun r=>match r with
  | .inl t4=>
   some t4
  | .inr ()=>
   some (-1)
theorem zBf {l key r} (h:zok l key=some r):zlD l key=some r:=by
 unfold zok at h
 refine zar ?_
 obtain ⟨r1,γ1,h1,h⟩:=zan h (gam [])
 rcases r1 with t4 | _
 cases h;refine zab rfl ?_;rotate_left
 cases h;refine zab rfl ?_;rotate_left
 all_goals (dsimp only [R1,zfK] at *;show zat IF_ (zH1 zoN) _ _=_;generalize zoN=c0 at *;exact fin_)
def zfz (γ:Nat → Nat):Unit ⊕ Unit → X × St
 | .inl ()=>(.ret,⟨bd 4 (vF false :: bd 21 []),[]⟩)
 | .inr ()=>(.brk 0,⟨bd 26 [],[]⟩)
instance:InjS zfz:=⟨fun γ γ' x y h=>by
 rcases x with _ | _ <;> rcases y with _ | _ <;> simp only [zfz] at h <;> exact inj_⟩
def zhJ (a:List Peer) (b:List Peer) (i:Int):Option (Unit ⊕ Unit):=asks (fun γ=>(lim F pr).loop [0,1,5] 0 zoO ⟨.lit 25 false (List.map zaf a) :: .lit 25 false (List.map zaf b) :: bd 3 (vI i :: bd 20 []),[]⟩) zfz
def zcq (a:List Peer) (b:List Peer) (i:Int):Option (Unit ⊕ Unit):=
 bif Ops.std.ilt i (xlen zaf a) then
  (xget zaf a i).bind fun x=>
  (xget zaf b i).bind fun x1=>
  bif Ops.std.ieq x.id x1.id then
   bif Ops.std.ieq x.addr x1.addr then zhJ a b (Ops.std.iadd .i64 i 1) else
   some (.inl ())
  else
   some (.inl ())
 else
  some (.inr ())
theorem zdT {a b i r} (h:zcq a b i=some r):zhJ a b i=some r:=by
 unfold zcq at h
 refine zaq fun γ=>?_
 rcases zaa h with ⟨h1,h⟩ | ⟨h1,h⟩
 obtain ⟨x,h2,h⟩:=zac h
 obtain ⟨x1,h3,h⟩:=zac h
 rcases zaa h with ⟨h4,h⟩ | ⟨h4,h⟩
 rcases zaa h with ⟨h5,h⟩ | ⟨h5,h⟩
 replace h:=zai h (gam []);obtain ⟨γ',h0⟩:=h;refine ⟨γ',zad ?_⟩;rotate_left
 cases h;refine ⟨gam [],zad ?_⟩;rotate_left
 cases h;refine ⟨gam [],zad ?_⟩;rotate_left
 cases h;refine ⟨gam [],zad ?_⟩;rotate_left
 all_goals (dsimp only [zfz] at *;show zaH IF_ _ _ zoO zBU _=_;generalize zoO=c0 at *;exact fin_)
def zlb (a:List Peer) (b:List Peer):Option (Bool):=
 bif Ops.std.ieq (xlen zaf a) (xlen zaf b) then
  (zhJ a b 0).bind fun r=>match r with
   | .inl ()=>
    some false
   | .inr ()=>
    some true
 else
  some false
theorem zt5 {a b r} (h:zlb a b=some r):znJ a b=some r:=by
 unfold zlb at h
 refine zar ?_
 rcases zaa h with ⟨h1,h⟩ | ⟨h1,h⟩
 obtain ⟨r2,γ1,h2,h⟩:=zan h (gam [])
 rcases r2 with _ | _
 cases h;refine zab rfl ?_;rotate_left
 cases h;refine zab rfl ?_;rotate_left
 cases h;refine zab rfl ?_;rotate_left
 all_goals (dsimp only [R1,zfz] at *;show zat IF_ (zH2 zoO) _ _=_;generalize zoO=c0 at *;exact fin_)
def zdE (γ:Nat → Nat):(List Peer) → X × St
 | a0=>(.brk 0,⟨bd 5 (.sl 1 ((γ 1)) :: bd 18 []),[.row 25 (γ 0) false (List.map zaf []),.row 25 (γ 1) false (List.map zaf a0)]⟩)
instance:InjS zdE:=⟨fun γ γ' x y h=>by
 rcases x with a0 <;> rcases y with a0' <;> simp only [zdE] at h <;> exact inj_⟩
def zez (l:List Entry) (t10:Int) (r1:List Peer):Option ((List Peer)):=asks (fun γ=>(lim F pr).loop [9,8,1,10,5] 2 zhx ⟨bd 1 (.fn 146 [] :: bd 3 (.sl 1 ((γ 1)) :: bd 2 (.lit 81 false (List.map zag l) :: vI (xlen zag l) :: vI t10 :: bd 13 []))),[.row 25 (γ 0) false (List.map zaf []),.row 25 (γ 1) false (List.map zaf r1)]⟩) zdE
def zdD (l:List Entry) (t10:Int) (r1:List Peer):Option ((List Peer)):=
 bif Ops.std.ilt t10 (xlen zag l) then
  (xget zag l t10).bind fun x=>
  (zqj x).bind fun res=>
  bif res then
   bif zaN zaf 16 r1 [x.peer] then zez l (Ops.std.iadd .i64 t10 1) (r1 ++ [x.peer]) else
   none
  else
   zez l (Ops.std.iadd .i64 t10 1) r1
 else
  some r1
theorem zmb {l t10 r1 r} (h:zdD l t10 r1=some r):zez l t10 r1=some r:=by
 unfold zdD at h
 refine zaq fun γ=>?_
 rcases zaa h with ⟨h1,h⟩ | ⟨h1,h⟩
 obtain ⟨x,h2,h⟩:=zac h
 obtain ⟨res,h3,h⟩:=zac h
 rcases zaa h with ⟨h4,h⟩ | ⟨h4,h⟩
 obtain ⟨h5,h⟩:=zaw h
 replace h:=zai h (gam [(γ 0),((γ 1) + 1)]);obtain ⟨γ',h0⟩:=h;refine ⟨γ',zad ?_⟩;rotate_left
 replace h:=zai h (gam [(γ 0),(γ 1)]);obtain ⟨γ',h0⟩:=h;refine ⟨γ',zad ?_⟩;rotate_left
 cases h;refine ⟨gam [(γ 0),(γ 1)],zad ?_⟩;rotate_left
 all_goals (dsimp only [R1,zdE] at *;show zaH IF_ _ _ zhx zwh _=_;generalize zhx=c0 at *;exact fin_)
def zkC (l:List Entry):Option ((List Peer)):=
 zez l 0 []
theorem zwC {l r} (h:zkC l=some r):zsk l=some r:=by
 unfold zkC at h
 refine zar ?_
 obtain ⟨γ1,h1⟩:=zai h (gam [0,0])
 rcases r with r1
 refine zab rfl ?_;rotate_left
 all_goals (dsimp only [K1,zdE] at *;show zat IF_ (zCZ zhx) _ _=_;generalize zhx=c0 at *;exact fin_)
def zgz (a:ByteArray) (b:ByteArray) (γ:Nat → Nat):Bool ⊕ Unit → X × St
 | .inl a0=>(.ret,⟨bd 4 (vF a0 :: bd 32 []),[]⟩)
 | .inr ()=>(.brk 0,⟨vT a :: vT b :: bd 35 [],[]⟩)
instance {a b}:InjS (zgz a b):=⟨fun γ γ' x y h=>by
 rcases x with a0 | _ <;> rcases y with a0' | _ <;> simp only [zgz] at h <;> exact inj_⟩
def ziH (a:ByteArray) (b:ByteArray) (i:Int):Option (Bool ⊕ Unit):=asks (fun γ=>(lim F pr).loop [5,0,1] 0 zoP ⟨vT a :: vT b :: bd 3 (vI i :: bd 31 []),[]⟩) (zgz a b)
def zgA (a:ByteArray) (b:ByteArray) (γ:Nat → Nat):Int ⊕ Bool → X × St
 | .inl a0=>(.nor,⟨vT a :: vT b :: bd 3 (vI a0 :: bd 31 []),[]⟩)
 | .inr b0=>(.ret,⟨bd 4 (vF b0 :: bd 32 []),[]⟩)
instance {a b}:InjS (zgA a b):=⟨fun γ γ' x y h=>by
 rcases x with a0 | b0 <;> rcases y with a0' | b0' <;> simp only [zgA] at h <;> exact inj_⟩
def zlc (a:ByteArray) (b:ByteArray) (i:Int):Option (Int ⊕ Bool):=asks (fun γ=>(lim F pr).seg [5,0,1] zvk ⟨vT a :: vT b :: bd 3 (vI i :: bd 31 []),[]⟩) (zgA a b)
def zel (a:ByteArray) (b:ByteArray) (i:Int):Option (Bool ⊕ Unit):=
 bif Ops.std.ilt i (Ops.std.slen a) then
  bif Ops.std.ilt i (Ops.std.slen b) then
   (zlc a b i).bind fun r=>match r with
    | .inl i1=>
     ziH a b i1
    | .inr t4=>
     some (.inl t4)
  else
   some (.inr ())
 else
  some (.inr ())
theorem zi0 {a b i r} (h:zel a b i=some r):ziH a b i=some r:=by
 unfold zel at h
 refine zaq fun γ=>?_
 rcases zaa h with ⟨h1,h⟩ | ⟨h1,h⟩
 rcases zaa h with ⟨h2,h⟩ | ⟨h2,h⟩
 obtain ⟨r3,γ1,h3,h⟩:=zan h (gam [])
 rcases r3 with i1 | t4
 replace h:=zai h (gam []);obtain ⟨γ',h0⟩:=h;refine ⟨γ',zad ?_⟩;rotate_left
 cases h;refine ⟨gam [],zad ?_⟩;rotate_left
 cases h;refine ⟨gam [],zad ?_⟩;rotate_left
 cases h;refine ⟨gam [],zad ?_⟩;rotate_left
 all_goals (dsimp only [zgz,zgA] at *;show zaH IF_ _ _ zoP (zBW zvk) _=_;generalize zoP=c0,zvk=c1 at *;exact fin_)
def zi1 (a:ByteArray) (b:ByteArray) (i:Int):Option (Int ⊕ Bool):=
 (zbZ a i).bind fun b1=>
 (zbZ b i).bind fun b2=>
 bif Ops.std.ieq b1 b2 then some (.inl (Ops.std.iadd .i64 i 1)) else
 some (.inr (Ops.std.ilt b1 b2))
theorem zq6 {a b i r} (h:zi1 a b i=some r):zlc a b i=some r:=by
 unfold zi1 at h
 refine zaq fun γ=>?_
 obtain ⟨b1,h1,h⟩:=bind_some h
 obtain ⟨b2,h2,h⟩:=bind_some h
 rcases zaa h with ⟨h3,h⟩ | ⟨h3,h⟩
 cases h;refine ⟨gam [],zak ?_⟩;rotate_left
 cases h;refine ⟨gam [],zak ?_⟩;rotate_left
 all_goals (dsimp only [zgA] at *;show Ifc.apart IF_ _ zBV _=_;exact fin_)
def zqx (a:ByteArray) (b:ByteArray):Option (Bool):=
 (ziH a b 0).bind fun r=>match r with
  | .inl t4=>
   some t4
  | .inr ()=>
   some (Ops.std.ilt (Ops.std.slen a) (Ops.std.slen b))
theorem zDy {a b r} (h:zqx a b=some r):zqw a b=some r:=by
 unfold zqx at h
 refine zar ?_
 obtain ⟨r1,γ1,h1,h⟩:=zan h (gam [])
 rcases r1 with t4 | _
 cases h;refine zab rfl ?_;rotate_left
 cases h;refine zab rfl ?_;rotate_left
 all_goals (dsimp only [R1,zgz] at *;show zat IF_ (zH6 zoP) _ _=_;generalize zoP=c0 at *;exact fin_)
def zp8 (m:Msg):Option (Msg):=
 bif zaN zaf 16 [] m.peers then
  bif zaN zae 32 [] m.pairs then some m else
  none
 else
  none
theorem zDc {m r} (h:zp8 m=some r):zuA m=some r:=by
 unfold zp8 at h
 refine zar ?_
 obtain ⟨h1,h⟩:=zaw h
 obtain ⟨h2,h⟩:=zaw h
 cases h;refine zab rfl ?_;rotate_left
 all_goals (dsimp only [R1] at *;show zat IF_ zH7 _ _=_;exact fin_)
def zql (n:Node):Option (Int):=
 bif Ops.std.ilt n.clock 0 then some 0 else
 bif Ops.std.ilt 1099511627776 n.clock then some 0 else
 some n.clock
theorem zDl {n r} (h:zql n=some r):zuH n=some r:=by
 unfold zql at h
 refine zar ?_
 rcases zaa h with ⟨h1,h⟩ | ⟨h1,h⟩
 cases h;refine zab rfl ?_;rotate_left
 rcases zaa h with ⟨h2,h⟩ | ⟨h2,h⟩
 cases h;refine zab rfl ?_;rotate_left
 cases h;refine zab rfl ?_;rotate_left
 all_goals (dsimp only [R1] at *;show zat IF_ zH8 _ _=_;exact fin_)
def zsJ (n:Node):Option (Int):=
 bif Ops.std.ilt 0 n.clock then
  bif Ops.std.ile n.clock 1099511627776 then some n.clock else
  some 0
 else
  some 0
theorem zFJ {n r} (h:zsJ n=some r):zwO n=some r:=by
 unfold zsJ at h
 refine zar ?_
 rcases zaa h with ⟨h1,h⟩ | ⟨h1,h⟩
 rcases zaa h with ⟨h2,h⟩ | ⟨h2,h⟩
 cases h;refine zab rfl ?_;rotate_left
 cases h;refine zab rfl ?_;rotate_left
 cases h;refine zab rfl ?_;rotate_left
 all_goals (dsimp only [R1] at *;show zat IF_ zH9 _ _=_;exact fin_)
def zoC (s:ByteArray) (at_:Int) (c:Int):Option (Bool):=
 bif Ops.std.ieq c 65533 then
  (ztU s at_ (Ops.std.slen s)).bind fun z=>
  xopt (zqX z 0) (fun ⟨c1,nx⟩=>
   some (Ops.std.ieq nx 1))
   (some (Ops.std.ieq 0 1))
 else
  some false
theorem zBx {s at_ c r} (h:zoC s at_ c=some r):zs1 s at_ c=some r:=by
 unfold zoC at h
 refine zar ?_
 rcases zaa h with ⟨h1,h⟩ | ⟨h1,h⟩
 obtain ⟨z,h2,h⟩:=bind_some h
 rcases zs8 h with ⟨⟨c1,nx⟩,h3,h⟩ | ⟨h3,h⟩
 cases h;refine zab rfl ?_;rotate_left
 cases h;refine zab rfl ?_;rotate_left
 cases h;refine zab rfl ?_;rotate_left
 all_goals (dsimp only [R1] at *;show zat IF_ zIa _ _=_;exact fin_)
def znD (x:Entry) (b0:Int):Option (Bool):=
 some (Ops.std.ieq x.peer.addr b0)
theorem znE {x b0 r} (h:znD x b0=some r):ziX x b0=some r:=by
 unfold znD at h
 refine zar ?_
 cases h;refine zab rfl ?_;rotate_left
 all_goals (dsimp only [zey] at *;show zat IF_ zIg _ _=_;exact fin_)
def zb3 (b0:Int) (γ:Nat → Nat):Int ⊕ Unit → X × St
 | .inl a0=>(.ret,⟨bd 4 (vI a0 :: bd 14 []),[.box 23 [vH b0]]⟩)
 | .inr ()=>(.brk 0,⟨bd 19 [],[.box 23 [vH b0]]⟩)
instance {b0}:InjS (zb3 b0):=⟨fun γ γ' x y h=>by
 rcases x with a0 | _ <;> rcases y with a0' | _ <;> simp only [zb3] at h <;> exact inj_⟩
def zdH (s:List Entry) (b0:Int) (t8:Int):Option (Int ⊕ Unit):=asks (fun γ=>(lim F pr).loop [7,1,0,8] 1 zdB ⟨.lit 81 false (List.map zag s) :: .fn 165 [.bptr 0 0] :: bd 5 (vI (xlen zag s) :: vI t8 :: bd 10 []),[.box 23 [vH b0]]⟩) (zb3 b0)
def zb2 (s:List Entry) (b0:Int) (t8:Int):Option (Int ⊕ Unit):=
 bif Ops.std.ilt t8 (xlen zag s) then
  (xget zag s t8).bind fun x=>
  (ziX x b0).bind fun res=>
  bif res then some (.inl t8) else
  zdH s b0 (Ops.std.iadd .i64 t8 1)
 else
  some (.inr ())
theorem zeO {s b0 t8 r} (h:zb2 s b0 t8=some r):zdH s b0 t8=some r:=by
 unfold zb2 at h
 refine zaq fun γ=>?_
 rcases zaa h with ⟨h1,h⟩ | ⟨h1,h⟩
 obtain ⟨x,h2,h⟩:=zac h
 obtain ⟨res,h3,h⟩:=zac h
 rcases zaa h with ⟨h4,h⟩ | ⟨h4,h⟩
 cases h;refine ⟨gam [],zad ?_⟩;rotate_left
 replace h:=zai h (gam []);obtain ⟨γ',h0⟩:=h;refine ⟨γ',zad ?_⟩;rotate_left
 cases h;refine ⟨gam [],zad ?_⟩;rotate_left
 all_goals (dsimp only [zb3,zey] at *;show zaH IF_ _ _ zdB ztf _=_;generalize zdB=c0 at *;exact fin_)
def zg9 (s:List Entry) (b0:Int):Option (Int):=
 (zdH s b0 0).bind fun r=>match r with
  | .inl t4=>
   some t4
  | .inr ()=>
   some (-1)
theorem zrq {s b0 r} (h:zg9 s b0=some r):ziy s b0=some r:=by
 unfold zg9 at h
 refine zar ?_
 obtain ⟨r1,γ1,h1,h⟩:=zan h (gam [])
 rcases r1 with t4 | _
 cases h;refine zab rfl ?_;rotate_left
 cases h;refine zab rfl ?_;rotate_left
 all_goals (dsimp only [zcL,zb3] at *;show zat IF_ (zyC zdB) _ _=_;generalize zdB=c0 at *;exact fin_)
def zer (γ:Nat → Nat):Unit ⊕ Unit → X × St
 | .inl ()=>(.ret,⟨bd 4 (vF false :: bd 21 []),[]⟩)
 | .inr ()=>(.brk 0,⟨bd 26 [],[]⟩)
instance:InjS zer:=⟨fun γ γ' x y h=>by
 rcases x with _ | _ <;> rcases y with _ | _ <;> simp only [zer] at h <;> exact inj_⟩
def ziO (s1:List Peer) (s2:List Peer) (t13:Int):Option (Unit ⊕ Unit):=asks (fun γ=>(lim F pr).loop [12,0,1,13] 0 zoS ⟨.lit 25 false (List.map zaf s1) :: .lit 25 false (List.map zaf s2) :: bd 10 (vI (xlen zaf s1) :: vI t13 :: bd 12 []),[]⟩) zer
def zeq (s1:List Peer) (s2:List Peer) (t13:Int):Option (Unit ⊕ Unit):=
 bif Ops.std.ilt t13 (xlen zaf s1) then
  (xget zaf s1 t13).bind fun x=>
  (xget zaf s2 t13).bind fun x1=>
  bif Ops.std.ieq x.id x1.id then
   bif Ops.std.ieq x.addr x1.addr then ziO s1 s2 (Ops.std.iadd .i64 t13 1) else
   some (.inl ())
  else
   some (.inl ())
 else
  some (.inr ())
theorem zjN {s1 s2 t13 r} (h:zeq s1 s2 t13=some r):ziO s1 s2 t13=some r:=by
 unfold zeq at h
 refine zaq fun γ=>?_
 rcases zaa h with ⟨h1,h⟩ | ⟨h1,h⟩
 obtain ⟨x,h2,h⟩:=zac h
 obtain ⟨x1,h3,h⟩:=zac h
 rcases zaa h with ⟨h4,h⟩ | ⟨h4,h⟩
 rcases zaa h with ⟨h5,h⟩ | ⟨h5,h⟩
 replace h:=zai h (gam []);obtain ⟨γ',h0⟩:=h;refine ⟨γ',zad ?_⟩;rotate_left
 cases h;refine ⟨gam [],zad ?_⟩;rotate_left
 cases h;refine ⟨gam [],zad ?_⟩;rotate_left
 cases h;refine ⟨gam [],zad ?_⟩;rotate_left
 all_goals (dsimp only [zer] at *;show zaH IF_ _ _ zoS zB3 _=_;generalize zoS=c0 at *;exact fin_)
def zmF (s1:List Peer) (s2:List Peer):Option (Bool):=
 bif Ops.std.ieq (xlen zaf s1) (xlen zaf s2) then
  (ziO s1 s2 0).bind fun r=>match r with
   | .inl ()=>
    some false
   | .inr ()=>
    some true
 else
  some false
theorem zyJ {s1 s2 r} (h:zmF s1 s2=some r):zpC s1 s2=some r:=by
 unfold zmF at h
 refine zar ?_
 rcases zaa h with ⟨h1,h⟩ | ⟨h1,h⟩
 obtain ⟨r2,γ1,h2,h⟩:=zan h (gam [])
 rcases r2 with _ | _
 cases h;refine zab rfl ?_;rotate_left
 cases h;refine zab rfl ?_;rotate_left
 cases h;refine zab rfl ?_;rotate_left
 all_goals (dsimp only [zer,R1] at *;show zat IF_ (zIi zoS) _ _=_;generalize zoS=c0 at *;exact fin_)
def zep (γ:Nat → Nat):Unit ⊕ Unit → X × St
 | .inl ()=>(.ret,⟨bd 4 (vF false :: bd 21 []),[]⟩)
 | .inr ()=>(.brk 0,⟨bd 26 [],[]⟩)
instance:InjS zep:=⟨fun γ γ' x y h=>by
 rcases x with _ | _ <;> rcases y with _ | _ <;> simp only [zep] at h <;> exact inj_⟩
def ziN (s1:List Pair) (s2:List Pair) (t13:Int):Option (Unit ⊕ Unit):=asks (fun γ=>(lim F pr).loop [12,0,1,13] 0 zoT ⟨.lit 78 false (List.map zae s1) :: .lit 78 false (List.map zae s2) :: bd 10 (vI (xlen zae s1) :: vI t13 :: bd 12 []),[]⟩) zep
def zeo (s1:List Pair) (s2:List Pair) (t13:Int):Option (Unit ⊕ Unit):=
 bif Ops.std.ilt t13 (xlen zae s1) then
  (xget zae s1 t13).bind fun x=>
  (xget zae s2 t13).bind fun x1=>
  bif Ops.std.seq x.key x1.key then
   bif Ops.std.seq x.val x1.val then ziN s1 s2 (Ops.std.iadd .i64 t13 1) else
   some (.inl ())
  else
   some (.inl ())
 else
  some (.inr ())
theorem zjM {s1 s2 t13 r} (h:zeo s1 s2 t13=some r):ziN s1 s2 t13=some r:=by
 unfold zeo at h
 refine zaq fun γ=>?_
 rcases zaa h with ⟨h1,h⟩ | ⟨h1,h⟩
 obtain ⟨x,h2,h⟩:=zac h
 obtain ⟨x1,h3,h⟩:=zac h
 rcases zaa h with ⟨h4,h⟩ | ⟨h4,h⟩
 rcases zaa h with ⟨h5,h⟩ | ⟨h5,h⟩
 replace h:=zai h (gam []);obtain ⟨γ',h0⟩:=h;refine ⟨γ',zad ?_⟩;rotate_left
 cases h;refine ⟨gam [],zad ?_⟩;rotate_left
 cases h;refine ⟨gam [],zad ?_⟩;rotate_left
 cases h;refine ⟨gam [],zad ?_⟩;rotate_left
 all_goals (dsimp only [zep] at *;show zaH IF_ _ _ zoT zB4 _=_;generalize zoT=c0 at *;exact fin_)
def zmE (s1:List Pair) (s2:List Pair):Option (Bool):=
 bif Ops.std.ieq (xlen zae s1) (xlen zae s2) then
  (ziN s1 s2 0).bind fun r=>match r with
   | .inl ()=>
    some false
   | .inr ()=>
    some true
 else
  some false
theorem zyI {s1 s2 r} (h:zmE s1 s2=some r):zpB s1 s2=some r:=by
 unfold zmE at h
 refine zar ?_
 rcases zaa h with ⟨h1,h⟩ | ⟨h1,h⟩
 obtain ⟨r2,γ1,h2,h⟩:=zan h (gam [])
 rcases r2 with _ | _
 cases h;refine zab rfl ?_;rotate_left
 cases h;refine zab rfl ?_;rotate_left
 cases h;refine zab rfl ?_;rotate_left
 all_goals (dsimp only [zep,R1] at *;show zat IF_ (zIj zoT) _ _=_;generalize zoT=c0 at *;exact fin_)
def zg8 (s:List Pair):Option (Bool):=
 (zjl s).bind fun res=>
 some (Ops.std.ile 0 res)
theorem zrp {s r} (h:zg8 s=some r):zeZ s=some r:=by
 unfold zg8 at h
 refine zar ?_
 obtain ⟨res,h1,h⟩:=zac h
 cases h;refine zab rfl ?_;rotate_left
 all_goals (dsimp only [R1] at *;show zat IF_ zC0 _ _=_;exact fin_)
def ze7 (s:List Pair):Option (Bool):=
 (zjm s).bind fun res=>
 some (Ops.std.ile 0 res)
theorem zoF {s r} (h:ze7 s=some r):zg7 s=some r:=by
 unfold ze7 at h
 refine zar ?_
 obtain ⟨res,h1,h⟩:=zac h
 cases h;refine zab rfl ?_;rotate_left
 all_goals (dsimp only [R1] at *;show zat IF_ zC0 _ _=_;exact fin_)
def zt7:Option ((List ByteArray)):=
 some ([⟨#[63]⟩,⟨#[102,105,110,100]⟩,⟨#[104,111,112]⟩,⟨#[97,115,107]⟩,⟨#[116,101,108,108]⟩,⟨#[110,111,116,101]⟩,⟨#[111,107,97,121]⟩,⟨#[112,117,116]⟩,⟨#[103,101,116]⟩,⟨#[103,111,116]⟩,⟨#[109,111,118,101]⟩,⟨#[112,105,110,103]⟩,⟨#[110,97,121]⟩])
theorem zA6 {r} (h:zt7=some r):zsw=some r:=by
 unfold zt7 at h
 refine zar ?_
 cases h;refine zab rfl ?_;rotate_left
 all_goals (dsimp only [R1] at *;show zat IF_ zIm _ _=_;exact fin_)
def zfq (γ:Nat → Nat):Unit ⊕ Unit → X × St
 | .inl ()=>(.ret,⟨bd 2 (vF false :: bd 16 []),[]⟩)
 | .inr ()=>(.brk 0,⟨bd 19 [],[]⟩)
instance:InjS zfq:=⟨fun γ γ' x y h=>by
 rcases x with _ | _ <;> rcases y with _ | _ <;> simp only [zfq] at h <;> exact inj_⟩
def zhE (l:List ByteArray) (i:Int):Option (Unit ⊕ Unit):=asks (fun γ=>(lim F pr).loop [3,4] 0 ztD ⟨bd 3 (.lit 9 false (List.map vT l) :: vI i :: bd 14 []),[]⟩) zfq
def zfp (l:List ByteArray) (i:Int):Option (Unit ⊕ Unit):=
 bif Ops.std.ilt i (xlen vT l) then
  (xget vT l i).bind fun x=>
  (zhF x 0).bind fun res=>
  bif Ops.std.ieq res 0 then some (.inl ()) else
  zhE l (Ops.std.iadd .i64 i 1)
 else
  some (.inr ())
theorem zkE {l i r} (h:zfp l i=some r):zhE l i=some r:=by
 unfold zfp at h
 refine zaq fun γ=>?_
 rcases zaa h with ⟨h1,h⟩ | ⟨h1,h⟩
 obtain ⟨x,h2,h⟩:=zac h
 obtain ⟨res,h3,h⟩:=zac h
 rcases zaa h with ⟨h4,h⟩ | ⟨h4,h⟩
 cases h;refine ⟨gam [],zad ?_⟩;rotate_left
 replace h:=zai h (gam []);obtain ⟨γ',h0⟩:=h;refine ⟨γ',zad ?_⟩;rotate_left
 cases h;refine ⟨gam [],zad ?_⟩;rotate_left
 all_goals (dsimp only [R1,zfq] at *;show zaH IF_ _ _ ztD zEI _=_;generalize ztD=c0 at *;exact fin_)
def zn8 (s:ByteArray):Option (Bool):=
 (znG s).bind fun res=>
 (zhE res 0).bind fun r=>match r with
  | .inl ()=>
   some false
  | .inr ()=>
   some true
theorem zAZ {s r} (h:zn8 s=some r):zso s=some r:=by
 unfold zn8 at h
 refine zar ?_
 obtain ⟨res,h1,h⟩:=zac h
 obtain ⟨r2,γ2,h2,h⟩:=zan h (gam [])
 rcases r2 with _ | _
 cases h;refine zab rfl ?_;rotate_left
 cases h;refine zab rfl ?_;rotate_left
 all_goals (dsimp only [R1,zfq] at *;show zat IF_ (g85F ztD) _ _=_;generalize ztD=c0 at *;exact fin_)
def zfo (γ:Nat → Nat):(List ByteArray) → X × St
 | a0=>(.brk 0,⟨bd 3 (.sl 1 ((γ 1)) :: bd 24 []),[.row 9 (γ 0) false (List.map vT []),.row 9 (γ 1) false (List.map vT a0)]⟩)
instance:InjS zfo:=⟨fun γ γ' x y h=>by
 rcases x with a0 <;> rcases y with a0' <;> simp only [zfo] at h <;> exact inj_⟩
def zfn (s:ByteArray) (at_:Int) (r1:List ByteArray):Option ((List ByteArray)):=asks (fun γ=>(lim F pr).loop [0,4,3] 2 ztE ⟨vT s :: bd 2 (.sl 1 ((γ 1)) :: vI at_ :: bd 23 []),[.row 9 (γ 0) false (List.map vT []),.row 9 (γ 1) false (List.map vT r1)]⟩) zfo
def zij (s:ByteArray) (at_:Int) (r1:List ByteArray):Option ((List ByteArray)):=
 bif Ops.std.ilt at_ (Ops.std.slen s) then
  (zhF s at_).bind fun res=>
  bif Ops.std.ieq res 0 then
   (ztU s at_ (Ops.std.iadd .i64 at_ 1)).bind fun z=>
   bif zaN vT 16 r1 [z] then zfn s (Ops.std.iadd .i64 at_ 1) (r1 ++ [z]) else
   none
  else
   (ztU s at_ (Ops.std.iadd .i64 at_ res)).bind fun z=>
   bif zaN vT 16 r1 [z] then zfn s (Ops.std.iadd .i64 at_ res) (r1 ++ [z]) else
   none
 else
  some r1
theorem zpd {s at_ r1 r} (h:zij s at_ r1=some r):zfn s at_ r1=some r:=by
 unfold zij at h
 refine zaq fun γ=>?_
 rcases zaa h with ⟨h1,h⟩ | ⟨h1,h⟩
 obtain ⟨res,h2,h⟩:=zac h
 rcases zaa h with ⟨h3,h⟩ | ⟨h3,h⟩
 obtain ⟨z,h4,h⟩:=bind_some h
 obtain ⟨h5,h⟩:=zaw h
 replace h:=zai h (gam [(γ 0),((γ 1) + 1)]);obtain ⟨γ',h0⟩:=h;refine ⟨γ',zad ?_⟩;rotate_left
 obtain ⟨z,h4,h⟩:=bind_some h
 obtain ⟨h5,h⟩:=zaw h
 replace h:=zai h (gam [(γ 0),((γ 1) + 1)]);obtain ⟨γ',h0⟩:=h;refine ⟨γ',zad ?_⟩;rotate_left
 cases h;refine ⟨gam [(γ 0),(γ 1)],zad ?_⟩;rotate_left
 all_goals (dsimp only [R1,zfo] at *;show zaH IF_ _ _ ztE zEJ _=_;generalize ztE=c0 at *;exact fin_)
def zn7 (s:ByteArray):Option ((List ByteArray)):=
 zfn s 0 []
theorem zAY {s r} (h:zn7 s=some r):znG s=some r:=by
 unfold zn7 at h
 refine zar ?_
 obtain ⟨γ1,h1⟩:=zai h (gam [0,0])
 rcases r with r1
 refine zab rfl ?_;rotate_left
 all_goals (dsimp only [R1,zfo] at *;show zat IF_ (g86F ztE) _ _=_;generalize ztE=c0 at *;exact fin_)
def zt3:Option ((List Msg_kind)):=
 some ([(⟨⟨#[63]⟩,0,[]⟩:Msg_kind),(⟨⟨#[102,105,110,100]⟩,4,[2,12]⟩:Msg_kind),(⟨⟨#[104,111,112]⟩,18,[]⟩:Msg_kind),(⟨⟨#[97,115,107]⟩,0,[4]⟩:Msg_kind),(⟨⟨#[116,101,108,108]⟩,282,[]⟩:Msg_kind),(⟨⟨#[110,111,116,101]⟩,8,[6]⟩:Msg_kind),(⟨⟨#[111,107,97,121]⟩,0,[]⟩:Msg_kind),(⟨⟨#[112,117,116]⟩,96,[6,12]⟩:Msg_kind),(⟨⟨#[103,101,116]⟩,32,[9,12]⟩:Msg_kind),(⟨⟨#[103,111,116]⟩,322,[]⟩:Msg_kind),(⟨⟨#[109,111,118,101]⟩,130,[6]⟩:Msg_kind),(⟨⟨#[112,105,110,103]⟩,0,[6]⟩:Msg_kind),(⟨⟨#[110,97,121]⟩,1,[]⟩:Msg_kind)])
theorem zAP {r} (h:zt3=some r):zsa=some r:=by
 unfold zt3 at h
 refine zar ?_
 cases h;refine zab rfl ?_;rotate_left
 all_goals (dsimp only [R1] at *;show zat IF_ zIr _ _=_;exact fin_)
def zo5 (q:Peer) (zaT:Int) (zaA:Int):Option (Bool):=
 some (Ops.std.ieq q.addr zaA)
theorem zwp {q zaT zaA r} (h:zo5 q zaT zaA=some r):zmQ q zaT zaA=some r:=by
 unfold zo5 at h
 refine zar ?_
 cases h;refine zab rfl ?_;rotate_left
 all_goals (dsimp only [zfi] at *;show zat IF_ zIG _ _=_;exact fin_)
def zcQ (zaT:Int) (zaA:Int) (γ:Nat → Nat):Int ⊕ Unit → X × St
 | .inl a0=>(.ret,⟨bd 4 (vI a0 :: bd 14 []),[.box 25 [vU zaT,vH zaA]]⟩)
 | .inr ()=>(.brk 0,⟨bd 19 [],[.box 25 [vU zaT,vH zaA]]⟩)
instance {zaT zaA}:InjS (zcQ zaT zaA):=⟨fun γ γ' x y h=>by
 rcases x with a0 | _ <;> rcases y with a0' | _ <;> simp only [zcQ] at h <;> exact inj_⟩
def ze1 (s:List Peer) (zaT:Int) (zaA:Int) (t8:Int):Option (Int ⊕ Unit):=asks (fun γ=>(lim F pr).loop [7,1,0,8] 1 zoU ⟨.lit 25 false (List.map zaf s) :: .fn 221 [.bptr 0 0] :: bd 5 (vI (xlen zaf s) :: vI t8 :: bd 10 []),[.box 25 [vU zaT,vH zaA]]⟩) (zcQ zaT zaA)
def zcP (s:List Peer) (zaT:Int) (zaA:Int) (t8:Int):Option (Int ⊕ Unit):=
 bif Ops.std.ilt t8 (xlen zaf s) then
  (xget zaf s t8).bind fun x=>
  (zmQ x zaT zaA).bind fun res=>
  bif res then some (.inl t8) else
  ze1 s zaT zaA (Ops.std.iadd .i64 t8 1)
 else
  some (.inr ())
theorem zhc {s zaT zaA t8 r} (h:zcP s zaT zaA t8=some r):ze1 s zaT zaA t8=some r:=by
 unfold zcP at h
 refine zaq fun γ=>?_
 rcases zaa h with ⟨h1,h⟩ | ⟨h1,h⟩
 obtain ⟨x,h2,h⟩:=zac h
 obtain ⟨res,h3,h⟩:=zac h
 rcases zaa h with ⟨h4,h⟩ | ⟨h4,h⟩
 cases h;refine ⟨gam [],zad ?_⟩;rotate_left
 replace h:=zai h (gam []);obtain ⟨γ',h0⟩:=h;refine ⟨γ',zad ?_⟩;rotate_left
 cases h;refine ⟨gam [],zad ?_⟩;rotate_left
 all_goals (dsimp only [zcQ,zfi] at *;show zaH IF_ _ _ zoU zB5 _=_;generalize zoU=c0 at *;exact fin_)
def zjo (s:List Peer) (zaT:Int) (zaA:Int):Option (Int):=
 (ze1 s zaT zaA 0).bind fun r=>match r with
  | .inl t4=>
   some t4
  | .inr ()=>
   some (-1)
theorem zuk {s zaT zaA r} (h:zjo s zaT zaA=some r):zko s zaT zaA=some r:=by
 unfold zjo at h
 refine zar ?_
 obtain ⟨r1,γ1,h1,h⟩:=zan h (gam [])
 rcases r1 with t4 | _
 cases h;refine zab rfl ?_;rotate_left
 cases h;refine zab rfl ?_;rotate_left
 all_goals (dsimp only [zdV,zcQ] at *;show zat IF_ (zIn zoU) _ _=_;generalize zoU=c0 at *;exact fin_)
def zq3 (x0:Entry):Option (Bool):=
 some true
theorem zxN {x0 r} (h:zq3 x0=some r):zn2 x0=some r:=by
 unfold zq3 at h
 refine zar ?_
 cases h;refine zab rfl ?_;rotate_left
 all_goals (dsimp only [R1] at *;show zat IF_ zIv _ _=_;exact fin_)
def zpa (x:Entry) (b0:Int):Option (Bool):=
 some (Ops.std.ieq x.peer.addr b0)
theorem zkA {x b0 r} (h:zpa x b0=some r):zfm x b0=some r:=by
 unfold zpa at h
 refine zar ?_
 cases h;refine zab rfl ?_;rotate_left
 all_goals (dsimp only [zdS] at *;show zat IF_ zII _ _=_;exact fin_)
def zb5 (b0:Int) (γ:Nat → Nat):Int ⊕ Unit → X × St
 | .inl a0=>(.ret,⟨bd 4 (vI a0 :: bd 14 []),[.box 23 [vH b0]]⟩)
 | .inr ()=>(.brk 0,⟨bd 19 [],[.box 23 [vH b0]]⟩)
instance {b0}:InjS (zb5 b0):=⟨fun γ γ' x y h=>by
 rcases x with a0 | _ <;> rcases y with a0' | _ <;> simp only [zb5] at h <;> exact inj_⟩
def zdI (s:List Entry) (b0:Int) (t8:Int):Option (Int ⊕ Unit):=asks (fun γ=>(lim F pr).loop [7,1,0,8] 1 zdB ⟨.lit 81 false (List.map zag s) :: .fn 228 [.bptr 0 0] :: bd 5 (vI (xlen zag s) :: vI t8 :: bd 10 []),[.box 23 [vH b0]]⟩) (zb5 b0)
def zb4 (s:List Entry) (b0:Int) (t8:Int):Option (Int ⊕ Unit):=
 bif Ops.std.ilt t8 (xlen zag s) then
  (xget zag s t8).bind fun x=>
  (zfm x b0).bind fun res=>
  bif res then some (.inl t8) else
  zdI s b0 (Ops.std.iadd .i64 t8 1)
 else
  some (.inr ())
theorem zeP {s b0 t8 r} (h:zb4 s b0 t8=some r):zdI s b0 t8=some r:=by
 unfold zb4 at h
 refine zaq fun γ=>?_
 rcases zaa h with ⟨h1,h⟩ | ⟨h1,h⟩
 obtain ⟨x,h2,h⟩:=zac h
 obtain ⟨res,h3,h⟩:=zac h
 rcases zaa h with ⟨h4,h⟩ | ⟨h4,h⟩
 cases h;refine ⟨gam [],zad ?_⟩;rotate_left
 replace h:=zai h (gam []);obtain ⟨γ',h0⟩:=h;refine ⟨γ',zad ?_⟩;rotate_left
 cases h;refine ⟨gam [],zad ?_⟩;rotate_left
 all_goals (dsimp only [zb5,zdS] at *;show zaH IF_ _ _ zdB ztf _=_;generalize zdB=c0 at *;exact fin_)
def zha (s:List Entry) (b0:Int):Option (Int):=
 (zdI s b0 0).bind fun r=>match r with
  | .inl t4=>
   some t4
  | .inr ()=>
   some (-1)
theorem zrr {s b0 r} (h:zha s b0=some r):ziz s b0=some r:=by
 unfold zha at h
 refine zar ?_
 obtain ⟨r1,γ1,h1,h⟩:=zan h (gam [])
 rcases r1 with t4 | _
 cases h;refine zab rfl ?_;rotate_left
 cases h;refine zab rfl ?_;rotate_left
 all_goals (dsimp only [zcM,zb5] at *;show zat IF_ (zyC zdB) _ _=_;generalize zdB=c0 at *;exact fin_)
def zcf (b1:Int) (γ:Nat → Nat):(Int × (List Entry)) → X × St
 | (a0,a1)=>(.brk 0,⟨.sl 0 ((γ 0)) :: bd 4 (vI a0 :: bd 36 []),[.row 81 (γ 0) false (List.map zag a1),.box 23 [vH b1],.row 81 (γ 2) false (List.map zag [])]⟩)
instance {b1}:InjS (zcf b1):=⟨fun γ γ' x y h=>by
 rcases x with ⟨a0,a1⟩ <;> rcases y with ⟨a0',a1'⟩ <;> simp only [zcf] at h <;> exact inj_⟩
def zb0 (b1:Int) (i:Int) (j:Int) (r0':List Entry):Option ((Int × (List Entry))):=asks (fun γ=>(lim F pr).loop [1,6,0,5] 3 zo2 ⟨.sl 0 ((γ 0)) :: .fn 228 [.bptr 1 0] :: bd 3 (vI i :: vI j :: bd 35 []),[.row 81 (γ 0) false (List.map zag r0'),.box 23 [vH b1],.row 81 (γ 2) false (List.map zag [])]⟩) (zcf b1)
def zbM (b1:Int) (i:Int) (j:Int) (r0':List Entry):Option ((Int × (List Entry))):=
 bif Ops.std.ilt j (xlen zag r0') then
  (xget zag r0' j).bind fun x=>
  (zfm x b1).bind fun res=>
  bif res then zb0 b1 i (Ops.std.iadd .i64 j 1) r0' else
  (xget zag r0' i).bind fun x1=>
  zb0 b1 (Ops.std.iadd .i64 i 1) (Ops.std.iadd .i64 j 1) (xset r0' i x)
 else
  some (i,r0')
theorem zdq {b1 i j r0' r} (h:zbM b1 i j r0'=some r):zb0 b1 i j r0'=some r:=by
 unfold zbM at h
 refine zaq fun γ=>?_
 rcases zaa h with ⟨h1,h⟩ | ⟨h1,h⟩
 obtain ⟨x,h2,h⟩:=zac h
 obtain ⟨res,h3,h⟩:=zac h
 rcases zaa h with ⟨h4,h⟩ | ⟨h4,h⟩
 replace h:=zai h (gam [(γ 0),0,(γ 2)]);obtain ⟨γ',h0⟩:=h;refine ⟨γ',zad ?_⟩;rotate_left
 obtain ⟨x1,h5,h⟩:=zac h
 replace h:=zai h (gam [(γ 0),0,(γ 2)]);obtain ⟨γ',h0⟩:=h;refine ⟨γ',zad ?_⟩;rotate_left
 cases h;refine ⟨gam [(γ 0),0,(γ 2)],zad ?_⟩;rotate_left
 all_goals (dsimp only [zcf,zdS] at *;show zaH IF_ _ _ zo2 zCd _=_;generalize zo2=c0 at *;exact fin_)
def zhr (r0:List Entry) (b1:Int):Option ((List Entry)):=
 (ziz r0 b1).bind fun res=>
 bif Ops.std.ieq res (-1) then some r0 else
 (zb0 b1 res (Ops.std.iadd .i64 res 1) r0).bind fun ⟨i,r0'⟩=>
 (xsub zag r0' i (xlen zag r0')).bind fun ys=>
 (xsub zag (xfil r0' i (xlen zag r0') (⟨(⟨0,0⟩:Peer),0⟩:Entry)) 0 i).bind fun ys1=>
 bif Ops.std.ieq 0 0 then some ys1 else
 none
theorem zrE {r0 b1 r} (h:zhr r0 b1=some r):zjj r0 b1=some r:=by
 unfold zhr at h
 refine zaq fun γ=>?_
 obtain ⟨res,h1,h⟩:=zac h
 rcases zaa h with ⟨h2,h⟩ | ⟨h2,h⟩
 cases h;refine ⟨gam [γ 0,0],zab rfl ?_⟩;rotate_left
 obtain ⟨r3,γ2,h3,h⟩:=zan h (gam [γ 0,0,0])
 rcases r3 with ⟨i,r0'⟩
 obtain ⟨ys,h4,h⟩:=zac h
 obtain ⟨ys1,h5,h⟩:=zac h
 obtain ⟨h6,h⟩:=zaw h
 cases h;refine ⟨gam [((γ2 0) + 1),0],zab rfl ?_⟩;rotate_left
 all_goals (dsimp only [zdg,zcf,zcM] at *;show zat IF_ (zIH zo2) _ _=_;generalize zo2=c0 at *;exact fin_)
def znQ (p:Pair) (b0:ByteArray):Option (Bool):=
 some (Ops.std.seq p.key b0)
theorem znR {p b0 r} (h:znQ p b0=some r):zji p b0=some r:=by
 unfold znQ at h
 refine zar ?_
 cases h;refine zab rfl ?_;rotate_left
 all_goals (dsimp only [zeL] at *;show zat IF_ zID _ _=_;exact fin_)
def zck (b0:ByteArray) (γ:Nat → Nat):Int ⊕ Unit → X × St
 | .inl a0=>(.ret,⟨bd 4 (vI a0 :: bd 14 []),[.box 9 [vT b0]]⟩)
 | .inr ()=>(.brk 0,⟨bd 19 [],[.box 9 [vT b0]]⟩)
instance {b0}:InjS (zck b0):=⟨fun γ γ' x y h=>by
 rcases x with a0 | _ <;> rcases y with a0' | _ <;> simp only [zck] at h <;> exact inj_⟩
def zec (s:List Pair) (b0:ByteArray) (t8:Int):Option (Int ⊕ Unit):=asks (fun γ=>(lim F pr).loop [7,1,0,8] 1 zbC ⟨.lit 78 false (List.map zae s) :: .fn 202 [.bptr 0 0] :: bd 5 (vI (xlen zae s) :: vI t8 :: bd 10 []),[.box 9 [vT b0]]⟩) (zck b0)
def zcj (s:List Pair) (b0:ByteArray) (t8:Int):Option (Int ⊕ Unit):=
 bif Ops.std.ilt t8 (xlen zae s) then
  (xget zae s t8).bind fun x=>
  (zji x b0).bind fun res=>
  bif res then some (.inl t8) else
  zec s b0 (Ops.std.iadd .i64 t8 1)
 else
  some (.inr ())
theorem ze9 {s b0 t8 r} (h:zcj s b0 t8=some r):zec s b0 t8=some r:=by
 unfold zcj at h
 refine zaq fun γ=>?_
 rcases zaa h with ⟨h1,h⟩ | ⟨h1,h⟩
 obtain ⟨x,h2,h⟩:=zac h
 obtain ⟨res,h3,h⟩:=zac h
 rcases zaa h with ⟨h4,h⟩ | ⟨h4,h⟩
 cases h;refine ⟨gam [],zad ?_⟩;rotate_left
 replace h:=zai h (gam []);obtain ⟨γ',h0⟩:=h;refine ⟨γ',zad ?_⟩;rotate_left
 cases h;refine ⟨gam [],zad ?_⟩;rotate_left
 all_goals (dsimp only [zck,zeL] at *;show zaH IF_ _ _ zbC zmw _=_;generalize zbC=c0 at *;exact fin_)
def zht (s:List Pair) (b0:ByteArray):Option (Int):=
 (zec s b0 0).bind fun r=>match r with
  | .inl t4=>
   some t4
  | .inr ()=>
   some (-1)
theorem zrG {s b0 r} (h:zht s b0=some r):zmG s b0=some r:=by
 unfold zht at h
 refine zar ?_
 obtain ⟨r1,γ1,h1,h⟩:=zan h (gam [])
 rcases r1 with t4 | _
 cases h;refine zab rfl ?_;rotate_left
 cases h;refine zab rfl ?_;rotate_left
 all_goals (dsimp only [zdi,zck] at *;show zat IF_ (ztI zbC) _ _=_;generalize zbC=c0 at *;exact fin_)
def zfG (γ:Nat → Nat):Unit ⊕ Unit → X × St
 | .inl ()=>(.ret,⟨bd 4 (vF true :: bd 14 []),[]⟩)
 | .inr ()=>(.brk 0,⟨bd 19 [],[]⟩)
instance:InjS zfG:=⟨fun γ γ' x y h=>by
 rcases x with _ | _ <;> rcases y with _ | _ <;> simp only [zfG] at h <;> exact inj_⟩
def zj4 (l:List Peer) (addr:Int) (i:Int):Option (Unit ⊕ Unit):=asks (fun γ=>(lim F pr).loop [0,1,5] 0 zo0 ⟨.lit 25 false (List.map zaf l) :: vH addr :: bd 3 (vI i :: bd 13 []),[]⟩) zfG
def zim (l:List Peer) (addr:Int) (i:Int):Option (Unit ⊕ Unit):=
 bif Ops.std.ilt i (xlen zaf l) then
  (xget zaf l i).bind fun x=>
  bif Ops.std.ieq x.addr addr then some (.inl ()) else
  zj4 l addr (Ops.std.iadd .i64 i 1)
 else
  some (.inr ())
theorem zph {l addr i r} (h:zim l addr i=some r):zj4 l addr i=some r:=by
 unfold zim at h
 refine zaq fun γ=>?_
 rcases zaa h with ⟨h1,h⟩ | ⟨h1,h⟩
 obtain ⟨x,h2,h⟩:=zac h
 rcases zaa h with ⟨h3,h⟩ | ⟨h3,h⟩
 cases h;refine ⟨gam [],zad ?_⟩;rotate_left
 replace h:=zai h (gam []);obtain ⟨γ',h0⟩:=h;refine ⟨γ',zad ?_⟩;rotate_left
 cases h;refine ⟨gam [],zad ?_⟩;rotate_left
 all_goals (dsimp only [zfG] at *;show zaH IF_ _ _ zo0 zCb _=_;generalize zo0=c0 at *;exact fin_)
def zoi (l:List Peer) (addr:Int):Option (Bool):=
 (zj4 l addr 0).bind fun r=>match r with
  | .inl ()=>
   some true
  | .inr ()=>
   some false
theorem zBc {l addr r} (h:zoi l addr=some r):zsE l addr=some r:=by
 unfold zoi at h
 refine zar ?_
 obtain ⟨r1,γ1,h1,h⟩:=zan h (gam [])
 rcases r1 with _ | _
 cases h;refine zab rfl ?_;rotate_left
 cases h;refine zab rfl ?_;rotate_left
 all_goals (dsimp only [R1,zfG] at *;show zat IF_ (zIB zo0) _ _=_;generalize zo0=c0 at *;exact fin_)
def zqm (a:Int) (b:Int):Option (Int):=
 bif Ops.std.ile a b then some (Ops.std.isub .u64 b a) else
 some (Ops.std.iadd .u64 (Ops.std.isub .u64 18446744073709551615 (Ops.std.isub .u64 a b)) 1)
theorem zDp {a b r} (h:zqm a b=some r):zkD a b=some r:=by
 unfold zqm at h
 refine zar ?_
 rcases zaa h with ⟨h1,h⟩ | ⟨h1,h⟩
 cases h;refine zab rfl ?_;rotate_left
 cases h;refine zab rfl ?_;rotate_left
 all_goals (dsimp only [R1] at *;show zat IF_ zIC _ _=_;exact fin_)
def zfF (γ:Nat → Nat):Int ⊕ Unit → X × St
 | .inl a0=>(.ret,⟨bd 4 (vI a0 :: bd 16 []),[]⟩)
 | .inr ()=>(.brk 0,⟨bd 21 [],[]⟩)
instance:InjS zfF:=⟨fun γ γ' x y h=>by
 rcases x with a0 | _ <;> rcases y with a0' | _ <;> simp only [zfF] at h <;> exact inj_⟩
def zj3 (l:List Entry) (addr:Int) (i:Int):Option (Int ⊕ Unit):=asks (fun γ=>(lim F pr).loop [0,1,5] 0 zoV ⟨.lit 81 false (List.map zag l) :: vH addr :: bd 3 (vI i :: bd 15 []),[]⟩) zfF
def zfE (l:List Entry) (addr:Int) (i:Int):Option (Int ⊕ Unit):=
 bif Ops.std.ilt i (xlen zag l) then
  (xget zag l i).bind fun x=>
  bif Ops.std.ieq x.peer.addr addr then some (.inl i) else
  zj3 l addr (Ops.std.iadd .i64 i 1)
 else
  some (.inr ())
theorem zkN {l addr i r} (h:zfE l addr i=some r):zj3 l addr i=some r:=by
 unfold zfE at h
 refine zaq fun γ=>?_
 rcases zaa h with ⟨h1,h⟩ | ⟨h1,h⟩
 obtain ⟨x,h2,h⟩:=zac h
 rcases zaa h with ⟨h3,h⟩ | ⟨h3,h⟩
 cases h;refine ⟨gam [],zad ?_⟩;rotate_left
 replace h:=zai h (gam []);obtain ⟨γ',h0⟩:=h;refine ⟨γ',zad ?_⟩;rotate_left
 cases h;refine ⟨gam [],zad ?_⟩;rotate_left
 all_goals (dsimp only [zfF] at *;show zaH IF_ _ _ zoV zB6 _=_;generalize zoV=c0 at *;exact fin_)
def zog (l:List Entry) (addr:Int):Option (Int):=
 (zj3 l addr 0).bind fun r=>match r with
  | .inl t4=>
   some t4
  | .inr ()=>
   some (-1)
theorem zBa {l addr r} (h:zog l addr=some r):znK l addr=some r:=by
 unfold zog at h
 refine zar ?_
 obtain ⟨r1,γ1,h1,h⟩:=zan h (gam [])
 rcases r1 with t4 | _
 cases h;refine zab rfl ?_;rotate_left
 cases h;refine zab rfl ?_;rotate_left
 all_goals (dsimp only [R1,zfF] at *;show zat IF_ (zIo zoV) _ _=_;generalize zoV=c0 at *;exact fin_)
def zgC (γ:Nat → Nat):(List Entry) → X × St
 | a0=>(.brk 0,⟨bd 5 (.sl 1 ((γ 1)) :: bd 23 []),[.row 81 (γ 0) false (List.map zag []),.row 81 (γ 1) false (List.map zag a0)]⟩)
instance:InjS zgC:=⟨fun γ γ' x y h=>by
 rcases x with a0 <;> rcases y with a0' <;> simp only [zgC] at h <;> exact inj_⟩
def ziI (l:List Entry) (addr:Int) (i:Int) (r1:List Entry):Option ((List Entry)):=asks (fun γ=>(lim F pr).loop [1,0,6,5] 2 zoW ⟨.lit 81 false (List.map zag l) :: vH addr :: bd 3 (.sl 1 ((γ 1)) :: vI i :: bd 22 []),[.row 81 (γ 0) false (List.map zag []),.row 81 (γ 1) false (List.map zag r1)]⟩) zgC
def zgB (l:List Entry) (addr:Int) (i:Int) (r1:List Entry):Option ((List Entry)):=
 bif Ops.std.ilt i (xlen zag l) then
  (xget zag l i).bind fun x=>
  bif Ops.std.ieq x.peer.addr addr then ziI l addr (Ops.std.iadd .i64 i 1) r1 else
  bif zaN zag 24 r1 [x] then ziI l addr (Ops.std.iadd .i64 i 1) (r1 ++ [x]) else
  none
 else
  some r1
theorem zq7 {l addr i r1 r} (h:zgB l addr i r1=some r):ziI l addr i r1=some r:=by
 unfold zgB at h
 refine zaq fun γ=>?_
 rcases zaa h with ⟨h1,h⟩ | ⟨h1,h⟩
 obtain ⟨x,h2,h⟩:=zac h
 rcases zaa h with ⟨h3,h⟩ | ⟨h3,h⟩
 replace h:=zai h (gam [(γ 0),(γ 1)]);obtain ⟨γ',h0⟩:=h;refine ⟨γ',zad ?_⟩;rotate_left
 obtain ⟨h4,h⟩:=zaw h
 replace h:=zai h (gam [(γ 0),((γ 1) + 1)]);obtain ⟨γ',h0⟩:=h;refine ⟨γ',zad ?_⟩;rotate_left
 cases h;refine ⟨gam [(γ 0),(γ 1)],zad ?_⟩;rotate_left
 all_goals (dsimp only [zgC] at *;show zaH IF_ _ _ zoW zB7 _=_;generalize zoW=c0 at *;exact fin_)
def zqy (l:List Entry) (addr:Int):Option ((List Entry)):=
 ziI l addr 0 []
theorem zDz {l addr r} (h:zqy l addr=some r):zuN l addr=some r:=by
 unfold zqy at h
 refine zar ?_
 obtain ⟨γ1,h1⟩:=zai h (gam [0,0])
 rcases r with r1
 refine zab rfl ?_;rotate_left
 all_goals (dsimp only [R1,zgC] at *;show zat IF_ (zIp zoW) _ _=_;generalize zoW=c0 at *;exact fin_)
def zof (me:Peer) (a:Peer) (b:Peer):Option (Bool):=
 (zkD me.id a.id).bind fun res=>
 (zkD me.id b.id).bind fun res1=>
 bif Ops.std.ieq res res1 then some (Ops.std.ilt a.addr b.addr) else
 some (Ops.std.ilt res res1)
theorem zA8 {me a b r} (h:zof me a b=some r):zsB me a b=some r:=by
 unfold zof at h
 refine zar ?_
 obtain ⟨res,h1,h⟩:=zac h
 obtain ⟨res1,h2,h⟩:=zac h
 rcases zaa h with ⟨h3,h⟩ | ⟨h3,h⟩
 cases h;refine zab rfl ?_;rotate_left
 cases h;refine zab rfl ?_;rotate_left
 all_goals (dsimp only [R1] at *;show zat IF_ zIq _ _=_;exact fin_)
def zhH (γ:Nat → Nat):Int → X × St
 | a0=>(.brk 0,⟨bd 3 (vU a0 :: bd 16 []),[]⟩)
instance:InjS zhH:=⟨fun γ γ' x y h=>by
 rcases x with a0 <;> rcases y with a0' <;> simp only [zhH] at h <;> exact inj_⟩
def zmp (s:ByteArray) (n:Int) (i:Int):Option (Int):=asks (fun γ=>(lim F pr).loop [0,4,3] 0 zoR ⟨vT s :: bd 2 (vU n :: vI i :: bd 15 []),[]⟩) zhH
def zjY (s:ByteArray) (n:Int) (i:Int):Option (Int):=
 bif Ops.std.ilt i (Ops.std.slen s) then
  (zbZ s i).bind fun b=>
  zmp s (Ops.std.imul .u64 (Ops.std.ibit .xor .u64 n (Ops.std.iwrap .u64 b)) 1099511628211) (Ops.std.iadd .i64 i 1)
 else
  some n
theorem zsr {s n i r} (h:zjY s n i=some r):zmp s n i=some r:=by
 unfold zjY at h
 refine zaq fun γ=>?_
 rcases zaa h with ⟨h1,h⟩ | ⟨h1,h⟩
 obtain ⟨b,h2,h⟩:=bind_some h
 replace h:=zai h (gam []);obtain ⟨γ',h0⟩:=h;refine ⟨γ',zad ?_⟩;rotate_left
 cases h;refine ⟨gam [],zad ?_⟩;rotate_left
 all_goals (dsimp only [zhH] at *;show zaH IF_ _ _ zoR zB2 _=_;generalize zoR=c0 at *;exact fin_)
def zxr (s:ByteArray):Option (Int):=
 zmp s 14695981039346656037 0
theorem zFB {s r} (h:zxr s=some r):zwH s=some r:=by
 unfold zxr at h
 refine zar ?_
 obtain ⟨γ1,h1⟩:=zai h (gam [])
 rcases r with n
 refine zab rfl ?_;rotate_left
 all_goals (dsimp only [R1,zhH] at *;show zat IF_ (zIf zoR) _ _=_;generalize zoR=c0 at *;exact fin_)
def zsp (u:Int):Option (Int):=
 (zhI u 30).bind fun res=>
 (zhI (Ops.std.imul .u64 (Ops.std.ibit .xor .u64 u res) 13787848793156543929) 27).bind fun res1=>
 (zhI (Ops.std.imul .u64 (Ops.std.ibit .xor .u64 (Ops.std.imul .u64 (Ops.std.ibit .xor .u64 u res) 13787848793156543929) res1) 10723151780598845931) 31).bind fun res2=>
 some (Ops.std.ibit .xor .u64 (Ops.std.imul .u64 (Ops.std.ibit .xor .u64 (Ops.std.imul .u64 (Ops.std.ibit .xor .u64 u res) 13787848793156543929) res1) 10723151780598845931) res2)
theorem zFA {u r} (h:zsp u=some r):zwG u=some r:=by
 unfold zsp at h
 refine zar ?_
 obtain ⟨res,h1,h⟩:=zac h
 obtain ⟨res1,h2,h⟩:=zac h
 obtain ⟨res2,h3,h⟩:=zac h
 cases h;refine zab rfl ?_;rotate_left
 all_goals (dsimp only [R1] at *;show zat IF_ zIe _ _=_;exact fin_)
def zsj (x:Entry):Option (Bool):=
 some (Ops.std.ile x.misses 0)
theorem zzG {x r} (h:zsj x=some r):zqj x=some r:=by
 unfold zsj at h
 refine zar ?_
 cases h;refine zab rfl ?_;rotate_left
 all_goals (dsimp only [R1] at *;show zat IF_ zH5 _ _=_;exact fin_)
def zcm (γ:Nat → Nat):Int ⊕ Unit → X × St
 | .inl a0=>(.ret,⟨bd 4 (vI a0 :: bd 14 []),[]⟩)
 | .inr ()=>(.brk 0,⟨bd 19 [],[]⟩)
instance:InjS zcm:=⟨fun γ γ' x y h=>by
 rcases x with a0 | _ <;> rcases y with a0' | _ <;> simp only [zcm] at h <;> exact inj_⟩
def zed (s:List Pair) (t8:Int):Option (Int ⊕ Unit):=asks (fun γ=>(lim F pr).loop [7,1,0,8] 0 zbC ⟨.lit 78 false (List.map zae s) :: .fn 171 [] :: bd 5 (vI (xlen zae s) :: vI t8 :: bd 10 []),[]⟩) zcm
def zcl (s:List Pair) (t8:Int):Option (Int ⊕ Unit):=
 bif Ops.std.ilt t8 (xlen zae s) then
  (xget zae s t8).bind fun x=>
  (zqd x).bind fun res=>
  bif res then some (.inl t8) else
  zed s (Ops.std.iadd .i64 t8 1)
 else
  some (.inr ())
theorem zfa {s t8 r} (h:zcl s t8=some r):zed s t8=some r:=by
 unfold zcl at h
 refine zaq fun γ=>?_
 rcases zaa h with ⟨h1,h⟩ | ⟨h1,h⟩
 obtain ⟨x,h2,h⟩:=zac h
 obtain ⟨res,h3,h⟩:=zac h
 rcases zaa h with ⟨h4,h⟩ | ⟨h4,h⟩
 cases h;refine ⟨gam [],zad ?_⟩;rotate_left
 replace h:=zai h (gam []);obtain ⟨γ',h0⟩:=h;refine ⟨γ',zad ?_⟩;rotate_left
 cases h;refine ⟨gam [],zad ?_⟩;rotate_left
 all_goals (dsimp only [zcm,R1] at *;show zaH IF_ _ _ zbC zmw _=_;generalize zbC=c0 at *;exact fin_)
def zhu (s:List Pair):Option (Int):=
 (zed s 0).bind fun r=>match r with
  | .inl t4=>
   some t4
  | .inr ()=>
   some (-1)
theorem zrH {s r} (h:zhu s=some r):zjl s=some r:=by
 unfold zhu at h
 refine zar ?_
 obtain ⟨r1,γ1,h1,h⟩:=zan h (gam [])
 rcases r1 with t4 | _
 cases h;refine zab rfl ?_;rotate_left
 cases h;refine zab rfl ?_;rotate_left
 all_goals (dsimp only [zcm,R1] at *;show zat IF_ (ztI zbC) _ _=_;generalize zbC=c0 at *;exact fin_)
end Go.Ab.Tryz
