/- Our texts for this statement, merged: what its theorem leads to. -/
import Derived.Test.YtjmmobicnfojeaaGreatDoorQWg10
set_option linter.unusedVariables false
set_option linter.unusedSimpArgs false
noncomputable section
namespace Go.Ab.Tryz
open Go Go.Ab Go.Proofs
set_option maxRecDepth 10000
set_option maxHeartbeats 4000000
def zpK (a:Int) (b:Int):Option (Int):=
 some (Ops.std.isub .u64 b a)
theorem zu6 {a b r} (h:zpK a b=some r):zix a b=some r:=by
 unfold zpK at h
 refine zas ?_
 cases h;refine zab rfl ?_;rotate_left
 all_goals (dsimp only [R1] at *;show zar IF_ zID _ _=_;exact fin_)
def zis (n:Node) (j:Job) (γ:Nat → Nat):(List Job) → X × St
 | a0=>(.brk 0,⟨bd 2 (.bptr 0 0 :: bd 1 (.bptr 2 0 :: bd 1 (.sl 3 ((γ 3)) :: bd 31 []))),[.box 34 (zao n),.box 67 (cJob j),.box 34 ([vU 0,vH 0,vI 0,vF false,.lit 0 true [],.lit 0 true [],.lit 0 true [],.lit 0 true [],.lit 0 true [],.lit 0 true [],.lit 0 true [],vW 0,vI 0,vI 0]),.row 67 (γ 3) false (List.map eJob a0)]⟩)
instance {n j}:InjS (zis n j):=⟨fun γ γ' x y h=>by
 rcases x with a0 <;> rcases y with a0' <;> simp only [zis] at h <;> exact inj_⟩
def zi1 (n:Node) (j:Job) (at_:Int) (i:Int) (r3:List Job):Option ((List Job)):=asks (fun γ=>(lim F pr).loop [5,3,7,6,2,4] 4 zp9 ⟨bd 2 (.bptr 0 0 :: .bptr 1 0 :: .bptr 2 0 :: vI at_ :: .sl 3 ((γ 3)) :: vI i :: bd 30 []),[.box 34 (zao n),.box 67 (cJob j),.box 34 ([vU 0,vH 0,vI 0,vF false,.lit 0 true [],.lit 0 true [],.lit 0 true [],.lit 0 true [],.lit 0 true [],.lit 0 true [],.lit 0 true [],vW 0,vI 0,vI 0]),.row 67 (γ 3) false (List.map eJob r3)]⟩) (zis n j)
def zk6 (n:Node) (j:Job) (at_:Int) (i:Int) (r3:List Job):Option ((List Job)):=
 bif Ops.std.ilt i (xlen eJob n.jobs) then
  bif Ops.std.ieq i at_ then
   bif zaK eJob 128 r3 [j] then zi1 n j at_ (Ops.std.iadd .i64 i 1) (r3 ++ [j]) else
   none
  else
   (xget eJob n.jobs i).bind fun x=>
   bif zaK eJob 128 r3 [x] then zi1 n j at_ (Ops.std.iadd .i64 i 1) (r3 ++ [x]) else
   none
 else
  some r3
theorem ztv {n j at_ i r3 r} (h:zk6 n j at_ i r3=some r):zi1 n j at_ i r3=some r:=by
 unfold zk6 at h
 refine zap fun γ=>?_
 rcases zaa h with ⟨h1,h⟩ | ⟨h1,h⟩
 rcases zaa h with ⟨h2,h⟩ | ⟨h2,h⟩
 obtain ⟨h3,h⟩:=zat h
 replace h:=zal h (gam [0,0,0,((γ 3) + 1)]);obtain ⟨γ',h0⟩:=h;refine ⟨γ',zad ?_⟩;rotate_left
 obtain ⟨x,h3,h⟩:=zac h
 obtain ⟨h4,h⟩:=zat h
 replace h:=zal h (gam [0,0,0,((γ 3) + 1)]);obtain ⟨γ',h0⟩:=h;refine ⟨γ',zad ?_⟩;rotate_left
 cases h;refine ⟨gam [0,0,0,(γ 3)],zad ?_⟩;rotate_left
 all_goals (dsimp only [zis] at *;show zaR IF_ _ _ zp9 zCK _=_;generalize zp9=c0 at *;exact fin_)
def ztu (n:Node) (j:Job):Option (Node):=
 (znZ n.jobs j.id).bind fun res=>
 (zi1 n j res 0 []).bind fun r3=>
 some (⟨n.me,n.clock,n.joined,n.pred,n.list,n.fingers,n.store,n.pends,r3,n.results,n.rid,n.jobID,n.nextBit⟩:Node)
theorem zGn {n j r} (h:ztu n j=some r):zf7 n j=some r:=by
 unfold ztu at h
 refine zas ?_
 obtain ⟨res,h1,h⟩:=zac h
 obtain ⟨r3,γ2,h2,h⟩:=zag h (gam [0,0,0,0])
 cases h;refine zab rfl ?_;rotate_left
 all_goals (dsimp only [R1,zis] at *;show zar IF_ (zII zp9) _ _=_;generalize zp9=c0 at *;exact fin_)
abbrev zn5:=((List Out) × Node × Int × ByteArray × ByteArray)
def zit (n:Node) (j:Job) (to_:Peer) (γ:Nat → Nat):zn5 → X × St
 | (a0,a1,a2,a3,a4)=>(.ret,⟨bd 6 (.bptr 3 0 :: .lit 56 false (List.map eOut a0) :: bd 29 []),[.box 34 (zao n),.box 67 (cJob (⟨j.id,j.kind,j.bit,j.key,j.val,j.target,j.via,to_,true,j.hops,j.tries,j.due⟩:Job)),.box 25 [vU to_.id,vH to_.addr],.box 34 (zao a1),.row 56 (γ 4) false (List.map eOut []),.box 37 ([vI a2,vW 0,vB 0,vF false,vU 0,vT a3,vT a4,vU 0,vH 0,.lit 0 true [],.lit 0 true []])]⟩)
instance {n j to_}:InjS (zit n j to_):=⟨fun γ γ' x y h=>by
 rcases x with ⟨a0,a1,a2,a3,a4⟩ <;> rcases y with ⟨a0',a1',a2',a3',a4'⟩ <;> simp only [zit] at h <;> exact inj_⟩
def znp (n:Node) (j:Job) (to_:Peer) (zfA:Int) (zh6:ByteArray) (zh7:ByteArray):Option (zn5):=asks (fun γ=>(lim F pr).seg [6,7] zwf ⟨bd 3 (.bptr 0 0 :: .bptr 1 0 :: .bptr 2 0 :: .bptr 3 0 :: bd 1 (.bptr 5 0 :: bd 28 [])),[.box 34 (zao n),.box 67 (cJob (⟨j.id,j.kind,j.bit,j.key,j.val,j.target,j.via,to_,true,j.hops,j.tries,j.due⟩:Job)),.box 25 [vU to_.id,vH to_.addr],.box 34 ([vU 0,vH 0,vI 0,vF false,.lit 0 true [],.lit 0 true [],.lit 0 true [],.lit 0 true [],.lit 0 true [],.lit 0 true [],.lit 0 true [],vW 0,vI 0,vI 0]),.row 56 (γ 4) false (List.map eOut []),.box 37 ([vI zfA,vW 0,vB 0,vF false,vU 0,vT zh6,vT zh7,vU 0,vH 0,.lit 0 true [],.lit 0 true []])]⟩) (zit n j to_)
def zty (n:Node) (j:Job) (to_:Peer) (zfA:Int) (zh6:ByteArray) (zh7:ByteArray):Option (zn5):=
 bif Ops.std.ieq j.kind 3 then
  (zf7 n (⟨j.id,j.kind,j.bit,j.key,j.val,j.target,j.via,to_,true,j.hops,j.tries,j.due⟩:Job)).bind fun res=>
  (zlX res to_ (⟨8,0,0,false,0,j.key,⟨#[]⟩,(⟨0,0⟩:Peer),[],[]⟩:Msg) 5 j.id).bind fun ⟨r0,r1⟩=>
  some (r1,r0,8,j.key,⟨#[]⟩)
 else
  (zf7 n (⟨j.id,j.kind,j.bit,j.key,j.val,j.target,j.via,to_,true,j.hops,j.tries,j.due⟩:Job)).bind fun res=>
  (zlX res to_ (⟨zfA,0,0,false,0,zh6,zh7,(⟨0,0⟩:Peer),[],[]⟩:Msg) 5 j.id).bind fun ⟨r0,r1⟩=>
  some (r1,r0,zfA,zh6,zh7)
theorem zAK {n j to_ zfA zh6 zh7 r} (h:zty n j to_ zfA zh6 zh7=some r):znp n j to_ zfA zh6 zh7=some r:=by
 unfold zty at h
 refine zap fun γ=>?_
 rcases zaa h with ⟨h1,h⟩ | ⟨h1,h⟩
 obtain ⟨res,h2,h⟩:=zac h
 obtain ⟨r3,h3,h⟩:=zac h
 rcases r3 with ⟨r0,r1⟩
 cases h;refine ⟨gam [0,0,0,0,(γ 4)],zak ?_⟩;rotate_left
 obtain ⟨res,h2,h⟩:=zac h
 obtain ⟨r3,h3,h⟩:=zac h
 rcases r3 with ⟨r0,r1⟩
 cases h;refine ⟨gam [0,0,0,0,(γ 4)],zak ?_⟩;rotate_left
 all_goals (dsimp only [R1,R2,zit] at *;show Ifc.apart IF_ _ zCL _=_;exact fin_)
def ztx (n:Node) (j:Job) (to_:Peer):Option ((Node × (List Out))):=
 bif Ops.std.ieq j.kind 2 then
  (znp n j to_ 7 j.key j.val).bind fun ⟨t7,b3,zfA,zh6,zh7⟩=>
  some (b3,t7)
 else
  (znp n j to_ 3 ⟨#[]⟩ ⟨#[]⟩).bind fun ⟨t7,b3,zfA,zh6,zh7⟩=>
  some (b3,t7)
theorem zGo {n j to_ r} (h:ztx n j to_=some r):zuJ n j to_=some r:=by
 unfold ztx at h
 refine zas ?_
 rcases zaa h with ⟨h1,h⟩ | ⟨h1,h⟩
 obtain ⟨r2,γ1,h2,h⟩:=zag h (gam [0,0,0,0,0])
 rcases r2 with ⟨t7,b3,zfA,zh6,zh7⟩
 cases h;refine zab rfl ?_;rotate_left
 obtain ⟨r2,γ1,h2,h⟩:=zag h (gam [0,0,0,0,0])
 rcases r2 with ⟨t7,b3,zfA,zh6,zh7⟩
 cases h;refine zab rfl ?_;rotate_left
 all_goals (dsimp only [R2,zit] at *;show zar IF_ (zIJ zwf) _ _=_;generalize zwf=c0 at *;exact fin_)
def zhs (γ:Nat → Nat):(Node × (List Out) × (List Peer)) → X × St
 | (a0,a1,a2)=>(.brk 0,⟨bd 3 (.bptr 0 0 :: bd 2 (.bptr 1 0 :: bd 4 (.sl 3 ((γ 3)) :: bd 50 []))),[.box 34 (zao a0),.box 34 ([vU 0,vH 0,vI 0,vF false,.lit 0 true [],.lit 0 true [],.lit 0 true [],.lit 0 true [],.lit 0 true [],.lit 0 true [],.lit 0 true [],vW 0,vI 0,vI 0]),.row 56 (γ 2) false (List.map eOut []),.row 56 (γ 3) false (List.map eOut a1),.row 25 (γ 4) false (List.map zah a2)]⟩)
instance :InjS zhs:=⟨fun γ γ' x y h=>by
 rcases x with ⟨a0,a1,a2⟩ <;> rcases y with ⟨a0',a1',a2'⟩ <;> simp only [zhs] at h <;> exact inj_⟩
def zmr (key:ByteArray) (val:ByteArray) (i:Int) (b0:Node) (r3:List Out) (r4:List Peer):Option ((Node × (List Out) × (List Peer))):=asks (fun γ=>(lim F pr).loop [12,1,2,13,3,11,6] 5 zug ⟨bd 1 (vT key :: vT val :: .bptr 0 0 :: bd 2 (.bptr 1 0 :: bd 4 (.sl 3 ((γ 3)) :: .sl 4 ((γ 4)) :: vI i :: bd 48 []))),[.box 34 (zao b0),.box 34 ([vU 0,vH 0,vI 0,vF false,.lit 0 true [],.lit 0 true [],.lit 0 true [],.lit 0 true [],.lit 0 true [],.lit 0 true [],.lit 0 true [],vW 0,vI 0,vI 0]),.row 56 (γ 2) false (List.map eOut []),.row 56 (γ 3) false (List.map eOut r3),.row 25 (γ 4) false (List.map zah r4)]⟩) zhs
def zht (key:ByteArray) (val:ByteArray) (γ:Nat → Nat):(Int × Node × (List Out) × (List Peer)) → X × St
 | (a0,a1,a2,a3)=>(.nor,⟨bd 1 (vT key :: vT val :: .bptr 0 0 :: bd 2 (.bptr 1 0 :: bd 4 (.sl 3 ((γ 3)) :: .sl 4 ((γ 4)) :: vI a0 :: bd 48 []))),[.box 34 (zao a1),.box 34 ([vU 0,vH 0,vI 0,vF false,.lit 0 true [],.lit 0 true [],.lit 0 true [],.lit 0 true [],.lit 0 true [],.lit 0 true [],.lit 0 true [],vW 0,vI 0,vI 0]),.row 56 (γ 2) false (List.map eOut []),.row 56 (γ 3) false (List.map eOut a2),.row 25 (γ 4) false (List.map zah a3)]⟩)
instance {key val}:InjS (zht key val):=⟨fun γ γ' x y h=>by
 rcases x with ⟨a0,a1,a2,a3⟩ <;> rcases y with ⟨a0',a1',a2',a3'⟩ <;> simp only [zht] at h <;> exact inj_⟩
def zpE (key:ByteArray) (val:ByteArray) (i:Int) (b0:Node) (r3:List Out) (r4:List Peer):Option ((Int × Node × (List Out) × (List Peer))):=asks (fun γ=>(lim F pr).seg [12,1,2,13,3,11,6] zza ⟨bd 1 (vT key :: vT val :: .bptr 0 0 :: bd 2 (.bptr 1 0 :: bd 4 (.sl 3 ((γ 3)) :: .sl 4 ((γ 4)) :: vI i :: bd 48 []))),[.box 34 (zao b0),.box 34 ([vU 0,vH 0,vI 0,vF false,.lit 0 true [],.lit 0 true [],.lit 0 true [],.lit 0 true [],.lit 0 true [],.lit 0 true [],.lit 0 true [],vW 0,vI 0,vI 0]),.row 56 (γ 2) false (List.map eOut []),.row 56 (γ 3) false (List.map eOut r3),.row 25 (γ 4) false (List.map zah r4)]⟩) (zht key val)
def zj4 (key:ByteArray) (val:ByteArray) (i:Int) (b0:Node) (r3:List Out) (r4:List Peer):Option ((Node × (List Out) × (List Peer))):=
 bif Ops.std.ilt i (xlen zah r4) then
  bif Ops.std.ilt i 2 then
   (zpE key val i b0 r3 r4).bind fun ⟨i1,b01,r31,r41⟩=>
   zmr key val i1 b01 r31 r41
  else
   some (b0,r3,r4)
 else
  some (b0,r3,r4)
theorem zsm {key val i b0 r3 r4 r} (h:zj4 key val i b0 r3 r4=some r):zmr key val i b0 r3 r4=some r:=by
 unfold zj4 at h
 refine zap fun γ=>?_
 rcases zaa h with ⟨h1,h⟩ | ⟨h1,h⟩
 rcases zaa h with ⟨h2,h⟩ | ⟨h2,h⟩
 obtain ⟨r3,γ1,h3,h⟩:=zag h (gam [0,0,(γ 2),(γ 3),(γ 4)])
 rcases r3 with ⟨i1,b01,r31,r41⟩
 replace h:=zal h (gam [0,0,(γ1 2),(γ1 3),(γ1 4)]);obtain ⟨γ',h0⟩:=h;refine ⟨γ',zad ?_⟩;rotate_left
 cases h;refine ⟨gam [0,0,(γ 2),(γ 3),(γ 4)],zad ?_⟩;rotate_left
 cases h;refine ⟨gam [0,0,(γ 2),(γ 3),(γ 4)],zad ?_⟩;rotate_left
 all_goals (dsimp only [zhs,zht] at *;show zaR IF_ _ _ zug (zEY zza) _=_;generalize zug=c0,zza=c1 at *;exact fin_)
def zm7 (key:ByteArray) (val:ByteArray) (i:Int) (b0:Node) (r3:List Out) (r4:List Peer):Option ((Int × Node × (List Out) × (List Peer))):=
 (xget zah r4 i).bind fun x=>
 (zvy b0 x [(⟨key,val⟩:Pair)] true).bind fun ⟨r0,r1⟩=>
 bif zaK eOut 136 r3 r1 then some (Ops.std.iadd .i64 i 1,r0,(r3 ++ r1),r4) else
 none
theorem zyO {key val i b0 r3 r4 r} (h:zm7 key val i b0 r3 r4=some r):zpE key val i b0 r3 r4=some r:=by
 unfold zm7 at h
 refine zap fun γ=>?_
 obtain ⟨x,h1,h⟩:=zac h
 obtain ⟨r2,h2,h⟩:=zac h
 rcases r2 with ⟨r0,r1⟩
 obtain ⟨h3,h⟩:=zat h
 cases h;refine ⟨gam [0,0,(γ 2),((γ 3) + 1),(γ 4)],zak ?_⟩;rotate_left
 all_goals (dsimp only [R2,zht] at *;show Ifc.apart IF_ _ zEX _=_;exact fin_)
def zrH (n:Node) (key:ByteArray) (val:ByteArray):Option ((Node × (List Out) × Int)):=
 (zxx n.store key val).bind fun ⟨r0,r1⟩=>
 bif Ops.std.ieq r1 0 then
  (znU n.list).bind fun res=>
  (zmr key val 0 (⟨n.me,n.clock,n.joined,n.pred,n.list,n.fingers,r0,n.pends,n.jobs,n.results,n.rid,n.jobID,n.nextBit⟩:Node) [] res).bind fun ⟨b0,r3,r4⟩=>
  some (b0,r3,0)
 else
  some (n,[],r1)
theorem zEv {n key val r} (h:zrH n key val=some r):zvz n key val=some r:=by
 unfold zrH at h
 refine zas ?_
 obtain ⟨r1,h1,h⟩:=zac h
 rcases r1 with ⟨r0,r1⟩
 rcases zaa h with ⟨h2,h⟩ | ⟨h2,h⟩
 obtain ⟨res,h3,h⟩:=zac h
 obtain ⟨r4,γ3,h4,h⟩:=zag h (gam [0,0,0,0,0])
 rcases r4 with ⟨b0,r3,r4⟩
 cases h;refine zab rfl ?_;rotate_left
 cases h;refine zab rfl ?_;rotate_left
 all_goals (dsimp only [K1,R2,R3,zhs] at *;show zar IF_ (g21F zug) _ _=_;generalize zug=c0 at *;exact fin_)
def zoS (l:List Pair) (key:ByteArray):Option ((ByteArray × Bool)):=
 (zoT l key).bind fun res=>
 bif Ops.std.ilt res 0 then some (⟨#[]⟩,false) else
 (xget zan l res).bind fun x=>
 some (x.val,true)
theorem zGj {l key r} (h:zoS l key=some r):zxw l key=some r:=by
 unfold zoS at h
 refine zas ?_
 obtain ⟨res,h1,h⟩:=zac h
 rcases zaa h with ⟨h2,h⟩ | ⟨h2,h⟩
 cases h;refine zab rfl ?_;rotate_left
 obtain ⟨x,h3,h⟩:=zac h
 cases h;refine zab rfl ?_;rotate_left
 all_goals (dsimp only [R1,R2] at *;show zar IF_ g68F _ _=_;exact fin_)
def zip (p:Peer) (γ:Nat → Nat):(Int × Int × (List Finger)) → X × St
 | (a0,a1,a2)=>(.ret,⟨bd 6 (.sl 3 ((γ 3)) :: bd 73 []),[.box 25 [vU p.id,vH p.addr],.row 84 (γ 1) false (List.map zae []),.box 25 [vU a0,vH a1],.row 84 (γ 3) false (List.map zae a2)]⟩)
instance {p}:InjS (zip p):=⟨fun γ γ' x y h=>by
 rcases x with ⟨a0,a1,a2⟩ <;> rcases y with ⟨a0',a1',a2'⟩ <;> simp only [zip] at h <;> exact inj_⟩
def zry (l:List Finger) (bit:Int) (p:Peer):Option ((Int × Int × (List Finger))):=asks (fun γ=>(lim F pr).seg [6] zwh ⟨.lit 84 false (List.map zae l) :: vI bit :: bd 3 (.bptr 0 0 :: bd 74 []),[.box 25 [vU p.id,vH p.addr],.row 84 (γ 1) false (List.map zae [])]⟩) (zip p)
def zin (bit:Int) (p:Peer) (γ:Nat → Nat):(Bool × Int × Int × (List Finger)) → X × St
 | (a0,a1,a2,a3)=>(.brk 0,⟨bd 1 (vI bit :: bd 3 (.bptr 0 0 :: bd 3 (.sl 3 ((γ 3)) :: vF a0 :: bd 69 []))),[.box 25 [vU p.id,vH p.addr],.row 84 (γ 1) false (List.map zae []),.box 25 [vU a1,vH a2],.row 84 (γ 3) false (List.map zae a3)]⟩)
instance {bit p}:InjS (zin bit p):=⟨fun γ γ' x y h=>by
 rcases x with ⟨a0,a1,a2,a3⟩ <;> rcases y with ⟨a0',a1',a2',a3'⟩ <;> simp only [zin] at h <;> exact inj_⟩
def zco (l:List Finger) (bit:Int) (p:Peer) (there:Bool) (put_:Bool) (i:Int) (zcb:Int) (zbs:Int) (r3:List Finger):Option ((Bool × Int × Int × (List Finger))):=asks (fun γ=>(lim F pr).loop [0,8,11,10,1,5,9] 4 zqa ⟨.lit 84 false (List.map zae l) :: vI bit :: bd 3 (.bptr 0 0 :: bd 2 (vF there :: .sl 3 ((γ 3)) :: vF put_ :: vI i :: bd 68 [])),[.box 25 [vU p.id,vH p.addr],.row 84 (γ 1) false (List.map zae []),.box 25 [vU zcb,vH zbs],.row 84 (γ 3) false (List.map zae r3)]⟩) (zin bit p)
abbrev znW:=(Bool × Bool × Int × Int × Int × (List Finger) × Int × Int × Int)
def zio (l:List Finger) (bit:Int) (p:Peer) (γ:Nat → Nat):znW → X × St
 | (a0,a1,a2,a3,a4,a5,a6,a7,a8)=>(.nor,⟨.lit 84 false (List.map zae l) :: vI bit :: bd 3 (.bptr 0 0 :: bd 2 (vF a0 :: .sl 3 ((γ 3)) :: vF a1 :: vI a2 :: bd 68 [])),[.box 25 [vU p.id,vH p.addr],.row 84 (γ 1) false (List.map zae []),.box 25 [vU a3,vH a4],.row 84 (γ 3) false (List.map zae a5),.box 84 [vI a6,vU a7,vH a8]]⟩)
instance {l bit p}:InjS (zio l bit p):=⟨fun γ γ' x y h=>by
 rcases x with ⟨a0,a1,a2,a3,a4,a5,a6,a7,a8⟩ <;> rcases y with ⟨a0',a1',a2',a3',a4',a5',a6',a7',a8'⟩ <;> simp only [zio] at h <;> exact inj_⟩
def ziY (l:List Finger) (bit:Int) (p:Peer) (there:Bool) (put_:Bool) (i:Int) (zcb:Int) (zbs:Int) (r3:List Finger) (zbE:Int) (za7:Int) (za0:Int):Option (znW):=asks (fun γ=>(lim F pr).seg [11,0,8,10,1,5,9] zwg ⟨.lit 84 false (List.map zae l) :: vI bit :: bd 3 (.bptr 0 0 :: bd 2 (vF there :: .sl 3 ((γ 3)) :: vF put_ :: vI i :: .bptr 4 0 :: bd 67 [])),[.box 25 [vU p.id,vH p.addr],.row 84 (γ 1) false (List.map zae []),.box 25 [vU zcb,vH zbs],.row 84 (γ 3) false (List.map zae r3),.box 84 [vI zbE,vU za7,vH za0]]⟩) (zio l bit p)
def znY (l:List Finger) (bit:Int) (p:Peer):Option ((Int × Int × (List Finger))):=
 (zxu l bit).bind fun ⟨r0,r1⟩=>
 (zco l bit p r1 false 0 r0.id r0.addr []).bind fun ⟨put_,zcb,zbs,r3⟩=>
 bif put_ then some (zcb,zbs,r3) else
 bif zaK zae 24 r3 [(⟨bit,p⟩:Finger)] then some (zcb,zbs,(r3 ++ [(⟨bit,p⟩:Finger)])) else
 none
theorem zAE {l bit p r} (h:znY l bit p=some r):zry l bit p=some r:=by
 unfold znY at h
 refine zap fun γ=>?_
 obtain ⟨r1,h1,h⟩:=zac h
 rcases r1 with ⟨r0,r1⟩
 obtain ⟨r2,γ2,h2,h⟩:=zag h (gam [0,(γ 1),0,0])
 rcases r2 with ⟨put_,zcb,zbs,r3⟩
 rcases zaa h with ⟨h3,h⟩ | ⟨h3,h⟩
 cases h;refine ⟨gam [0,(γ2 1),0,(γ2 3)],zak ?_⟩;rotate_left
 obtain ⟨h4,h⟩:=zat h
 cases h;refine ⟨gam [0,(γ2 1),0,((γ2 3) + 1)],zak ?_⟩;rotate_left
 all_goals (dsimp only [R2,zin,zip] at *;show Ifc.apart IF_ _ (zCO zqa) _=_;generalize zqa=c0 at *;exact fin_)
def zf2 (l:List Finger) (bit:Int) (p:Peer) (there:Bool) (put_:Bool) (i:Int) (zcb:Int) (zbs:Int) (r3:List Finger):Option ((Bool × Int × Int × (List Finger))):=
 bif Ops.std.ilt i (xlen zae l) then
  (xget zae l i).bind fun x=>
  bif there then
   bif put_ then
    (ziY l bit p true true i zcb zbs r3 x.bit x.peer.id x.peer.addr).bind fun ⟨there1,put_1,i1,zh4,zem,r31,zbE,za7,za0⟩=>
    zco l bit p there1 put_1 (Ops.std.iadd .i64 i1 1) zh4 zem r31
   else
    bif Ops.std.ieq x.bit bit then
     (ziY l bit p true true i zcb zbs r3 x.bit p.id p.addr).bind fun ⟨there1,put_1,i1,zh4,zem,r31,zbE,za7,za0⟩=>
     zco l bit p there1 put_1 (Ops.std.iadd .i64 i1 1) zh4 zem r31
    else
     (ziY l bit p true false i zcb zbs r3 x.bit x.peer.id x.peer.addr).bind fun ⟨there1,put_1,i1,zh4,zem,r31,zbE,za7,za0⟩=>
     zco l bit p there1 put_1 (Ops.std.iadd .i64 i1 1) zh4 zem r31
  else
   (ziY l bit p false put_ i zcb zbs r3 x.bit x.peer.id x.peer.addr).bind fun ⟨there1,put_1,i1,zh4,zem,r31,zbE,za7,za0⟩=>
   zco l bit p there1 put_1 (Ops.std.iadd .i64 i1 1) zh4 zem r31
 else
  some (put_,zcb,zbs,r3)
theorem zkZ {l bit p there put_ i zcb zbs r3 r} (h:zf2 l bit p there put_ i zcb zbs r3=some r):zco l bit p there put_ i zcb zbs r3=some r:=by
 unfold zf2 at h
 refine zap fun γ=>?_
 rcases zaa h with ⟨h1,h⟩ | ⟨h1,h⟩
 obtain ⟨x,h2,h⟩:=zac h
 rcases zaa h with ⟨h3,h⟩ | ⟨h3,h⟩
 rcases zaa h with ⟨h4,h⟩ | ⟨h4,h⟩
 obtain ⟨r5,γ1,h5,h⟩:=zag h (gam [0,(γ 1),0,(γ 3)])
 rcases r5 with ⟨there1,put_1,i1,zh4,zem,r31,zbE,za7,za0⟩
 replace h:=zal h (gam [0,(γ1 1),0,(γ1 3)]);obtain ⟨γ',h0⟩:=h;refine ⟨γ',zad ?_⟩;rotate_left
 rcases zaa h with ⟨h5,h⟩ | ⟨h5,h⟩
 obtain ⟨r6,γ1,h6,h⟩:=zag h (gam [0,(γ 1),0,(γ 3)])
 rcases r6 with ⟨there1,put_1,i1,zh4,zem,r31,zbE,za7,za0⟩
 replace h:=zal h (gam [0,(γ1 1),0,(γ1 3)]);obtain ⟨γ',h0⟩:=h;refine ⟨γ',zad ?_⟩;rotate_left
 obtain ⟨r6,γ1,h6,h⟩:=zag h (gam [0,(γ 1),0,(γ 3)])
 rcases r6 with ⟨there1,put_1,i1,zh4,zem,r31,zbE,za7,za0⟩
 replace h:=zal h (gam [0,(γ1 1),0,(γ1 3)]);obtain ⟨γ',h0⟩:=h;refine ⟨γ',zad ?_⟩;rotate_left
 obtain ⟨r4,γ1,h4,h⟩:=zag h (gam [0,(γ 1),0,(γ 3)])
 rcases r4 with ⟨there1,put_1,i1,zh4,zem,r31,zbE,za7,za0⟩
 replace h:=zal h (gam [0,(γ1 1),0,(γ1 3)]);obtain ⟨γ',h0⟩:=h;refine ⟨γ',zad ?_⟩;rotate_left
 cases h;refine ⟨gam [0,(γ 1),0,(γ 3)],zad ?_⟩;rotate_left
 all_goals (dsimp only [zin,zio] at *;show zaR IF_ _ _ zqa (zCN zwg) _=_;generalize zqa=c0,zwg=c1 at *;exact fin_)
def znX (l:List Finger) (bit:Int) (p:Peer) (there:Bool) (put_:Bool) (i:Int) (zcb:Int) (zbs:Int) (r3:List Finger) (zbE:Int) (za7:Int) (za0:Int):Option (znW):=
 bif there then
  bif zaK zae 24 r3 [(⟨zbE,(⟨za7,za0⟩:Peer)⟩:Finger)] then
   some (true,put_,i,zcb,zbs,(r3 ++ [(⟨zbE,(⟨za7,za0⟩:Peer)⟩:Finger)]),zbE,za7,za0)
  else
   none
 else
  bif put_ then
   bif zaK zae 24 r3 [(⟨zbE,(⟨za7,za0⟩:Peer)⟩:Finger)] then
    some (false,true,i,zcb,zbs,(r3 ++ [(⟨zbE,(⟨za7,za0⟩:Peer)⟩:Finger)]),zbE,za7,za0)
   else
    none
  else
   bif Ops.std.ilt bit zbE then
    bif zaK zae 24 r3 [(⟨bit,p⟩:Finger)] then
     bif zaK zae 24 (r3 ++ [(⟨bit,p⟩:Finger)]) [(⟨zbE,(⟨za7,za0⟩:Peer)⟩:Finger)] then
      some (false,true,i,zcb,zbs,((r3 ++ [(⟨bit,p⟩:Finger)]) ++ [(⟨zbE,(⟨za7,za0⟩:Peer)⟩:Finger)]),zbE,za7,za0)
     else
      none
    else
     none
   else
    bif zaK zae 24 r3 [(⟨zbE,(⟨za7,za0⟩:Peer)⟩:Finger)] then
     some (false,false,i,zcb,zbs,(r3 ++ [(⟨zbE,(⟨za7,za0⟩:Peer)⟩:Finger)]),zbE,za7,za0)
    else
     none
theorem zAD {l bit p there put_ i zcb zbs r3 zbE za7 za0 r} (h:znX l bit p there put_ i zcb zbs r3 zbE za7 za0=some r):ziY l bit p there put_ i zcb zbs r3 zbE za7 za0=some r:=by
 unfold znX at h
 refine zap fun γ=>?_
 rcases zaa h with ⟨h1,h⟩ | ⟨h1,h⟩
 obtain ⟨h2,h⟩:=zat h
 cases h;refine ⟨gam [0,(γ 1),0,((γ 3) + 1)],zak ?_⟩;rotate_left
 rcases zaa h with ⟨h2,h⟩ | ⟨h2,h⟩
 obtain ⟨h3,h⟩:=zat h
 cases h;refine ⟨gam [0,(γ 1),0,((γ 3) + 1)],zak ?_⟩;rotate_left
 rcases zaa h with ⟨h3,h⟩ | ⟨h3,h⟩
 obtain ⟨h4,h⟩:=zat h
 obtain ⟨h5,h⟩:=zat h
 cases h;refine ⟨gam [0,(γ 1),0,(((γ 3) + 1) + 1)],zak ?_⟩;rotate_left
 obtain ⟨h4,h⟩:=zat h
 cases h;refine ⟨gam [0,(γ 1),0,((γ 3) + 1)],zak ?_⟩;rotate_left
 all_goals (dsimp only [zio] at *;show Ifc.apart IF_ _ zCM _=_;exact fin_)
def ztn (l:List Finger) (bit:Int) (p:Peer):Option ((List Finger)):=
 bif Ops.std.ilt bit 0 then some l else
 bif Ops.std.ilt 63 bit then some l else
 (zry l bit p).bind fun ⟨zcb,zbs,r3⟩=>
 some r3
theorem zGh {l bit p r} (h:ztn l bit p=some r):zxv l bit p=some r:=by
 unfold ztn at h
 refine zas ?_
 rcases zaa h with ⟨h1,h⟩ | ⟨h1,h⟩
 cases h;refine zab rfl ?_;rotate_left
 rcases zaa h with ⟨h2,h⟩ | ⟨h2,h⟩
 cases h;refine zab rfl ?_;rotate_left
 obtain ⟨r3,γ1,h3,h⟩:=zag h (gam [0,0])
 rcases r3 with ⟨zcb,zbs,r3⟩
 cases h;refine zab rfl ?_;rotate_left
 all_goals (dsimp only [R1,zip] at *;show zar IF_ (zIK zwh) _ _=_;generalize zwh=c0 at *;exact fin_)
def zrn (a:Int) (x:Int) (b:Int):Option (Bool):=
 bif Ops.std.ilt a b then
  bif Ops.std.ilt a x then some (Ops.std.ile x b) else
  some false
 else
  bif Ops.std.ilt b a then
   bif Ops.std.ilt a x then some true else
   some (Ops.std.ile x b)
  else
   some true
theorem zEa {a x b r} (h:zrn a x b=some r):znS a x b=some r:=by
 unfold zrn at h
 refine zas ?_
 rcases zaa h with ⟨h1,h⟩ | ⟨h1,h⟩
 rcases zaa h with ⟨h2,h⟩ | ⟨h2,h⟩
 cases h;refine zab rfl ?_;rotate_left
 cases h;refine zab rfl ?_;rotate_left
 rcases zaa h with ⟨h2,h⟩ | ⟨h2,h⟩
 rcases zaa h with ⟨h3,h⟩ | ⟨h3,h⟩
 cases h;refine zab rfl ?_;rotate_left
 cases h;refine zab rfl ?_;rotate_left
 cases h;refine zab rfl ?_;rotate_left
 all_goals (dsimp only [R1] at *;show zar IF_ zIn _ _=_;exact fin_)
def zn0 (n:Node) (id:Int) (has:Bool) (val:ByteArray) (e_:Int):Option (Node):=
 (znZ n.jobs id).bind fun res=>
 bif Ops.std.ilt res 0 then some n else
 (xget eJob n.jobs res).bind fun x=>
 (zvw n.results x has val e_).bind fun res1=>
 (zpC n.jobs res).bind fun res2=>
 some (⟨n.me,n.clock,n.joined,n.pred,n.list,n.fingers,n.store,n.pends,res2,res1,n.rid,n.jobID,n.nextBit⟩:Node)
theorem zAH {n id has val e_ r} (h:zn0 n id has val e_=some r):zrD n id has val e_=some r:=by
 unfold zn0 at h
 refine zas ?_
 obtain ⟨res,h1,h⟩:=zac h
 rcases zaa h with ⟨h2,h⟩ | ⟨h2,h⟩
 cases h;refine zab rfl ?_;rotate_left
 obtain ⟨x,h3,h⟩:=zac h
 obtain ⟨res1,h4,h⟩:=zac h
 obtain ⟨res2,h5,h⟩:=zac h
 cases h;refine zab rfl ?_;rotate_left
 all_goals (dsimp only [R1] at *;show zar IF_ zIL _ _=_;exact fin_)
def zmS (l:List Entry) (addr:Int):Option (Int):=
 zjl l addr
theorem zyv {l addr r} (h:zmS l addr=some r):zpj l addr=some r:=by
 unfold zmS at h
 refine zas ?_
 have h1:=ask_some h
 rcases r with res
 refine zab rfl ?_;rotate_left
 all_goals (dsimp only [zc0,R1] at *;show zar IF_ g98F _ _=_;exact fin_)
def znQ (l:List Entry) (addr:Int):Option ((List Entry)):=
 bif zaK zai 24 [] l then zkd l addr else
 none
theorem zAo {l addr r} (h:znQ l addr=some r):zri l addr=some r:=by
 unfold znQ at h
 refine zas ?_
 obtain ⟨h1,h⟩:=zat h
 obtain ⟨γ1,h2⟩:=zal h (gam [0,0])
 rcases r with r0
 refine zab rfl ?_;rotate_left
 all_goals (dsimp only [zdk,K1] at *;show zar IF_ zIT _ _=_;exact fin_)
def zmR (me:Peer) (a:Peer) (b:Peer):Option (Bool):=
 (zix me.id a.id).bind fun res=>
 (zix me.id b.id).bind fun res1=>
 bif Ops.std.ilt res res1 then some true else
 bif Ops.std.ieq res res1 then some (Ops.std.ilt a.addr b.addr) else
 some false
theorem zyu {me a b r} (h:zmR me a b=some r):zpi me a b=some r:=by
 unfold zmR at h
 refine zas ?_
 obtain ⟨res,h1,h⟩:=zac h
 obtain ⟨res1,h2,h⟩:=zac h
 rcases zaa h with ⟨h3,h⟩ | ⟨h3,h⟩
 cases h;refine zab rfl ?_;rotate_left
 rcases zaa h with ⟨h4,h⟩ | ⟨h4,h⟩
 cases h;refine zab rfl ?_;rotate_left
 cases h;refine zab rfl ?_;rotate_left
 all_goals (dsimp only [R1] at *;show zar IF_ g99F _ _=_;exact fin_)
def zmQ (x:Entry) (zaU:Int) (zav:Int) (zbf:Int) (za2:Int):Option (Bool):=
 zpi (⟨zaU,zav⟩:Peer) (⟨zbf,za2⟩:Peer) x.peer
theorem zyt {x zaU zav zbf za2 r} (h:zmQ x zaU zav zbf za2=some r):zpg x zaU zav zbf za2=some r:=by
 unfold zmQ at h
 refine zas ?_
 have h1:=ask_some h
 rcases r with res
 refine zab rfl ?_;rotate_left
 all_goals (dsimp only [R1,zg2] at *;show zar IF_ zIU _ _=_;exact fin_)
def zcJ (zaU:Int) (zav:Int) (zbf:Int) (za2:Int) (γ:Nat → Nat):Int ⊕ Unit → X × St
 | .inl a0=>(.ret,⟨bd 4 (vI a0 :: bd 14 []),[.box 25 [vU zaU,vH zav],.box 25 [vU zbf,vH za2]]⟩)
 | .inr ()=>(.brk 0,⟨bd 19 [],[.box 25 [vU zaU,vH zav],.box 25 [vU zbf,vH za2]]⟩)
instance {zaU zav zbf za2}:InjS (zcJ zaU zav zbf za2):=⟨fun γ γ' x y h=>by
 rcases x with a0 | _ <;> rcases y with a0' | _ <;> simp only [zcJ] at h <;> exact inj_⟩
def zeP (s:List Entry) (zaU:Int) (zav:Int) (zbf:Int) (za2:Int) (t8:Int):Option (Int ⊕ Unit):=asks (fun γ=>(lim F pr).loop [7,1,0,8] 2 zdV ⟨.lit 81 false (List.map zai s) :: .fn 195 [.bptr 0 0,.bptr 1 0] :: bd 5 (vI (xlen zai s) :: vI t8 :: bd 10 []),[.box 25 [vU zaU,vH zav],.box 25 [vU zbf,vH za2]]⟩) (zcJ zaU zav zbf za2)
def zcI (s:List Entry) (zaU:Int) (zav:Int) (zbf:Int) (za2:Int) (t8:Int):Option (Int ⊕ Unit):=
 bif Ops.std.ilt t8 (xlen zai s) then
  (xget zai s t8).bind fun x=>
  (zpg x zaU zav zbf za2).bind fun res=>
  bif res then some (.inl t8) else
  zeP s zaU zav zbf za2 (Ops.std.iadd .i64 t8 1)
 else
  some (.inr ())
theorem zgE {s zaU zav zbf za2 t8 r} (h:zcI s zaU zav zbf za2 t8=some r):zeP s zaU zav zbf za2 t8=some r:=by
 unfold zcI at h
 refine zap fun γ=>?_
 rcases zaa h with ⟨h1,h⟩ | ⟨h1,h⟩
 obtain ⟨x,h2,h⟩:=zac h
 obtain ⟨res,h3,h⟩:=zac h
 rcases zaa h with ⟨h4,h⟩ | ⟨h4,h⟩
 cases h;refine ⟨gam [],zad ?_⟩;rotate_left
 replace h:=zal h (gam []);obtain ⟨γ',h0⟩:=h;refine ⟨γ',zad ?_⟩;rotate_left
 cases h;refine ⟨gam [],zad ?_⟩;rotate_left
 all_goals (dsimp only [zcJ,zg2] at *;show zaR IF_ _ _ zdV zuc _=_;generalize zdV=c0 at *;exact fin_)
def zjn (s:List Entry) (zaU:Int) (zav:Int) (zbf:Int) (za2:Int):Option (Int):=
 (zeP s zaU zav zbf za2 0).bind fun r=>match r with
  | .inl t4=>
   some t4
  | .inr ()=>
   some (-1)
theorem zuP {s zaU zav zbf za2 r} (h:zjn s zaU zav zbf za2=some r):zkN s zaU zav zbf za2=some r:=by
 unfold zjn at h
 refine zas ?_
 obtain ⟨r1,γ1,h1,h⟩:=zag h (gam [])
 rcases r1 with t4 | _
 cases h;refine zab rfl ?_;rotate_left
 cases h;refine zab rfl ?_;rotate_left
 all_goals (dsimp only [zdT,zcJ] at *;show zar IF_ (zzt zdV) _ _=_;generalize zdV=c0 at *;exact fin_)
def zf1 (γ:Nat → Nat):Int ⊕ Unit → X × St
 | .inl a0=>(.ret,⟨bd 4 (vI a0 :: bd 16 []),[]⟩)
 | .inr ()=>(.brk 0,⟨bd 21 [],[]⟩)
instance :InjS zf1:=⟨fun γ γ' x y h=>by
 rcases x with a0 | _ <;> rcases y with a0' | _ <;> simp only [zf1] at h <;> exact inj_⟩
def zkY (l:List Entry) (addr:Int) (i:Int):Option (Int ⊕ Unit):=asks (fun γ=>(lim F pr).loop [0,1,5] 0 zqb ⟨.lit 81 false (List.map zai l) :: vH addr :: bd 3 (vI i :: bd 15 []),[]⟩) zf1
def zf0 (l:List Entry) (addr:Int) (i:Int):Option (Int ⊕ Unit):=
 bif Ops.std.ilt i (xlen zai l) then
  (xget zai l i).bind fun x=>
  bif Ops.std.ieq x.peer.addr addr then some (.inl i) else
  zkY l addr (Ops.std.iadd .i64 i 1)
 else
  some (.inr ())
theorem zlV {l addr i r} (h:zf0 l addr i=some r):zkY l addr i=some r:=by
 unfold zf0 at h
 refine zap fun γ=>?_
 rcases zaa h with ⟨h1,h⟩ | ⟨h1,h⟩
 obtain ⟨x,h2,h⟩:=zac h
 rcases zaa h with ⟨h3,h⟩ | ⟨h3,h⟩
 cases h;refine ⟨gam [],zad ?_⟩;rotate_left
 replace h:=zal h (gam []);obtain ⟨γ',h0⟩:=h;refine ⟨γ',zad ?_⟩;rotate_left
 cases h;refine ⟨gam [],zad ?_⟩;rotate_left
 all_goals (dsimp only [zf1] at *;show zaR IF_ _ _ zqb zCP _=_;generalize zqb=c0 at *;exact fin_)
def zpu (l:List Entry) (addr:Int):Option (Int):=
 (zkY l addr 0).bind fun r=>match r with
  | .inl t4=>
   some t4
  | .inr ()=>
   some (-1)
theorem zBN {l addr r} (h:zpu l addr=some r):zoP l addr=some r:=by
 unfold zpu at h
 refine zas ?_
 obtain ⟨r1,γ1,h1,h⟩:=zag h (gam [])
 rcases r1 with t4 | _
 cases h;refine zab rfl ?_;rotate_left
 cases h;refine zab rfl ?_;rotate_left
 all_goals (dsimp only [R1,zf1] at *;show zar IF_ (zIN zqb) _ _=_;generalize zqb=c0 at *;exact fin_)
def zg6 (γ:Nat → Nat):(List Entry) → X × St
 | a0=>(.brk 0,⟨bd 5 (.sl 1 ((γ 1)) :: bd 23 []),[.row 81 (γ 0) false (List.map zai []),.row 81 (γ 1) false (List.map zai a0)]⟩)
instance :InjS zg6:=⟨fun γ γ' x y h=>by
 rcases x with a0 <;> rcases y with a0' <;> simp only [zg6] at h <;> exact inj_⟩
def zjB (l:List Entry) (addr:Int) (i:Int) (r1:List Entry):Option ((List Entry)):=asks (fun γ=>(lim F pr).loop [1,0,6,5] 2 zqc ⟨.lit 81 false (List.map zai l) :: vH addr :: bd 3 (.sl 1 ((γ 1)) :: vI i :: bd 22 []),[.row 81 (γ 0) false (List.map zai []),.row 81 (γ 1) false (List.map zai r1)]⟩) zg6
def zg5 (l:List Entry) (addr:Int) (i:Int) (r1:List Entry):Option ((List Entry)):=
 bif Ops.std.ilt i (xlen zai l) then
  (xget zai l i).bind fun x=>
  bif Ops.std.ieq x.peer.addr addr then zjB l addr (Ops.std.iadd .i64 i 1) r1 else
  bif zaK zai 24 r1 [x] then zjB l addr (Ops.std.iadd .i64 i 1) (r1 ++ [x]) else
  none
 else
  some r1
theorem zr9 {l addr i r1 r} (h:zg5 l addr i r1=some r):zjB l addr i r1=some r:=by
 unfold zg5 at h
 refine zap fun γ=>?_
 rcases zaa h with ⟨h1,h⟩ | ⟨h1,h⟩
 obtain ⟨x,h2,h⟩:=zac h
 rcases zaa h with ⟨h3,h⟩ | ⟨h3,h⟩
 replace h:=zal h (gam [(γ 0),(γ 1)]);obtain ⟨γ',h0⟩:=h;refine ⟨γ',zad ?_⟩;rotate_left
 obtain ⟨h4,h⟩:=zat h
 replace h:=zal h (gam [(γ 0),((γ 1) + 1)]);obtain ⟨γ',h0⟩:=h;refine ⟨γ',zad ?_⟩;rotate_left
 cases h;refine ⟨gam [(γ 0),(γ 1)],zad ?_⟩;rotate_left
 all_goals (dsimp only [zg6] at *;show zaR IF_ _ _ zqc zCQ _=_;generalize zqc=c0 at *;exact fin_)
def zrs (l:List Entry) (addr:Int):Option ((List Entry)):=
 zjB l addr 0 []
theorem zEf {l addr r} (h:zrs l addr=some r):zvs l addr=some r:=by
 unfold zrs at h
 refine zas ?_
 obtain ⟨γ1,h1⟩:=zal h (gam [0,0])
 rcases r with r1
 refine zab rfl ?_;rotate_left
 all_goals (dsimp only [R1,zg6] at *;show zar IF_ (zIO zqc) _ _=_;generalize zqc=c0 at *;exact fin_)
def zpt (me:Peer) (a:Peer) (b:Peer):Option (Bool):=
 (zlO me.id a.id).bind fun res=>
 (zlO me.id b.id).bind fun res1=>
 bif Ops.std.ieq res res1 then some (Ops.std.ilt a.addr b.addr) else
 some (Ops.std.ilt res res1)
theorem zBL {me a b r} (h:zpt me a b=some r):ztm me a b=some r:=by
 unfold zpt at h
 refine zas ?_
 obtain ⟨res,h1,h⟩:=zac h
 obtain ⟨res1,h2,h⟩:=zac h
 rcases zaa h with ⟨h3,h⟩ | ⟨h3,h⟩
 cases h;refine zab rfl ?_;rotate_left
 cases h;refine zab rfl ?_;rotate_left
 all_goals (dsimp only [R1] at *;show zar IF_ zIP _ _=_;exact fin_)
def zts (n:Node):Option (Int):=
 bif Ops.std.ilt 0 n.clock then
  bif Ops.std.ile n.clock 1099511627776 then some n.clock else
  some 0
 else
  some 0
theorem zGm {n r} (h:zts n=some r):zxy n=some r:=by
 unfold zts at h
 refine zas ?_
 rcases zaa h with ⟨h1,h⟩ | ⟨h1,h⟩
 rcases zaa h with ⟨h2,h⟩ | ⟨h2,h⟩
 cases h;refine zab rfl ?_;rotate_left
 cases h;refine zab rfl ?_;rotate_left
 cases h;refine zab rfl ?_;rotate_left
 all_goals (dsimp only [R1] at *;show zar IF_ zIy _ _=_;exact fin_)
def zfZ (γ:Nat → Nat):Unit ⊕ Unit → X × St
 | .inl ()=>(.ret,⟨bd 4 (vF false :: bd 21 []),[]⟩)
 | .inr ()=>(.brk 0,⟨bd 26 [],[]⟩)
instance :InjS zfZ:=⟨fun γ γ' x y h=>by
 rcases x with _ | _ <;> rcases y with _ | _ <;> simp only [zfZ] at h <;> exact inj_⟩
def zif (a:List Peer) (b:List Peer) (i:Int):Option (Unit ⊕ Unit):=asks (fun γ=>(lim F pr).loop [0,1,5] 0 zp6 ⟨.lit 25 false (List.map zah a) :: .lit 25 false (List.map zah b) :: bd 3 (vI i :: bd 20 []),[]⟩) zfZ
def zcC (a:List Peer) (b:List Peer) (i:Int):Option (Unit ⊕ Unit):=
 bif Ops.std.ilt i (xlen zah a) then
  (xget zah a i).bind fun x=>
  (xget zah b i).bind fun x1=>
  bif Ops.std.ieq x.id x1.id then
   bif Ops.std.ieq x.addr x1.addr then zif a b (Ops.std.iadd .i64 i 1) else
   some (.inl ())
  else
   some (.inl ())
 else
  some (.inr ())
theorem zef {a b i r} (h:zcC a b i=some r):zif a b i=some r:=by
 unfold zcC at h
 refine zap fun γ=>?_
 rcases zaa h with ⟨h1,h⟩ | ⟨h1,h⟩
 obtain ⟨x,h2,h⟩:=zac h
 obtain ⟨x1,h3,h⟩:=zac h
 rcases zaa h with ⟨h4,h⟩ | ⟨h4,h⟩
 rcases zaa h with ⟨h5,h⟩ | ⟨h5,h⟩
 replace h:=zal h (gam []);obtain ⟨γ',h0⟩:=h;refine ⟨γ',zad ?_⟩;rotate_left
 cases h;refine ⟨gam [],zad ?_⟩;rotate_left
 cases h;refine ⟨gam [],zad ?_⟩;rotate_left
 cases h;refine ⟨gam [],zad ?_⟩;rotate_left
 all_goals (dsimp only [zfZ] at *;show zaR IF_ _ _ zp6 zCC _=_;generalize zp6=c0 at *;exact fin_)
def zmh (a:List Peer) (b:List Peer):Option (Bool):=
 bif Ops.std.ieq (xlen zah a) (xlen zah b) then
  (zif a b 0).bind fun r=>match r with
   | .inl ()=>
    some false
   | .inr ()=>
    some true
 else
  some false
theorem zu1 {a b r} (h:zmh a b=some r):zoO a b=some r:=by
 unfold zmh at h
 refine zas ?_
 rcases zaa h with ⟨h1,h⟩ | ⟨h1,h⟩
 obtain ⟨r2,γ1,h2,h⟩:=zag h (gam [])
 rcases r2 with _ | _
 cases h;refine zab rfl ?_;rotate_left
 cases h;refine zab rfl ?_;rotate_left
 cases h;refine zab rfl ?_;rotate_left
 all_goals (dsimp only [R1,zfZ] at *;show zar IF_ (zIq zp6) _ _=_;generalize zp6=c0 at *;exact fin_)
def zgl (s:ByteArray) (γ:Nat → Nat):Int ⊕ Int → X × St
 | .inl a0=>(.ret,⟨bd 2 (vF false :: bd 12 []),[.it s a0]⟩)
 | .inr b0=>(.brk 0,⟨bd 15 [],[.it s b0]⟩)
instance {s}:InjS (zgl s):=⟨fun γ γ' x y h=>by
 rcases x with a0 | b0 <;> rcases y with a0' | b0' <;> simp only [zgl] at h <;> exact inj_⟩
def ziB (s:ByteArray) (at0:Int):Option (Int ⊕ Int):=asks (fun γ=>(lim F pr).loop [6,0] 1 zuu ⟨vT s :: bd 5 (.bptr 0 0 :: bd 8 []),[.it s at0]⟩) (zgl s)
def zgk (s:ByteArray) (at0:Int):Option (Int ⊕ Int):=
 xopt (zrY s at0) (fun ⟨c,nx⟩=>
  (ztP s at0 c).bind fun res=>
  bif res then some (.inl nx) else
  ziB s nx)
  (some (.inr at0))
theorem zl5 {s at0 r} (h:zgk s at0=some r):ziB s at0=some r:=by
 unfold zgk at h
 refine zap fun γ=>?_
 rcases zt6 h with ⟨⟨c,nx⟩,h1,h⟩ | ⟨h1,h⟩
 obtain ⟨res,h2,h⟩:=zac h
 rcases zaa h with ⟨h3,h⟩ | ⟨h3,h⟩
 cases h;refine ⟨gam [],zad ?_⟩;rotate_left
 replace h:=zal h (gam []);obtain ⟨γ',h0⟩:=h;refine ⟨γ',zad ?_⟩;rotate_left
 cases h;refine ⟨gam [],zad ?_⟩;rotate_left
 all_goals (dsimp only [R1,zgl] at *;show zaR IF_ _ _ zuu zFr _=_;generalize zuu=c0 at *;exact fin_)
def zpQ (s:ByteArray):Option (Bool):=
 (ziB s 0).bind fun r=>match r with
  | .inl at0=>
   some false
  | .inr at0=>
   some true
theorem zCa {s r} (h:zpQ s=some r):ztO s=some r:=by
 unfold zpQ at h
 refine zas ?_
 obtain ⟨r1,γ1,h1,h⟩:=zag h (gam [])
 rcases r1 with at0 | at0
 cases h;refine zab rfl ?_;rotate_left
 cases h;refine zab rfl ?_;rotate_left
 all_goals (dsimp only [R1,zgl] at *;show zar IF_ (g83F zuu) _ _=_;generalize zuu=c0 at *;exact fin_)
def zgj (s:ByteArray) (γ:Nat → Nat):(Int × Int) → X × St
 | (a0,a1)=>(.brk 0,⟨bd 3 (vI a0 :: bd 7 []),[.it s a1]⟩)
instance {s}:InjS (zgj s):=⟨fun γ γ' x y h=>by
 rcases x with ⟨a0,a1⟩ <;> rcases y with ⟨a0',a1'⟩ <;> simp only [zgj] at h <;> exact inj_⟩
def ziA (s:ByteArray) (n:Int) (at0:Int):Option ((Int × Int)):=asks (fun γ=>(lim F pr).loop [5,3] 1 zuv ⟨bd 3 (vI n :: bd 1 (.bptr 0 0 :: bd 5 [])),[.it s at0]⟩) (zgj s)
def zjb (s:ByteArray) (n:Int) (at0:Int):Option ((Int × Int)):=
 xopt (zrY s at0) (fun ⟨c,nx⟩=>
  ziA s (Ops.std.iadd .i64 n 1) nx)
  (some (n,at0))
theorem zqE {s n at0 r} (h:zjb s n at0=some r):ziA s n at0=some r:=by
 unfold zjb at h
 refine zap fun γ=>?_
 rcases zt6 h with ⟨⟨c,nx⟩,h1,h⟩ | ⟨h1,h⟩
 replace h:=zal h (gam []);obtain ⟨γ',h0⟩:=h;refine ⟨γ',zad ?_⟩;rotate_left
 cases h;refine ⟨gam [],zad ?_⟩;rotate_left
 all_goals (dsimp only [zgj] at *;show zaR IF_ _ _ zuv zFs _=_;generalize zuv=c0 at *;exact fin_)
def zpP (s:ByteArray):Option (Int):=
 (ziA s 0 0).bind fun ⟨n,at0⟩=>
 some n
theorem zB9 {s r} (h:zpP s=some r):ztN s=some r:=by
 unfold zpP at h
 refine zas ?_
 obtain ⟨r1,γ1,h1,h⟩:=zag h (gam [])
 rcases r1 with ⟨n,at0⟩
 cases h;refine zab rfl ?_;rotate_left
 all_goals (dsimp only [R1,zgj] at *;show zar IF_ (g84F zuv) _ _=_;generalize zuv=c0 at *;exact fin_)
def zdZ (γ:Nat → Nat):(List Peer) → X × St
 | a0=>(.brk 0,⟨bd 5 (.sl 1 ((γ 1)) :: bd 18 []),[.row 25 (γ 0) false (List.map zah []),.row 25 (γ 1) false (List.map zah a0)]⟩)
instance :InjS zdZ:=⟨fun γ γ' x y h=>by
 rcases x with a0 <;> rcases y with a0' <;> simp only [zdZ] at h <;> exact inj_⟩
def zeX (l:List Entry) (t10:Int) (r1:List Peer):Option ((List Peer)):=asks (fun γ=>(lim F pr).loop [9,8,1,10,5] 2 zp7 ⟨bd 1 (.fn 146 [] :: bd 3 (.sl 1 ((γ 1)) :: bd 2 (.lit 81 false (List.map zai l) :: vI (xlen zai l) :: vI t10 :: bd 13 []))),[.row 25 (γ 0) false (List.map zah []),.row 25 (γ 1) false (List.map zah r1)]⟩) zdZ
def zdY (l:List Entry) (t10:Int) (r1:List Peer):Option ((List Peer)):=
 bif Ops.std.ilt t10 (xlen zai l) then
  (xget zai l t10).bind fun x=>
  (zrj x).bind fun res=>
  bif res then
   bif zaK zah 16 r1 [x.peer] then zeX l (Ops.std.iadd .i64 t10 1) (r1 ++ [x.peer]) else
   none
  else
   zeX l (Ops.std.iadd .i64 t10 1) r1
 else
  some r1
theorem zne {l t10 r1 r} (h:zdY l t10 r1=some r):zeX l t10 r1=some r:=by
 unfold zdY at h
 refine zap fun γ=>?_
 rcases zaa h with ⟨h1,h⟩ | ⟨h1,h⟩
 obtain ⟨x,h2,h⟩:=zac h
 obtain ⟨res,h3,h⟩:=zac h
 rcases zaa h with ⟨h4,h⟩ | ⟨h4,h⟩
 obtain ⟨h5,h⟩:=zat h
 replace h:=zal h (gam [(γ 0),((γ 1) + 1)]);obtain ⟨γ',h0⟩:=h;refine ⟨γ',zad ?_⟩;rotate_left
 replace h:=zal h (gam [(γ 0),(γ 1)]);obtain ⟨γ',h0⟩:=h;refine ⟨γ',zad ?_⟩;rotate_left
 cases h;refine ⟨gam [(γ 0),(γ 1)],zad ?_⟩;rotate_left
 all_goals (dsimp only [R1,zdZ] at *;show zaR IF_ _ _ zp7 zCD _=_;generalize zp7=c0 at *;exact fin_)
def zlM (l:List Entry):Option ((List Peer)):=
 zeX l 0 []
theorem zxp {l r} (h:zlM l=some r):ztc l=some r:=by
 unfold zlM at h
 refine zas ?_
 obtain ⟨γ1,h1⟩:=zal h (gam [0,0])
 rcases r with r1
 refine zab rfl ?_;rotate_left
 all_goals (dsimp only [K1,zdZ] at *;show zar IF_ (zIt zp7) _ _=_;generalize zp7=c0 at *;exact fin_)
end Go.Ab.Tryz
