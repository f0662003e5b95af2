/- Our texts for this statement, merged: what its theorem leads to. -/
import Derived.Test.YtjmmobicnfojeaaGreatDoorQWb9
set_option linter.unusedVariables false
set_option linter.unusedSimpArgs false
noncomputable section
namespace Go.Ab.Tryz
open Go Go.Ab Go.Proofs
set_option maxRecDepth 10000
set_option maxHeartbeats 4000000
abbrev zkY:=((List Out) × Int × Node × Node) ⊕ (Int × Node × Node × (List Entry) × (List Entry) × (List Finger) × (List Pair) × (List Pend) × (List Job) × (List Result))
def zfG (via:Peer) (γ:Nat → Nat):zkY → X × St
 | .inl (a0,a1,a2,a3)=>(.ret,⟨bd 4 (.bptr 2 0 :: .lit 56 false (List.map eOut a0) :: vI a1 :: bd 30 []),[.box 34 (zam a2),.box 25 [vU via.id,vH via.addr],.box 34 (zam a3),.row 56 (γ 3) false (List.map eOut [])]⟩)
 | .inr (b0,b1,b2,b3,b4,b5,b6,b7,b8,b9)=>(.ret,⟨bd 4 (.bptr 2 0 :: .sl 11 ((γ 11)) :: vI b0 :: bd 30 []),[.box 34 (zam b1),.box 25 [vU via.id,vH via.addr],.box 34 (zam b2),.row 56 (γ 3) false (List.map eOut []),.row 81 (γ 4) true (List.map zat b3),.row 81 (γ 5) true (List.map zat b4),.row 84 (γ 6) true (List.map zae b5),.row 78 (γ 7) true (List.map zan b6),.row 88 (γ 8) true (List.map zaX b7),.row 67 (γ 9) true (List.map eJob b8),.row 60 (γ 10) true (List.map zal b9),.row 56 (γ 11) false (List.map eOut [])]⟩)
instance {via}:InjS (zfG via):=⟨fun γ γ' x y h=>by
 rcases x with ⟨a0,a1,a2,a3⟩ | ⟨b0,b1,b2,b3,b4,b5,b6,b7,b8,b9⟩ <;> rcases y with ⟨a0',a1',a2',a3'⟩ | ⟨b0',b1',b2',b3',b4',b5',b6',b7',b8',b9'⟩ <;> simp only [zfG] at h <;> exact inj_⟩
def zdU (via:Peer) (e_:Int) (b0:Node):Option (zkY):=asks (fun γ=>(lim F pr).seg [4,5,6] zyn ⟨bd 2 (.bptr 0 0 :: .bptr 1 0 :: .bptr 2 0 :: bd 2 (vI e_ :: bd 29 [])),[.box 34 (zam b0),.box 25 [vU via.id,vH via.addr],.box 34 ([vU 0,vH 0,vI 0,vF false,.lit 0 true [],.lit 0 true [],.lit 0 true [],.lit 0 true [],.lit 0 true [],.lit 0 true [],.lit 0 true [],vW 0,vI 0,vI 0]),.row 56 (γ 3) false (List.map eOut [])]⟩) (zfG via)
def zik (via:Peer) (e_:Int) (b0:Node):Option (zkY):=
 bif Ops.std.ieq e_ 0 then
  (zhP b0 (⟨0,1,0,⟨#[]⟩,⟨#[]⟩,b0.me.id,via,(⟨0,0⟩:Peer),false,0,0,0⟩:Job)).bind fun ⟨r0,r1,r2⟩=>
  some (.inl (r1,r2,b0,r0))
 else
  (zcj b0).bind fun ⟨zaF,zav,zaD,zay,zaG,zaC,zaq,zaz,zax,zaB,zar,zaK,zaE,zaw⟩=>
  some (.inr (e_,b0,(⟨(⟨zaF,zav⟩:Peer),zaD,zay,zaG,zaC,zaq,zaz,zax,zaB,zar,zaK,zaE,zaw⟩:Node),zaG,zaC,zaq,zaz,zax,zaB,zar))
theorem zpC {via e_ b0 r} (h:zik via e_ b0=some r):zdU via e_ b0=some r:=by
 unfold zik at h
 refine zao fun γ=>?_
 rcases zaa h with ⟨h1,h⟩ | ⟨h1,h⟩
 obtain ⟨r2,h2,h⟩:=zac h
 rcases r2 with ⟨r0,r1,r2⟩
 cases h;refine ⟨gam [0,0,0,(γ 3)],zaj ?_⟩;rotate_left
 obtain ⟨r2,h2,h⟩:=zac h
 rcases r2 with ⟨zaF,zav,zaD,zay,zaG,zaC,zaq,zaz,zax,zaB,zar,zaK,zaE,zaw⟩
 cases h;refine ⟨gam [0,0,0,(γ 3),0,0,0,0,0,0,0,0],zaj ?_⟩;rotate_left
 all_goals (dsimp only [R3,zbu,zfG] at *;show Ifc.apart IF_ _ zD7 _=_;exact fin_)
def zoR (n:Node) (via:Peer):Option ((Node × (List Out) × Int)):=
 bif n.joined then
  (zdU via 14 (⟨n.me,n.clock,true,n.pred,n.list,n.fingers,n.store,n.pends,n.jobs,n.results,n.rid,n.jobID,n.nextBit⟩:Node)).bind fun r=>match r with
   | .inl (t5,t6,b0,b2)=>
    some (b2,t5,t6)
   | .inr (t6,b0,b2,r4,r5,r6,r7,r8,r9,r10)=>
    some (b2,[],t6)
 else
  bif Ops.std.ieq via.addr n.me.addr then
   (zdU via 1 (⟨n.me,n.clock,false,n.pred,n.list,n.fingers,n.store,n.pends,n.jobs,n.results,n.rid,n.jobID,n.nextBit⟩:Node)).bind fun r=>match r with
    | .inl (t5,t6,b0,b2)=>
     some (b2,t5,t6)
    | .inr (t6,b0,b2,r4,r5,r6,r7,r8,r9,r10)=>
     some (b2,[],t6)
  else
   (znH n.jobs 1).bind fun res=>
   bif res then
    (zdU via 17 (⟨n.me,n.clock,false,n.pred,n.list,n.fingers,n.store,n.pends,n.jobs,n.results,n.rid,n.jobID,n.nextBit⟩:Node)).bind fun r=>match r with
     | .inl (t5,t6,b0,b2)=>
      some (b2,t5,t6)
     | .inr (t6,b0,b2,r4,r5,r6,r7,r8,r9,r10)=>
      some (b2,[],t6)
   else
    (zdU via 0 (⟨n.me,n.clock,false,n.pred,n.list,n.fingers,n.store,n.pends,n.jobs,n.results,n.rid,n.jobID,n.nextBit⟩:Node)).bind fun r=>match r with
     | .inl (t5,t6,b0,b2)=>
      some (b2,t5,t6)
     | .inr (t6,b0,b2,r4,r5,r6,r7,r8,r9,r10)=>
      some (b2,[],t6)
theorem zBg {n via r} (h:zoR n via=some r):zs4 n via=some r:=by
 unfold zoR at h
 refine zau ?_
 rcases zaa h with ⟨h1,h⟩ | ⟨h1,h⟩
 obtain ⟨r2,γ1,h2,h⟩:=zah h (gam [0,0,0,0])
 rcases r2 with ⟨t5,t6,b0,b2⟩ | ⟨t6,b0,b2,r4,r5,r6,r7,r8,r9,r10⟩
 cases h;refine zab rfl ?_;rotate_left
 cases h;refine zab rfl ?_;rotate_left
 rcases zaa h with ⟨h2,h⟩ | ⟨h2,h⟩
 obtain ⟨r3,γ1,h3,h⟩:=zah h (gam [0,0,0,0])
 rcases r3 with ⟨t5,t6,b0,b2⟩ | ⟨t6,b0,b2,r4,r5,r6,r7,r8,r9,r10⟩
 cases h;refine zab rfl ?_;rotate_left
 cases h;refine zab rfl ?_;rotate_left
 obtain ⟨res,h3,h⟩:=zac h
 rcases zaa h with ⟨h4,h⟩ | ⟨h4,h⟩
 obtain ⟨r5,γ2,h5,h⟩:=zah h (gam [0,0,0,0])
 rcases r5 with ⟨t5,t6,b0,b2⟩ | ⟨t6,b0,b2,r4,r5,r6,r7,r8,r9,r10⟩
 cases h;refine zab rfl ?_;rotate_left
 cases h;refine zab rfl ?_;rotate_left
 obtain ⟨r5,γ2,h5,h⟩:=zah h (gam [0,0,0,0])
 rcases r5 with ⟨t5,t6,b0,b2⟩ | ⟨t6,b0,b2,r4,r5,r6,r7,r8,r9,r10⟩
 cases h;refine zab rfl ?_;rotate_left
 cases h;refine zab rfl ?_;rotate_left
 all_goals (dsimp only [R1,R3,zfG] at *;show zas IF_ (g29F zyn) _ _=_;generalize zyn=c0 at *;(try dsimp only [zai,zat,zae,zan,zaX,eJob,zal,zaJ,eMsg,eOut,zbR,cJob,zam,cMsg,zaR,capp] at *);(try simp only [List.map_cons,List.map_nil] at *);(try generalize n.joined=q0 at *);exact fin_)
def zqJ (n:Node) (via:Peer):Option ((Node × (List Out) × Int)):=
 bif n.joined then
  some ((⟨n.me,n.clock,true,n.pred,n.list,n.fingers,n.store,n.pends,n.jobs,n.results,n.rid,n.jobID,n.nextBit⟩:Node),[],14)
 else
  bif Ops.std.ieq via.addr n.me.addr then
   some ((⟨n.me,n.clock,false,n.pred,n.list,n.fingers,n.store,n.pends,n.jobs,n.results,n.rid,n.jobID,n.nextBit⟩:Node),[],1)
  else
   (zqB n.jobs 1).bind fun res=>
   bif res then
    some ((⟨n.me,n.clock,false,n.pred,n.list,n.fingers,n.store,n.pends,n.jobs,n.results,n.rid,n.jobID,n.nextBit⟩:Node),[],17)
   else
    zmu (⟨n.me,n.clock,false,n.pred,n.list,n.fingers,n.store,n.pends,n.jobs,n.results,n.rid,n.jobID,n.nextBit⟩:Node) (⟨0,1,0,⟨#[]⟩,⟨#[]⟩,n.me.id,via,(⟨0,0⟩:Peer),false,0,0,0⟩:Job)
theorem zDw {n via r} (h:zqJ n via=some r):zuE n via=some r:=by
 unfold zqJ at h
 refine zau ?_
 rcases zaa h with ⟨h1,h⟩ | ⟨h1,h⟩
 cases h;refine zab rfl ?_;rotate_left
 rcases zaa h with ⟨h2,h⟩ | ⟨h2,h⟩
 cases h;refine zab rfl ?_;rotate_left
 obtain ⟨res,h3,h⟩:=zac h
 rcases zaa h with ⟨h4,h⟩ | ⟨h4,h⟩
 cases h;refine zab rfl ?_;rotate_left
 have h5:=ask_some h
 rcases r with ⟨r0,r1,r2⟩
 refine zab rfl ?_;rotate_left
 all_goals (dsimp only [R1,R3] at *;show zas IF_ g30F _ _=_;(try dsimp only [zai,zat,zae,zan,zaX,eJob,zal,zaJ,eMsg,eOut,zbR,cJob,zam,cMsg,zaR,capp] at *);(try simp only [List.map_cons,List.map_nil] at *);(try generalize n.joined=q0 at *);exact fin_)
def zgH (bit:Int) (γ:Nat → Nat):(Int × Node) → X × St
 | (a0,a1)=>(.nor,⟨bd 1 (vI bit :: .bptr 0 0 :: bd 1 (.bptr 1 0 :: bd 2 (vI a0 :: bd 32 []))),[.box 34 (zam a1),.box 34 ([vU 0,vH 0,vI 0,vF false,.lit 0 true [],.lit 0 true [],.lit 0 true [],.lit 0 true [],.lit 0 true [],.lit 0 true [],.lit 0 true [],vW 0,vI 0,vI 0]),.row 56 (γ 2) false (List.map eOut [])]⟩)
instance {bit}:InjS (zgH bit):=⟨fun γ γ' x y h=>by
 rcases x with ⟨a0,a1⟩ <;> rcases y with ⟨a0',a1'⟩ <;> simp only [zgH] at h <;> exact inj_⟩
def zlm (n:Node) (bit:Int) (t8:Bool):Option ((Int × Node)):=asks (fun γ=>(lim F pr).seg [7,2,1,4] zyo ⟨bd 1 (vI bit :: .bptr 0 0 :: bd 1 (.bptr 1 0 :: bd 2 (vI 0 :: vF t8 :: bd 31 []))),[.box 34 (zam n),.box 34 ([vU 0,vH 0,vI 0,vF false,.lit 0 true [],.lit 0 true [],.lit 0 true [],.lit 0 true [],.lit 0 true [],.lit 0 true [],.lit 0 true [],vW 0,vI 0,vI 0]),.row 56 (γ 2) false (List.map eOut [])]⟩) (zgH bit)
abbrev zl3:=((List Out) × Int × Node × Node) ⊕ (Int × Node × Node × (List Entry) × (List Entry) × (List Finger) × (List Pair) × (List Pend) × (List Job) × (List Result))
def zgI (γ:Nat → Nat):zl3 → X × St
 | .inl (a0,a1,a2,a3)=>(.ret,⟨bd 4 (.bptr 1 0 :: .lit 56 false (List.map eOut a0) :: vI a1 :: bd 33 []),[.box 34 (zam a2),.box 34 (zam a3),.row 56 (γ 2) false (List.map eOut [])]⟩)
 | .inr (b0,b1,b2,b3,b4,b5,b6,b7,b8,b9)=>(.ret,⟨bd 4 (.bptr 1 0 :: .sl 10 ((γ 10)) :: vI b0 :: bd 33 []),[.box 34 (zam b1),.box 34 (zam b2),.row 56 (γ 2) false (List.map eOut []),.row 81 (γ 3) true (List.map zat b3),.row 81 (γ 4) true (List.map zat b4),.row 84 (γ 5) true (List.map zae b5),.row 78 (γ 6) true (List.map zan b6),.row 88 (γ 7) true (List.map zaX b7),.row 67 (γ 8) true (List.map eJob b8),.row 60 (γ 9) true (List.map zal b9),.row 56 (γ 10) false (List.map eOut [])]⟩)
instance :InjS zgI:=⟨fun γ γ' x y h=>by
 rcases x with ⟨a0,a1,a2,a3⟩ | ⟨b0,b1,b2,b3,b4,b5,b6,b7,b8,b9⟩ <;> rcases y with ⟨a0',a1',a2',a3'⟩ | ⟨b0',b1',b2',b3',b4',b5',b6',b7',b8',b9'⟩ <;> simp only [zgI] at h <;> exact inj_⟩
def zgP (bit:Int) (e_:Int) (b0:Node):Option (zl3):=asks (fun γ=>(lim F pr).seg [4,5,6] zyp ⟨bd 1 (vI bit :: .bptr 0 0 :: bd 1 (.bptr 1 0 :: bd 2 (vI e_ :: bd 32 []))),[.box 34 (zam b0),.box 34 ([vU 0,vH 0,vI 0,vF false,.lit 0 true [],.lit 0 true [],.lit 0 true [],.lit 0 true [],.lit 0 true [],.lit 0 true [],.lit 0 true [],vW 0,vI 0,vI 0]),.row 56 (γ 2) false (List.map eOut [])]⟩) zgI
def zl2 (n:Node) (bit:Int) (t8:Bool):Option ((Int × Node)):=
 bif t8 then some (1,n) else
 bif n.joined then
  (znH n.jobs 4).bind fun res=>
  bif res then
   some (17,(⟨n.me,n.clock,true,n.pred,n.list,n.fingers,n.store,n.pends,n.jobs,n.results,n.rid,n.jobID,n.nextBit⟩:Node))
  else
   some (0,(⟨n.me,n.clock,true,n.pred,n.list,n.fingers,n.store,n.pends,n.jobs,n.results,n.rid,n.jobID,n.nextBit⟩:Node))
 else
  some (14,(⟨n.me,n.clock,false,n.pred,n.list,n.fingers,n.store,n.pends,n.jobs,n.results,n.rid,n.jobID,n.nextBit⟩:Node))
theorem zyc {n bit t8 r} (h:zl2 n bit t8=some r):zlm n bit t8=some r:=by
 unfold zl2 at h
 refine zao fun γ=>?_
 rcases zaa h with ⟨h1,h⟩ | ⟨h1,h⟩
 cases h;refine ⟨gam [0,0,(γ 2)],zaj ?_⟩;rotate_left
 rcases zaa h with ⟨h2,h⟩ | ⟨h2,h⟩
 obtain ⟨res,h3,h⟩:=zac h
 rcases zaa h with ⟨h4,h⟩ | ⟨h4,h⟩
 cases h;refine ⟨gam [0,0,(γ 2)],zaj ?_⟩;rotate_left
 cases h;refine ⟨gam [0,0,(γ 2)],zaj ?_⟩;rotate_left
 cases h;refine ⟨gam [0,0,(γ 2)],zaj ?_⟩;rotate_left
 all_goals (dsimp only [R1,zgH] at *;show Ifc.apart IF_ _ zD8 _=_;(try dsimp only [zai,zat,zae,zan,zaX,eJob,zal,zaJ,eMsg,eOut,zbR,cJob,zam,cMsg,zaR,capp] at *);(try simp only [List.map_cons,List.map_nil] at *);(try generalize n.joined=q0 at *);exact fin_)
def zi4 (bit:Int) (e_:Int) (b0:Node):Option (zl3):=
 bif Ops.std.ieq e_ 0 then
  (zqP b0.me.id bit).bind fun res=>
  (zhP b0 (⟨0,4,bit,⟨#[]⟩,⟨#[]⟩,res,(⟨0,0⟩:Peer),(⟨0,0⟩:Peer),false,0,0,0⟩:Job)).bind fun ⟨r0,r1,r2⟩=>
  some (.inl (r1,r2,b0,r0))
 else
  (zcj b0).bind fun ⟨zaF,zav,zaD,zay,zaG,zaC,zaq,zaz,zax,zaB,zar,zaK,zaE,zaw⟩=>
  some (.inr (e_,b0,(⟨(⟨zaF,zav⟩:Peer),zaD,zay,zaG,zaC,zaq,zaz,zax,zaB,zar,zaK,zaE,zaw⟩:Node),zaG,zaC,zaq,zaz,zax,zaB,zar))
theorem zry {bit e_ b0 r} (h:zi4 bit e_ b0=some r):zgP bit e_ b0=some r:=by
 unfold zi4 at h
 refine zao fun γ=>?_
 rcases zaa h with ⟨h1,h⟩ | ⟨h1,h⟩
 obtain ⟨res,h2,h⟩:=zac h
 obtain ⟨r3,h3,h⟩:=zac h
 rcases r3 with ⟨r0,r1,r2⟩
 cases h;refine ⟨gam [0,0,(γ 2)],zaj ?_⟩;rotate_left
 obtain ⟨r2,h2,h⟩:=zac h
 rcases r2 with ⟨zaF,zav,zaD,zay,zaG,zaC,zaq,zaz,zax,zaB,zar,zaK,zaE,zaw⟩
 cases h;refine ⟨gam [0,0,(γ 2),0,0,0,0,0,0,0,0],zaj ?_⟩;rotate_left
 all_goals (dsimp only [R1,R3,zbu,zgI] at *;show Ifc.apart IF_ _ zD9 _=_;exact fin_)
def zqX (n:Node) (bit:Int):Option ((Node × (List Out) × Int)):=
 bif Ops.std.ilt bit 0 then
  (zlm n bit true).bind fun ⟨e_,b0⟩=>
  (zgP bit e_ b0).bind fun r=>match r with
   | .inl (t5,t6,b01,b1)=>
    some (b1,t5,t6)
   | .inr (t6,b01,b1,r3,r4,r5,r6,r7,r8,r9)=>
    some (b1,[],t6)
 else
  (zlm n bit (Ops.std.ilt 63 bit)).bind fun ⟨e_,b0⟩=>
  (zgP bit e_ b0).bind fun r=>match r with
   | .inl (t5,t6,b01,b1)=>
    some (b1,t5,t6)
   | .inr (t6,b01,b1,r3,r4,r5,r6,r7,r8,r9)=>
    some (b1,[],t6)
theorem zDL {n bit r} (h:zqX n bit=some r):zuS n bit=some r:=by
 unfold zqX at h
 refine zau ?_
 rcases zaa h with ⟨h1,h⟩ | ⟨h1,h⟩
 obtain ⟨r2,γ1,h2,h⟩:=zah h (gam [0,0,0])
 rcases r2 with ⟨e_,b0⟩
 obtain ⟨r3,γ2,h3,h⟩:=zah h (gam [0,0,(γ1 2)])
 rcases r3 with ⟨t5,t6,b01,b1⟩ | ⟨t6,b01,b1,r3,r4,r5,r6,r7,r8,r9⟩
 cases h;refine zab rfl ?_;rotate_left
 cases h;refine zab rfl ?_;rotate_left
 obtain ⟨r2,γ1,h2,h⟩:=zah h (gam [0,0,0])
 rcases r2 with ⟨e_,b0⟩
 obtain ⟨r3,γ2,h3,h⟩:=zah h (gam [0,0,(γ1 2)])
 rcases r3 with ⟨t5,t6,b01,b1⟩ | ⟨t6,b01,b1,r3,r4,r5,r6,r7,r8,r9⟩
 cases h;refine zab rfl ?_;rotate_left
 cases h;refine zab rfl ?_;rotate_left
 all_goals (dsimp only [R3,zgH,zgI] at *;show zas IF_ (g31F zyo zyp) _ _=_;generalize zyo=c0,zyp=c1 at *;exact fin_)
abbrev zm1:=(Int × Node × Node) ⊕ ((List Out) × Int × Node)
def zhC (n:Node) (γ:Nat → Nat):zm1 → X × St
 | .inl (a0,a1,a2)=>(.ret,⟨bd 4 (.bptr 1 0 :: .sl 3 ((γ 3)) :: vI a0 :: bd 27 []),[.box 34 (zam a1),.box 34 (zam a2),.row 56 (γ 2) false (List.map eOut []),.row 56 (γ 3) false (List.map eOut [])]⟩)
 | .inr (b0,b1,b2)=>(.ret,⟨bd 4 (.bptr 1 0 :: .lit 56 false (List.map eOut b0) :: vI b1 :: bd 27 []),[.box 34 (zam (⟨n.me,n.clock,true,n.pred,n.list,n.fingers,n.store,n.pends,n.jobs,n.results,n.rid,n.jobID,n.nextBit⟩:Node)),.box 34 (zam b2),.row 56 (γ 2) false (List.map eOut [])]⟩)
instance {n}:InjS (zhC n):=⟨fun γ γ' x y h=>by
 rcases x with ⟨a0,a1,a2⟩ | ⟨b0,b1,b2⟩ <;> rcases y with ⟨a0',a1',a2'⟩ | ⟨b0',b1',b2'⟩ <;> simp only [zhC] at h <;> exact inj_⟩
def zqI (n:Node) (bit:Int):Option (zm1):=asks (fun γ=>(lim F pr).seg [4,5,6] zyq ⟨bd 1 (vI bit :: .bptr 0 0 :: bd 1 (.bptr 1 0 :: bd 29 [])),[.box 34 (zam n),.box 34 ([vU 0,vH 0,vI 0,vF false,.lit 0 true [],.lit 0 true [],.lit 0 true [],.lit 0 true [],.lit 0 true [],.lit 0 true [],.lit 0 true [],vW 0,vI 0,vI 0]),.row 56 (γ 2) false (List.map eOut [])]⟩) (zhC n)
def zhB (n:Node) (bit:Int):Option (zm1):=
 bif n.joined then
  (zqB n.jobs 4).bind fun res=>
  bif res then
   some (.inl (17,(⟨n.me,n.clock,true,n.pred,n.list,n.fingers,n.store,n.pends,n.jobs,n.results,n.rid,n.jobID,n.nextBit⟩:Node),(⟨n.me,n.clock,true,n.pred,n.list,n.fingers,n.store,n.pends,n.jobs,n.results,n.rid,n.jobID,n.nextBit⟩:Node)))
  else
   (zsj n.me.id bit).bind fun res1=>
   (zmu (⟨n.me,n.clock,true,n.pred,n.list,n.fingers,n.store,n.pends,n.jobs,n.results,n.rid,n.jobID,n.nextBit⟩:Node) (⟨0,4,bit,⟨#[]⟩,⟨#[]⟩,res1,(⟨0,0⟩:Peer),(⟨0,0⟩:Peer),false,0,0,0⟩:Job)).bind fun ⟨r0,r1,r2⟩=>
   some (.inr (r1,r2,r0))
 else
  some (.inl (14,(⟨n.me,n.clock,false,n.pred,n.list,n.fingers,n.store,n.pends,n.jobs,n.results,n.rid,n.jobID,n.nextBit⟩:Node),(⟨n.me,n.clock,false,n.pred,n.list,n.fingers,n.store,n.pends,n.jobs,n.results,n.rid,n.jobID,n.nextBit⟩:Node)))
theorem zm2 {n bit r} (h:zhB n bit=some r):zqI n bit=some r:=by
 unfold zhB at h
 refine zao fun γ=>?_
 rcases zaa h with ⟨h1,h⟩ | ⟨h1,h⟩
 obtain ⟨res,h2,h⟩:=zac h
 rcases zaa h with ⟨h3,h⟩ | ⟨h3,h⟩
 cases h;refine ⟨gam [0,0,(γ 2),0],zaj ?_⟩;rotate_left
 obtain ⟨res1,h4,h⟩:=zac h
 obtain ⟨r5,h5,h⟩:=zac h
 rcases r5 with ⟨r0,r1,r2⟩
 cases h;refine ⟨gam [0,0,(γ 2)],zaj ?_⟩;rotate_left
 cases h;refine ⟨gam [0,0,(γ 2),0],zaj ?_⟩;rotate_left
 all_goals (dsimp only [R1,R3,zhC] at *;show Ifc.apart IF_ _ zEa _=_;(try dsimp only [zai,zat,zae,zan,zaX,eJob,zal,zaJ,eMsg,eOut,zbR,cJob,zam,cMsg,zaR,capp] at *);(try simp only [List.map_cons,List.map_nil] at *);(try generalize n.joined=q0 at *);exact fin_)
def zsD (n:Node) (bit:Int):Option ((Node × (List Out) × Int)):=
 bif Ops.std.ilt bit 0 then some (n,[],1) else
 bif Ops.std.ilt 63 bit then some (n,[],1) else
 (zqI n bit).bind fun r=>match r with
  | .inl (t6,b0,b1)=>
   some (b1,[],t6)
  | .inr (t5,t6,b1)=>
   some (b1,t5,t6)
theorem zFp {n bit r} (h:zsD n bit=some r):zwQ n bit=some r:=by
 unfold zsD at h
 refine zau ?_
 rcases zaa h with ⟨h1,h⟩ | ⟨h1,h⟩
 cases h;refine zab rfl ?_;rotate_left
 rcases zaa h with ⟨h2,h⟩ | ⟨h2,h⟩
 cases h;refine zab rfl ?_;rotate_left
 obtain ⟨r3,γ1,h3,h⟩:=zah h (gam [0,0,0])
 rcases r3 with ⟨t6,b0,b1⟩ | ⟨t5,t6,b1⟩
 cases h;refine zab rfl ?_;rotate_left
 cases h;refine zab rfl ?_;rotate_left
 all_goals (dsimp only [R3,zhC] at *;show zas IF_ (g32F zyq) _ _=_;generalize zyq=c0 at *;exact fin_)
def zgr (a:Node) (b:Node) (γ:Nat → Nat):Bool → X × St
 | a0=>(.ret,⟨bd 4 (vF a0 :: bd 79 []),[.box 34 (zam a),.box 34 (zam b)]⟩)
instance {a b}:InjS (zgr a b):=⟨fun γ γ' x y h=>by
 rcases x with a0 <;> rcases y with a0' <;> simp only [zgr] at h <;> exact inj_⟩
def zoA (a:Node) (b:Node):Option (Bool):=asks (fun γ=>(lim F pr).seg [4] zyh ⟨bd 2 (.bptr 0 0 :: .bptr 1 0 :: bd 80 []),[.box 34 (zam a),.box 34 (zam b)]⟩) (zgr a b)
def zgq (a:Node) (b:Node) (γ:Nat → Nat):Bool → X × St
 | a0=>(.ret,⟨bd 4 (vF a0 :: bd 79 []),[.box 34 (zam a),.box 34 (zam b)]⟩)
instance {a b}:InjS (zgq a b):=⟨fun γ γ' x y h=>by
 rcases x with a0 <;> rcases y with a0' <;> simp only [zgq] at h <;> exact inj_⟩
def zoz (a:Node) (b:Node):Option (Bool):=asks (fun γ=>(lim F pr).seg [4] zyg ⟨bd 2 (.bptr 0 0 :: .bptr 1 0 :: bd 80 []),[.box 34 (zam a),.box 34 (zam b)]⟩) (zgq a b)
def zlS (a:Node) (b:Node):Option (Bool):=
 (zqt a.pred b.pred).bind fun res=>
 bif res then
  (zqt a.list b.list).bind fun res1=>
  bif res1 then
   (zuy a.fingers b.fingers).bind fun res2=>
   bif res2 then zoz a b else
   some false
  else
   some false
 else
  some false
theorem zxS {a b r} (h:zlS a b=some r):zoA a b=some r:=by
 unfold zlS at h
 refine zao fun γ=>?_
 obtain ⟨res,h1,h⟩:=zac h
 rcases zaa h with ⟨h2,h⟩ | ⟨h2,h⟩
 obtain ⟨res1,h3,h⟩:=zac h
 rcases zaa h with ⟨h4,h⟩ | ⟨h4,h⟩
 obtain ⟨res2,h5,h⟩:=zac h
 rcases zaa h with ⟨h6,h⟩ | ⟨h6,h⟩
 obtain ⟨γ4,h7⟩:=zak h (gam [])
 rcases r with t4
 refine ⟨gam [],zaj ?_⟩;rotate_left
 cases h;refine ⟨gam [],zaj ?_⟩;rotate_left
 cases h;refine ⟨gam [],zaj ?_⟩;rotate_left
 cases h;refine ⟨gam [],zaj ?_⟩;rotate_left
 all_goals (dsimp only [R1,zgq,zgr] at *;show Ifc.apart IF_ _ (zDV zyg) _=_;generalize zyg=c0 at *;exact fin_)
def zlR (a:Node) (b:Node):Option (Bool):=
 (znO a.store b.store).bind fun res=>
 bif res then
  (zsy a.pends b.pends).bind fun res1=>
  bif res1 then zuz a b else
  some false
 else
  some false
theorem zxR {a b r} (h:zlR a b=some r):zoz a b=some r:=by
 unfold zlR at h
 refine zao fun γ=>?_
 obtain ⟨res,h1,h⟩:=zac h
 rcases zaa h with ⟨h2,h⟩ | ⟨h2,h⟩
 obtain ⟨res1,h3,h⟩:=zac h
 rcases zaa h with ⟨h4,h⟩ | ⟨h4,h⟩
 have h5:=ask_some h
 rcases r with res2
 refine ⟨gam [],zaj ?_⟩;rotate_left
 cases h;refine ⟨gam [],zaj ?_⟩;rotate_left
 cases h;refine ⟨gam [],zaj ?_⟩;rotate_left
 all_goals (dsimp only [R1,zgq] at *;show Ifc.apart IF_ _ zDU _=_;exact fin_)
def zqz (a:Node) (b:Node):Option (Bool):=
 bif Ops.std.ieq a.me.id b.me.id then
  bif Ops.std.ieq a.me.addr b.me.addr then
   bif Ops.std.ieq a.clock b.clock then
    bif Ops.std.beq a.joined b.joined then
     bif Ops.std.ieq a.rid b.rid then
      bif Ops.std.ieq a.jobID b.jobID then
       bif Ops.std.ieq a.nextBit b.nextBit then zoA a b else
       some false
      else
       some false
     else
      some false
    else
     some false
   else
    some false
  else
   some false
 else
  some false
theorem zDn {a b r} (h:zqz a b=some r):zjc a b=some r:=by
 unfold zqz at h
 refine zau ?_
 rcases zaa h with ⟨h1,h⟩ | ⟨h1,h⟩
 rcases zaa h with ⟨h2,h⟩ | ⟨h2,h⟩
 rcases zaa h with ⟨h3,h⟩ | ⟨h3,h⟩
 rcases zaa h with ⟨h4,h⟩ | ⟨h4,h⟩
 rcases zaa h with ⟨h5,h⟩ | ⟨h5,h⟩
 rcases zaa h with ⟨h6,h⟩ | ⟨h6,h⟩
 rcases zaa h with ⟨h7,h⟩ | ⟨h7,h⟩
 obtain ⟨γ1,h8⟩:=zak h (gam [])
 rcases r with t4
 refine zab rfl ?_;rotate_left
 cases h;refine zab rfl ?_;rotate_left
 cases h;refine zab rfl ?_;rotate_left
 cases h;refine zab rfl ?_;rotate_left
 cases h;refine zab rfl ?_;rotate_left
 cases h;refine zab rfl ?_;rotate_left
 cases h;refine zab rfl ?_;rotate_left
 cases h;refine zab rfl ?_;rotate_left
 all_goals (dsimp only [R1,zgr] at *;show zas IF_ (g17F zyh) _ _=_;generalize zyh=c0 at *;exact fin_)
def zgp (γ:Nat → Nat):Unit ⊕ Unit → X × St
 | .inl ()=>(.ret,⟨bd 4 (vF false :: bd 37 []),[]⟩)
 | .inr ()=>(.brk 0,⟨bd 42 [],[]⟩)
instance :InjS zgp:=⟨fun γ γ' x y h=>by
 rcases x with _ | _ <;> rcases y with _ | _ <;> simp only [zgp] at h <;> exact inj_⟩
def zlc (a:List Out) (b:List Out) (i:Int):Option (Unit ⊕ Unit):=asks (fun γ=>(lim F pr).loop [0,1,5] 0 ztf ⟨.lit 56 false (List.map eOut a) :: .lit 56 false (List.map eOut b) :: bd 3 (vI i :: bd 36 []),[]⟩) zgp
def ziT (a:List Out) (b:List Out) (i:Int):Option (Unit ⊕ Unit):=
 bif Ops.std.ilt i (xlen eOut a) then
  (xget eOut a i).bind fun x=>
  (xget eOut b i).bind fun x1=>
  bif Ops.std.ieq x.to_.id x1.to_.id then
   bif Ops.std.ieq x.to_.addr x1.to_.addr then
    (zuw x.msg x1.msg).bind fun res=>
    bif res then zlc a b (Ops.std.iadd .i64 i 1) else
    some (.inl ())
   else
    some (.inl ())
  else
   some (.inl ())
 else
  some (.inr ())
theorem zrk {a b i r} (h:ziT a b i=some r):zlc a b i=some r:=by
 unfold ziT at h
 refine zao fun γ=>?_
 rcases zaa h with ⟨h1,h⟩ | ⟨h1,h⟩
 obtain ⟨x,h2,h⟩:=zac h
 obtain ⟨x1,h3,h⟩:=zac h
 rcases zaa h with ⟨h4,h⟩ | ⟨h4,h⟩
 rcases zaa h with ⟨h5,h⟩ | ⟨h5,h⟩
 obtain ⟨res,h6,h⟩:=zac h
 rcases zaa h with ⟨h7,h⟩ | ⟨h7,h⟩
 replace h:=zak h (gam []);obtain ⟨γ',h0⟩:=h;refine ⟨γ',zad ?_⟩;rotate_left
 cases h;refine ⟨gam [],zad ?_⟩;rotate_left
 cases h;refine ⟨gam [],zad ?_⟩;rotate_left
 cases h;refine ⟨gam [],zad ?_⟩;rotate_left
 cases h;refine ⟨gam [],zad ?_⟩;rotate_left
 all_goals (dsimp only [R1,zgp] at *;show zaT IF_ _ _ ztf zDW _=_;generalize ztf=c0 at *;exact fin_)
def zqy (a:List Out) (b:List Out):Option (Bool):=
 bif Ops.std.ieq (xlen eOut a) (xlen eOut b) then
  (zlc a b 0).bind fun r=>match r with
   | .inl ()=>
    some false
   | .inr ()=>
    some true
 else
  some false
theorem zDm {a b r} (h:zqy a b=some r):zkL a b=some r:=by
 unfold zqy at h
 refine zau ?_
 rcases zaa h with ⟨h1,h⟩ | ⟨h1,h⟩
 obtain ⟨r2,γ1,h2,h⟩:=zah h (gam [])
 rcases r2 with _ | _
 cases h;refine zab rfl ?_;rotate_left
 cases h;refine zab rfl ?_;rotate_left
 cases h;refine zab rfl ?_;rotate_left
 all_goals (dsimp only [R1,zgp] at *;show zas IF_ (g18F ztf) _ _=_;generalize ztf=c0 at *;exact fin_)
def zgx (γ:Nat → Nat):Int ⊕ Unit → X × St
 | .inl a0=>(.ret,⟨bd 4 (vI a0 :: bd 15 []),[]⟩)
 | .inr ()=>(.brk 0,⟨bd 20 [],[]⟩)
instance :InjS zgx:=⟨fun γ γ' x y h=>by
 rcases x with a0 | _ <;> rcases y with a0' | _ <;> simp only [zgx] at h <;> exact inj_⟩
def ziz (l:List Job) (id:Int) (i:Int):Option (Int ⊕ Unit):=asks (fun γ=>(lim F pr).loop [0,1,5] 0 ztm ⟨.lit 67 false (List.map eJob l) :: vI id :: bd 3 (vI i :: bd 14 []),[]⟩) zgx
def zdu (l:List Job) (id:Int) (i:Int):Option (Int ⊕ Unit):=
 bif Ops.std.ilt i (xlen eJob l) then
  (xget eJob l i).bind fun x=>
  bif Ops.std.ieq x.id id then some (.inl i) else
  ziz l id (Ops.std.iadd .i64 i 1)
 else
  some (.inr ())
theorem zgw {l id i r} (h:zdu l id i=some r):ziz l id i=some r:=by
 unfold zdu at h
 refine zao fun γ=>?_
 rcases zaa h with ⟨h1,h⟩ | ⟨h1,h⟩
 obtain ⟨x,h2,h⟩:=zac h
 rcases zaa h with ⟨h3,h⟩ | ⟨h3,h⟩
 cases h;refine ⟨gam [],zad ?_⟩;rotate_left
 replace h:=zak h (gam []);obtain ⟨γ',h0⟩:=h;refine ⟨γ',zad ?_⟩;rotate_left
 cases h;refine ⟨gam [],zad ?_⟩;rotate_left
 all_goals (dsimp only [zgx] at *;show zaT IF_ _ _ ztm zEb _=_;generalize ztm=c0 at *;exact fin_)
def zmn (l:List Job) (id:Int):Option (Int):=
 (ziz l id 0).bind fun r=>match r with
  | .inl t4=>
   some t4
  | .inr ()=>
   some (-1)
theorem zvN {l id r} (h:zmn l id=some r):zhz l id=some r:=by
 unfold zmn at h
 refine zau ?_
 obtain ⟨r1,γ1,h1,h⟩:=zah h (gam [])
 rcases r1 with t4 | _
 cases h;refine zab rfl ?_;rotate_left
 cases h;refine zab rfl ?_;rotate_left
 all_goals (dsimp only [R1,zgx] at *;show zas IF_ (g33F ztm) _ _=_;generalize ztm=c0 at *;exact fin_)
def zl1 (n:Node) (id:Int) (why:Int):Option ((Node × (List Out))):=
 (ztN n id).bind fun ⟨r1,b0_node,b0_job,r2⟩=>
 bif r1 then
  (zkZ why b0_node b0_job r2).bind fun r=>match r with
   | .inl (b0_node1,zbm,r11)=>
    (zfH b0_node1 zbm r2).bind fun ⟨r0_0,r0_1,r0_2,r0_3,r0_4,r0_5,r0_7,r0_8,r0_9,r0_10,r0_11,r0_12,r0_13⟩=>
    some ((⟨(⟨r0_0,r0_1⟩:Peer),r0_2,r0_3,r0_4,r0_5,b0_node1.fingers,r0_7,r0_8,r0_9,r0_10,r0_11,r0_12,r0_13⟩:Node),r2)
   | .inr (b0_node1,zbm,r11,r21)=>
    (zfZ b0_node1 zbm r21).bind fun r0=>
    some (r0,r21)
 else
  (zfH b0_node b0_job r2).bind fun ⟨r0_0,r0_1,r0_2,r0_3,r0_4,r0_5,r0_7,r0_8,r0_9,r0_10,r0_11,r0_12,r0_13⟩=>
  some ((⟨(⟨r0_0,r0_1⟩:Peer),r0_2,r0_3,r0_4,r0_5,b0_node.fingers,r0_7,r0_8,r0_9,r0_10,r0_11,r0_12,r0_13⟩:Node),r2)
theorem zyb {n id why r} (h:zl1 n id why=some r):zoQ n id why=some r:=by
 unfold zl1 at h
 refine zau ?_
 obtain ⟨r1,γ1,h1,h⟩:=zah h (gam [])
 rcases r1 with ⟨r1,b0_node,b0_job,r2⟩
 rcases zaa h with ⟨h2,h⟩ | ⟨h2,h⟩
 obtain ⟨r3,γ2,h3,h⟩:=zah h (gam [0,(γ1 1),(γ1 2)])
 rcases r3 with ⟨b0_node1,zbm,r11⟩ | ⟨b0_node1,zbm,r11,r21⟩
 obtain ⟨r4,γ3,h4,h⟩:=zah h (gam [0,(γ2 3),(γ2 2)])
 rcases r4 with ⟨r0_0,r0_1,r0_2,r0_3,r0_4,r0_5,r0_7,r0_8,r0_9,r0_10,r0_11,r0_12,r0_13⟩
 cases h;refine zab rfl ?_;rotate_left
 obtain ⟨r0,γ3,h4,h⟩:=zah h (gam [0,(γ2 2)])
 cases h;refine zab rfl ?_;rotate_left
 obtain ⟨r3,γ2,h3,h⟩:=zah h (gam [0,(γ1 1),(γ1 2)])
 rcases r3 with ⟨r0_0,r0_1,r0_2,r0_3,r0_4,r0_5,r0_7,r0_8,r0_9,r0_10,r0_11,r0_12,r0_13⟩
 cases h;refine zab rfl ?_;rotate_left
 all_goals (dsimp only [R2,zjC,zcm,zcO,zdV] at *;show zas IF_ g34F _ _=_;exact fin_)
def zfC (γ:Nat → Nat):Unit ⊕ Unit → X × St
 | .inl ()=>(.ret,⟨bd 2 (vF true :: bd 26 []),[]⟩)
 | .inr ()=>(.brk 0,⟨bd 29 [],[]⟩)
instance :InjS zfC:=⟨fun γ γ' x y h=>by
 rcases x with _ | _ <;> rcases y with _ | _ <;> simp only [zfC] at h <;> exact inj_⟩
def zj7 (l:List Pair) (i:Int):Option (Unit ⊕ Unit):=asks (fun γ=>(lim F pr).loop [0,3] 0 ztg ⟨.lit 78 false (List.map zan l) :: bd 2 (vI i :: bd 25 []),[]⟩) zfC
def zfB (l:List Pair) (i:Int):Option (Unit ⊕ Unit):=
 bif Ops.std.ilt i (xlen zan l) then
  (xget zan l i).bind fun x=>
  bif Ops.std.ilt 300 (Ops.std.slen x.key) then some (.inl ()) else
  bif Ops.std.ilt 700 (Ops.std.slen x.val) then some (.inl ()) else
  zj7 l (Ops.std.iadd .i64 i 1)
 else
  some (.inr ())
theorem zkU {l i r} (h:zfB l i=some r):zj7 l i=some r:=by
 unfold zfB at h
 refine zao fun γ=>?_
 rcases zaa h with ⟨h1,h⟩ | ⟨h1,h⟩
 obtain ⟨x,h2,h⟩:=zac h
 rcases zaa h with ⟨h3,h⟩ | ⟨h3,h⟩
 cases h;refine ⟨gam [],zad ?_⟩;rotate_left
 rcases zaa h with ⟨h4,h⟩ | ⟨h4,h⟩
 cases h;refine ⟨gam [],zad ?_⟩;rotate_left
 replace h:=zak h (gam []);obtain ⟨γ',h0⟩:=h;refine ⟨γ',zad ?_⟩;rotate_left
 cases h;refine ⟨gam [],zad ?_⟩;rotate_left
 all_goals (dsimp only [zfC] at *;show zaT IF_ _ _ ztg zDX _=_;generalize ztg=c0 at *;exact fin_)
def zoP (l:List Pair):Option (Bool):=
 bif Ops.std.ilt 100 (xlen zan l) then some true else
 (zj7 l 0).bind fun r=>match r with
  | .inl ()=>
   some true
  | .inr ()=>
   some false
theorem zBd {l r} (h:zoP l=some r):zsZ l=some r:=by
 unfold zoP at h
 refine zau ?_
 rcases zaa h with ⟨h1,h⟩ | ⟨h1,h⟩
 cases h;refine zab rfl ?_;rotate_left
 obtain ⟨r2,γ1,h2,h⟩:=zah h (gam [])
 rcases r2 with _ | _
 cases h;refine zab rfl ?_;rotate_left
 cases h;refine zab rfl ?_;rotate_left
 all_goals (dsimp only [R1,zfC] at *;show zas IF_ (g19F ztg) _ _=_;generalize ztg=c0 at *;exact fin_)
def zfc (γ:Nat → Nat):Unit ⊕ Unit → X × St
 | .inl ()=>(.ret,⟨bd 2 (vF false :: bd 16 []),[]⟩)
 | .inr ()=>(.brk 0,⟨bd 19 [],[]⟩)
instance :InjS zfc:=⟨fun γ γ' x y h=>by
 rcases x with _ | _ <;> rcases y with _ | _ <;> simp only [zfc] at h <;> exact inj_⟩
def zhm (l:List ByteArray) (i:Int):Option (Unit ⊕ Unit):=asks (fun γ=>(lim F pr).loop [3,4] 0 ztx ⟨bd 3 (.lit 9 false (List.map vT l) :: vI i :: bd 14 []),[]⟩) zfc
def zfb (l:List ByteArray) (i:Int):Option (Unit ⊕ Unit):=
 bif Ops.std.ilt i (xlen vT l) then
  (xget vT l i).bind fun x=>
  (zhn x 0).bind fun res=>
  bif Ops.std.ieq res 0 then some (.inl ()) else
  zhm l (Ops.std.iadd .i64 i 1)
 else
  some (.inr ())
theorem zkD {l i r} (h:zfb l i=some r):zhm l i=some r:=by
 unfold zfb at h
 refine zao fun γ=>?_
 rcases zaa h with ⟨h1,h⟩ | ⟨h1,h⟩
 obtain ⟨x,h2,h⟩:=zac h
 obtain ⟨res,h3,h⟩:=zac h
 rcases zaa h with ⟨h4,h⟩ | ⟨h4,h⟩
 cases h;refine ⟨gam [],zad ?_⟩;rotate_left
 replace h:=zak h (gam []);obtain ⟨γ',h0⟩:=h;refine ⟨γ',zad ?_⟩;rotate_left
 cases h;refine ⟨gam [],zad ?_⟩;rotate_left
 all_goals (dsimp only [R1,zfc] at *;show zaT IF_ _ _ ztx zEq _=_;generalize ztx=c0 at *;exact fin_)
def zop (s:ByteArray):Option (Bool):=
 (znM s).bind fun res=>
 (zhm res 0).bind fun r=>match r with
  | .inl ()=>
   some false
  | .inr ()=>
   some true
theorem zAI {s r} (h:zop s=some r):zsm s=some r:=by
 unfold zop at h
 refine zau ?_
 obtain ⟨res,h1,h⟩:=zac h
 obtain ⟨r2,γ2,h2,h⟩:=zah h (gam [])
 rcases r2 with _ | _
 cases h;refine zab rfl ?_;rotate_left
 cases h;refine zab rfl ?_;rotate_left
 all_goals (dsimp only [R1,zfc] at *;show zas IF_ (g85F ztx) _ _=_;generalize ztx=c0 at *;exact fin_)
def zfa (γ:Nat → Nat):(List ByteArray) → X × St
 | a0=>(.brk 0,⟨bd 3 (.sl 1 ((γ 1)) :: bd 24 []),[.row 9 (γ 0) false (List.map vT []),.row 9 (γ 1) false (List.map vT a0)]⟩)
instance :InjS zfa:=⟨fun γ γ' x y h=>by
 rcases x with a0 <;> rcases y with a0' <;> simp only [zfa] at h <;> exact inj_⟩
def ze9 (s:ByteArray) (at_:Int) (r1:List ByteArray):Option ((List ByteArray)):=asks (fun γ=>(lim F pr).loop [0,4,3] 2 zty ⟨vT s :: bd 2 (.sl 1 ((γ 1)) :: vI at_ :: bd 23 []),[.row 9 (γ 0) false (List.map vT []),.row 9 (γ 1) false (List.map vT r1)]⟩) zfa
def zh4 (s:ByteArray) (at_:Int) (r1:List ByteArray):Option ((List ByteArray)):=
 bif Ops.std.ilt at_ (Ops.std.slen s) then
  (zhn s at_).bind fun res=>
  bif Ops.std.ieq res 0 then
   (ztP s at_ (Ops.std.iadd .i64 at_ 1)).bind fun z=>
   bif zaV vT 16 r1 [z] then ze9 s (Ops.std.iadd .i64 at_ 1) (r1 ++ [z]) else
   none
  else
   (ztP s at_ (Ops.std.iadd .i64 at_ res)).bind fun z=>
   bif zaV vT 16 r1 [z] then ze9 s (Ops.std.iadd .i64 at_ res) (r1 ++ [z]) else
   none
 else
  some r1
theorem zpo {s at_ r1 r} (h:zh4 s at_ r1=some r):ze9 s at_ r1=some r:=by
 unfold zh4 at h
 refine zao fun γ=>?_
 rcases zaa h with ⟨h1,h⟩ | ⟨h1,h⟩
 obtain ⟨res,h2,h⟩:=zac h
 rcases zaa h with ⟨h3,h⟩ | ⟨h3,h⟩
 obtain ⟨z,h4,h⟩:=bind_some h
 obtain ⟨h5,h⟩:=zaH h
 replace h:=zak h (gam [(γ 0),((γ 1) + 1)]);obtain ⟨γ',h0⟩:=h;refine ⟨γ',zad ?_⟩;rotate_left
 obtain ⟨z,h4,h⟩:=bind_some h
 obtain ⟨h5,h⟩:=zaH h
 replace h:=zak h (gam [(γ 0),((γ 1) + 1)]);obtain ⟨γ',h0⟩:=h;refine ⟨γ',zad ?_⟩;rotate_left
 cases h;refine ⟨gam [(γ 0),(γ 1)],zad ?_⟩;rotate_left
 all_goals (dsimp only [R1,zfa] at *;show zaT IF_ _ _ zty zEr _=_;generalize zty=c0 at *;exact fin_)
def zoo (s:ByteArray):Option ((List ByteArray)):=
 ze9 s 0 []
theorem zAH {s r} (h:zoo s=some r):znM s=some r:=by
 unfold zoo at h
 refine zau ?_
 obtain ⟨γ1,h1⟩:=zak h (gam [0,0])
 rcases r with r1
 refine zab rfl ?_;rotate_left
 all_goals (dsimp only [R1,zfa] at *;show zas IF_ (g86F zty) _ _=_;generalize zty=c0 at *;exact fin_)
def zsd (s:ByteArray):Option (Bool):=
 bif Ops.std.seq s ⟨#[]⟩ then some false else
 bif Ops.std.ile (Ops.std.slen s) 96 then
  (zsW s).bind fun res=>
  bif res then
   (zsV s).bind fun res1=>
   some (Ops.std.ile res1 32)
  else
   some false
 else
  some false
theorem zE3 {s r} (h:zsd s=some r):ztK s=some r:=by
 unfold zsd at h
 refine zau ?_
 rcases zaa h with ⟨h1,h⟩ | ⟨h1,h⟩
 cases h;refine zab rfl ?_;rotate_left
 rcases zaa h with ⟨h2,h⟩ | ⟨h2,h⟩
 obtain ⟨res,h3,h⟩:=zac h
 rcases zaa h with ⟨h4,h⟩ | ⟨h4,h⟩
 obtain ⟨res1,h5,h⟩:=zac h
 cases h;refine zab rfl ?_;rotate_left
 cases h;refine zab rfl ?_;rotate_left
 cases h;refine zab rfl ?_;rotate_left
 all_goals (dsimp only [R1] at *;show zas IF_ g24F _ _=_;exact fin_)
def zmM (s:ByteArray):Option (Int):=
 (zur s).bind fun res=>
 zuq res
theorem zzc {s r} (h:zmM s=some r):zmf s=some r:=by
 unfold zmM at h
 refine zau ?_
 obtain ⟨res,h1,h⟩:=zac h
 have h2:=ask_some h
 rcases r with res1
 refine zab rfl ?_;rotate_left
 all_goals (dsimp only [R1] at *;show zas IF_ g88F _ _=_;exact fin_)
def zqY (n:Node) (j:Job):Option ((Node × (List Out) × Int)):=
 (zus n j).bind fun ⟨r0,r1,r2⟩=>
 bif Ops.std.ieq r2 0 then
  (zs5 r0 r1).bind fun ⟨r01,r11⟩=>
  some (r01,r11,0)
 else
  some (r0,[],r2)
theorem zDM {n j r} (h:zqY n j=some r):zhP n j=some r:=by
 unfold zqY at h
 refine zau ?_
 obtain ⟨r1,h1,h⟩:=zac h
 rcases r1 with ⟨r0,r1,r2⟩
 rcases zaa h with ⟨h2,h⟩ | ⟨h2,h⟩
 obtain ⟨r3,h3,h⟩:=zac h
 rcases r3 with ⟨r01,r11⟩
 cases h;refine zab rfl ?_;rotate_left
 cases h;refine zab rfl ?_;rotate_left
 all_goals (dsimp only [R2,R3] at *;show zas IF_ g87F _ _=_;exact fin_)
def zos (s:ByteArray):Option (Int):=
 (zwI s).bind fun res=>
 zwH res
theorem zAK {s r} (h:zos s=some r):zso s=some r:=by
 unfold zos at h
 refine zau ?_
 obtain ⟨res,h1,h⟩:=zac h
 have h2:=ask_some h
 rcases r with res1
 refine zab rfl ?_;rotate_left
 all_goals (dsimp only [R1] at *;show zas IF_ g90F _ _=_;exact fin_)
def zsG (n:Node) (j:Job):Option ((Node × (List Out) × Int)):=
 (zwO n j).bind fun ⟨r0,r1,r2⟩=>
 bif Ops.std.ieq r2 0 then
  (zuF r0 r1).bind fun ⟨r01,r11⟩=>
  some (r01,r11,0)
 else
  some (n,[],r2)
theorem zFr {n j r} (h:zsG n j=some r):zmu n j=some r:=by
 unfold zsG at h
 refine zau ?_
 obtain ⟨r1,h1,h⟩:=zac h
 rcases r1 with ⟨r0,r1,r2⟩
 rcases zaa h with ⟨h2,h⟩ | ⟨h2,h⟩
 obtain ⟨r3,h3,h⟩:=zac h
 rcases r3 with ⟨r01,r11⟩
 cases h;refine zab rfl ?_;rotate_left
 cases h;refine zab rfl ?_;rotate_left
 all_goals (dsimp only [R2,R3] at *;show zas IF_ g89F _ _=_;exact fin_)
def zod (l:List Job) (kind:Int):Option (Bool):=
 zmx l kind
theorem zAz {l kind r} (h:zod l kind=some r):znH l kind=some r:=by
 unfold zod at h
 refine zau ?_
 have h1:=ask_some h
 rcases r with res
 refine zab rfl ?_;rotate_left
 all_goals (dsimp only [zcY,R1] at *;show zas IF_ g91F _ _=_;exact fin_)
def zgv (γ:Nat → Nat):Unit ⊕ Unit → X × St
 | .inl ()=>(.ret,⟨bd 4 (vF true :: bd 14 []),[]⟩)
 | .inr ()=>(.brk 0,⟨bd 19 [],[]⟩)
instance :InjS zgv:=⟨fun γ γ' x y h=>by
 rcases x with _ | _ <;> rcases y with _ | _ <;> simp only [zgv] at h <;> exact inj_⟩
def zlf (l:List Job) (kind:Int) (i:Int):Option (Unit ⊕ Unit):=asks (fun γ=>(lim F pr).loop [0,1,5] 0 ztz ⟨.lit 67 false (List.map eJob l) :: vI kind :: bd 3 (vI i :: bd 13 []),[]⟩) zgv
def ziW (l:List Job) (kind:Int) (i:Int):Option (Unit ⊕ Unit):=
 bif Ops.std.ilt i (xlen eJob l) then
  (xget eJob l i).bind fun x=>
  bif Ops.std.ieq x.kind kind then some (.inl ()) else
  zlf l kind (Ops.std.iadd .i64 i 1)
 else
  some (.inr ())
theorem zro {l kind i r} (h:ziW l kind i=some r):zlf l kind i=some r:=by
 unfold ziW at h
 refine zao fun γ=>?_
 rcases zaa h with ⟨h1,h⟩ | ⟨h1,h⟩
 obtain ⟨x,h2,h⟩:=zac h
 rcases zaa h with ⟨h3,h⟩ | ⟨h3,h⟩
 cases h;refine ⟨gam [],zad ?_⟩;rotate_left
 replace h:=zak h (gam []);obtain ⟨γ',h0⟩:=h;refine ⟨γ',zad ?_⟩;rotate_left
 cases h;refine ⟨gam [],zad ?_⟩;rotate_left
 all_goals (dsimp only [zgv] at *;show zaT IF_ _ _ ztz zEt _=_;generalize ztz=c0 at *;exact fin_)
def zqC (l:List Job) (kind:Int):Option (Bool):=
 (zlf l kind 0).bind fun r=>match r with
  | .inl ()=>
   some true
  | .inr ()=>
   some false
theorem zDq {l kind r} (h:zqC l kind=some r):zqB l kind=some r:=by
 unfold zqC at h
 refine zau ?_
 obtain ⟨r1,γ1,h1,h⟩:=zah h (gam [])
 rcases r1 with _ | _
 cases h;refine zab rfl ?_;rotate_left
 cases h;refine zab rfl ?_;rotate_left
 all_goals (dsimp only [R1,zgv] at *;show zas IF_ (g92F ztz) _ _=_;generalize ztz=c0 at *;exact fin_)
def zm4 (id:Int) (bit:Int):Option (Int):=
 bif Ops.std.ilt bit 0 then some id else
 bif Ops.std.ile 64 bit then some id else
 some (Ops.std.iadd .u64 id (Ops.std.ishl .u64 1 bit))
theorem zzN {id bit r} (h:zm4 id bit=some r):zqP id bit=some r:=by
 unfold zm4 at h
 refine zau ?_
 rcases zaa h with ⟨h1,h⟩ | ⟨h1,h⟩
 cases h;refine zab rfl ?_;rotate_left
 rcases zaa h with ⟨h2,h⟩ | ⟨h2,h⟩
 cases h;refine zab rfl ?_;rotate_left
 cases h;refine zab rfl ?_;rotate_left
 all_goals (dsimp only [R1] at *;show zas IF_ g93F _ _=_;exact fin_)
def ze8 (γ:Nat → Nat):Int → X × St
 | a0=>(.ret,⟨bd 4 (vU a0 :: bd 29 []),[]⟩)
instance :InjS ze8:=⟨fun γ γ' x y h=>by
 rcases x with a0 <;> rcases y with a0' <;> simp only [ze8] at h <;> exact inj_⟩
def zsk (id:Int) (bit:Int):Option (Int):=asks (fun γ=>(lim F pr).seg [4] zyv ⟨vU id :: vI bit :: bd 32 [],[]⟩) ze8
def ze7 (id:Int) (γ:Nat → Nat):Int → X × St
 | a0=>(.brk 0,⟨vU id :: bd 4 (vU a0 :: bd 28 []),[]⟩)
instance {id}:InjS (ze7 id):=⟨fun γ γ' x y h=>by
 rcases x with a0 <;> rcases y with a0' <;> simp only [ze7] at h <;> exact inj_⟩
def zjL (id:Int) (bit:Int) (far:Int) (i:Int):Option (Int):=asks (fun γ=>(lim F pr).loop [1,6,0,5] 0 ztA ⟨vU id :: vI bit :: bd 3 (vU far :: vI i :: bd 27 []),[]⟩) (ze7 id)
def zkC (id:Int) (bit:Int):Option (Int):=
 (zjL id bit 1 0).bind fun far=>
 bif Ops.std.ilt (Ops.std.isub .u64 18446744073709551615 id) far then
  some (Ops.std.isub .u64 (Ops.std.isub .u64 far (Ops.std.isub .u64 18446744073709551615 id)) 1)
 else
  some (Ops.std.iadd .u64 id far)
theorem zwE {id bit r} (h:zkC id bit=some r):zsk id bit=some r:=by
 unfold zkC at h
 refine zao fun γ=>?_
 obtain ⟨far,γ1,h1,h⟩:=zah h (gam [])
 rcases zaa h with ⟨h2,h⟩ | ⟨h2,h⟩
 cases h;refine ⟨gam [],zaj ?_⟩;rotate_left
 cases h;refine ⟨gam [],zaj ?_⟩;rotate_left
 all_goals (dsimp only [ze7,ze8] at *;show Ifc.apart IF_ _ (zEv ztA) _=_;generalize ztA=c0 at *;exact fin_)
def zh3 (id:Int) (bit:Int) (far:Int) (i:Int):Option (Int):=
 bif Ops.std.ilt i bit then zjL id bit (Ops.std.iadd .u64 far far) (Ops.std.iadd .i64 i 1) else
 some far
theorem zpn {id bit far i r} (h:zh3 id bit far i=some r):zjL id bit far i=some r:=by
 unfold zh3 at h
 refine zao fun γ=>?_
 rcases zaa h with ⟨h1,h⟩ | ⟨h1,h⟩
 replace h:=zak h (gam []);obtain ⟨γ',h0⟩:=h;refine ⟨γ',zad ?_⟩;rotate_left
 cases h;refine ⟨gam [],zad ?_⟩;rotate_left
 all_goals (dsimp only [ze7] at *;show zaT IF_ _ _ ztA zEu _=_;generalize ztA=c0 at *;exact fin_)
def zom (id:Int) (bit:Int):Option (Int):=
 bif Ops.std.ilt bit 0 then some id else
 bif Ops.std.ilt 63 bit then some id else
 zsk id bit
theorem zAG {id bit r} (h:zom id bit=some r):zsj id bit=some r:=by
 unfold zom at h
 refine zau ?_
 rcases zaa h with ⟨h1,h⟩ | ⟨h1,h⟩
 cases h;refine zab rfl ?_;rotate_left
 rcases zaa h with ⟨h2,h⟩ | ⟨h2,h⟩
 cases h;refine zab rfl ?_;rotate_left
 obtain ⟨γ1,h3⟩:=zak h (gam [])
 rcases r with t4
 refine zab rfl ?_;rotate_left
 all_goals (dsimp only [R1,ze8] at *;show zas IF_ (g94F zyv) _ _=_;generalize zyv=c0 at *;exact fin_)
def zgj (γ:Nat → Nat):Unit ⊕ Unit → X × St
 | .inl ()=>(.ret,⟨bd 4 (vF false :: bd 21 []),[]⟩)
 | .inr ()=>(.brk 0,⟨bd 26 [],[]⟩)
instance :InjS zgj:=⟨fun γ γ' x y h=>by
 rcases x with _ | _ <;> rcases y with _ | _ <;> simp only [zgj] at h <;> exact inj_⟩
def zk9 (a:List Entry) (b:List Entry) (i:Int):Option (Unit ⊕ Unit):=asks (fun γ=>(lim F pr).loop [0,1,5] 0 ztn ⟨.lit 81 false (List.map zat a) :: .lit 81 false (List.map zat b) :: bd 3 (vI i :: bd 20 []),[]⟩) zgj
def zgi (a:List Entry) (b:List Entry) (i:Int):Option (Unit ⊕ Unit):=
 bif Ops.std.ilt i (xlen zat a) then
  (xget zat a i).bind fun x=>
  (xget zat b i).bind fun x1=>
  bif Ops.std.ieq x.peer.id x1.peer.id then
   bif Ops.std.ieq x.peer.addr x1.peer.addr then
    bif Ops.std.ieq x.misses x1.misses then zk9 a b (Ops.std.iadd .i64 i 1) else
    some (.inl ())
   else
    some (.inl ())
  else
   some (.inl ())
 else
  some (.inr ())
theorem zlM {a b i r} (h:zgi a b i=some r):zk9 a b i=some r:=by
 unfold zgi at h
 refine zao fun γ=>?_
 rcases zaa h with ⟨h1,h⟩ | ⟨h1,h⟩
 obtain ⟨x,h2,h⟩:=zac h
 obtain ⟨x1,h3,h⟩:=zac h
 rcases zaa h with ⟨h4,h⟩ | ⟨h4,h⟩
 rcases zaa h with ⟨h5,h⟩ | ⟨h5,h⟩
 rcases zaa h with ⟨h6,h⟩ | ⟨h6,h⟩
 replace h:=zak h (gam []);obtain ⟨γ',h0⟩:=h;refine ⟨γ',zad ?_⟩;rotate_left
 cases h;refine ⟨gam [],zad ?_⟩;rotate_left
 cases h;refine ⟨gam [],zad ?_⟩;rotate_left
 cases h;refine ⟨gam [],zad ?_⟩;rotate_left
 cases h;refine ⟨gam [],zad ?_⟩;rotate_left
 all_goals (dsimp only [zgj] at *;show zaT IF_ _ _ ztn zEe _=_;generalize ztn=c0 at *;exact fin_)
def zqu (a:List Entry) (b:List Entry):Option (Bool):=
 bif Ops.std.ieq (xlen zat a) (xlen zat b) then
  (zk9 a b 0).bind fun r=>match r with
   | .inl ()=>
    some false
   | .inr ()=>
    some true
 else
  some false
theorem zDf {a b r} (h:zqu a b=some r):zqt a b=some r:=by
 unfold zqu at h
 refine zau ?_
 rcases zaa h with ⟨h1,h⟩ | ⟨h1,h⟩
 obtain ⟨r2,γ1,h2,h⟩:=zah h (gam [])
 rcases r2 with _ | _
 cases h;refine zab rfl ?_;rotate_left
 cases h;refine zab rfl ?_;rotate_left
 cases h;refine zab rfl ?_;rotate_left
 all_goals (dsimp only [R1,zgj] at *;show zas IF_ (g69F ztn) _ _=_;generalize ztn=c0 at *;exact fin_)
def zgo (γ:Nat → Nat):Unit ⊕ Unit → X × St
 | .inl ()=>(.ret,⟨bd 4 (vF false :: bd 21 []),[]⟩)
 | .inr ()=>(.brk 0,⟨bd 26 [],[]⟩)
instance :InjS zgo:=⟨fun γ γ' x y h=>by
 rcases x with _ | _ <;> rcases y with _ | _ <;> simp only [zgo] at h <;> exact inj_⟩
def zlb (a:List Finger) (b:List Finger) (i:Int):Option (Unit ⊕ Unit):=asks (fun γ=>(lim F pr).loop [0,1,5] 0 zto ⟨.lit 84 false (List.map zae a) :: .lit 84 false (List.map zae b) :: bd 3 (vI i :: bd 20 []),[]⟩) zgo
def ziS (a:List Finger) (b:List Finger) (i:Int):Option (Unit ⊕ Unit):=
 bif Ops.std.ilt i (xlen zae a) then
  (xget zae a i).bind fun x=>
  (xget zae b i).bind fun x1=>
  bif Ops.std.ieq x.bit x1.bit then
   bif Ops.std.ieq x.peer.id x1.peer.id then
    bif Ops.std.ieq x.peer.addr x1.peer.addr then zlb a b (Ops.std.iadd .i64 i 1) else
    some (.inl ())
   else
    some (.inl ())
  else
   some (.inl ())
 else
  some (.inr ())
theorem zrj {a b i r} (h:ziS a b i=some r):zlb a b i=some r:=by
 unfold ziS at h
 refine zao fun γ=>?_
 rcases zaa h with ⟨h1,h⟩ | ⟨h1,h⟩
 obtain ⟨x,h2,h⟩:=zac h
 obtain ⟨x1,h3,h⟩:=zac h
 rcases zaa h with ⟨h4,h⟩ | ⟨h4,h⟩
 rcases zaa h with ⟨h5,h⟩ | ⟨h5,h⟩
 rcases zaa h with ⟨h6,h⟩ | ⟨h6,h⟩
 replace h:=zak h (gam []);obtain ⟨γ',h0⟩:=h;refine ⟨γ',zad ?_⟩;rotate_left
 cases h;refine ⟨gam [],zad ?_⟩;rotate_left
 cases h;refine ⟨gam [],zad ?_⟩;rotate_left
 cases h;refine ⟨gam [],zad ?_⟩;rotate_left
 cases h;refine ⟨gam [],zad ?_⟩;rotate_left
 all_goals (dsimp only [zgo] at *;show zaT IF_ _ _ zto zEf _=_;generalize zto=c0 at *;exact fin_)
def zqw (a:List Finger) (b:List Finger):Option (Bool):=
 bif Ops.std.ieq (xlen zae a) (xlen zae b) then
  (zlb a b 0).bind fun r=>match r with
   | .inl ()=>
    some false
   | .inr ()=>
    some true
 else
  some false
theorem zDi {a b r} (h:zqw a b=some r):zuy a b=some r:=by
 unfold zqw at h
 refine zau ?_
 rcases zaa h with ⟨h1,h⟩ | ⟨h1,h⟩
 obtain ⟨r2,γ1,h2,h⟩:=zah h (gam [])
 rcases r2 with _ | _
 cases h;refine zab rfl ?_;rotate_left
 cases h;refine zab rfl ?_;rotate_left
 cases h;refine zab rfl ?_;rotate_left
 all_goals (dsimp only [R1,zgo] at *;show zas IF_ (g70F zto) _ _=_;generalize zto=c0 at *;exact fin_)
def zfj (γ:Nat → Nat):Unit ⊕ Unit → X × St
 | .inl ()=>(.ret,⟨bd 4 (vF false :: bd 21 []),[]⟩)
 | .inr ()=>(.brk 0,⟨bd 26 [],[]⟩)
instance :InjS zfj:=⟨fun γ γ' x y h=>by
 rcases x with _ | _ <;> rcases y with _ | _ <;> simp only [zfj] at h <;> exact inj_⟩
def zjN (a:List Pair) (b:List Pair) (i:Int):Option (Unit ⊕ Unit):=asks (fun γ=>(lim F pr).loop [0,1,5] 0 ztp ⟨.lit 78 false (List.map zan a) :: .lit 78 false (List.map zan b) :: bd 3 (vI i :: bd 20 []),[]⟩) zfj
def zfi (a:List Pair) (b:List Pair) (i:Int):Option (Unit ⊕ Unit):=
 bif Ops.std.ilt i (xlen zan a) then
  (xget zan a i).bind fun x=>
  (xget zan b i).bind fun x1=>
  bif Ops.std.seq x.key x1.key then
   bif Ops.std.seq x.val x1.val then zjN a b (Ops.std.iadd .i64 i 1) else
   some (.inl ())
  else
   some (.inl ())
 else
  some (.inr ())
theorem zkJ {a b i r} (h:zfi a b i=some r):zjN a b i=some r:=by
 unfold zfi at h
 refine zao fun γ=>?_
 rcases zaa h with ⟨h1,h⟩ | ⟨h1,h⟩
 obtain ⟨x,h2,h⟩:=zac h
 obtain ⟨x1,h3,h⟩:=zac h
 rcases zaa h with ⟨h4,h⟩ | ⟨h4,h⟩
 rcases zaa h with ⟨h5,h⟩ | ⟨h5,h⟩
 replace h:=zak h (gam []);obtain ⟨γ',h0⟩:=h;refine ⟨γ',zad ?_⟩;rotate_left
 cases h;refine ⟨gam [],zad ?_⟩;rotate_left
 cases h;refine ⟨gam [],zad ?_⟩;rotate_left
 cases h;refine ⟨gam [],zad ?_⟩;rotate_left
 all_goals (dsimp only [zfj] at *;show zaT IF_ _ _ ztp zEg _=_;generalize ztp=c0 at *;exact fin_)
def zou (a:List Pair) (b:List Pair):Option (Bool):=
 bif Ops.std.ieq (xlen zan a) (xlen zan b) then
  (zjN a b 0).bind fun r=>match r with
   | .inl ()=>
    some false
   | .inr ()=>
    some true
 else
  some false
theorem zAL {a b r} (h:zou a b=some r):znO a b=some r:=by
 unfold zou at h
 refine zau ?_
 rcases zaa h with ⟨h1,h⟩ | ⟨h1,h⟩
 obtain ⟨r2,γ1,h2,h⟩:=zah h (gam [])
 rcases r2 with _ | _
 cases h;refine zab rfl ?_;rotate_left
 cases h;refine zab rfl ?_;rotate_left
 cases h;refine zab rfl ?_;rotate_left
 all_goals (dsimp only [R1,zfj] at *;show zas IF_ (g71F ztp) _ _=_;generalize ztp=c0 at *;exact fin_)
def zfp (γ:Nat → Nat):Unit ⊕ Unit → X × St
 | .inl ()=>(.ret,⟨bd 4 (vF false :: bd 21 []),[]⟩)
 | .inr ()=>(.brk 0,⟨bd 26 [],[]⟩)
instance :InjS zfp:=⟨fun γ γ' x y h=>by
 rcases x with _ | _ <;> rcases y with _ | _ <;> simp only [zfp] at h <;> exact inj_⟩
def zjT (a:List Pend) (b:List Pend) (i:Int):Option (Unit ⊕ Unit):=asks (fun γ=>(lim F pr).loop [0,1,5] 0 ztq ⟨.lit 88 false (List.map zaX a) :: .lit 88 false (List.map zaX b) :: bd 3 (vI i :: bd 20 []),[]⟩) zfp
def zh7 (a:List Pend) (b:List Pend) (i:Int):Option (Unit ⊕ Unit):=
 bif Ops.std.ilt i (xlen zaX a) then
  (xget zaX a i).bind fun x=>
  (xget zaX b i).bind fun x1=>
  bif Ops.std.ieq x.rid x1.rid then
   bif Ops.std.ieq x.kind x1.kind then
    bif Ops.std.ieq x.why x1.why then
     bif Ops.std.ieq x.job x1.job then
      bif Ops.std.ieq x.to_.id x1.to_.id then
       bif Ops.std.ieq x.to_.addr x1.to_.addr then
        bif Ops.std.ieq x.due x1.due then zjT a b (Ops.std.iadd .i64 i 1) else
        some (.inl ())
       else
        some (.inl ())
      else
       some (.inl ())
     else
      some (.inl ())
    else
     some (.inl ())
   else
    some (.inl ())
  else
   some (.inl ())
 else
  some (.inr ())
theorem zps {a b i r} (h:zh7 a b i=some r):zjT a b i=some r:=by
 unfold zh7 at h
 refine zao fun γ=>?_
 rcases zaa h with ⟨h1,h⟩ | ⟨h1,h⟩
 obtain ⟨x,h2,h⟩:=zac h
 obtain ⟨x1,h3,h⟩:=zac h
 rcases zaa h with ⟨h4,h⟩ | ⟨h4,h⟩
 rcases zaa h with ⟨h5,h⟩ | ⟨h5,h⟩
 rcases zaa h with ⟨h6,h⟩ | ⟨h6,h⟩
 rcases zaa h with ⟨h7,h⟩ | ⟨h7,h⟩
 rcases zaa h with ⟨h8,h⟩ | ⟨h8,h⟩
 rcases zaa h with ⟨h9,h⟩ | ⟨h9,h⟩
 rcases zaa h with ⟨h10,h⟩ | ⟨h10,h⟩
 replace h:=zak h (gam []);obtain ⟨γ',h0⟩:=h;refine ⟨γ',zad ?_⟩;rotate_left
 cases h;refine ⟨gam [],zad ?_⟩;rotate_left
 cases h;refine ⟨gam [],zad ?_⟩;rotate_left
 cases h;refine ⟨gam [],zad ?_⟩;rotate_left
 cases h;refine ⟨gam [],zad ?_⟩;rotate_left
 cases h;refine ⟨gam [],zad ?_⟩;rotate_left
 cases h;refine ⟨gam [],zad ?_⟩;rotate_left
 cases h;refine ⟨gam [],zad ?_⟩;rotate_left
 cases h;refine ⟨gam [],zad ?_⟩;rotate_left
 all_goals (dsimp only [zfp] at *;show zaT IF_ _ _ ztq zEh _=_;generalize ztq=c0 at *;exact fin_)
def zoy (a:List Pend) (b:List Pend):Option (Bool):=
 bif Ops.std.ieq (xlen zaX a) (xlen zaX b) then
  (zjT a b 0).bind fun r=>match r with
   | .inl ()=>
    some false
   | .inr ()=>
    some true
 else
  some false
theorem zAR {a b r} (h:zoy a b=some r):zsy a b=some r:=by
 unfold zoy at h
 refine zau ?_
 rcases zaa h with ⟨h1,h⟩ | ⟨h1,h⟩
 obtain ⟨r2,γ1,h2,h⟩:=zah h (gam [])
 rcases r2 with _ | _
 cases h;refine zab rfl ?_;rotate_left
 cases h;refine zab rfl ?_;rotate_left
 cases h;refine zab rfl ?_;rotate_left
 all_goals (dsimp only [R1,zfp] at *;show zas IF_ (g72F ztq) _ _=_;generalize ztq=c0 at *;exact fin_)
end Go.Ab.Tryz
