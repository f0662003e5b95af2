/- Our texts for this statement, merged: what its theorem leads to. -/
import Derived.Test.YtjmmobicnfojeaaGreatDoorQWg10
set_option linter.unusedVariables false
set_option linter.unusedSimpArgs false
noncomputable section
namespace Go.Ab.Tryz
open Go Go.Ab Go.Proofs
set_option maxRecDepth 10000
set_option maxHeartbeats 4000000
abbrev zgu:=((List Out) × Node × Node × Job × (List Finger) × (List Out)) ⊕ (((List Out) × Node × Node × Job × (List Finger) × (List Out)) ⊕ ((List Out) × Node × Node × Job × (List Out)))
def zgw (n:Node) (id:Int) (m:Msg) (γ:Nat → Nat):zgu → X × St
 | .inl (a0,a1,a2,a3,a4,a5)=>(.ret,⟨bd 6 (.bptr 2 0 :: .lit 56 false (List.map eOut a0) :: bd 80 []),[.box 34 (zao n),.box 37 [vI m.kind,vW m.rid,vB m.code,vF m.has,vU m.id,vT m.key,vT m.val,vU m.peer.id,vH m.peer.addr,.lit 25 false (List.map zah m.peers),.lit 78 false (List.map zan m.pairs)],.box 34 (zao a1),.row 56 (γ 3) false (List.map eOut []),.box 135 (capp (zaw a2 (.sl 7 ((γ 7)))) (capp (cJob a3) ([.sl 6 ((γ 6))]))),.row 84 (γ 5) true (List.map zae a4),.row 56 (γ 6) true (List.map eOut a5),.row 84 (γ 7) true (List.map zae a2.fingers)]⟩)
 | .inr (.inl (b0,b1,b2,b3,b4,b5))=>(.ret,⟨bd 6 (.bptr 2 0 :: .lit 56 false (List.map eOut b0) :: bd 80 []),[.box 34 (zao n),.box 37 [vI m.kind,vW m.rid,vB m.code,vF m.has,vU m.id,vT m.key,vT m.val,vU m.peer.id,vH m.peer.addr,.lit 25 false (List.map zah m.peers),.lit 78 false (List.map zan m.pairs)],.box 34 (zao b1),.row 56 (γ 3) false (List.map eOut []),.box 135 (capp (zao b2) (capp (cJob b3) ([.sl 6 ((γ 6))]))),.row 84 (γ 5) true (List.map zae b4),.row 56 (γ 6) true (List.map eOut b5)]⟩)
 | .inr (.inr (c0,c1,c2,c3,c4))=>(.ret,⟨bd 6 (.bptr 2 0 :: .lit 56 false (List.map eOut c0) :: bd 80 []),[.box 34 (zao n),.box 37 [vI m.kind,vW m.rid,vB m.code,vF m.has,vU m.id,vT m.key,vT m.val,vU m.peer.id,vH m.peer.addr,.lit 25 false (List.map zah m.peers),.lit 78 false (List.map zan m.pairs)],.box 34 (zao c1),.row 56 (γ 3) false (List.map eOut []),.box 135 (capp (zaw c2 (.sl 5 ((γ 5)))) (capp (cJob c3) ([.sl 6 ((γ 6))]))),.row 84 (γ 5) true (List.map zae c2.fingers),.row 56 (γ 6) true (List.map eOut c4)]⟩)
instance {n id m}:InjS (zgw n id m):=⟨fun γ γ' x y h=>by
 rcases x with ⟨a0,a1,a2,a3,a4,a5⟩ | ⟨b0,b1,b2,b3,b4,b5⟩ | ⟨c0,c1,c2,c3,c4⟩ <;> rcases y with ⟨a0',a1',a2',a3',a4',a5'⟩ | ⟨b0',b1',b2',b3',b4',b5'⟩ | ⟨c0',c1',c2',c3',c4'⟩ <;> simp only [zgw] at h <;> exact inj_⟩
def zoe (n:Node) (id:Int) (m:Msg) (b4_node:Node) (b4_job:Job) (r6:List Out):Option (zgu):=asks (fun γ=>(lim F pr).seg [6,7] zzi ⟨bd 5 (.bptr 1 0 :: .bptr 2 0 :: bd 1 (.bptr 4 0 :: bd 79 [])),[.box 34 (zao n),.box 37 [vI m.kind,vW m.rid,vB m.code,vF m.has,vU m.id,vT m.key,vT m.val,vU m.peer.id,vH m.peer.addr,.lit 25 false (List.map zah m.peers),.lit 78 false (List.map zan m.pairs)],.box 34 ([vU 0,vH 0,vI 0,vF false,.lit 0 true [],.lit 0 true [],.lit 0 true [],.lit 0 true [],.lit 0 true [],.lit 0 true [],.lit 0 true [],vW 0,vI 0,vI 0]),.row 56 (γ 3) false (List.map eOut []),.box 135 (capp (zaw b4_node (.sl 5 ((γ 5)))) (capp (cJob b4_job) ([.sl 6 ((γ 6))]))),.row 84 (γ 5) false (List.map zae b4_node.fingers),.row 56 (γ 6) false (List.map eOut r6)]⟩) (zgw n id m)
abbrev zjh:=(Node × Job × (List Finger) × (List Out)) ⊕ (Node × Job × (List Out))
def zgt (n:Node) (id:Int) (m:Msg) (γ:Nat → Nat):zjh → X × St
 | .inl (a0,a1,a2,a3)=>(.nor,⟨bd 6 (.bptr 2 0 :: bd 1 (.bptr 4 0 :: bd 79 [])),[.box 34 (zao n),.box 37 [vI m.kind,vW m.rid,vB m.code,vF m.has,vU m.id,vT m.key,vT m.val,vU m.peer.id,vH m.peer.addr,.lit 25 false (List.map zah m.peers),.lit 78 false (List.map zan m.pairs)],.box 34 ([vU 0,vH 0,vI 0,vF false,.lit 0 true [],.lit 0 true [],.lit 0 true [],.lit 0 true [],.lit 0 true [],.lit 0 true [],.lit 0 true [],vW 0,vI 0,vI 0]),.row 56 (γ 3) false (List.map eOut []),.box 135 (capp (zao a0) (capp (cJob a1) ([.sl 6 ((γ 6))]))),.row 84 (γ 5) true (List.map zae a2),.row 56 (γ 6) false (List.map eOut a3)]⟩)
 | .inr (b0,b1,b2)=>(.nor,⟨bd 6 (.bptr 2 0 :: bd 1 (.bptr 4 0 :: bd 79 [])),[.box 34 (zao n),.box 37 [vI m.kind,vW m.rid,vB m.code,vF m.has,vU m.id,vT m.key,vT m.val,vU m.peer.id,vH m.peer.addr,.lit 25 false (List.map zah m.peers),.lit 78 false (List.map zan m.pairs)],.box 34 ([vU 0,vH 0,vI 0,vF false,.lit 0 true [],.lit 0 true [],.lit 0 true [],.lit 0 true [],.lit 0 true [],.lit 0 true [],.lit 0 true [],vW 0,vI 0,vI 0]),.row 56 (γ 3) false (List.map eOut []),.box 135 (capp (zaw b0 (.sl 5 ((γ 5)))) (capp (cJob b1) ([.sl 6 ((γ 6))]))),.row 84 (γ 5) false (List.map zae b0.fingers),.row 56 (γ 6) false (List.map eOut b2)]⟩)
instance {n id m}:InjS (zgt n id m):=⟨fun γ γ' x y h=>by
 rcases x with ⟨a0,a1,a2,a3⟩ | ⟨b0,b1,b2⟩ <;> rcases y with ⟨a0',a1',a2',a3'⟩ | ⟨b0',b1',b2'⟩ <;> simp only [zgt] at h <;> exact inj_⟩
def zlm (n:Node) (id:Int) (m:Msg) (k:Int) (t45:Bool) (b4_node:Node) (b4_job:Job) (r6:List Out):Option (zjh):=asks (fun γ=>(lim F pr).seg [8,6] zzh ⟨bd 5 (.bptr 1 0 :: .bptr 2 0 :: bd 1 (.bptr 4 0 :: bd 1 (vI k :: bd 34 (vF t45 :: bd 42 [])))),[.box 34 (zao n),.box 37 [vI m.kind,vW m.rid,vB m.code,vF m.has,vU m.id,vT m.key,vT m.val,vU m.peer.id,vH m.peer.addr,.lit 25 false (List.map zah m.peers),.lit 78 false (List.map zan m.pairs)],.box 34 ([vU 0,vH 0,vI 0,vF false,.lit 0 true [],.lit 0 true [],.lit 0 true [],.lit 0 true [],.lit 0 true [],.lit 0 true [],.lit 0 true [],vW 0,vI 0,vI 0]),.row 56 (γ 3) false (List.map eOut []),.box 135 (capp (zaw b4_node (.sl 5 ((γ 5)))) (capp (cJob b4_job) ([.sl 6 ((γ 6))]))),.row 84 (γ 5) false (List.map zae b4_node.fingers),.row 56 (γ 6) false (List.map eOut r6)]⟩) (zgt n id m)
abbrev zjf:=(Node × Job × (List Finger) × (List Out)) ⊕ (Node × Job × (List Out))
def zgs (n:Node) (id:Int) (m:Msg) (γ:Nat → Nat):zjf → X × St
 | .inl (a0,a1,a2,a3)=>(.nor,⟨bd 6 (.bptr 2 0 :: bd 1 (.bptr 4 0 :: bd 79 [])),[.box 34 (zao n),.box 37 [vI m.kind,vW m.rid,vB m.code,vF m.has,vU m.id,vT m.key,vT m.val,vU m.peer.id,vH m.peer.addr,.lit 25 false (List.map zah m.peers),.lit 78 false (List.map zan m.pairs)],.box 34 ([vU 0,vH 0,vI 0,vF false,.lit 0 true [],.lit 0 true [],.lit 0 true [],.lit 0 true [],.lit 0 true [],.lit 0 true [],.lit 0 true [],vW 0,vI 0,vI 0]),.row 56 (γ 3) false (List.map eOut []),.box 135 (capp (zao a0) (capp (cJob a1) ([.sl 6 ((γ 6))]))),.row 84 (γ 5) true (List.map zae a2),.row 56 (γ 6) false (List.map eOut a3)]⟩)
 | .inr (b0,b1,b2)=>(.nor,⟨bd 6 (.bptr 2 0 :: bd 1 (.bptr 4 0 :: bd 79 [])),[.box 34 (zao n),.box 37 [vI m.kind,vW m.rid,vB m.code,vF m.has,vU m.id,vT m.key,vT m.val,vU m.peer.id,vH m.peer.addr,.lit 25 false (List.map zah m.peers),.lit 78 false (List.map zan m.pairs)],.box 34 ([vU 0,vH 0,vI 0,vF false,.lit 0 true [],.lit 0 true [],.lit 0 true [],.lit 0 true [],.lit 0 true [],.lit 0 true [],.lit 0 true [],vW 0,vI 0,vI 0]),.row 56 (γ 3) false (List.map eOut []),.box 135 (capp (zaw b0 (.sl 5 ((γ 5)))) (capp (cJob b1) ([.sl 6 ((γ 6))]))),.row 84 (γ 5) false (List.map zae b0.fingers),.row 56 (γ 6) false (List.map eOut b2)]⟩)
instance {n id m}:InjS (zgs n id m):=⟨fun γ γ' x y h=>by
 rcases x with ⟨a0,a1,a2,a3⟩ | ⟨b0,b1,b2⟩ <;> rcases y with ⟨a0',a1',a2',a3'⟩ | ⟨b0',b1',b2'⟩ <;> simp only [zgs] at h <;> exact inj_⟩
def zll (n:Node) (id:Int) (m:Msg) (k:Int) (t55:Bool) (b4_node:Node) (b4_job:Job) (r6:List Out):Option (zjf):=asks (fun γ=>(lim F pr).seg [8,6] zzg ⟨bd 5 (.bptr 1 0 :: .bptr 2 0 :: bd 1 (.bptr 4 0 :: bd 1 (vI k :: bd 44 (vF t55 :: bd 32 [])))),[.box 34 (zao n),.box 37 [vI m.kind,vW m.rid,vB m.code,vF m.has,vU m.id,vT m.key,vT m.val,vU m.peer.id,vH m.peer.addr,.lit 25 false (List.map zah m.peers),.lit 78 false (List.map zan m.pairs)],.box 34 ([vU 0,vH 0,vI 0,vF false,.lit 0 true [],.lit 0 true [],.lit 0 true [],.lit 0 true [],.lit 0 true [],.lit 0 true [],.lit 0 true [],vW 0,vI 0,vI 0]),.row 56 (γ 3) false (List.map eOut []),.box 135 (capp (zaw b4_node (.sl 5 ((γ 5)))) (capp (cJob b4_job) ([.sl 6 ((γ 6))]))),.row 84 (γ 5) false (List.map zae b4_node.fingers),.row 56 (γ 6) false (List.map eOut r6)]⟩) (zgs n id m)
def zc8 (n:Node) (id:Int) (m:Msg) (b4_node:Node) (b4_job:Job) (r6:List Out):Option (zgu):=
 bif Ops.std.ieq m.kind 12 then
  (zcE (Ops.std.iwrap .i64 m.code) b4_node b4_job r6).bind fun r=>match r with
   | .inl (b0_node,b0_job,r1)=>
    (zaY b0_node b0_job r6).bind fun ⟨r0_0,r0_1,r0_2,r0_3,r0_4,r0_5,r0_7,r0_8,r0_9,r0_10,r0_11,r0_12,r0_13⟩=>
    some (.inl (r6,(⟨(⟨r0_0,r0_1⟩:Peer),r0_2,r0_3,r0_4,r0_5,b0_node.fingers,r0_7,r0_8,r0_9,r0_10,r0_11,r0_12,r0_13⟩:Node),b0_node,b0_job,r1,r6))
   | .inr (b0_node,b0_job,r1,r2)=>
    (zbe b0_node b0_job r2).bind fun r0=>
    some (.inr (.inl (r2,r0,b0_node,b0_job,r1,r2)))
 else
  bif Ops.std.ieq m.kind 4 then
   (zlm n id m b4_job.kind (Ops.std.ieq b4_job.kind 1) b4_node b4_job r6).bind fun r=>match r with
    | .inl (b4_node1,zaA,r5,r61)=>
     (zbe b4_node1 zaA r61).bind fun r0=>
     some (.inr (.inl (r61,r0,b4_node1,zaA,r5,r61)))
    | .inr (b4_node1,zaA,r61)=>
     (zaY b4_node1 zaA r61).bind fun ⟨r0_0,r0_1,r0_2,r0_3,r0_4,r0_5,r0_7,r0_8,r0_9,r0_10,r0_11,r0_12,r0_13⟩=>
     some (.inr (.inr (r61,(⟨(⟨r0_0,r0_1⟩:Peer),r0_2,r0_3,r0_4,r0_5,b4_node1.fingers,r0_7,r0_8,r0_9,r0_10,r0_11,r0_12,r0_13⟩:Node),b4_node1,zaA,r61)))
  else
   (zlm n id m b4_job.kind false b4_node b4_job r6).bind fun r=>match r with
    | .inl (b4_node1,zaA,r5,r61)=>
     (zbe b4_node1 zaA r61).bind fun r0=>
     some (.inr (.inl (r61,r0,b4_node1,zaA,r5,r61)))
    | .inr (b4_node1,zaA,r61)=>
     (zaY b4_node1 zaA r61).bind fun ⟨r0_0,r0_1,r0_2,r0_3,r0_4,r0_5,r0_7,r0_8,r0_9,r0_10,r0_11,r0_12,r0_13⟩=>
     some (.inr (.inr (r61,(⟨(⟨r0_0,r0_1⟩:Peer),r0_2,r0_3,r0_4,r0_5,b4_node1.fingers,r0_7,r0_8,r0_9,r0_10,r0_11,r0_12,r0_13⟩:Node),b4_node1,zaA,r61)))
theorem zgv {n id m b4_node b4_job r6 r} (h:zc8 n id m b4_node b4_job r6=some r):zoe n id m b4_node b4_job r6=some r:=by
 unfold zc8 at h
 refine zap fun γ=>?_
 rcases zaa h with ⟨h1,h⟩ | ⟨h1,h⟩
 obtain ⟨r2,γ1,h2,h⟩:=zag h (gam [0,(γ 5),(γ 6)])
 rcases r2 with ⟨b0_node,b0_job,r1⟩ | ⟨b0_node,b0_job,r1,r2⟩
 obtain ⟨r3,γ2,h3,h⟩:=zag h (gam [0,(γ1 3),(γ1 2)])
 rcases r3 with ⟨r0_0,r0_1,r0_2,r0_3,r0_4,r0_5,r0_7,r0_8,r0_9,r0_10,r0_11,r0_12,r0_13⟩
 cases h;refine ⟨gam [0,0,0,(γ 3),0,(γ1 1),(γ2 2),(γ2 1)],zak ?_⟩;rotate_left
 obtain ⟨r0,γ2,h3,h⟩:=zag h (gam [0,(γ1 2)])
 cases h;refine ⟨gam [0,0,0,(γ 3),0,(γ1 1),(γ2 1)],zak ?_⟩;rotate_left
 rcases zaa h with ⟨h2,h⟩ | ⟨h2,h⟩
 obtain ⟨r3,γ1,h3,h⟩:=zag h (gam [0,0,0,(γ 3),0,(γ 5),(γ 6)])
 rcases r3 with ⟨b4_node1,zaA,r5,r61⟩ | ⟨b4_node1,zaA,r61⟩
 obtain ⟨r0,γ2,h4,h⟩:=zag h (gam [0,(γ1 6)])
 cases h;refine ⟨gam [0,0,0,(γ1 3),0,(γ1 5),(γ2 1)],zak ?_⟩;rotate_left
 obtain ⟨r4,γ2,h4,h⟩:=zag h (gam [0,(γ1 5),(γ1 6)])
 rcases r4 with ⟨r0_0,r0_1,r0_2,r0_3,r0_4,r0_5,r0_7,r0_8,r0_9,r0_10,r0_11,r0_12,r0_13⟩
 cases h;refine ⟨gam [0,0,0,(γ1 3),0,(γ2 1),(γ2 2)],zak ?_⟩;rotate_left
 obtain ⟨r3,γ1,h3,h⟩:=zag h (gam [0,0,0,(γ 3),0,(γ 5),(γ 6)])
 rcases r3 with ⟨b4_node1,zaA,r5,r61⟩ | ⟨b4_node1,zaA,r61⟩
 obtain ⟨r0,γ2,h4,h⟩:=zag h (gam [0,(γ1 6)])
 cases h;refine ⟨gam [0,0,0,(γ1 3),0,(γ1 5),(γ2 1)],zak ?_⟩;rotate_left
 obtain ⟨r4,γ2,h4,h⟩:=zag h (gam [0,(γ1 5),(γ1 6)])
 rcases r4 with ⟨r0_0,r0_1,r0_2,r0_3,r0_4,r0_5,r0_7,r0_8,r0_9,r0_10,r0_11,r0_12,r0_13⟩
 cases h;refine ⟨gam [0,0,0,(γ1 3),0,(γ2 1),(γ2 2)],zak ?_⟩;rotate_left
 all_goals (dsimp only [zgt,zgw,zbG,zbB,zbX] at *;show Ifc.apart IF_ _ (zFa zzh) _=_;generalize zzh=c0 at *;exact fin_)
def zek (n:Node) (id:Int) (m:Msg) (k:Int) (t45:Bool) (b4_node:Node) (b4_job:Job) (r6:List Out):Option (zjh):=
 bif t45 then
  (zku b4_node b4_job r6).bind fun ⟨b0_node,r1,r2⟩=>
  some (.inl (b0_node,b4_job,r1,r2))
 else
  bif Ops.std.ieq m.kind 6 then zll n id m k (Ops.std.ieq k 2) b4_node b4_job r6 else
  zll n id m k false b4_node b4_job r6
theorem zji {n id m k t45 b4_node b4_job r6 r} (h:zek n id m k t45 b4_node b4_job r6=some r):zlm n id m k t45 b4_node b4_job r6=some r:=by
 unfold zek at h
 refine zap fun γ=>?_
 rcases zaa h with ⟨h1,h⟩ | ⟨h1,h⟩
 obtain ⟨r2,γ1,h2,h⟩:=zag h (gam [0,(γ 5),(γ 6)])
 rcases r2 with ⟨b0_node,r1,r2⟩
 cases h;refine ⟨gam [0,0,0,(γ 3),0,(γ1 1),(γ1 2)],zak ?_⟩;rotate_left
 rcases zaa h with ⟨h2,h⟩ | ⟨h2,h⟩
 obtain ⟨γ1,h3⟩:=zal h (gam [0,0,0,(γ 3),0,(γ 5),(γ 6)])
 rcases r with ⟨b4_node1,zaA,r5,r61⟩ | ⟨b4_node1,zaA,r61⟩
 refine ⟨gam [0,0,0,(γ1 3),0,(γ1 5),(γ1 6)],zak ?_⟩;rotate_left
 refine ⟨gam [0,0,0,(γ1 3),0,(γ1 5),(γ1 6)],zak ?_⟩;rotate_left
 obtain ⟨γ1,h3⟩:=zal h (gam [0,0,0,(γ 3),0,(γ 5),(γ 6)])
 rcases r with ⟨b4_node1,zaA,r5,r61⟩ | ⟨b4_node1,zaA,r61⟩
 refine ⟨gam [0,0,0,(γ1 3),0,(γ1 5),(γ1 6)],zak ?_⟩;rotate_left
 refine ⟨gam [0,0,0,(γ1 3),0,(γ1 5),(γ1 6)],zak ?_⟩;rotate_left
 all_goals (dsimp only [zgs,zgt,zdB] at *;show Ifc.apart IF_ _ (zE9 zzg) _=_;generalize zzg=c0 at *;exact fin_)
def zej (n:Node) (id:Int) (m:Msg) (k:Int) (t55:Bool) (b4_node:Node) (b4_job:Job) (r6:List Out):Option (zjf):=
 bif t55 then
  (zbk true b4_job.val 0 b4_node b4_job r6).bind fun ⟨b0_node,r1⟩=>
  some (.inl (b0_node,b4_job,r1,r6))
 else
  bif Ops.std.ieq m.kind 9 then
   bif Ops.std.ieq k 3 then
    (zbk m.has m.val 0 b4_node b4_job r6).bind fun ⟨b0_node,r1⟩=>
    some (.inl (b0_node,b4_job,r1,r6))
   else
    some (.inr (b4_node,b4_job,r6))
  else
   some (.inr (b4_node,b4_job,r6))
theorem zjg {n id m k t55 b4_node b4_job r6 r} (h:zej n id m k t55 b4_node b4_job r6=some r):zll n id m k t55 b4_node b4_job r6=some r:=by
 unfold zej at h
 refine zap fun γ=>?_
 rcases zaa h with ⟨h1,h⟩ | ⟨h1,h⟩
 obtain ⟨r2,γ1,h2,h⟩:=zag h (gam [0,(γ 5),(γ 6)])
 rcases r2 with ⟨b0_node,r1⟩
 cases h;refine ⟨gam [0,0,0,(γ 3),0,(γ1 1),(γ1 2)],zak ?_⟩;rotate_left
 rcases zaa h with ⟨h2,h⟩ | ⟨h2,h⟩
 rcases zaa h with ⟨h3,h⟩ | ⟨h3,h⟩
 obtain ⟨r4,γ1,h4,h⟩:=zag h (gam [0,(γ 5),(γ 6)])
 rcases r4 with ⟨b0_node,r1⟩
 cases h;refine ⟨gam [0,0,0,(γ 3),0,(γ1 1),(γ1 2)],zak ?_⟩;rotate_left
 cases h;refine ⟨gam [0,0,0,(γ 3),0,(γ 5),(γ 6)],zak ?_⟩;rotate_left
 cases h;refine ⟨gam [0,0,0,(γ 3),0,(γ 5),(γ 6)],zak ?_⟩;rotate_left
 all_goals (dsimp only [zgs,zbr] at *;show Ifc.apart IF_ _ zE8 _=_;exact fin_)
def zpU (n:Node) (id:Int) (m:Msg):Option ((Node × (List Out))):=
 (znw n id).bind fun ⟨r1,b0_node,b0_job,r2⟩=>
 bif r1 then
  bif b0_job.doing then
   (zoe n id m b0_node (⟨b0_job.id,b0_job.kind,b0_job.bit,b0_job.key,b0_job.val,b0_job.target,b0_job.via,b0_job.at_,true,b0_job.hops,b0_job.tries,b0_job.due⟩:Job) r2).bind fun r=>match r with
    | .inl (t7,b2,b4_node,b4_job,r5,r6)=>
     some (b2,t7)
    | .inr (.inl (t7,b2,b4_node,b4_job,r5,r6))=>
     some (b2,t7)
    | .inr (.inr (t7,b2,b4_node,b4_job,r6))=>
     some (b2,t7)
  else
   (zaY b0_node (⟨b0_job.id,b0_job.kind,b0_job.bit,b0_job.key,b0_job.val,b0_job.target,b0_job.via,b0_job.at_,false,b0_job.hops,b0_job.tries,b0_job.due⟩:Job) r2).bind fun ⟨r0_0,r0_1,r0_2,r0_3,r0_4,r0_5,r0_7,r0_8,r0_9,r0_10,r0_11,r0_12,r0_13⟩=>
   some ((⟨(⟨r0_0,r0_1⟩:Peer),r0_2,r0_3,r0_4,r0_5,b0_node.fingers,r0_7,r0_8,r0_9,r0_10,r0_11,r0_12,r0_13⟩:Node),r2)
 else
  (zaY b0_node b0_job r2).bind fun ⟨r0_0,r0_1,r0_2,r0_3,r0_4,r0_5,r0_7,r0_8,r0_9,r0_10,r0_11,r0_12,r0_13⟩=>
  some ((⟨(⟨r0_0,r0_1⟩:Peer),r0_2,r0_3,r0_4,r0_5,b0_node.fingers,r0_7,r0_8,r0_9,r0_10,r0_11,r0_12,r0_13⟩:Node),r2)
theorem zCf {n id m r} (h:zpU n id m=some r):ztX n id m=some r:=by
 unfold zpU at h
 refine zas ?_
 obtain ⟨r1,γ1,h1,h⟩:=zag h (gam [])
 rcases r1 with ⟨r1,b0_node,b0_job,r2⟩
 rcases zaa h with ⟨h2,h⟩ | ⟨h2,h⟩
 rcases zaa h with ⟨h3,h⟩ | ⟨h3,h⟩
 obtain ⟨r4,γ2,h4,h⟩:=zag h (gam [0,0,0,0,0,(γ1 1),(γ1 2)])
 rcases r4 with ⟨t7,b2,b4_node,b4_job,r5,r6⟩ | ⟨t7,b2,b4_node,b4_job,r5,r6⟩ | ⟨t7,b2,b4_node,b4_job,r6⟩
 cases h;refine zab rfl ?_;rotate_left
 cases h;refine zab rfl ?_;rotate_left
 cases h;refine zab rfl ?_;rotate_left
 obtain ⟨r4,γ2,h4,h⟩:=zag h (gam [0,(γ1 1),(γ1 2)])
 rcases r4 with ⟨r0_0,r0_1,r0_2,r0_3,r0_4,r0_5,r0_7,r0_8,r0_9,r0_10,r0_11,r0_12,r0_13⟩
 cases h;refine zab rfl ?_;rotate_left
 obtain ⟨r3,γ2,h3,h⟩:=zag h (gam [0,(γ1 1),(γ1 2)])
 rcases r3 with ⟨r0_0,r0_1,r0_2,r0_3,r0_4,r0_5,r0_7,r0_8,r0_9,r0_10,r0_11,r0_12,r0_13⟩
 cases h;refine zab rfl ?_;rotate_left
 all_goals (dsimp only [R2,zgw,zgC,zbB] at *;show zar IF_ (g45F zzi) _ _=_;generalize zzi=c0 at *;(try dsimp only [zah,zai,zae,zan,za4,eJob,zaq,zaP,eMsg,eOut,zcn,cJob,zao,cMsg,zaw,capp] at *);(try simp only [List.map_cons,List.map_nil] at *);(try generalize b0_job.doing=q0 at *);exact fin_)
abbrev zj6:=((List Out) × Node × Node) ⊕ (Node × Job)
def zhx (n:Node) (id:Int) (m:Msg) (γ:Nat → Nat):zj6 → X × St
 | .inl (a0,a1,a2)=>(.ret,⟨bd 6 (.bptr 2 0 :: .lit 56 false (List.map eOut a0) :: bd 91 []),[.box 34 (zao a1),.box 37 [vI m.kind,vW m.rid,vB m.code,vF m.has,vU m.id,vT m.key,vT m.val,vU m.peer.id,vH m.peer.addr,.lit 25 false (List.map zah m.peers),.lit 78 false (List.map zan m.pairs)],.box 34 (zao a2),.row 56 (γ 3) false (List.map eOut [])]⟩)
 | .inr (b0,b1)=>(.ret,⟨bd 6 (.bptr 2 0 :: .sl 5 ((γ 5)) :: bd 91 []),[.box 34 (zao n),.box 37 [vI m.kind,vW m.rid,vB m.code,vF m.has,vU m.id,vT m.key,vT m.val,vU m.peer.id,vH m.peer.addr,.lit 25 false (List.map zah m.peers),.lit 78 false (List.map zan m.pairs)],.box 34 (zao b0),.row 56 (γ 3) false (List.map eOut []),.box 67 (cJob b1),.row 56 (γ 5) false (List.map eOut [])]⟩)
instance {n id m}:InjS (zhx n id m):=⟨fun γ γ' x y h=>by
 rcases x with ⟨a0,a1,a2⟩ | ⟨b0,b1⟩ <;> rcases y with ⟨a0',a1',a2'⟩ | ⟨b0',b1'⟩ <;> simp only [zhx] at h <;> exact inj_⟩
def zpF (n:Node) (id:Int) (m:Msg) (at_:Int):Option (zj6):=asks (fun γ=>(lim F pr).seg [6,7] zzm ⟨bd 3 (.bptr 0 0 :: bd 1 (.bptr 1 0 :: .bptr 2 0 :: bd 1 (vI at_ :: bd 90 []))),[.box 34 (zao n),.box 37 [vI m.kind,vW m.rid,vB m.code,vF m.has,vU m.id,vT m.key,vT m.val,vU m.peer.id,vH m.peer.addr,.lit 25 false (List.map zah m.peers),.lit 78 false (List.map zan m.pairs)],.box 34 ([vU 0,vH 0,vI 0,vF false,.lit 0 true [],.lit 0 true [],.lit 0 true [],.lit 0 true [],.lit 0 true [],.lit 0 true [],.lit 0 true [],vW 0,vI 0,vI 0]),.row 56 (γ 3) false (List.map eOut [])]⟩) (zhx n id m)
def zhu (n:Node) (id:Int) (m:Msg) (γ:Nat → Nat):((List Out) × Node × Node × Job) ⊕ Job → X × St
 | .inl (a0,a1,a2,a3)=>(.ret,⟨bd 6 (.bptr 2 0 :: .lit 56 false (List.map eOut a0) :: bd 91 []),[.box 34 (zao a1),.box 37 [vI m.kind,vW m.rid,vB m.code,vF m.has,vU m.id,vT m.key,vT m.val,vU m.peer.id,vH m.peer.addr,.lit 25 false (List.map zah m.peers),.lit 78 false (List.map zan m.pairs)],.box 34 (zao a2),.row 56 (γ 3) false (List.map eOut []),.box 67 (cJob a3)]⟩)
 | .inr b0=>(.nor,⟨bd 3 (.bptr 0 0 :: bd 1 (.bptr 1 0 :: .bptr 2 0 :: bd 2 (.bptr 4 0 :: bd 89 []))),[.box 34 (zao n),.box 37 [vI m.kind,vW m.rid,vB m.code,vF m.has,vU m.id,vT m.key,vT m.val,vU m.peer.id,vH m.peer.addr,.lit 25 false (List.map zah m.peers),.lit 78 false (List.map zan m.pairs)],.box 34 ([vU 0,vH 0,vI 0,vF false,.lit 0 true [],.lit 0 true [],.lit 0 true [],.lit 0 true [],.lit 0 true [],.lit 0 true [],.lit 0 true [],vW 0,vI 0,vI 0]),.row 56 (γ 3) false (List.map eOut []),.box 67 (cJob b0)]⟩)
instance {n id m}:InjS (zhu n id m):=⟨fun γ γ' x y h=>by
 rcases x with ⟨a0,a1,a2,a3⟩ | b0 <;> rcases y with ⟨a0',a1',a2',a3'⟩ | b0' <;> simp only [zhu] at h <;> exact inj_⟩
def zjF (n:Node) (id:Int) (m:Msg) (t48:Bool) (b4:Job):Option (((List Out) × Node × Node × Job) ⊕ Job):=asks (fun γ=>(lim F pr).seg [9,5,3,6] zzj ⟨bd 3 (.bptr 0 0 :: bd 1 (.bptr 1 0 :: .bptr 2 0 :: bd 2 (.bptr 4 0 :: bd 38 (vF t48 :: bd 50 [])))),[.box 34 (zao n),.box 37 [vI m.kind,vW m.rid,vB m.code,vF m.has,vU m.id,vT m.key,vT m.val,vU m.peer.id,vH m.peer.addr,.lit 25 false (List.map zah m.peers),.lit 78 false (List.map zan m.pairs)],.box 34 ([vU 0,vH 0,vI 0,vF false,.lit 0 true [],.lit 0 true [],.lit 0 true [],.lit 0 true [],.lit 0 true [],.lit 0 true [],.lit 0 true [],vW 0,vI 0,vI 0]),.row 56 (γ 3) false (List.map eOut []),.box 67 (cJob b4)]⟩) (zhu n id m)
def zhw (n:Node) (id:Int) (m:Msg) (γ:Nat → Nat):(Node × Job) → X × St
 | (a0,a1)=>(.ret,⟨bd 6 (.bptr 2 0 :: .sl 5 ((γ 5)) :: bd 91 []),[.box 34 (zao n),.box 37 [vI m.kind,vW m.rid,vB m.code,vF m.has,vU m.id,vT m.key,vT m.val,vU m.peer.id,vH m.peer.addr,.lit 25 false (List.map zah m.peers),.lit 78 false (List.map zan m.pairs)],.box 34 (zao a0),.row 56 (γ 3) false (List.map eOut []),.box 67 (cJob a1),.row 56 (γ 5) false (List.map eOut [])]⟩)
instance {n id m}:InjS (zhw n id m):=⟨fun γ γ' x y h=>by
 rcases x with ⟨a0,a1⟩ <;> rcases y with ⟨a0',a1'⟩ <;> simp only [zhw] at h <;> exact inj_⟩
def zjG (n:Node) (id:Int) (m:Msg) (b4:Job):Option ((Node × Job)):=asks (fun γ=>(lim F pr).seg [6,7] zzl ⟨bd 3 (.bptr 0 0 :: bd 1 (.bptr 1 0 :: .bptr 2 0 :: bd 2 (.bptr 4 0 :: bd 89 []))),[.box 34 (zao n),.box 37 [vI m.kind,vW m.rid,vB m.code,vF m.has,vU m.id,vT m.key,vT m.val,vU m.peer.id,vH m.peer.addr,.lit 25 false (List.map zah m.peers),.lit 78 false (List.map zan m.pairs)],.box 34 ([vU 0,vH 0,vI 0,vF false,.lit 0 true [],.lit 0 true [],.lit 0 true [],.lit 0 true [],.lit 0 true [],.lit 0 true [],.lit 0 true [],vW 0,vI 0,vI 0]),.row 56 (γ 3) false (List.map eOut []),.box 67 (cJob b4)]⟩) (zhw n id m)
def zhv (n:Node) (id:Int) (m:Msg) (γ:Nat → Nat):(Node × Job) → X × St
 | (a0,a1)=>(.ret,⟨bd 6 (.bptr 2 0 :: .sl 5 ((γ 5)) :: bd 91 []),[.box 34 (zao n),.box 37 [vI m.kind,vW m.rid,vB m.code,vF m.has,vU m.id,vT m.key,vT m.val,vU m.peer.id,vH m.peer.addr,.lit 25 false (List.map zah m.peers),.lit 78 false (List.map zan m.pairs)],.box 34 (zao a0),.row 56 (γ 3) false (List.map eOut []),.box 67 (cJob a1),.row 56 (γ 5) false (List.map eOut [])]⟩)
instance {n id m}:InjS (zhv n id m):=⟨fun γ γ' x y h=>by
 rcases x with ⟨a0,a1⟩ <;> rcases y with ⟨a0',a1'⟩ <;> simp only [zhv] at h <;> exact inj_⟩
def zms (n:Node) (id:Int) (m:Msg) (b4:Job):Option ((Node × Job)):=asks (fun γ=>(lim F pr).seg [6,7] zzk ⟨bd 3 (.bptr 0 0 :: bd 1 (.bptr 1 0 :: .bptr 2 0 :: bd 2 (.bptr 4 0 :: bd 89 []))),[.box 34 (zao n),.box 37 [vI m.kind,vW m.rid,vB m.code,vF m.has,vU m.id,vT m.key,vT m.val,vU m.peer.id,vH m.peer.addr,.lit 25 false (List.map zah m.peers),.lit 78 false (List.map zan m.pairs)],.box 34 ([vU 0,vH 0,vI 0,vF false,.lit 0 true [],.lit 0 true [],.lit 0 true [],.lit 0 true [],.lit 0 true [],.lit 0 true [],.lit 0 true [],vW 0,vI 0,vI 0]),.row 56 (γ 3) false (List.map eOut []),.box 67 (cJob b4)]⟩) (zhv n id m)
def zeK (n:Node) (id:Int) (m:Msg) (at_:Int):Option (zj6):=
 (xget eJob n.jobs at_).bind fun x=>
 bif Ops.std.ieq m.kind 12 then
  (zkl n x (Ops.std.iwrap .i64 m.code)).bind fun ⟨r0,r1⟩=>
  some (.inl (r1,n,r0))
 else
  bif Ops.std.ieq m.kind 4 then
   (zjF n id m (Ops.std.ieq x.kind 1) x).bind fun r=>match r with
    | .inl (t7,b0,b2,b4)=>
     some (.inl (t7,b0,b2))
    | .inr b4=>
     (zjG n id m b4).bind fun ⟨b2,b41⟩=>
     some (.inr (b2,b41))
  else
   (zjF n id m false x).bind fun r=>match r with
    | .inl (t7,b0,b2,b4)=>
     some (.inl (t7,b0,b2))
    | .inr b4=>
     (zjG n id m b4).bind fun ⟨b2,b41⟩=>
     some (.inr (b2,b41))
theorem zj7 {n id m at_ r} (h:zeK n id m at_=some r):zpF n id m at_=some r:=by
 unfold zeK at h
 refine zap fun γ=>?_
 obtain ⟨x,h1,h⟩:=zac h
 rcases zaa h with ⟨h2,h⟩ | ⟨h2,h⟩
 obtain ⟨r3,h3,h⟩:=zac h
 rcases r3 with ⟨r0,r1⟩
 cases h;refine ⟨gam [0,0,0,(γ 3)],zak ?_⟩;rotate_left
 rcases zaa h with ⟨h3,h⟩ | ⟨h3,h⟩
 obtain ⟨r4,γ1,h4,h⟩:=zag h (gam [0,0,0,(γ 3)])
 rcases r4 with ⟨t7,b0,b2,b4⟩ | b4
 cases h;refine ⟨gam [0,0,0,(γ1 3)],zak ?_⟩;rotate_left
 obtain ⟨r5,γ2,h5,h⟩:=zag h (gam [0,0,0,(γ1 3)])
 rcases r5 with ⟨b2,b41⟩
 cases h;refine ⟨gam [0,0,0,(γ2 3),0,(γ2 5)],zak ?_⟩;rotate_left
 obtain ⟨r4,γ1,h4,h⟩:=zag h (gam [0,0,0,(γ 3)])
 rcases r4 with ⟨t7,b0,b2,b4⟩ | b4
 cases h;refine ⟨gam [0,0,0,(γ1 3)],zak ?_⟩;rotate_left
 obtain ⟨r5,γ2,h5,h⟩:=zag h (gam [0,0,0,(γ1 3)])
 rcases r5 with ⟨b2,b41⟩
 cases h;refine ⟨gam [0,0,0,(γ2 3),0,(γ2 5)],zak ?_⟩;rotate_left
 all_goals (dsimp only [R2,zhu,zhw,zhx] at *;show Ifc.apart IF_ _ (zFe zzj zzl) _=_;generalize zzj=c0,zzl=c1 at *;exact fin_)
def zj5 (n:Node) (id:Int) (m:Msg) (t48:Bool) (b4:Job):Option (((List Out) × Node × Node × Job) ⊕ Job):=
 bif t48 then
  (zbI n b4 false ⟨#[]⟩ 0).bind fun res=>
  (zuI res.me res.list b4.at_).bind fun res1=>
  (zlX (⟨res.me,res.clock,true,res.pred,res1,res.fingers,res.store,res.pends,res.jobs,res.results,res.rid,res.jobID,res.nextBit⟩:Node) b4.at_ (⟨5,0,0,false,0,⟨#[]⟩,⟨#[]⟩,res.me,[],[]⟩:Msg) 2 0).bind fun ⟨r0,r1⟩=>
  some (.inl (r1,(⟨res.me,res.clock,true,res.pred,res1,res.fingers,res.store,res.pends,res.jobs,res.results,res.rid,res.jobID,res.nextBit⟩:Node),r0,b4))
 else
  some (.inr b4)
theorem zsn {n id m t48 b4 r} (h:zj5 n id m t48 b4=some r):zjF n id m t48 b4=some r:=by
 unfold zj5 at h
 refine zap fun γ=>?_
 rcases zaa h with ⟨h1,h⟩ | ⟨h1,h⟩
 obtain ⟨res,h2,h⟩:=zac h
 obtain ⟨res1,h3,h⟩:=zac h
 obtain ⟨r4,h4,h⟩:=zac h
 rcases r4 with ⟨r0,r1⟩
 cases h;refine ⟨gam [0,0,0,(γ 3)],zak ?_⟩;rotate_left
 cases h;refine ⟨gam [0,0,0,(γ 3)],zak ?_⟩;rotate_left
 all_goals (dsimp only [R1,R2,zhu] at *;show Ifc.apart IF_ _ zFb _=_;exact fin_)
def zm9 (n:Node) (id:Int) (m:Msg) (b4:Job):Option ((Node × Job)):=
 bif Ops.std.ieq m.kind 6 then
  bif Ops.std.ieq b4.kind 2 then
   (zbI n b4 true b4.val 0).bind fun res=>
   some (res,b4)
  else
   zms n id m b4
 else
  zms n id m b4
theorem zyQ {n id m b4 r} (h:zm9 n id m b4=some r):zjG n id m b4=some r:=by
 unfold zm9 at h
 refine zap fun γ=>?_
 rcases zaa h with ⟨h1,h⟩ | ⟨h1,h⟩
 rcases zaa h with ⟨h2,h⟩ | ⟨h2,h⟩
 obtain ⟨res,h3,h⟩:=zac h
 cases h;refine ⟨gam [0,0,0,(γ 3),0,0],zak ?_⟩;rotate_left
 obtain ⟨γ1,h3⟩:=zal h (gam [0,0,0,(γ 3)])
 rcases r with ⟨b2,b41⟩
 refine ⟨gam [0,0,0,(γ1 3),0,(γ1 5)],zak ?_⟩;rotate_left
 obtain ⟨γ1,h2⟩:=zal h (gam [0,0,0,(γ 3)])
 rcases r with ⟨b2,b41⟩
 refine ⟨gam [0,0,0,(γ1 3),0,(γ1 5)],zak ?_⟩;rotate_left
 all_goals (dsimp only [R1,zhv,zhw] at *;show Ifc.apart IF_ _ (zFd zzk) _=_;generalize zzk=c0 at *;exact fin_)
def zm8 (n:Node) (id:Int) (m:Msg) (b4:Job):Option ((Node × Job)):=
 bif Ops.std.ieq m.kind 9 then
  bif Ops.std.ieq b4.kind 3 then
   (zbI n b4 m.has m.val 0).bind fun res=>
   some (res,b4)
  else
   some (n,b4)
 else
  some (n,b4)
theorem zyP {n id m b4 r} (h:zm8 n id m b4=some r):zms n id m b4=some r:=by
 unfold zm8 at h
 refine zap fun γ=>?_
 rcases zaa h with ⟨h1,h⟩ | ⟨h1,h⟩
 rcases zaa h with ⟨h2,h⟩ | ⟨h2,h⟩
 obtain ⟨res,h3,h⟩:=zac h
 cases h;refine ⟨gam [0,0,0,(γ 3),0,0],zak ?_⟩;rotate_left
 cases h;refine ⟨gam [0,0,0,(γ 3),0,0],zak ?_⟩;rotate_left
 cases h;refine ⟨gam [0,0,0,(γ 3),0,0],zak ?_⟩;rotate_left
 all_goals (dsimp only [R1,zhv] at *;show Ifc.apart IF_ _ zFc _=_;exact fin_)
def zrI (n:Node) (id:Int) (m:Msg):Option ((Node × (List Out))):=
 (zkJ n id).bind fun res=>
 bif Ops.std.ilt res 0 then some (n,[]) else
 (xget eJob n.jobs res).bind fun x=>
 bif x.doing then
  (zpF n id m res).bind fun r=>match r with
   | .inl (t7,b0,b2)=>
    some (b2,t7)
   | .inr (b2,b4)=>
    some (b2,[])
 else
  some (n,[])
theorem zEw {n id m r} (h:zrI n id m=some r):zvA n id m=some r:=by
 unfold zrI at h
 refine zas ?_
 obtain ⟨res,h1,h⟩:=zac h
 rcases zaa h with ⟨h2,h⟩ | ⟨h2,h⟩
 cases h;refine zab rfl ?_;rotate_left
 obtain ⟨x,h3,h⟩:=zac h
 rcases zaa h with ⟨h4,h⟩ | ⟨h4,h⟩
 obtain ⟨r5,γ2,h5,h⟩:=zag h (gam [0,0,0,0])
 rcases r5 with ⟨t7,b0,b2⟩ | ⟨b2,b4⟩
 cases h;refine zab rfl ?_;rotate_left
 cases h;refine zab rfl ?_;rotate_left
 cases h;refine zab rfl ?_;rotate_left
 all_goals (dsimp only [R1,R2,zhx] at *;show zar IF_ (g46F zzm) _ _=_;generalize zzm=c0 at *;(try dsimp only [zah,zai,zae,zan,za4,eJob,zaq,zaP,eMsg,eOut,zcn,cJob,zao,cMsg,zaw,capp] at *);(try simp only [List.map_cons,List.map_nil] at *);(try generalize x.doing=q0 at *);exact fin_)
def znc (n:Node) (id:Int) (why:Int):Option ((Node × (List Out))):=
 (znw n id).bind fun ⟨r1,b0_node,b0_job,r2⟩=>
 bif r1 then
  (zcE why b0_node b0_job r2).bind fun r=>match r with
   | .inl (b0_node1,za5,r11)=>
    (zaY b0_node1 za5 r2).bind fun ⟨r0_0,r0_1,r0_2,r0_3,r0_4,r0_5,r0_7,r0_8,r0_9,r0_10,r0_11,r0_12,r0_13⟩=>
    some ((⟨(⟨r0_0,r0_1⟩:Peer),r0_2,r0_3,r0_4,r0_5,b0_node1.fingers,r0_7,r0_8,r0_9,r0_10,r0_11,r0_12,r0_13⟩:Node),r2)
   | .inr (b0_node1,za5,r11,r21)=>
    (zbe b0_node1 za5 r21).bind fun r0=>
    some (r0,r21)
 else
  (zaY b0_node b0_job r2).bind fun ⟨r0_0,r0_1,r0_2,r0_3,r0_4,r0_5,r0_7,r0_8,r0_9,r0_10,r0_11,r0_12,r0_13⟩=>
  some ((⟨(⟨r0_0,r0_1⟩:Peer),r0_2,r0_3,r0_4,r0_5,b0_node.fingers,r0_7,r0_8,r0_9,r0_10,r0_11,r0_12,r0_13⟩:Node),r2)
theorem zy0 {n id why r} (h:znc n id why=some r):zpV n id why=some r:=by
 unfold znc at h
 refine zas ?_
 obtain ⟨r1,γ1,h1,h⟩:=zag h (gam [])
 rcases r1 with ⟨r1,b0_node,b0_job,r2⟩
 rcases zaa h with ⟨h2,h⟩ | ⟨h2,h⟩
 obtain ⟨r3,γ2,h3,h⟩:=zag h (gam [0,(γ1 1),(γ1 2)])
 rcases r3 with ⟨b0_node1,za5,r11⟩ | ⟨b0_node1,za5,r11,r21⟩
 obtain ⟨r4,γ3,h4,h⟩:=zag h (gam [0,(γ2 3),(γ2 2)])
 rcases r4 with ⟨r0_0,r0_1,r0_2,r0_3,r0_4,r0_5,r0_7,r0_8,r0_9,r0_10,r0_11,r0_12,r0_13⟩
 cases h;refine zab rfl ?_;rotate_left
 obtain ⟨r0,γ3,h4,h⟩:=zag h (gam [0,(γ2 2)])
 cases h;refine zab rfl ?_;rotate_left
 obtain ⟨r3,γ2,h3,h⟩:=zag h (gam [0,(γ1 1),(γ1 2)])
 rcases r3 with ⟨r0_0,r0_1,r0_2,r0_3,r0_4,r0_5,r0_7,r0_8,r0_9,r0_10,r0_11,r0_12,r0_13⟩
 cases h;refine zab rfl ?_;rotate_left
 all_goals (dsimp only [R2,zgC,zbG,zbB,zbX] at *;show zar IF_ g34F _ _=_;exact fin_)
def zn2 (n:Node) (id:Int) (why:Int):Option ((Node × (List Out))):=
 (zkJ n id).bind fun res=>
 bif Ops.std.ilt res 0 then some (n,[]) else
 (xget eJob n.jobs res).bind fun x=>
 zkl n x why
theorem zAI {n id why r} (h:zn2 n id why=some r):zrJ n id why=some r:=by
 unfold zn2 at h
 refine zas ?_
 obtain ⟨res,h1,h⟩:=zac h
 rcases zaa h with ⟨h2,h⟩ | ⟨h2,h⟩
 cases h;refine zab rfl ?_;rotate_left
 obtain ⟨x,h3,h⟩:=zac h
 have h4:=ask_some h
 rcases r with ⟨r0,r1⟩
 refine zab rfl ?_;rotate_left
 all_goals (dsimp only [R1,R2] at *;show zar IF_ g47F _ _=_;exact fin_)
def zhi (a:Node) (b:Node) (γ:Nat → Nat):Bool → X × St
 | a0=>(.ret,⟨bd 4 (vF a0 :: bd 79 []),[.box 34 (zao a),.box 34 (zao b)]⟩)
instance {a b}:InjS (zhi a b):=⟨fun γ γ' x y h=>by
 rcases x with a0 <;> rcases y with a0' <;> simp only [zhi] at h <;> exact inj_⟩
def zpA (a:Node) (b:Node):Option (Bool):=asks (fun γ=>(lim F pr).seg [4] zy9 ⟨bd 2 (.bptr 0 0 :: .bptr 1 0 :: bd 80 []),[.box 34 (zao a),.box 34 (zao b)]⟩) (zhi a b)
def zhh (a:Node) (b:Node) (γ:Nat → Nat):Bool → X × St
 | a0=>(.ret,⟨bd 4 (vF a0 :: bd 79 []),[.box 34 (zao a),.box 34 (zao b)]⟩)
instance {a b}:InjS (zhh a b):=⟨fun γ γ' x y h=>by
 rcases x with a0 <;> rcases y with a0' <;> simp only [zhh] at h <;> exact inj_⟩
def zpz (a:Node) (b:Node):Option (Bool):=asks (fun γ=>(lim F pr).seg [4] zy8 ⟨bd 2 (.bptr 0 0 :: .bptr 1 0 :: bd 80 []),[.box 34 (zao a),.box 34 (zao b)]⟩) (zhh a b)
def zm0 (a:Node) (b:Node):Option (Bool):=
 (zru a.pred b.pred).bind fun res=>
 bif res then
  (zru a.list b.list).bind fun res1=>
  bif res1 then
   (zvu a.fingers b.fingers).bind fun res2=>
   bif res2 then zpz a b else
   some false
  else
   some false
 else
  some false
theorem zyF {a b r} (h:zm0 a b=some r):zpA a b=some r:=by
 unfold zm0 at h
 refine zap fun γ=>?_
 obtain ⟨res,h1,h⟩:=zac h
 rcases zaa h with ⟨h2,h⟩ | ⟨h2,h⟩
 obtain ⟨res1,h3,h⟩:=zac h
 rcases zaa h with ⟨h4,h⟩ | ⟨h4,h⟩
 obtain ⟨res2,h5,h⟩:=zac h
 rcases zaa h with ⟨h6,h⟩ | ⟨h6,h⟩
 obtain ⟨γ4,h7⟩:=zal h (gam [])
 rcases r with t4
 refine ⟨gam [],zak ?_⟩;rotate_left
 cases h;refine ⟨gam [],zak ?_⟩;rotate_left
 cases h;refine ⟨gam [],zak ?_⟩;rotate_left
 cases h;refine ⟨gam [],zak ?_⟩;rotate_left
 all_goals (dsimp only [R1,zhh,zhi] at *;show Ifc.apart IF_ _ (zET zy8) _=_;generalize zy8=c0 at *;exact fin_)
def zmZ (a:Node) (b:Node):Option (Bool):=
 (zoN a.store b.store).bind fun res=>
 bif res then
  (ztt a.pends b.pends).bind fun res1=>
  bif res1 then zvv a b else
  some false
 else
  some false
theorem zyE {a b r} (h:zmZ a b=some r):zpz a b=some r:=by
 unfold zmZ at h
 refine zap fun γ=>?_
 obtain ⟨res,h1,h⟩:=zac h
 rcases zaa h with ⟨h2,h⟩ | ⟨h2,h⟩
 obtain ⟨res1,h3,h⟩:=zac h
 rcases zaa h with ⟨h4,h⟩ | ⟨h4,h⟩
 have h5:=ask_some h
 rcases r with res2
 refine ⟨gam [],zak ?_⟩;rotate_left
 cases h;refine ⟨gam [],zak ?_⟩;rotate_left
 cases h;refine ⟨gam [],zak ?_⟩;rotate_left
 all_goals (dsimp only [R1,zhh] at *;show Ifc.apart IF_ _ zES _=_;exact fin_)
def zrA (a:Node) (b:Node):Option (Bool):=
 bif Ops.std.ieq a.me.id b.me.id then
  bif Ops.std.ieq a.me.addr b.me.addr then
   bif Ops.std.ieq a.clock b.clock then
    bif Ops.std.beq a.joined b.joined then
     bif Ops.std.ieq a.rid b.rid then
      bif Ops.std.ieq a.jobID b.jobID then
       bif Ops.std.ieq a.nextBit b.nextBit then zpA a b else
       some false
      else
       some false
     else
      some false
    else
     some false
   else
    some false
  else
   some false
 else
  some false
theorem zEp {a b r} (h:zrA a b=some r):zir a b=some r:=by
 unfold zrA at h
 refine zas ?_
 rcases zaa h with ⟨h1,h⟩ | ⟨h1,h⟩
 rcases zaa h with ⟨h2,h⟩ | ⟨h2,h⟩
 rcases zaa h with ⟨h3,h⟩ | ⟨h3,h⟩
 rcases zaa h with ⟨h4,h⟩ | ⟨h4,h⟩
 rcases zaa h with ⟨h5,h⟩ | ⟨h5,h⟩
 rcases zaa h with ⟨h6,h⟩ | ⟨h6,h⟩
 rcases zaa h with ⟨h7,h⟩ | ⟨h7,h⟩
 obtain ⟨γ1,h8⟩:=zal h (gam [])
 rcases r with t4
 refine zab rfl ?_;rotate_left
 cases h;refine zab rfl ?_;rotate_left
 cases h;refine zab rfl ?_;rotate_left
 cases h;refine zab rfl ?_;rotate_left
 cases h;refine zab rfl ?_;rotate_left
 cases h;refine zab rfl ?_;rotate_left
 cases h;refine zab rfl ?_;rotate_left
 cases h;refine zab rfl ?_;rotate_left
 all_goals (dsimp only [R1,zhi] at *;show zar IF_ (g17F zy9) _ _=_;generalize zy9=c0 at *;exact fin_)
def zhg (γ:Nat → Nat):Unit ⊕ Unit → X × St
 | .inl ()=>(.ret,⟨bd 4 (vF false :: bd 37 []),[]⟩)
 | .inr ()=>(.brk 0,⟨bd 42 [],[]⟩)
instance :InjS zhg:=⟨fun γ γ' x y h=>by
 rcases x with _ | _ <;> rcases y with _ | _ <;> simp only [zhg] at h <;> exact inj_⟩
def zmm (a:List Out) (b:List Out) (i:Int):Option (Unit ⊕ Unit):=asks (fun γ=>(lim F pr).loop [0,1,5] 0 zud ⟨.lit 56 false (List.map eOut a) :: .lit 56 false (List.map eOut b) :: bd 3 (vI i :: bd 36 []),[]⟩) zhg
def zjZ (a:List Out) (b:List Out) (i:Int):Option (Unit ⊕ Unit):=
 bif Ops.std.ilt i (xlen eOut a) then
  (xget eOut a i).bind fun x=>
  (xget eOut b i).bind fun x1=>
  bif Ops.std.ieq x.to_.id x1.to_.id then
   bif Ops.std.ieq x.to_.addr x1.to_.addr then
    (zvr x.msg x1.msg).bind fun res=>
    bif res then zmm a b (Ops.std.iadd .i64 i 1) else
    some (.inl ())
   else
    some (.inl ())
  else
   some (.inl ())
 else
  some (.inr ())
theorem zsf {a b i r} (h:zjZ a b i=some r):zmm a b i=some r:=by
 unfold zjZ at h
 refine zap fun γ=>?_
 rcases zaa h with ⟨h1,h⟩ | ⟨h1,h⟩
 obtain ⟨x,h2,h⟩:=zac h
 obtain ⟨x1,h3,h⟩:=zac h
 rcases zaa h with ⟨h4,h⟩ | ⟨h4,h⟩
 rcases zaa h with ⟨h5,h⟩ | ⟨h5,h⟩
 obtain ⟨res,h6,h⟩:=zac h
 rcases zaa h with ⟨h7,h⟩ | ⟨h7,h⟩
 replace h:=zal h (gam []);obtain ⟨γ',h0⟩:=h;refine ⟨γ',zad ?_⟩;rotate_left
 cases h;refine ⟨gam [],zad ?_⟩;rotate_left
 cases h;refine ⟨gam [],zad ?_⟩;rotate_left
 cases h;refine ⟨gam [],zad ?_⟩;rotate_left
 cases h;refine ⟨gam [],zad ?_⟩;rotate_left
 all_goals (dsimp only [R1,zhg] at *;show zaR IF_ _ _ zud zEU _=_;generalize zud=c0 at *;exact fin_)
def zrz (a:List Out) (b:List Out):Option (Bool):=
 bif Ops.std.ieq (xlen eOut a) (xlen eOut b) then
  (zmm a b 0).bind fun r=>match r with
   | .inl ()=>
    some false
   | .inr ()=>
    some true
 else
  some false
theorem zEo {a b r} (h:zrz a b=some r):zkk a b=some r:=by
 unfold zrz at h
 refine zas ?_
 rcases zaa h with ⟨h1,h⟩ | ⟨h1,h⟩
 obtain ⟨r2,γ1,h2,h⟩:=zag h (gam [])
 rcases r2 with _ | _
 cases h;refine zab rfl ?_;rotate_left
 cases h;refine zab rfl ?_;rotate_left
 cases h;refine zab rfl ?_;rotate_left
 all_goals (dsimp only [R1,zhg] at *;show zar IF_ (g18F zud) _ _=_;generalize zud=c0 at *;exact fin_)
def zgo (γ:Nat → Nat):Unit ⊕ Unit → X × St
 | .inl ()=>(.ret,⟨bd 2 (vF true :: bd 26 []),[]⟩)
 | .inr ()=>(.brk 0,⟨bd 29 [],[]⟩)
instance :InjS zgo:=⟨fun γ γ' x y h=>by
 rcases x with _ | _ <;> rcases y with _ | _ <;> simp only [zgo] at h <;> exact inj_⟩
def zlj (l:List Pair) (i:Int):Option (Unit ⊕ Unit):=asks (fun γ=>(lim F pr).loop [0,3] 0 zue ⟨.lit 78 false (List.map zan l) :: bd 2 (vI i :: bd 25 []),[]⟩) zgo
def zgn (l:List Pair) (i:Int):Option (Unit ⊕ Unit):=
 bif Ops.std.ilt i (xlen zan l) then
  (xget zan l i).bind fun x=>
  bif Ops.std.ilt 300 (Ops.std.slen x.key) then some (.inl ()) else
  bif Ops.std.ilt 700 (Ops.std.slen x.val) then some (.inl ()) else
  zlj l (Ops.std.iadd .i64 i 1)
 else
  some (.inr ())
theorem zl6 {l i r} (h:zgn l i=some r):zlj l i=some r:=by
 unfold zgn at h
 refine zap fun γ=>?_
 rcases zaa h with ⟨h1,h⟩ | ⟨h1,h⟩
 obtain ⟨x,h2,h⟩:=zac h
 rcases zaa h with ⟨h3,h⟩ | ⟨h3,h⟩
 cases h;refine ⟨gam [],zad ?_⟩;rotate_left
 rcases zaa h with ⟨h4,h⟩ | ⟨h4,h⟩
 cases h;refine ⟨gam [],zad ?_⟩;rotate_left
 replace h:=zal h (gam []);obtain ⟨γ',h0⟩:=h;refine ⟨γ',zad ?_⟩;rotate_left
 cases h;refine ⟨gam [],zad ?_⟩;rotate_left
 all_goals (dsimp only [zgo] at *;show zaR IF_ _ _ zue zEV _=_;generalize zue=c0 at *;exact fin_)
def zpT (l:List Pair):Option (Bool):=
 bif Ops.std.ilt 100 (xlen zan l) then some true else
 (zlj l 0).bind fun r=>match r with
  | .inl ()=>
   some true
  | .inr ()=>
   some false
theorem zCd {l r} (h:zpT l=some r):ztS l=some r:=by
 unfold zpT at h
 refine zas ?_
 rcases zaa h with ⟨h1,h⟩ | ⟨h1,h⟩
 cases h;refine zab rfl ?_;rotate_left
 obtain ⟨r2,γ1,h2,h⟩:=zag h (gam [])
 rcases r2 with _ | _
 cases h;refine zab rfl ?_;rotate_left
 cases h;refine zab rfl ?_;rotate_left
 all_goals (dsimp only [R1,zgo] at *;show zar IF_ (g19F zue) _ _=_;generalize zue=c0 at *;exact fin_)
end Go.Ab.Tryz
