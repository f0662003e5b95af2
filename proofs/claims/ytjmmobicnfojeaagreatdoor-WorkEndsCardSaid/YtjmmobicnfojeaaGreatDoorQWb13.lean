/- Our texts for this statement, merged: what its theorem leads to. -/
import Derived.Test.YtjmmobicnfojeaaGreatDoorQWb9
set_option linter.unusedVariables false
set_option linter.unusedSimpArgs false
noncomputable section
namespace Go.Ab.Tryz
open Go Go.Ab Go.Proofs
set_option maxRecDepth 10000
set_option maxHeartbeats 4000000
def zl8 (to_:Peer) (m:Msg) (why:Int) (b0_node:Node) (b0_job:Job) (r2:List Out):Option (ziq):=
 (zdr b0_node (⟨b0_job.id,b0_job.kind,b0_job.bit,b0_job.key,b0_job.val,b0_job.target,b0_job.via,to_,b0_job.doing,b0_job.hops,b0_job.tries,b0_job.due⟩:Job) r2).bind fun ⟨b0_node1,r1⟩=>
 (zmR b0_node1 to_ m why b0_job.id).bind fun ⟨r0,r11⟩=>
 (zfI r0 r11 b0_node1 (⟨b0_job.id,b0_job.kind,b0_job.bit,b0_job.key,b0_job.val,b0_job.target,b0_job.via,to_,b0_job.doing,b0_job.hops,b0_job.tries,b0_job.due⟩:Job) r2).bind fun ⟨r12,r21⟩=>
 some (r0,(⟨b0_job.id,b0_job.kind,b0_job.bit,b0_job.key,b0_job.val,b0_job.target,b0_job.via,to_,b0_job.doing,b0_job.hops,b0_job.tries,b0_job.due⟩:Job),r1,r21)
theorem ztR {to_ m why b0_node b0_job r2 r} (h:zl8 to_ m why b0_node b0_job r2=some r):zke to_ m why b0_node b0_job r2=some r:=by
 unfold zl8 at h
 refine zao fun γ=>?_
 obtain ⟨r1,γ1,h1,h⟩:=zah h (gam [0,γ 1,γ 2])
 rcases r1 with ⟨b0_node1,r1⟩
 obtain ⟨r2,h2,h⟩:=zac h
 rcases r2 with ⟨r0,r11⟩
 obtain ⟨r3,γ3,h3,h⟩:=zah h (gam [0,(γ1 3),(γ1 2)])
 rcases r3 with ⟨r12,r21⟩
 cases h;refine ⟨gam [0,(γ1 1),(γ3 2)],zab rfl ?_⟩;rotate_left
 all_goals (dsimp only [R2,zdE,zcy,zcb] at *;show zas IF_ zCK _ _=_;exact fin_)
def zlG (to_:Peer) (b0_node:Node) (b0_job:Job) (r2:List Out):Option (zhU):=
 zke to_ (⟨1,0,0,false,b0_job.target,⟨#[]⟩,⟨#[]⟩,(⟨0,0⟩:Peer),[],[]⟩:Msg) 4 b0_node b0_job r2
theorem zs9 {to_ b0_node b0_job r2 r} (h:zlG to_ b0_node b0_job r2=some r):zjj to_ b0_node b0_job r2=some r:=by
 unfold zlG at h
 refine zao fun γ=>?_
 obtain ⟨γ1,h1⟩:=zak h (gam [0,γ 1,γ 2])
 rcases r with ⟨b0_node1,zbm,r1,r21⟩
 refine ⟨gam [0,(γ1 1),(γ1 2)],zab rfl ?_⟩;rotate_left
 all_goals (dsimp only [zdE,zdg] at *;show zas IF_ zCI _ _=_;exact fin_)
def zdZ (b0_node:Node) (b0_job:Job) (r2:List Out):Option (zjm):=
 bif Ops.std.ieq b0_job.kind 1 then
  zk0 b0_job.via b0_node (⟨b0_job.id,b0_job.kind,b0_job.bit,b0_job.key,b0_job.val,b0_job.target,b0_job.via,b0_job.at_,false,0,b0_job.tries,b0_job.due⟩:Job) r2
 else
  (zqQ b0_node b0_job.target).bind fun ⟨r0,r1,r21⟩=>
  bif r21 then
   (zdr b0_node (⟨b0_job.id,b0_job.kind,b0_job.bit,b0_job.key,b0_job.val,b0_job.target,b0_job.via,b0_job.at_,false,0,b0_job.tries,b0_job.due⟩:Job) r2).bind fun ⟨b0_node1,r11⟩=>
   (zi6 r0 b0_node1 (⟨b0_job.id,b0_job.kind,b0_job.bit,b0_job.key,b0_job.val,b0_job.target,b0_job.via,b0_job.at_,false,0,b0_job.tries,b0_job.due⟩:Job) r2).bind fun ⟨zyJ,zbm,r12,r22⟩=>
   some (zyJ,zbm,r11,r22)
  else
   (xget zai r1 0).bind fun x=>
   zjj x b0_node (⟨b0_job.id,b0_job.kind,b0_job.bit,b0_job.key,b0_job.val,b0_job.target,b0_job.via,b0_job.at_,false,1,b0_job.tries,b0_job.due⟩:Job) r2
theorem zjn {b0_node b0_job r2 r} (h:zdZ b0_node b0_job r2=some r):zcP b0_node b0_job r2=some r:=by
 unfold zdZ at h
 refine zao fun γ=>?_
 rcases zaa h with ⟨h1,h⟩ | ⟨h1,h⟩
 obtain ⟨γ1,h2⟩:=zak h (gam [0,γ 1,γ 2])
 rcases r with ⟨b0_node1,zbm,r1,r21⟩
 refine ⟨gam [0,(γ1 1),(γ1 2)],zab rfl ?_⟩;rotate_left
 obtain ⟨r2,h2,h⟩:=zac h
 rcases r2 with ⟨r0,r1,r21⟩
 rcases zaa h with ⟨h3,h⟩ | ⟨h3,h⟩
 obtain ⟨r4,γ2,h4,h⟩:=zah h (gam [0,γ 1,γ 2])
 rcases r4 with ⟨b0_node1,r11⟩
 obtain ⟨r5,γ3,h5,h⟩:=zah h (gam [0,(γ2 3),(γ2 2)])
 rcases r5 with ⟨zyJ,zbm,r12,r22⟩
 cases h;refine ⟨gam [0,(γ2 1),(γ3 2)],zab rfl ?_⟩;rotate_left
 obtain ⟨x,h4,h⟩:=zac h
 obtain ⟨γ2,h5⟩:=zak h (gam [0,γ 1,γ 2])
 rcases r with ⟨b0_node1,zbm,r11,r22⟩
 refine ⟨gam [0,(γ2 1),(γ2 2)],zab rfl ?_⟩;rotate_left
 all_goals (dsimp only [R3,zeH,zdg,zdX,zcy,zcQ] at *;show zas IF_ zHs _ _=_;exact fin_)
def zb9 (why:Int) (b0_node:Node) (b0_job:Job) (r2:List Out):Option (zf3):=
 bif Ops.std.ieq b0_job.kind 1 then
  (zee b0_node (⟨b0_job.id,b0_job.kind,b0_job.bit,b0_job.key,b0_job.val,b0_job.target,b0_job.via,b0_job.at_,false,b0_job.hops,b0_job.tries,b0_job.due⟩:Job) r2).bind fun ⟨b0_node1,r1⟩=>
  some (.inl (b0_node1,(⟨b0_job.id,b0_job.kind,b0_job.bit,b0_job.key,b0_job.val,b0_job.target,b0_job.via,b0_job.at_,false,b0_job.hops,b0_job.tries,b0_job.due⟩:Job),r1))
 else
  bif Ops.std.ieq b0_job.kind 4 then
   (zca false ⟨#[]⟩ why b0_node b0_job r2).bind fun ⟨b0_node1,r1⟩=>
   some (.inr (b0_node1,b0_job,r1,r2))
  else
   bif Ops.std.ile 3 b0_job.tries then
    (zca false ⟨#[]⟩ why b0_node b0_job r2).bind fun ⟨b0_node1,r1⟩=>
    some (.inr (b0_node1,b0_job,r1,r2))
   else
    bif Ops.std.ilt b0_job.tries 0 then
     (zcP b0_node (⟨b0_job.id,b0_job.kind,b0_job.bit,b0_job.key,b0_job.val,b0_job.target,b0_job.via,b0_job.at_,b0_job.doing,b0_job.hops,Ops.std.iadd .i64 0 1,b0_job.due⟩:Job) r2).bind fun ⟨b0_node1,zbm,r1,r21⟩=>
     some (.inr (b0_node1,zbm,r1,r21))
    else
     (zcP b0_node (⟨b0_job.id,b0_job.kind,b0_job.bit,b0_job.key,b0_job.val,b0_job.target,b0_job.via,b0_job.at_,b0_job.doing,b0_job.hops,Ops.std.iadd .i64 b0_job.tries 1,b0_job.due⟩:Job) r2).bind fun ⟨b0_node1,zbm,r1,r21⟩=>
     some (.inr (b0_node1,zbm,r1,r21))
theorem zdW {why b0_node b0_job r2 r} (h:zb9 why b0_node b0_job r2=some r):zkZ why b0_node b0_job r2=some r:=by
 unfold zb9 at h
 refine zao fun γ=>?_
 rcases zaa h with ⟨h1,h⟩ | ⟨h1,h⟩
 obtain ⟨r2,γ1,h2,h⟩:=zah h (gam [0,γ 1,γ 2])
 rcases r2 with ⟨b0_node1,r1⟩
 cases h;refine ⟨gam [0,(γ1 1),(γ1 2),(γ1 3)],zab rfl ?_⟩;rotate_left
 rcases zaa h with ⟨h2,h⟩ | ⟨h2,h⟩
 obtain ⟨r3,γ1,h3,h⟩:=zah h (gam [0,γ 1,γ 2])
 rcases r3 with ⟨b0_node1,r1⟩
 cases h;refine ⟨gam [0,(γ1 1),(γ1 2)],zab rfl ?_⟩;rotate_left
 rcases zaa h with ⟨h3,h⟩ | ⟨h3,h⟩
 obtain ⟨r4,γ1,h4,h⟩:=zah h (gam [0,γ 1,γ 2])
 rcases r4 with ⟨b0_node1,r1⟩
 cases h;refine ⟨gam [0,(γ1 1),(γ1 2)],zab rfl ?_⟩;rotate_left
 rcases zaa h with ⟨h4,h⟩ | ⟨h4,h⟩
 obtain ⟨r5,γ1,h5,h⟩:=zah h (gam [0,γ 1,γ 2])
 rcases r5 with ⟨b0_node1,zbm,r1,r21⟩
 cases h;refine ⟨gam [0,(γ1 1),(γ1 2)],zab rfl ?_⟩;rotate_left
 obtain ⟨r5,γ1,h5,h⟩:=zah h (gam [0,γ 1,γ 2])
 rcases r5 with ⟨b0_node1,zbm,r1,r21⟩
 cases h;refine ⟨gam [0,(γ1 1),(γ1 2)],zab rfl ?_⟩;rotate_left
 all_goals (dsimp only [zdV,zds,zcQ,zbN] at *;show zas IF_ g96F _ _=_;exact fin_)
def znm (b0_node:Node) (b0_job:Job) (r2:List Out):Option (zjh):=
 some (b0_node.me.id,b0_node.me.addr,b0_node.clock,b0_node.joined,b0_node.pred,b0_node.list,b0_node.store,b0_node.pends,b0_node.jobs,b0_node.results,b0_node.rid,b0_node.jobID,b0_node.nextBit)
theorem zuT {b0_node b0_job r2 r} (h:znm b0_node b0_job r2=some r):zfH b0_node b0_job r2=some r:=by
 unfold znm at h
 refine zao fun γ=>?_
 cases h;refine ⟨gam [0,γ 1,γ 2],zab rfl ?_⟩;rotate_left
 all_goals (dsimp only [zcO] at *;show zas IF_ g97F _ _=_;exact fin_)
def zlD (b0_node:Node) (b0_job:Job) (r1:List Out):Option (Node):=
 some b0_node
theorem zs8 {b0_node b0_job r1 r} (h:zlD b0_node b0_job r1=some r):zfZ b0_node b0_job r1=some r:=by
 unfold zlD at h
 refine zao fun γ=>?_
 cases h;refine ⟨gam [0,γ 1],zab rfl ?_⟩;rotate_left
 all_goals (dsimp only [zcm] at *;show zas IF_ g97F _ _=_;exact fin_)
def zfh (γ:Nat → Nat):Int → X × St
 | a0=>(.ret,⟨bd 4 (vI a0 :: bd 123 []),[]⟩)
instance :InjS zfh:=⟨fun γ γ' x y h=>by
 rcases x with a0 <;> rcases y with a0' <;> simp only [zfh] at h <;> exact inj_⟩
def zfg (s:ByteArray) (at_:Int) (c:Int):Option (Int):=asks (fun γ=>(lim F pr).seg [4] zve ⟨vT s :: vI at_ :: bd 3 (vB c :: vI (Ops.std.isub .i64 (Ops.std.slen s) at_) :: bd 121 []),[]⟩) zfh
def zfd (s:ByteArray) (at_:Int) (γ:Nat → Nat):Int ⊕ Int → X × St
 | .inl a0=>(.ret,⟨bd 4 (vI a0 :: bd 123 []),[]⟩)
 | .inr b0=>(.nor,⟨vT s :: vI at_ :: bd 3 (vB b0 :: vI (Ops.std.isub .i64 (Ops.std.slen s) at_) :: bd 121 []),[]⟩)
instance {s at_}:InjS (zfd s at_):=⟨fun γ γ' x y h=>by
 rcases x with a0 | b0 <;> rcases y with a0' | b0' <;> simp only [zfd] at h <;> exact inj_⟩
def zc5 (s:ByteArray) (at_:Int) (c:Int) (t56:Bool):Option (Int ⊕ Int):=asks (fun γ=>(lim F pr).seg [6,5,0,1] zvb ⟨vT s :: vI at_ :: bd 3 (vB c :: vI (Ops.std.isub .i64 (Ops.std.slen s) at_) :: bd 49 (vF t56 :: bd 71 [])),[]⟩) (zfd s at_)
def zff (γ:Nat → Nat):Int → X × St
 | a0=>(.ret,⟨bd 4 (vI a0 :: bd 123 []),[]⟩)
instance :InjS zff:=⟨fun γ γ' x y h=>by
 rcases x with a0 <;> rcases y with a0' <;> simp only [zff] at h <;> exact inj_⟩
def zdR (s:ByteArray) (at_:Int) (c:Int):Option (Int):=asks (fun γ=>(lim F pr).seg [4] zvd ⟨vT s :: vI at_ :: bd 3 (vB c :: vI (Ops.std.isub .i64 (Ops.std.slen s) at_) :: bd 121 []),[]⟩) zff
def zfe (γ:Nat → Nat):Int ⊕ Unit → X × St
 | .inl a0=>(.ret,⟨bd 4 (vI a0 :: bd 123 []),[]⟩)
 | .inr ()=>(.nor,⟨bd 128 [],[]⟩)
instance :InjS zfe:=⟨fun γ γ' x y h=>by
 rcases x with a0 | _ <;> rcases y with a0' | _ <;> simp only [zfe] at h <;> exact inj_⟩
def zcw (s:ByteArray) (at_:Int) (c:Int) (t107:Bool):Option (Int ⊕ Unit):=asks (fun γ=>(lim F pr).seg [] zvc ⟨vT s :: vI at_ :: bd 3 (vB c :: bd 101 (vF t107 :: bd 20 [])),[]⟩) zfe
def zkH (s:ByteArray) (at_:Int) (c:Int):Option (Int):=
 bif Ops.std.ile 224 c then
  bif Ops.std.ile c 239 then
   bif Ops.std.ilt 2 (Ops.std.isub .i64 (Ops.std.slen s) at_) then
    (zb3 s (Ops.std.iadd .i64 at_ 1)).bind fun b=>
    (zho b).bind fun res=>
    bif res then
     (zb3 s (Ops.std.iadd .i64 at_ 2)).bind fun b1=>
     (zho b1).bind fun res1=>
     (zc5 s at_ c res1).bind fun r=>match r with
      | .inl t4=>
       some t4
      | .inr c1=>
       zdR s at_ c1
    else
     (zc5 s at_ c false).bind fun r=>match r with
      | .inl t4=>
       some t4
      | .inr c1=>
       zdR s at_ c1
   else
    (zc5 s at_ c false).bind fun r=>match r with
     | .inl t4=>
      some t4
     | .inr c1=>
      zdR s at_ c1
  else
   (zc5 s at_ c false).bind fun r=>match r with
    | .inl t4=>
     some t4
    | .inr c1=>
     zdR s at_ c1
 else
  (zc5 s at_ c false).bind fun r=>match r with
   | .inl t4=>
    some t4
   | .inr c1=>
    zdR s at_ c1
theorem zwG {s at_ c r} (h:zkH s at_ c=some r):zfg s at_ c=some r:=by
 unfold zkH at h
 refine zao fun γ=>?_
 rcases zaa h with ⟨h1,h⟩ | ⟨h1,h⟩
 rcases zaa h with ⟨h2,h⟩ | ⟨h2,h⟩
 rcases zaa h with ⟨h3,h⟩ | ⟨h3,h⟩
 obtain ⟨b,h4,h⟩:=bind_some h
 obtain ⟨res,h5,h⟩:=zac h
 rcases zaa h with ⟨h6,h⟩ | ⟨h6,h⟩
 obtain ⟨b1,h7,h⟩:=bind_some h
 obtain ⟨res1,h8,h⟩:=zac h
 obtain ⟨r9,γ3,h9,h⟩:=zah h (gam [])
 rcases r9 with t4 | c1
 cases h;refine ⟨gam [],zaj ?_⟩;rotate_left
 obtain ⟨γ4,h10⟩:=zak h (gam [])
 rcases r with t4
 refine ⟨gam [],zaj ?_⟩;rotate_left
 obtain ⟨r7,γ2,h7,h⟩:=zah h (gam [])
 rcases r7 with t4 | c1
 cases h;refine ⟨gam [],zaj ?_⟩;rotate_left
 obtain ⟨γ3,h8⟩:=zak h (gam [])
 rcases r with t4
 refine ⟨gam [],zaj ?_⟩;rotate_left
 obtain ⟨r4,γ1,h4,h⟩:=zah h (gam [])
 rcases r4 with t4 | c1
 cases h;refine ⟨gam [],zaj ?_⟩;rotate_left
 obtain ⟨γ2,h5⟩:=zak h (gam [])
 rcases r with t4
 refine ⟨gam [],zaj ?_⟩;rotate_left
 obtain ⟨r3,γ1,h3,h⟩:=zah h (gam [])
 rcases r3 with t4 | c1
 cases h;refine ⟨gam [],zaj ?_⟩;rotate_left
 obtain ⟨γ2,h4⟩:=zak h (gam [])
 rcases r with t4
 refine ⟨gam [],zaj ?_⟩;rotate_left
 obtain ⟨r2,γ1,h2,h⟩:=zah h (gam [])
 rcases r2 with t4 | c1
 cases h;refine ⟨gam [],zaj ?_⟩;rotate_left
 obtain ⟨γ2,h3⟩:=zak h (gam [])
 rcases r with t4
 refine ⟨gam [],zaj ?_⟩;rotate_left
 all_goals (dsimp only [R1,zfd,zff,zfh] at *;show Ifc.apart IF_ _ (zBC zvb zvd) _=_;generalize zvb=c0,zvd=c1 at *;exact fin_)
def zkE (s:ByteArray) (at_:Int) (c:Int) (t56:Bool):Option (Int ⊕ Int):=
 bif t56 then
  bif Ops.std.ieq c 224 then
   (zb3 s (Ops.std.iadd .i64 at_ 1)).bind fun b=>
   bif Ops.std.ilt b 160 then some (.inl 0) else
   some (.inl 3)
  else
   bif Ops.std.ieq c 237 then
    (zb3 s (Ops.std.iadd .i64 at_ 1)).bind fun b=>
    bif Ops.std.ilt 159 b then some (.inl 0) else
    some (.inl 3)
   else
    some (.inl 3)
 else
  some (.inr c)
theorem zpp {s at_ c t56 r} (h:zkE s at_ c t56=some r):zc5 s at_ c t56=some r:=by
 unfold zkE at h
 refine zao fun γ=>?_
 rcases zaa h with ⟨h1,h⟩ | ⟨h1,h⟩
 rcases zaa h with ⟨h2,h⟩ | ⟨h2,h⟩
 obtain ⟨b,h3,h⟩:=bind_some h
 rcases zaa h with ⟨h4,h⟩ | ⟨h4,h⟩
 cases h;refine ⟨gam [],zaj ?_⟩;rotate_left
 have h5:=zxg h2 (b:=237) (by decide)
 cases h;refine ⟨gam [],zaj ?_⟩;rotate_left
 rcases zaa h with ⟨h3,h⟩ | ⟨h3,h⟩
 obtain ⟨b,h4,h⟩:=bind_some h
 rcases zaa h with ⟨h5,h⟩ | ⟨h5,h⟩
 cases h;refine ⟨gam [],zaj ?_⟩;rotate_left
 cases h;refine ⟨gam [],zaj ?_⟩;rotate_left
 cases h;refine ⟨gam [],zaj ?_⟩;rotate_left
 cases h;refine ⟨gam [],zaj ?_⟩;rotate_left
 all_goals (dsimp only [zfd] at *;show Ifc.apart IF_ _ zBz _=_;exact fin_)
def zkG (s:ByteArray) (at_:Int) (c:Int):Option (Int):=
 bif Ops.std.ile 240 c then
  bif Ops.std.ile c 244 then
   bif Ops.std.ilt 3 (Ops.std.isub .i64 (Ops.std.slen s) at_) then
    (zb3 s (Ops.std.iadd .i64 at_ 1)).bind fun b=>
    (zho b).bind fun res=>
    bif res then
     (zb3 s (Ops.std.iadd .i64 at_ 2)).bind fun b1=>
     (zho b1).bind fun res1=>
     bif res1 then
      (zb3 s (Ops.std.iadd .i64 at_ 3)).bind fun b2=>
      (zho b2).bind fun res2=>
      (zcw s at_ c res2).bind fun r=>match r with
       | .inl t4=>
        some t4
       | .inr ()=>
        some 0
     else
      (zcw s at_ c false).bind fun r=>match r with
       | .inl t4=>
        some t4
       | .inr ()=>
        some 0
    else
     (zcw s at_ c false).bind fun r=>match r with
      | .inl t4=>
       some t4
      | .inr ()=>
       some 0
   else
    (zcw s at_ c false).bind fun r=>match r with
     | .inl t4=>
      some t4
     | .inr ()=>
      some 0
  else
   (zcw s at_ c false).bind fun r=>match r with
    | .inl t4=>
     some t4
    | .inr ()=>
     some 0
 else
  (zcw s at_ c false).bind fun r=>match r with
   | .inl t4=>
    some t4
   | .inr ()=>
    some 0
theorem zwF {s at_ c r} (h:zkG s at_ c=some r):zdR s at_ c=some r:=by
 unfold zkG at h
 refine zao fun γ=>?_
 rcases zaa h with ⟨h1,h⟩ | ⟨h1,h⟩
 rcases zaa h with ⟨h2,h⟩ | ⟨h2,h⟩
 rcases zaa h with ⟨h3,h⟩ | ⟨h3,h⟩
 obtain ⟨b,h4,h⟩:=bind_some h
 obtain ⟨res,h5,h⟩:=zac h
 rcases zaa h with ⟨h6,h⟩ | ⟨h6,h⟩
 obtain ⟨b1,h7,h⟩:=bind_some h
 obtain ⟨res1,h8,h⟩:=zac h
 rcases zaa h with ⟨h9,h⟩ | ⟨h9,h⟩
 obtain ⟨b2,h10,h⟩:=bind_some h
 obtain ⟨res2,h11,h⟩:=zac h
 obtain ⟨r12,γ4,h12,h⟩:=zah h (gam [])
 rcases r12 with t4 | _
 cases h;refine ⟨gam [],zaj ?_⟩;rotate_left
 cases h;refine ⟨gam [],zaj ?_⟩;rotate_left
 obtain ⟨r10,γ3,h10,h⟩:=zah h (gam [])
 rcases r10 with t4 | _
 cases h;refine ⟨gam [],zaj ?_⟩;rotate_left
 cases h;refine ⟨gam [],zaj ?_⟩;rotate_left
 obtain ⟨r7,γ2,h7,h⟩:=zah h (gam [])
 rcases r7 with t4 | _
 cases h;refine ⟨gam [],zaj ?_⟩;rotate_left
 cases h;refine ⟨gam [],zaj ?_⟩;rotate_left
 obtain ⟨r4,γ1,h4,h⟩:=zah h (gam [])
 rcases r4 with t4 | _
 cases h;refine ⟨gam [],zaj ?_⟩;rotate_left
 cases h;refine ⟨gam [],zaj ?_⟩;rotate_left
 obtain ⟨r3,γ1,h3,h⟩:=zah h (gam [])
 rcases r3 with t4 | _
 cases h;refine ⟨gam [],zaj ?_⟩;rotate_left
 cases h;refine ⟨gam [],zaj ?_⟩;rotate_left
 obtain ⟨r2,γ1,h2,h⟩:=zah h (gam [])
 rcases r2 with t4 | _
 cases h;refine ⟨gam [],zaj ?_⟩;rotate_left
 cases h;refine ⟨gam [],zaj ?_⟩;rotate_left
 all_goals (dsimp only [R1,zfe,zff] at *;show Ifc.apart IF_ _ (zBB zvc) _=_;generalize zvc=c0 at *;exact fin_)
def zkF (s:ByteArray) (at_:Int) (c:Int) (t107:Bool):Option (Int ⊕ Unit):=
 bif t107 then
  bif Ops.std.ieq c 240 then
   (zb3 s (Ops.std.iadd .i64 at_ 1)).bind fun b=>
   bif Ops.std.ilt b 144 then some (.inl 0) else
   some (.inl 4)
  else
   bif Ops.std.ieq c 244 then
    (zb3 s (Ops.std.iadd .i64 at_ 1)).bind fun b=>
    bif Ops.std.ilt 143 b then some (.inl 0) else
    some (.inl 4)
   else
    some (.inl 4)
 else
  some (.inr ())
theorem zpq {s at_ c t107 r} (h:zkF s at_ c t107=some r):zcw s at_ c t107=some r:=by
 unfold zkF at h
 refine zao fun γ=>?_
 rcases zaa h with ⟨h1,h⟩ | ⟨h1,h⟩
 rcases zaa h with ⟨h2,h⟩ | ⟨h2,h⟩
 obtain ⟨b,h3,h⟩:=bind_some h
 rcases zaa h with ⟨h4,h⟩ | ⟨h4,h⟩
 cases h;refine ⟨gam [],zaj ?_⟩;rotate_left
 have h5:=zxg h2 (b:=244) (by decide)
 cases h;refine ⟨gam [],zaj ?_⟩;rotate_left
 rcases zaa h with ⟨h3,h⟩ | ⟨h3,h⟩
 obtain ⟨b,h4,h⟩:=bind_some h
 rcases zaa h with ⟨h5,h⟩ | ⟨h5,h⟩
 cases h;refine ⟨gam [],zaj ?_⟩;rotate_left
 cases h;refine ⟨gam [],zaj ?_⟩;rotate_left
 cases h;refine ⟨gam [],zaj ?_⟩;rotate_left
 cases h;refine ⟨gam [],zaj ?_⟩;rotate_left
 all_goals (dsimp only [zfe] at *;show Ifc.apart IF_ _ zBA _=_;exact fin_)
def zoq (s:ByteArray) (at_:Int):Option (Int):=
 (zb3 s at_).bind fun b=>
 bif Ops.std.ilt b 128 then some 1 else
 bif Ops.std.ile 194 b then
  bif Ops.std.ile b 223 then
   bif Ops.std.ilt 1 (Ops.std.isub .i64 (Ops.std.slen s) at_) then
    (zb3 s (Ops.std.iadd .i64 at_ 1)).bind fun b1=>
    (zho b1).bind fun res=>
    bif res then some 2 else
    zfg s at_ b
   else
    zfg s at_ b
  else
   zfg s at_ b
 else
  zfg s at_ b
theorem zAJ {s at_ r} (h:zoq s at_=some r):zhn s at_=some r:=by
 unfold zoq at h
 refine zau ?_
 obtain ⟨b,h1,h⟩:=bind_some h
 rcases zaa h with ⟨h2,h⟩ | ⟨h2,h⟩
 cases h;refine zab rfl ?_;rotate_left
 rcases zaa h with ⟨h3,h⟩ | ⟨h3,h⟩
 rcases zaa h with ⟨h4,h⟩ | ⟨h4,h⟩
 rcases zaa h with ⟨h5,h⟩ | ⟨h5,h⟩
 obtain ⟨b1,h6,h⟩:=bind_some h
 obtain ⟨res,h7,h⟩:=zac h
 rcases zaa h with ⟨h8,h⟩ | ⟨h8,h⟩
 cases h;refine zab rfl ?_;rotate_left
 obtain ⟨γ2,h9⟩:=zak h (gam [])
 rcases r with t4
 refine zab rfl ?_;rotate_left
 obtain ⟨γ1,h6⟩:=zak h (gam [])
 rcases r with t4
 refine zab rfl ?_;rotate_left
 obtain ⟨γ1,h5⟩:=zak h (gam [])
 rcases r with t4
 refine zab rfl ?_;rotate_left
 obtain ⟨γ1,h4⟩:=zak h (gam [])
 rcases r with t4
 refine zab rfl ?_;rotate_left
 all_goals (dsimp only [R1,zfh] at *;show zas IF_ (zHQ zve) _ _=_;generalize zve=c0 at *;exact fin_)
def zfA (s:ByteArray) (γ:Nat → Nat):Int ⊕ Int → X × St
 | .inl a0=>(.ret,⟨bd 2 (vF false :: bd 12 []),[.it s a0]⟩)
 | .inr b0=>(.brk 0,⟨bd 15 [],[.it s b0]⟩)
instance {s}:InjS (zfA s):=⟨fun γ γ' x y h=>by
 rcases x with a0 | b0 <;> rcases y with a0' | b0' <;> simp only [zfA] at h <;> exact inj_⟩
def zhK (s:ByteArray) (at0:Int):Option (Int ⊕ Int):=asks (fun γ=>(lim F pr).loop [6,0] 1 ztv ⟨vT s :: bd 5 (.bptr 0 0 :: bd 8 []),[.it s at0]⟩) (zfA s)
def zfz (s:ByteArray) (at0:Int):Option (Int ⊕ Int):=
 xopt (zq1 s at0) (fun ⟨c,nx⟩=>
  (zsX s at0 c).bind fun res=>
  bif res then some (.inl nx) else
  zhK s nx)
  (some (.inr at0))
theorem zkT {s at0 r} (h:zfz s at0=some r):zhK s at0=some r:=by
 unfold zfz at h
 refine zao fun γ=>?_
 rcases ztb h with ⟨⟨c,nx⟩,h1,h⟩ | ⟨h1,h⟩
 obtain ⟨res,h2,h⟩:=zac h
 rcases zaa h with ⟨h3,h⟩ | ⟨h3,h⟩
 cases h;refine ⟨gam [],zad ?_⟩;rotate_left
 replace h:=zak h (gam []);obtain ⟨γ',h0⟩:=h;refine ⟨γ',zad ?_⟩;rotate_left
 cases h;refine ⟨gam [],zad ?_⟩;rotate_left
 all_goals (dsimp only [R1,zfA] at *;show zaT IF_ _ _ ztv zEo _=_;generalize ztv=c0 at *;exact fin_)
def zoN (s:ByteArray):Option (Bool):=
 (zhK s 0).bind fun r=>match r with
  | .inl at0=>
   some false
  | .inr at0=>
   some true
theorem zBb {s r} (h:zoN s=some r):zsW s=some r:=by
 unfold zoN at h
 refine zau ?_
 obtain ⟨r1,γ1,h1,h⟩:=zah h (gam [])
 rcases r1 with at0 | at0
 cases h;refine zab rfl ?_;rotate_left
 cases h;refine zab rfl ?_;rotate_left
 all_goals (dsimp only [R1,zfA] at *;show zas IF_ (g83F ztv) _ _=_;generalize ztv=c0 at *;exact fin_)
def zfy (s:ByteArray) (γ:Nat → Nat):(Int × Int) → X × St
 | (a0,a1)=>(.brk 0,⟨bd 3 (vI a0 :: bd 7 []),[.it s a1]⟩)
instance {s}:InjS (zfy s):=⟨fun γ γ' x y h=>by
 rcases x with ⟨a0,a1⟩ <;> rcases y with ⟨a0',a1'⟩ <;> simp only [zfy] at h <;> exact inj_⟩
def zhJ (s:ByteArray) (n:Int) (at0:Int):Option ((Int × Int)):=asks (fun γ=>(lim F pr).loop [5,3] 1 ztw ⟨bd 3 (vI n :: bd 1 (.bptr 0 0 :: bd 5 [])),[.it s at0]⟩) (zfy s)
def zig (s:ByteArray) (n:Int) (at0:Int):Option ((Int × Int)):=
 xopt (zq1 s at0) (fun ⟨c,nx⟩=>
  zhJ s (Ops.std.iadd .i64 n 1) nx)
  (some (n,at0))
theorem zpy {s n at0 r} (h:zig s n at0=some r):zhJ s n at0=some r:=by
 unfold zig at h
 refine zao fun γ=>?_
 rcases ztb h with ⟨⟨c,nx⟩,h1,h⟩ | ⟨h1,h⟩
 replace h:=zak h (gam []);obtain ⟨γ',h0⟩:=h;refine ⟨γ',zad ?_⟩;rotate_left
 cases h;refine ⟨gam [],zad ?_⟩;rotate_left
 all_goals (dsimp only [zfy] at *;show zaT IF_ _ _ ztw zEp _=_;generalize ztw=c0 at *;exact fin_)
def zoM (s:ByteArray):Option (Int):=
 (zhJ s 0 0).bind fun ⟨n,at0⟩=>
 some n
theorem zBa {s r} (h:zoM s=some r):zsV s=some r:=by
 unfold zoM at h
 refine zau ?_
 obtain ⟨r1,γ1,h1,h⟩:=zah h (gam [])
 rcases r1 with ⟨n,at0⟩
 cases h;refine zab rfl ?_;rotate_left
 all_goals (dsimp only [R1,zfy] at *;show zas IF_ (g84F ztw) _ _=_;generalize ztw=c0 at *;exact fin_)
def zf8 (γ:Nat → Nat):Int → X × St
 | a0=>(.brk 0,⟨bd 3 (vU a0 :: bd 15 []),[]⟩)
instance :InjS zf8:=⟨fun γ γ' x y h=>by
 rcases x with a0 <;> rcases y with a0' <;> simp only [zf8] at h <;> exact inj_⟩
def zk4 (s:ByteArray) (n:Int) (t7:Int):Option (Int):=asks (fun γ=>(lim F pr).loop [6,0,7,3] 0 zo3 ⟨vT s :: bd 2 (vU n :: bd 2 (vI (Ops.std.slen s) :: vI t7 :: bd 11 [])),[]⟩) zf8
def ziI (s:ByteArray) (n:Int) (t7:Int):Option (Int):=
 bif Ops.std.ilt t7 (Ops.std.slen s) then
  (zb3 s t7).bind fun b=>
  zk4 s (Ops.std.imul .u64 (Ops.std.ibit .xor .u64 n (Ops.std.iwrap .u64 b)) 1099511628211) (Ops.std.iadd .i64 t7 1)
 else
  some n
theorem zra {s n t7 r} (h:ziI s n t7=some r):zk4 s n t7=some r:=by
 unfold ziI at h
 refine zao fun γ=>?_
 rcases zaa h with ⟨h1,h⟩ | ⟨h1,h⟩
 obtain ⟨b,h2,h⟩:=bind_some h
 replace h:=zak h (gam []);obtain ⟨γ',h0⟩:=h;refine ⟨γ',zad ?_⟩;rotate_left
 cases h;refine ⟨gam [],zad ?_⟩;rotate_left
 all_goals (dsimp only [zf8] at *;show zaT IF_ _ _ zo3 zBE _=_;generalize zo3=c0 at *;exact fin_)
def zvw (s:ByteArray):Option (Int):=
 zk4 s 14695981039346656037 0
theorem zCN {s r} (h:zvw s=some r):zur s=some r:=by
 unfold zvw at h
 refine zau ?_
 obtain ⟨γ1,h1⟩:=zak h (gam [])
 rcases r with n
 refine zab rfl ?_;rotate_left
 all_goals (dsimp only [R1,zf8] at *;show zas IF_ (zHT zo3) _ _=_;generalize zo3=c0 at *;exact fin_)
def zpY (u:Int):Option (Int):=
 bif Ops.std.ilt 30 0 then none else
 bif Ops.std.ilt 27 0 then none else
 bif Ops.std.ilt 31 0 then none else
 some (Ops.std.ibit .xor .u64 (Ops.std.imul .u64 (Ops.std.ibit .xor .u64 (Ops.std.imul .u64 (Ops.std.ibit .xor .u64 u (Ops.std.ishr .u64 u 30)) 13787848793156543929) (Ops.std.ishr .u64 (Ops.std.imul .u64 (Ops.std.ibit .xor .u64 u (Ops.std.ishr .u64 u 30)) 13787848793156543929) 27)) 10723151780598845931) (Ops.std.ishr .u64 (Ops.std.imul .u64 (Ops.std.ibit .xor .u64 (Ops.std.imul .u64 (Ops.std.ibit .xor .u64 u (Ops.std.ishr .u64 u 30)) 13787848793156543929) (Ops.std.ishr .u64 (Ops.std.imul .u64 (Ops.std.ibit .xor .u64 u (Ops.std.ishr .u64 u 30)) 13787848793156543929) 27)) 10723151780598845931) 31))
theorem zCM {u r} (h:zpY u=some r):zuq u=some r:=by
 unfold zpY at h
 refine zau ?_
 obtain ⟨h1,h⟩:=zmi h
 obtain ⟨h2,h⟩:=zmi h
 obtain ⟨h3,h⟩:=zmi h
 cases h;refine zab rfl ?_;rotate_left
 all_goals (dsimp only [R1] at *;show zas IF_ zHS _ _=_;exact fin_)
abbrev zlI:=(Int × Int × Int × Int × Bool × Int × Int × Int × Job × Int × Int × Int × Bool × Int × Int × Int × (List Entry) × (List Entry) × (List Finger) × (List Pair) × (List Pend) × (List Job) × (List Result))
def zga (γ:Nat → Nat):zlI → X × St
 | (a0,a1,a2,a3,a4,a5,a6,a7,a8,a9,a10,a11,a12,a13,a14,a15,a16,a17,a18,a19,a20,a21,a22)=>(.ret,⟨bd 4 (.bptr 2 0 :: vI a0 :: vI 0 :: bd 36 []),[.box 34 [vU a1,vH a2,vI a3,vF a4,.sl 3 ((γ 3)),.sl 4 ((γ 4)),.sl 5 ((γ 5)),.sl 6 ((γ 6)),.sl 7 ((γ 7)),.sl 8 ((γ 8)),.sl 9 ((γ 9)),vW a5,vI a6,vI a7],.box 67 (cJob a8),.box 34 [vU a9,vH a10,vI a11,vF a12,.sl 3 ((γ 3)),.sl 4 ((γ 4)),.sl 5 ((γ 5)),.sl 6 ((γ 6)),.sl 7 ((γ 7)),.sl 8 ((γ 8)),.sl 9 ((γ 9)),vW a13,vI a14,vI a15],.row 81 (γ 3) false (List.map zat a16),.row 81 (γ 4) false (List.map zat a17),.row 84 (γ 5) false (List.map zae a18),.row 78 (γ 6) false (List.map zan a19),.row 88 (γ 7) false (List.map zaX a20),.row 67 (γ 8) false (List.map eJob a21),.row 60 (γ 9) false (List.map zal a22)]⟩)
instance :InjS zga:=⟨fun γ γ' x y h=>by
 rcases x with ⟨a0,a1,a2,a3,a4,a5,a6,a7,a8,a9,a10,a11,a12,a13,a14,a15,a16,a17,a18,a19,a20,a21,a22⟩ <;> rcases y with ⟨a0',a1',a2',a3',a4',a5',a6',a7',a8',a9',a10',a11',a12',a13',a14',a15',a16',a17',a18',a19',a20',a21',a22'⟩ <;> simp only [zga] at h <;> exact inj_⟩
def ziu (j:Job) (za0:Int) (zaN:Int) (zaZ:Int) (zaW:Bool) (zba:Int) (zaM:Int) (zaO:Int) (r3:List Entry) (r4:List Entry) (r5:List Finger) (r6:List Pair) (r7:List Pend) (r8:List Job) (r9:List Result):Option (zlI):=asks (fun γ=>(lim F pr).seg [4,5,6] zvf ⟨bd 2 (.bptr 0 0 :: .bptr 1 0 :: .bptr 2 0 :: bd 38 []),[.box 34 [vU za0,vH zaN,vI zaZ,vF zaW,.sl 3 ((γ 3)),.sl 4 ((γ 4)),.sl 5 ((γ 5)),.sl 6 ((γ 6)),.sl 7 ((γ 7)),.sl 8 ((γ 8)),.sl 9 ((γ 9)),vW zba,vI zaM,vI zaO],.box 67 (cJob j),.box 34 ([vU 0,vH 0,vI 0,vF false,.lit 0 true [],.lit 0 true [],.lit 0 true [],.lit 0 true [],.lit 0 true [],.lit 0 true [],.lit 0 true [],vW 0,vI 0,vI 0]),.row 81 (γ 3) false (List.map zat r3),.row 81 (γ 4) false (List.map zat r4),.row 84 (γ 5) false (List.map zae r5),.row 78 (γ 6) false (List.map zan r6),.row 88 (γ 7) false (List.map zaX r7),.row 67 (γ 8) false (List.map eJob r8),.row 60 (γ 9) false (List.map zal r9)]⟩) zga
def zlJ (j:Job) (za0:Int) (zaN:Int) (zaZ:Int) (zaW:Bool) (zba:Int) (zaM:Int) (zaO:Int) (r3:List Entry) (r4:List Entry) (r5:List Finger) (r6:List Pair) (r7:List Pend) (r8:List Job) (r9:List Result):Option (zlI):=
 (zqi (⟨(⟨za0,zaN⟩:Peer),zaZ,zaW,r3,r4,r5,r6,r7,r8,r9,zba,Ops.std.iadd .i64 zaM 1,zaO⟩:Node)).bind fun res=>
 bif zaV eJob 128 r8 [(⟨Ops.std.iadd .i64 zaM 1,j.kind,j.bit,j.key,j.val,j.target,j.via,j.at_,j.doing,j.hops,j.tries,Ops.std.iadd .i64 res 200⟩:Job)] then
  some (Ops.std.iadd .i64 zaM 1,za0,zaN,zaZ,zaW,zba,Ops.std.iadd .i64 zaM 1,zaO,(⟨Ops.std.iadd .i64 zaM 1,j.kind,j.bit,j.key,j.val,j.target,j.via,j.at_,j.doing,j.hops,j.tries,Ops.std.iadd .i64 res 200⟩:Job),za0,zaN,zaZ,zaW,zba,Ops.std.iadd .i64 zaM 1,zaO,r3,r4,r5,r6,r7,(r8 ++ [(⟨Ops.std.iadd .i64 zaM 1,j.kind,j.bit,j.key,j.val,j.target,j.via,j.at_,j.doing,j.hops,j.tries,Ops.std.iadd .i64 res 200⟩:Job)]),r9)
 else
  none
theorem zxH {j za0 zaN zaZ zaW zba zaM zaO r3 r4 r5 r6 r7 r8 r9 r} (h:zlJ j za0 zaN zaZ zaW zba zaM zaO r3 r4 r5 r6 r7 r8 r9=some r):ziu j za0 zaN zaZ zaW zba zaM zaO r3 r4 r5 r6 r7 r8 r9=some r:=by
 unfold zlJ at h
 refine zao fun γ=>?_
 obtain ⟨res,h1,h⟩:=zac h
 obtain ⟨h2,h⟩:=zaH h
 cases h;refine ⟨gam [0,0,0,(γ 3),(γ 4),(γ 5),(γ 6),(γ 7),((γ 8) + 1),(γ 9)],zaj ?_⟩;rotate_left
 all_goals (dsimp only [R1,zga] at *;show Ifc.apart IF_ _ zBD _=_;exact fin_)
def zp3 (n:Node) (j:Job):Option ((Node × Int × Int)):=
 (zcj n).bind fun ⟨zaF,zav,zaD,zay,zaG,zaC,zaq,zaz,zax,zaB,zar,zaK,zaE,zaw⟩=>
 bif Ops.std.ile 8 (xlen eJob zaB) then
  some ((⟨(⟨zaF,zav⟩:Peer),zaD,zay,zaG,zaC,zaq,zaz,zax,zaB,zar,zaK,zaE,zaw⟩:Node),0,10)
 else
  bif Ops.std.ilt zaE 0 then
   (ziu j zaF zav zaD zay zaK 0 zaw zaG zaC zaq zaz zax zaB zar).bind fun ⟨t5,za0,zaN,zaZ,zaW,zba,zaM,zaO,b1,zhg,zeh,zhe,zfJ,zlo,zbH,zei,r3,r4,r5,r6,r7,r8,r9⟩=>
   some ((⟨(⟨zhg,zeh⟩:Peer),zhe,zfJ,r3,r4,r5,r6,r7,r8,r9,zlo,zbH,zei⟩:Node),t5,0)
  else
   bif Ops.std.ile 1073741824 zaE then
    (ziu j zaF zav zaD zay zaK 0 zaw zaG zaC zaq zaz zax zaB zar).bind fun ⟨t5,za0,zaN,zaZ,zaW,zba,zaM,zaO,b1,zhg,zeh,zhe,zfJ,zlo,zbH,zei,r3,r4,r5,r6,r7,r8,r9⟩=>
    some ((⟨(⟨zhg,zeh⟩:Peer),zhe,zfJ,r3,r4,r5,r6,r7,r8,r9,zlo,zbH,zei⟩:Node),t5,0)
   else
    (ziu j zaF zav zaD zay zaK zaE zaw zaG zaC zaq zaz zax zaB zar).bind fun ⟨t5,za0,zaN,zaZ,zaW,zba,zaM,zaO,b1,zhg,zeh,zhe,zfJ,zlo,zbH,zei,r3,r4,r5,r6,r7,r8,r9⟩=>
    some ((⟨(⟨zhg,zeh⟩:Peer),zhe,zfJ,r3,r4,r5,r6,r7,r8,r9,zlo,zbH,zei⟩:Node),t5,0)
theorem zCR {n j r} (h:zp3 n j=some r):zus n j=some r:=by
 unfold zp3 at h
 refine zau ?_
 obtain ⟨r1,h1,h⟩:=zac h
 rcases r1 with ⟨zaF,zav,zaD,zay,zaG,zaC,zaq,zaz,zax,zaB,zar,zaK,zaE,zaw⟩
 rcases zaa h with ⟨h2,h⟩ | ⟨h2,h⟩
 cases h;refine zab rfl ?_;rotate_left
 rcases zaa h with ⟨h3,h⟩ | ⟨h3,h⟩
 obtain ⟨r4,γ2,h4,h⟩:=zah h (gam [0,0,0,0,0,0,0,0,0,0])
 rcases r4 with ⟨t5,za0,zaN,zaZ,zaW,zba,zaM,zaO,b1,zhg,zeh,zhe,zfJ,zlo,zbH,zei,r3,r4,r5,r6,r7,r8,r9⟩
 cases h;refine zab rfl ?_;rotate_left
 rcases zaa h with ⟨h4,h⟩ | ⟨h4,h⟩
 obtain ⟨r5,γ2,h5,h⟩:=zah h (gam [0,0,0,0,0,0,0,0,0,0])
 rcases r5 with ⟨t5,za0,zaN,zaZ,zaW,zba,zaM,zaO,b1,zhg,zeh,zhe,zfJ,zlo,zbH,zei,r3,r4,r5,r6,r7,r8,r9⟩
 cases h;refine zab rfl ?_;rotate_left
 obtain ⟨r5,γ2,h5,h⟩:=zah h (gam [0,0,0,0,0,0,0,0,0,0])
 rcases r5 with ⟨t5,za0,zaN,zaZ,zaW,zba,zaM,zaO,b1,zhg,zeh,zhe,zfJ,zlo,zbH,zei,r3,r4,r5,r6,r7,r8,r9⟩
 cases h;refine zab rfl ?_;rotate_left
 all_goals (dsimp only [R3,zga,zbu] at *;show zas IF_ (zHR zvf) _ _=_;generalize zvf=c0 at *;exact fin_)
def zoS (n:Node) (id:Int):Option ((Node × (List Out))):=
 (ztN n id).bind fun ⟨r1,b0_node,b0_job,r2⟩=>
 bif r1 then
  (zcP b0_node b0_job r2).bind fun ⟨b0_node1,zbm,r11,r21⟩=>
  (zfZ b0_node1 zbm r21).bind fun r0=>
  some (r0,r21)
 else
  (zfH b0_node b0_job r2).bind fun ⟨r0_0,r0_1,r0_2,r0_3,r0_4,r0_5,r0_7,r0_8,r0_9,r0_10,r0_11,r0_12,r0_13⟩=>
  some ((⟨(⟨r0_0,r0_1⟩:Peer),r0_2,r0_3,r0_4,r0_5,b0_node.fingers,r0_7,r0_8,r0_9,r0_10,r0_11,r0_12,r0_13⟩:Node),r2)
theorem zBh {n id r} (h:zoS n id=some r):zs5 n id=some r:=by
 unfold zoS at h
 refine zau ?_
 obtain ⟨r1,γ1,h1,h⟩:=zah h (gam [])
 rcases r1 with ⟨r1,b0_node,b0_job,r2⟩
 rcases zaa h with ⟨h2,h⟩ | ⟨h2,h⟩
 obtain ⟨r3,γ2,h3,h⟩:=zah h (gam [0,(γ1 1),(γ1 2)])
 rcases r3 with ⟨b0_node1,zbm,r11,r21⟩
 obtain ⟨r0,γ3,h4,h⟩:=zah h (gam [0,(γ2 2)])
 cases h;refine zab rfl ?_;rotate_left
 obtain ⟨r3,γ2,h3,h⟩:=zah h (gam [0,(γ1 1),(γ1 2)])
 rcases r3 with ⟨r0_0,r0_1,r0_2,r0_3,r0_4,r0_5,r0_7,r0_8,r0_9,r0_10,r0_11,r0_12,r0_13⟩
 cases h;refine zab rfl ?_;rotate_left
 all_goals (dsimp only [R2,zjC,zcm,zcO,zcQ] at *;show zas IF_ g41F _ _=_;exact fin_)
def zhp (γ:Nat → Nat):Int → X × St
 | a0=>(.brk 0,⟨bd 3 (vU a0 :: bd 16 []),[]⟩)
instance :InjS zhp:=⟨fun γ γ' x y h=>by
 rcases x with a0 <;> rcases y with a0' <;> simp only [zhp] at h <;> exact inj_⟩
def zmk (s:ByteArray) (n:Int) (i:Int):Option (Int):=asks (fun γ=>(lim F pr).loop [0,4,3] 0 zo4 ⟨vT s :: bd 2 (vU n :: vI i :: bd 15 []),[]⟩) zhp
def zjM (s:ByteArray) (n:Int) (i:Int):Option (Int):=
 bif Ops.std.ilt i (Ops.std.slen s) then
  (zb3 s i).bind fun b=>
  zmk s (Ops.std.imul .u64 (Ops.std.ibit .xor .u64 n (Ops.std.iwrap .u64 b)) 1099511628211) (Ops.std.iadd .i64 i 1)
 else
  some n
theorem zsp {s n i r} (h:zjM s n i=some r):zmk s n i=some r:=by
 unfold zjM at h
 refine zao fun γ=>?_
 rcases zaa h with ⟨h1,h⟩ | ⟨h1,h⟩
 obtain ⟨b,h2,h⟩:=bind_some h
 replace h:=zak h (gam []);obtain ⟨γ',h0⟩:=h;refine ⟨γ',zad ?_⟩;rotate_left
 cases h;refine ⟨gam [],zad ?_⟩;rotate_left
 all_goals (dsimp only [zhp] at *;show zaT IF_ _ _ zo4 zBG _=_;generalize zo4=c0 at *;exact fin_)
def zxo (s:ByteArray):Option (Int):=
 zmk s 14695981039346656037 0
theorem zFg {s r} (h:zxo s=some r):zwI s=some r:=by
 unfold zxo at h
 refine zau ?_
 obtain ⟨γ1,h1⟩:=zak h (gam [])
 rcases r with n
 refine zab rfl ?_;rotate_left
 all_goals (dsimp only [R1,zhp] at *;show zas IF_ (zHW zo4) _ _=_;generalize zo4=c0 at *;exact fin_)
def zsn (u:Int):Option (Int):=
 (zhq u 30).bind fun res=>
 (zhq (Ops.std.imul .u64 (Ops.std.ibit .xor .u64 u res) 13787848793156543929) 27).bind fun res1=>
 (zhq (Ops.std.imul .u64 (Ops.std.ibit .xor .u64 (Ops.std.imul .u64 (Ops.std.ibit .xor .u64 u res) 13787848793156543929) res1) 10723151780598845931) 31).bind fun res2=>
 some (Ops.std.ibit .xor .u64 (Ops.std.imul .u64 (Ops.std.ibit .xor .u64 (Ops.std.imul .u64 (Ops.std.ibit .xor .u64 u res) 13787848793156543929) res1) 10723151780598845931) res2)
theorem zFf {u r} (h:zsn u=some r):zwH u=some r:=by
 unfold zsn at h
 refine zau ?_
 obtain ⟨res,h1,h⟩:=zac h
 obtain ⟨res1,h2,h⟩:=zac h
 obtain ⟨res2,h3,h⟩:=zac h
 cases h;refine zab rfl ?_;rotate_left
 all_goals (dsimp only [R1] at *;show zas IF_ zHV _ _=_;exact fin_)
def zhy (n:Node) (γ:Nat → Nat):(Int × Int × Job × Int × (List Job)) → X × St
 | (a0,a1,a2,a3,a4)=>(.ret,⟨bd 4 (.bptr 2 0 :: vI a0 :: vI 0 :: bd 35 []),[.box 34 [vU n.me.id,vH n.me.addr,vI n.clock,vF n.joined,.lit 81 false (List.map zat n.pred),.lit 81 false (List.map zat n.list),.lit 84 false (List.map zae n.fingers),.lit 78 false (List.map zan n.store),.lit 88 false (List.map zaX n.pends),.sl 3 ((γ 3)),.lit 60 false (List.map zal n.results),vW n.rid,vI a1,vI n.nextBit],.box 67 (cJob a2),.box 34 [vU n.me.id,vH n.me.addr,vI n.clock,vF n.joined,.lit 81 false (List.map zat n.pred),.lit 81 false (List.map zat n.list),.lit 84 false (List.map zae n.fingers),.lit 78 false (List.map zan n.store),.lit 88 false (List.map zaX n.pends),.sl 3 ((γ 3)),.lit 60 false (List.map zal n.results),vW n.rid,vI a3,vI n.nextBit],.row 67 (γ 3) false (List.map eJob a4)]⟩)
instance {n}:InjS (zhy n):=⟨fun γ γ' x y h=>by
 rcases x with ⟨a0,a1,a2,a3,a4⟩ <;> rcases y with ⟨a0',a1',a2',a3',a4'⟩ <;> simp only [zhy] at h <;> exact inj_⟩
def zjU (n:Node) (j:Job) (id:Int):Option ((Int × Int × Job × Int × (List Job))):=asks (fun γ=>(lim F pr).seg [4,5,6] zvg ⟨bd 2 (.bptr 0 0 :: .bptr 1 0 :: .bptr 2 0 :: bd 2 (vI id :: bd 34 [])),[.box 34 (zam n),.box 67 (cJob j),.box 34 ([vU 0,vH 0,vI 0,vF false,.lit 0 true [],.lit 0 true [],.lit 0 true [],.lit 0 true [],.lit 0 true [],.lit 0 true [],.lit 0 true [],vW 0,vI 0,vI 0])]⟩) (zhy n)
def zmY (n:Node) (j:Job) (id:Int):Option ((Int × Int × Job × Int × (List Job))):=
 (ztL (⟨n.me,n.clock,n.joined,n.pred,n.list,n.fingers,n.store,n.pends,n.jobs,n.results,n.rid,id,n.nextBit⟩:Node)).bind fun res=>
 bif zaV eJob 128 [] n.jobs then
  bif zaV eJob 128 n.jobs [(⟨id,j.kind,j.bit,j.key,j.val,j.target,j.via,j.at_,j.doing,j.hops,j.tries,Ops.std.iadd .i64 res 200⟩:Job)] then
   some (id,id,(⟨id,j.kind,j.bit,j.key,j.val,j.target,j.via,j.at_,j.doing,j.hops,j.tries,Ops.std.iadd .i64 res 200⟩:Job),id,(n.jobs ++ [(⟨id,j.kind,j.bit,j.key,j.val,j.target,j.via,j.at_,j.doing,j.hops,j.tries,Ops.std.iadd .i64 res 200⟩:Job)]))
  else
   none
 else
  none
theorem zzF {n j id r} (h:zmY n j id=some r):zjU n j id=some r:=by
 unfold zmY at h
 refine zao fun γ=>?_
 obtain ⟨res,h1,h⟩:=zac h
 obtain ⟨h2,h⟩:=zaH h
 obtain ⟨h3,h⟩:=zaH h
 cases h;refine ⟨gam [0,0,0,1],zaj ?_⟩;rotate_left
 all_goals (dsimp only [R1,zhy] at *;show Ifc.apart IF_ _ zBF _=_;exact fin_)
def zsz (n:Node) (j:Job):Option ((Node × Int × Int)):=
 bif Ops.std.ilt 7 (xlen eJob n.jobs) then some (n,0,10) else
 bif Ops.std.ilt n.jobID 0 then
  (zjU n j 1).bind fun ⟨t5,zaM,b1,zbH,r3⟩=>
  some ((⟨n.me,n.clock,n.joined,n.pred,n.list,n.fingers,n.store,n.pends,r3,n.results,n.rid,zbH,n.nextBit⟩:Node),t5,0)
 else
  bif Ops.std.ile 1073741824 n.jobID then
   (zjU n j 1).bind fun ⟨t5,zaM,b1,zbH,r3⟩=>
   some ((⟨n.me,n.clock,n.joined,n.pred,n.list,n.fingers,n.store,n.pends,r3,n.results,n.rid,zbH,n.nextBit⟩:Node),t5,0)
  else
   (zjU n j (Ops.std.iadd .i64 n.jobID 1)).bind fun ⟨t5,zaM,b1,zbH,r3⟩=>
   some ((⟨n.me,n.clock,n.joined,n.pred,n.list,n.fingers,n.store,n.pends,r3,n.results,n.rid,zbH,n.nextBit⟩:Node),t5,0)
theorem zFn {n j r} (h:zsz n j=some r):zwO n j=some r:=by
 unfold zsz at h
 refine zau ?_
 rcases zaa h with ⟨h1,h⟩ | ⟨h1,h⟩
 cases h;refine zab rfl ?_;rotate_left
 rcases zaa h with ⟨h2,h⟩ | ⟨h2,h⟩
 obtain ⟨r3,γ1,h3,h⟩:=zah h (gam [])
 rcases r3 with ⟨t5,zaM,b1,zbH,r3⟩
 cases h;refine zab rfl ?_;rotate_left
 rcases zaa h with ⟨h3,h⟩ | ⟨h3,h⟩
 obtain ⟨r4,γ1,h4,h⟩:=zah h (gam [])
 rcases r4 with ⟨t5,zaM,b1,zbH,r3⟩
 cases h;refine zab rfl ?_;rotate_left
 obtain ⟨r4,γ1,h4,h⟩:=zah h (gam [])
 rcases r4 with ⟨t5,zaM,b1,zbH,r3⟩
 cases h;refine zab rfl ?_;rotate_left
 all_goals (dsimp only [R3,zhy] at *;show zas IF_ (zHU zvg) _ _=_;generalize zvg=c0 at *;exact fin_)
def zqK (n:Node) (id:Int):Option ((Node × (List Out))):=
 (zsK n id).bind fun res=>
 bif Ops.std.ilt res 0 then some (n,[]) else
 (xget eJob n.jobs res).bind fun x=>
 zuG n x
theorem zDx {n id r} (h:zqK n id=some r):zuF n id=some r:=by
 unfold zqK at h
 refine zau ?_
 obtain ⟨res,h1,h⟩:=zac h
 rcases zaa h with ⟨h2,h⟩ | ⟨h2,h⟩
 cases h;refine zab rfl ?_;rotate_left
 obtain ⟨x,h3,h⟩:=zac h
 have h4:=ask_some h
 rcases r with ⟨r0,r1⟩
 refine zab rfl ?_;rotate_left
 all_goals (dsimp only [R1,R2] at *;show zas IF_ g42F _ _=_;exact fin_)
def zrb (j:Job) (b0:Int):Option (Bool):=
 some (Ops.std.ieq j.kind b0)
theorem zxI {j b0 r} (h:zrb j b0=some r):zoc j b0=some r:=by
 unfold zrb at h
 refine zau ?_
 cases h;refine zab rfl ?_;rotate_left
 all_goals (dsimp only [zgb] at *;show zas IF_ zHY _ _=_;exact fin_)
def zc1 (b0:Int) (γ:Nat → Nat):Int ⊕ Unit → X × St
 | .inl a0=>(.ret,⟨bd 4 (vI a0 :: bd 14 []),[.box 3 [vI b0]]⟩)
 | .inr ()=>(.brk 0,⟨bd 19 [],[.box 3 [vI b0]]⟩)
instance {b0}:InjS (zc1 b0):=⟨fun γ γ' x y h=>by
 rcases x with a0 | _ <;> rcases y with a0' | _ <;> simp only [zc1] at h <;> exact inj_⟩
def zfR (s:List Job) (b0:Int) (t8:Int):Option (Int ⊕ Unit):=asks (fun γ=>(lim F pr).loop [7,1,0,8] 1 zhd ⟨.lit 67 false (List.map eJob s) :: .fn 161 [.bptr 0 0] :: bd 5 (vI (xlen eJob s) :: vI t8 :: bd 10 []),[.box 3 [vI b0]]⟩) (zc1 b0)
def zc0 (s:List Job) (b0:Int) (t8:Int):Option (Int ⊕ Unit):=
 bif Ops.std.ilt t8 (xlen eJob s) then
  (xget eJob s t8).bind fun x=>
  (zoc x b0).bind fun res=>
  bif res then some (.inl t8) else
  zfR s b0 (Ops.std.iadd .i64 t8 1)
 else
  some (.inr ())
theorem zg8 {s b0 t8 r} (h:zc0 s b0 t8=some r):zfR s b0 t8=some r:=by
 unfold zc0 at h
 refine zao fun γ=>?_
 rcases zaa h with ⟨h1,h⟩ | ⟨h1,h⟩
 obtain ⟨x,h2,h⟩:=zac h
 obtain ⟨res,h3,h⟩:=zac h
 rcases zaa h with ⟨h4,h⟩ | ⟨h4,h⟩
 cases h;refine ⟨gam [],zad ?_⟩;rotate_left
 replace h:=zak h (gam []);obtain ⟨γ',h0⟩:=h;refine ⟨γ',zad ?_⟩;rotate_left
 cases h;refine ⟨gam [],zad ?_⟩;rotate_left
 all_goals (dsimp only [zc1,zgb] at *;show zaT IF_ _ _ zhd zwf _=_;generalize zhd=c0 at *;exact fin_)
def zjD (s:List Job) (b0:Int):Option (Int):=
 (zfR s b0 0).bind fun r=>match r with
  | .inl t4=>
   some t4
  | .inr ()=>
   some (-1)
theorem zuX {s b0 r} (h:zjD s b0=some r):zlH s b0=some r:=by
 unfold zjD at h
 refine zau ?_
 obtain ⟨r1,γ1,h1,h⟩:=zah h (gam [])
 rcases r1 with t4 | _
 cases h;refine zab rfl ?_;rotate_left
 cases h;refine zab rfl ?_;rotate_left
 all_goals (dsimp only [zeg,zc1] at *;show zas IF_ (zCJ zhd) _ _=_;generalize zhd=c0 at *;exact fin_)
def zg3 (s:List Job) (b0:Int):Option (Bool):=
 (zlH s b0).bind fun res=>
 some (Ops.std.ile 0 res)
theorem zrD {s b0 r} (h:zg3 s b0=some r):zmx s b0=some r:=by
 unfold zg3 at h
 refine zau ?_
 obtain ⟨res,h1,h⟩:=zac h
 cases h;refine zab rfl ?_;rotate_left
 all_goals (dsimp only [zcY,zeg] at *;show zas IF_ zHX _ _=_;exact fin_)
def zfk (γ:Nat → Nat):Unit ⊕ Unit → X × St
 | .inl ()=>(.ret,⟨bd 4 (vF false :: bd 21 []),[]⟩)
 | .inr ()=>(.brk 0,⟨bd 26 [],[]⟩)
instance :InjS zfk:=⟨fun γ γ' x y h=>by
 rcases x with _ | _ <;> rcases y with _ | _ <;> simp only [zfk] at h <;> exact inj_⟩
def zhr (a:List Peer) (b:List Peer) (i:Int):Option (Unit ⊕ Unit):=asks (fun γ=>(lim F pr).loop [0,1,5] 0 zo0 ⟨.lit 25 false (List.map zai a) :: .lit 25 false (List.map zai b) :: bd 3 (vI i :: bd 20 []),[]⟩) zfk
def zck (a:List Peer) (b:List Peer) (i:Int):Option (Unit ⊕ Unit):=
 bif Ops.std.ilt i (xlen zai a) then
  (xget zai a i).bind fun x=>
  (xget zai b i).bind fun x1=>
  bif Ops.std.ieq x.id x1.id then
   bif Ops.std.ieq x.addr x1.addr then zhr a b (Ops.std.iadd .i64 i 1) else
   some (.inl ())
  else
   some (.inl ())
 else
  some (.inr ())
theorem zdM {a b i r} (h:zck a b i=some r):zhr a b i=some r:=by
 unfold zck at h
 refine zao fun γ=>?_
 rcases zaa h with ⟨h1,h⟩ | ⟨h1,h⟩
 obtain ⟨x,h2,h⟩:=zac h
 obtain ⟨x1,h3,h⟩:=zac h
 rcases zaa h with ⟨h4,h⟩ | ⟨h4,h⟩
 rcases zaa h with ⟨h5,h⟩ | ⟨h5,h⟩
 replace h:=zak h (gam []);obtain ⟨γ',h0⟩:=h;refine ⟨γ',zad ?_⟩;rotate_left
 cases h;refine ⟨gam [],zad ?_⟩;rotate_left
 cases h;refine ⟨gam [],zad ?_⟩;rotate_left
 cases h;refine ⟨gam [],zad ?_⟩;rotate_left
 all_goals (dsimp only [zfk] at *;show zaT IF_ _ _ zo0 zBv _=_;generalize zo0=c0 at *;exact fin_)
def zk7 (a:List Peer) (b:List Peer):Option (Bool):=
 bif Ops.std.ieq (xlen zai a) (xlen zai b) then
  (zhr a b 0).bind fun r=>match r with
   | .inl ()=>
    some false
   | .inr ()=>
    some true
 else
  some false
theorem zt3 {a b r} (h:zk7 a b=some r):znP a b=some r:=by
 unfold zk7 at h
 refine zau ?_
 rcases zaa h with ⟨h1,h⟩ | ⟨h1,h⟩
 obtain ⟨r2,γ1,h2,h⟩:=zah h (gam [])
 rcases r2 with _ | _
 cases h;refine zab rfl ?_;rotate_left
 cases h;refine zab rfl ?_;rotate_left
 cases h;refine zab rfl ?_;rotate_left
 all_goals (dsimp only [R1,zfk] at *;show zas IF_ (zHG zo0) _ _=_;generalize zo0=c0 at *;exact fin_)
def zrc (j:Job) (b0:Int):Option (Bool):=
 some (Ops.std.ieq j.id b0)
theorem zxJ {j b0 r} (h:zrc j b0=some r):zoe j b0=some r:=by
 unfold zrc at h
 refine zau ?_
 cases h;refine zab rfl ?_;rotate_left
 all_goals (dsimp only [zgc] at *;show zas IF_ zIj _ _=_;exact fin_)
def zcu (b0:Int) (γ:Nat → Nat):Int ⊕ Unit → X × St
 | .inl a0=>(.ret,⟨bd 4 (vI a0 :: bd 14 []),[.box 3 [vI b0]]⟩)
 | .inr ()=>(.brk 0,⟨bd 19 [],[.box 3 [vI b0]]⟩)
instance {b0}:InjS (zcu b0):=⟨fun γ γ' x y h=>by
 rcases x with a0 | _ <;> rcases y with a0' | _ <;> simp only [zcu] at h <;> exact inj_⟩
def zef (s:List Job) (b0:Int) (t8:Int):Option (Int ⊕ Unit):=asks (fun γ=>(lim F pr).loop [7,1,0,8] 1 zhd ⟨.lit 67 false (List.map eJob s) :: .fn 210 [.bptr 0 0] :: bd 5 (vI (xlen eJob s) :: vI t8 :: bd 10 []),[.box 3 [vI b0]]⟩) (zcu b0)
def zct (s:List Job) (b0:Int) (t8:Int):Option (Int ⊕ Unit):=
 bif Ops.std.ilt t8 (xlen eJob s) then
  (xget eJob s t8).bind fun x=>
  (zoe x b0).bind fun res=>
  bif res then some (.inl t8) else
  zef s b0 (Ops.std.iadd .i64 t8 1)
 else
  some (.inr ())
theorem zfQ {s b0 t8 r} (h:zct s b0 t8=some r):zef s b0 t8=some r:=by
 unfold zct at h
 refine zao fun γ=>?_
 rcases zaa h with ⟨h1,h⟩ | ⟨h1,h⟩
 obtain ⟨x,h2,h⟩:=zac h
 obtain ⟨res,h3,h⟩:=zac h
 rcases zaa h with ⟨h4,h⟩ | ⟨h4,h⟩
 cases h;refine ⟨gam [],zad ?_⟩;rotate_left
 replace h:=zak h (gam []);obtain ⟨γ',h0⟩:=h;refine ⟨γ',zad ?_⟩;rotate_left
 cases h;refine ⟨gam [],zad ?_⟩;rotate_left
 all_goals (dsimp only [zcu,zgc] at *;show zaT IF_ _ _ zhd zwf _=_;generalize zhd=c0 at *;exact fin_)
def zio (s:List Job) (b0:Int):Option (Int):=
 (zef s b0 0).bind fun r=>match r with
  | .inl t4=>
   some t4
  | .inr ()=>
   some (-1)
theorem ztQ {s b0 r} (h:zio s b0=some r):zno s b0=some r:=by
 unfold zio at h
 refine zau ?_
 obtain ⟨r1,γ1,h1,h⟩:=zah h (gam [])
 rcases r1 with t4 | _
 cases h;refine zab rfl ?_;rotate_left
 cases h;refine zab rfl ?_;rotate_left
 all_goals (dsimp only [zdw,zcu] at *;show zas IF_ (zCJ zhd) _ _=_;generalize zhd=c0 at *;exact fin_)
def zmy (i:Int) (j:Int) (r0:List Job):Option ((List Job)):=
 (xsub eJob r0 i j).bind fun ys=>
 (xsub eJob r0 j (xlen eJob r0)).bind fun ys1=>
 bif Ops.std.ieq i j then some r0 else
 (xsub eJob r0 0 i).bind fun ys2=>
 bif Ops.std.ieq 0 0 then
  bif Ops.std.ile (xlen eJob ys1) (Ops.std.isub .i64 (xlen eJob r0) i) then
   (xsub eJob (xput r0 i ys1) 0 (Ops.std.iadd .i64 i (xlen eJob ys1))).bind fun ys3=>
   (xsub eJob (xput r0 i ys1) (xlen eJob ys3) (xlen eJob r0)).bind fun ys4=>
   (xsub eJob (xfil (xput r0 i ys1) (xlen eJob ys3) (xlen eJob r0) (⟨0,0,0,⟨#[]⟩,⟨#[]⟩,0,(⟨0,0⟩:Peer),(⟨0,0⟩:Peer),false,0,0,0⟩:Job)) 0 (Ops.std.iadd .i64 i (xlen eJob ys1))).bind fun ys5=>
   some ys5
  else
   none
 else
  none
theorem zyC {i j r0 r} (h:zmy i j r0=some r):zpE i j r0=some r:=by
 unfold zmy at h
 refine zao fun γ=>?_
 obtain ⟨ys,h1,h⟩:=zac h
 obtain ⟨ys1,h2,h⟩:=zac h
 rcases zaa h with ⟨h3,h⟩ | ⟨h3,h⟩
 cases h;refine ⟨gam [γ 0],zab rfl ?_⟩;rotate_left
 obtain ⟨ys2,h4,h⟩:=zac h
 obtain ⟨h5,h⟩:=zaH h
 obtain ⟨h6,h⟩:=zaH h
 obtain ⟨ys3,h7,h⟩:=zac h
 obtain ⟨ys4,h8,h⟩:=zac h
 obtain ⟨ys5,h9,h⟩:=zac h
 cases h;refine ⟨gam [(γ 0 + 1)],zab rfl ?_⟩;rotate_left
 all_goals (dsimp only [zg4] at *;show zas IF_ zIr _ _=_;exact fin_)
def ze6 (j:Job) (has:Bool) (val:ByteArray) (e_:Int) (za0:Int) (zaN:Int) (zaZ:Int) (zaW:Bool) (zba:Int) (zaM:Int) (zaO:Int) (r1:List Entry) (r2:List Entry) (r3:List Finger) (r4:List Pair) (r5:List Pend) (r6:List Job) (r7:List Result) (γ:Nat → Nat):(List Result) → X × St
 | a0=>(.nor,⟨bd 53 [],[.box 34 [vU za0,vH zaN,vI zaZ,vF zaW,.sl 1 ((γ 1)),.sl 2 ((γ 2)),.sl 3 ((γ 3)),.sl 4 ((γ 4)),.sl 5 ((γ 5)),.sl 6 ((γ 6)),.sl 9 ((γ 9)),vW zba,vI zaM,vI zaO],.row 81 (γ 1) false (List.map zat r1),.row 81 (γ 2) false (List.map zat r2),.row 84 (γ 3) false (List.map zae r3),.row 78 (γ 4) false (List.map zan r4),.row 88 (γ 5) false (List.map zaX r5),.row 67 (γ 6) false (List.map eJob r6),.row 60 (γ 7) false (List.map zal (r7 ++ [(⟨j.id,j.kind,j.key,val,has,e_⟩:Result)])),.box 67 (cJob j),.row 60 (γ 9) false (List.map zal a0)]⟩)
instance {j has val e_ za0 zaN zaZ zaW zba zaM zaO r1 r2 r3 r4 r5 r6 r7}:InjS (ze6 j has val e_ za0 zaN zaZ zaW zba zaM zaO r1 r2 r3 r4 r5 r6 r7):=⟨fun γ γ' x y h=>by
 rcases x with a0 <;> rcases y with a0' <;> simp only [ze6] at h <;> exact inj_⟩
def zjG (j:Job) (has:Bool) (val:ByteArray) (e_:Int) (za0:Int) (zaN:Int) (zaZ:Int) (zaW:Bool) (zba:Int) (zaM:Int) (zaO:Int) (r1:List Entry) (r2:List Entry) (r3:List Finger) (r4:List Pair) (r5:List Pend) (r6:List Job) (r7:List Result):Option ((List Result)):=asks (fun γ=>(lim F pr).seg [] zvn ⟨.bptr 0 0 :: bd 1 (vF has :: vT val :: vI e_ :: bd 1 (.bptr 8 0 :: bd 46 [])),[.box 34 [vU za0,vH zaN,vI zaZ,vF zaW,.sl 1 ((γ 1)),.sl 2 ((γ 2)),.sl 3 ((γ 3)),.sl 4 ((γ 4)),.sl 5 ((γ 5)),.sl 6 ((γ 6)),.sl 7 ((γ 7)),vW zba,vI zaM,vI zaO],.row 81 (γ 1) false (List.map zat r1),.row 81 (γ 2) false (List.map zat r2),.row 84 (γ 3) false (List.map zae r3),.row 78 (γ 4) false (List.map zan r4),.row 88 (γ 5) false (List.map zaX r5),.row 67 (γ 6) false (List.map eJob r6),.row 60 (γ 7) false (List.map zal r7),.box 67 (cJob j)]⟩) (ze6 j has val e_ za0 zaN zaZ zaW zba zaM zaO r1 r2 r3 r4 r5 r6 r7)
def zpk (j:Job) (has:Bool) (val:ByteArray) (e_:Int) (za0:Int) (zaN:Int) (zaZ:Int) (zaW:Bool) (zba:Int) (zaM:Int) (zaO:Int) (r1:List Entry) (r2:List Entry) (r3:List Finger) (r4:List Pair) (r5:List Pend) (r6:List Job) (r7:List Result):Option ((List Result)):=
 bif zaV zal 64 r7 [(⟨j.id,j.kind,j.key,val,has,e_⟩:Result)] then
  bif Ops.std.ilt 0 (Ops.std.isub .i64 (xlen zal (r7 ++ [(⟨j.id,j.kind,j.key,val,has,e_⟩:Result)])) 16) then
   (xsub zal (r7 ++ [(⟨j.id,j.kind,j.key,val,has,e_⟩:Result)]) (Ops.std.isub .i64 (xlen zal (r7 ++ [(⟨j.id,j.kind,j.key,val,has,e_⟩:Result)])) 16) (xlen zal (r7 ++ [(⟨j.id,j.kind,j.key,val,has,e_⟩:Result)]))).bind fun ys=>
   bif zaV zal 64 [] ys then some ys else
   none
  else
   (xsub zal (r7 ++ [(⟨j.id,j.kind,j.key,val,has,e_⟩:Result)]) 0 (xlen zal (r7 ++ [(⟨j.id,j.kind,j.key,val,has,e_⟩:Result)]))).bind fun ys=>
   bif zaV zal 64 [] ys then some ys else
   none
 else
  none
theorem zww {j has val e_ za0 zaN zaZ zaW zba zaM zaO r1 r2 r3 r4 r5 r6 r7 r} (h:zpk j has val e_ za0 zaN zaZ zaW zba zaM zaO r1 r2 r3 r4 r5 r6 r7=some r):zjG j has val e_ za0 zaN zaZ zaW zba zaM zaO r1 r2 r3 r4 r5 r6 r7=some r:=by
 unfold zpk at h
 refine zao fun γ=>?_
 obtain ⟨h1,h⟩:=zaH h
 rcases zaa h with ⟨h2,h⟩ | ⟨h2,h⟩
 obtain ⟨ys,h3,h⟩:=zac h
 obtain ⟨h4,h⟩:=zaH h
 cases h;refine ⟨gam [0,(γ 1),(γ 2),(γ 3),(γ 4),(γ 5),(γ 6),((γ 7) + 1),0,0],zaj ?_⟩;rotate_left
 obtain ⟨ys,h3,h⟩:=zac h
 obtain ⟨h4,h⟩:=zaH h
 cases h;refine ⟨gam [0,(γ 1),(γ 2),(γ 3),(γ 4),(γ 5),(γ 6),((γ 7) + 1),0,0],zaj ?_⟩;rotate_left
 all_goals (dsimp only [ze6] at *;show Ifc.apart IF_ _ zBW _=_;exact fin_)
def zog (j:Job) (has:Bool) (val:ByteArray) (e_:Int) (za0:Int) (zaN:Int) (zaZ:Int) (zaW:Bool) (zba:Int) (zaM:Int) (zaO:Int) (r1:List Entry) (r2:List Entry) (r3:List Finger) (r4:List Pair) (r5:List Pend) (r6:List Job) (r7:List Result):Option (((List Result) × (List Result)) ⊕ Unit):=
 bif Ops.std.ieq j.kind 2 then
  (zjG j has val e_ za0 zaN zaZ zaW zba zaM zaO r1 r2 r3 r4 r5 r6 r7).bind fun r9=>
  some (.inl ((r7 ++ [(⟨j.id,j.kind,j.key,val,has,e_⟩:Result)]),r9))
 else
  bif Ops.std.ieq j.kind 3 then
   (zjG j has val e_ za0 zaN zaZ zaW zba zaM zaO r1 r2 r3 r4 r5 r6 r7).bind fun r9=>
   some (.inl ((r7 ++ [(⟨j.id,j.kind,j.key,val,has,e_⟩:Result)]),r9))
  else
   some (.inr ())
theorem zAB {j has val e_ za0 zaN zaZ zaW zba zaM zaO r1 r2 r3 r4 r5 r6 r7 r} (h:zog j has val e_ za0 zaN zaZ zaW zba zaM zaO r1 r2 r3 r4 r5 r6 r7=some r):zr6 j has val e_ za0 zaN zaZ zaW zba zaM zaO r1 r2 r3 r4 r5 r6 r7=some r:=by
 unfold zog at h
 refine zao fun γ=>?_
 rcases zaa h with ⟨h1,h⟩ | ⟨h1,h⟩
 obtain ⟨r9,γ1,h2,h⟩:=zah h (gam [0,γ 1,γ 2,γ 3,γ 4,γ 5,γ 6,γ 7])
 cases h;refine ⟨gam [0,(γ1 1),(γ1 2),(γ1 3),(γ1 4),(γ1 5),(γ1 6),(γ1 7),(γ1 9)],zab rfl ?_⟩;rotate_left
 rcases zaa h with ⟨h2,h⟩ | ⟨h2,h⟩
 obtain ⟨r9,γ1,h3,h⟩:=zah h (gam [0,γ 1,γ 2,γ 3,γ 4,γ 5,γ 6,γ 7])
 cases h;refine ⟨gam [0,(γ1 1),(γ1 2),(γ1 3),(γ1 4),(γ1 5),(γ1 6),(γ1 7),(γ1 9)],zab rfl ?_⟩;rotate_left
 cases h;refine ⟨gam [0,γ 1,γ 2,γ 3,γ 4,γ 5,γ 6,γ 7],zab rfl ?_⟩;rotate_left
 all_goals (dsimp only [ziw,ze6] at *;show zas IF_ (zIs zvn) _ _=_;generalize zvn=c0 at *;exact fin_)
end Go.Ab.Tryz
