/- Our texts for this statement, merged: what its theorem leads to. -/
import Derived.Test.YtjmmobicnfojeaaGreatDoorQWg10
set_option linter.unusedVariables false
set_option linter.unusedSimpArgs false
noncomputable section
namespace Go.Ab.Tryz
open Go Go.Ab Go.Proofs
set_option maxRecDepth 10000
set_option maxHeartbeats 4000000
def zmK (b0_node:Node) (b0_job:Job) (r1:List Out):Option (Node):=
 some b0_node
theorem zt1 {b0_node b0_job r1 r} (h:zmK b0_node b0_job r1=some r):zbe b0_node b0_job r1=some r:=by
 unfold zmK at h
 refine zap fun γ=>?_
 cases h;refine ⟨gam [0,γ 1],zab rfl ?_⟩;rotate_left
 all_goals (dsimp only [zbG] at *;show zar IF_ g97F _ _=_;exact fin_)
def zol (b0_node:Node) (b0_job:Job) (r2:List Out):Option (zkq):=
 some (b0_node.me.id,b0_node.me.addr,b0_node.clock,b0_node.joined,b0_node.pred,b0_node.list,b0_node.store,b0_node.pends,b0_node.jobs,b0_node.results,b0_node.rid,b0_node.jobID,b0_node.nextBit)
theorem zvP {b0_node b0_job r2 r} (h:zol b0_node b0_job r2=some r):zaY b0_node b0_job r2=some r:=by
 unfold zol at h
 refine zap fun γ=>?_
 cases h;refine ⟨gam [0,γ 1,γ 2],zab rfl ?_⟩;rotate_left
 all_goals (dsimp only [zbB] at *;show zar IF_ g97F _ _=_;exact fin_)
def zjI (n:Node) (id:Int):Option (Int):=
 (znZ n.jobs id).bind fun res=>
 bif Ops.std.ile 0 res then
  (xget eJob n.jobs res).bind fun x=>
  bif Ops.std.ilt x.kind 1 then some (-1) else
  bif Ops.std.ilt 4 x.kind then some (-1) else
  some res
 else
  some res
theorem zpJ {n id r} (h:zjI n id=some r):zkJ n id=some r:=by
 unfold zjI at h
 refine zas ?_
 obtain ⟨res,h1,h⟩:=zac h
 rcases zaa h with ⟨h2,h⟩ | ⟨h2,h⟩
 obtain ⟨x,h3,h⟩:=zac h
 rcases zaa h with ⟨h4,h⟩ | ⟨h4,h⟩
 cases h;refine zab rfl ?_;rotate_left
 rcases zaa h with ⟨h5,h⟩ | ⟨h5,h⟩
 cases h;refine zab rfl ?_;rotate_left
 cases h;refine zab rfl ?_;rotate_left
 cases h;refine zab rfl ?_;rotate_left
 all_goals (dsimp only [R1] at *;show zar IF_ zH8 _ _=_;exact fin_)
def zrM (n:Node) (j:Job):Option ((Node × (List Out))):=
 bif Ops.std.ieq j.kind 1 then
  ziw n (⟨j.id,j.kind,j.bit,j.key,j.val,j.target,j.via,j.at_,false,0,j.tries,j.due⟩:Job) j.via
 else
  (zvx n j.target).bind fun ⟨r0,r1,r2⟩=>
  bif r2 then
   zuK n (⟨j.id,j.kind,j.bit,j.key,j.val,j.target,j.via,j.at_,false,0,j.tries,j.due⟩:Job) r0
  else
   (xget zah r1 0).bind fun x=>
   ziw n (⟨j.id,j.kind,j.bit,j.key,j.val,j.target,j.via,j.at_,false,1,j.tries,j.due⟩:Job) x
theorem zEA {n j r} (h:zrM n j=some r):zkm n j=some r:=by
 unfold zrM at h
 refine zas ?_
 rcases zaa h with ⟨h1,h⟩ | ⟨h1,h⟩
 have h2:=ask_some h
 rcases r with ⟨r0,r1⟩
 refine zab rfl ?_;rotate_left
 obtain ⟨r2,h2,h⟩:=zac h
 rcases r2 with ⟨r0,r1,r2⟩
 rcases zaa h with ⟨h3,h⟩ | ⟨h3,h⟩
 have h4:=ask_some h
 rcases r with ⟨r01,r11⟩
 refine zab rfl ?_;rotate_left
 obtain ⟨x,h4,h⟩:=zac h
 have h5:=ask_some h
 rcases r with ⟨r01,r11⟩
 refine zab rfl ?_;rotate_left
 all_goals (dsimp only [R2,R3] at *;show zar IF_ zH9 _ _=_;exact fin_)
def zcq (why:Int) (b0_node:Node) (b0_job:Job) (r2:List Out):Option (zgS):=
 bif Ops.std.ieq b0_job.kind 1 then
  (zeO b0_node (⟨b0_job.id,b0_job.kind,b0_job.bit,b0_job.key,b0_job.val,b0_job.target,b0_job.via,b0_job.at_,false,b0_job.hops,b0_job.tries,b0_job.due⟩:Job) r2).bind fun ⟨b0_node1,r1⟩=>
  some (.inl (b0_node1,(⟨b0_job.id,b0_job.kind,b0_job.bit,b0_job.key,b0_job.val,b0_job.target,b0_job.via,b0_job.at_,false,b0_job.hops,b0_job.tries,b0_job.due⟩:Job),r1))
 else
  bif Ops.std.ieq b0_job.kind 4 then
   (zbk false ⟨#[]⟩ why b0_node b0_job r2).bind fun ⟨b0_node1,r1⟩=>
   some (.inr (b0_node1,b0_job,r1,r2))
  else
   bif Ops.std.ile 3 b0_job.tries then
    (zbk false ⟨#[]⟩ why b0_node b0_job r2).bind fun ⟨b0_node1,r1⟩=>
    some (.inr (b0_node1,b0_job,r1,r2))
   else
    bif Ops.std.ilt b0_job.tries 0 then
     (zda b0_node (⟨b0_job.id,b0_job.kind,b0_job.bit,b0_job.key,b0_job.val,b0_job.target,b0_job.via,b0_job.at_,b0_job.doing,b0_job.hops,Ops.std.iadd .i64 0 1,b0_job.due⟩:Job) r2).bind fun ⟨b0_node1,za5,r1,r21⟩=>
     some (.inr (b0_node1,za5,r1,r21))
    else
     (zda b0_node (⟨b0_job.id,b0_job.kind,b0_job.bit,b0_job.key,b0_job.val,b0_job.target,b0_job.via,b0_job.at_,b0_job.doing,b0_job.hops,Ops.std.iadd .i64 b0_job.tries 1,b0_job.due⟩:Job) r2).bind fun ⟨b0_node1,za5,r1,r21⟩=>
     some (.inr (b0_node1,za5,r1,r21))
theorem zeu {why b0_node b0_job r2 r} (h:zcq why b0_node b0_job r2=some r):zcE why b0_node b0_job r2=some r:=by
 unfold zcq at h
 refine zap fun γ=>?_
 rcases zaa h with ⟨h1,h⟩ | ⟨h1,h⟩
 obtain ⟨r2,γ1,h2,h⟩:=zag h (gam [0,γ 1,γ 2])
 rcases r2 with ⟨b0_node1,r1⟩
 cases h;refine ⟨gam [0,(γ1 1),(γ1 2),(γ1 3)],zab rfl ?_⟩;rotate_left
 rcases zaa h with ⟨h2,h⟩ | ⟨h2,h⟩
 obtain ⟨r3,γ1,h3,h⟩:=zag h (gam [0,γ 1,γ 2])
 rcases r3 with ⟨b0_node1,r1⟩
 cases h;refine ⟨gam [0,(γ1 1),(γ1 2)],zab rfl ?_⟩;rotate_left
 rcases zaa h with ⟨h3,h⟩ | ⟨h3,h⟩
 obtain ⟨r4,γ1,h4,h⟩:=zag h (gam [0,γ 1,γ 2])
 rcases r4 with ⟨b0_node1,r1⟩
 cases h;refine ⟨gam [0,(γ1 1),(γ1 2)],zab rfl ?_⟩;rotate_left
 rcases zaa h with ⟨h4,h⟩ | ⟨h4,h⟩
 obtain ⟨r5,γ1,h5,h⟩:=zag h (gam [0,γ 1,γ 2])
 rcases r5 with ⟨b0_node1,za5,r1,r21⟩
 cases h;refine ⟨gam [0,(γ1 1),(γ1 2)],zab rfl ?_⟩;rotate_left
 obtain ⟨r5,γ1,h5,h⟩:=zag h (gam [0,γ 1,γ 2])
 rcases r5 with ⟨b0_node1,za5,r1,r21⟩
 cases h;refine ⟨gam [0,(γ1 1),(γ1 2)],zab rfl ?_⟩;rotate_left
 all_goals (dsimp only [zbX,zdQ,zdb,zbr] at *;show zar IF_ g96F _ _=_;exact fin_)
def zi9 (a:Int) (x:Int) (b:Int):Option (Bool):=
 bif Ops.std.ieq x a then some false else
 bif Ops.std.ieq a b then some true else
 (zix a x).bind fun res=>
 (zix a b).bind fun res1=>
 some (Ops.std.ilt res res1)
theorem zqA {a x b r} (h:zi9 a x b=some r):zgg a x b=some r:=by
 unfold zi9 at h
 refine zas ?_
 rcases zaa h with ⟨h1,h⟩ | ⟨h1,h⟩
 cases h;refine zab rfl ?_;rotate_left
 rcases zaa h with ⟨h2,h⟩ | ⟨h2,h⟩
 cases h;refine zab rfl ?_;rotate_left
 obtain ⟨res,h3,h⟩:=zac h
 obtain ⟨res1,h4,h⟩:=zac h
 cases h;refine zab rfl ?_;rotate_left
 all_goals (dsimp only [R1] at *;show zar IF_ zIl _ _=_;exact fin_)
def zgU (p:Peer) (b1_node:Node) (b1_job:Job) (r3:List Out):Option (Bool):=
 bif Ops.std.ieq p.addr b1_node.me.addr then some false else
 zgg b1_job.at_.id p.id b1_job.target
theorem zrV {p b1_node b1_job r3 r} (h:zgU p b1_node b1_job r3=some r):ziM p b1_node b1_job r3=some r:=by
 unfold zgU at h
 refine zap fun γ=>?_
 rcases zaa h with ⟨h1,h⟩ | ⟨h1,h⟩
 cases h;refine ⟨gam [0,0,γ 2,γ 3],zab rfl ?_⟩;rotate_left
 have h2:=ask_some h
 rcases r with res
 refine ⟨gam [0,0,γ 2,γ 3],zab rfl ?_⟩;rotate_left
 all_goals (dsimp only [R1,zcU] at *;show zar IF_ zIH _ _=_;exact fin_)
def zcA (b1_node:Node) (b1_job:Job) (r3:List Out) (γ:Nat → Nat):Int ⊕ Unit → X × St
 | .inl a0=>(.ret,⟨bd 4 (vI a0 :: bd 14 []),[.box 120 [.bptr 1 0],.box 135 (capp (zaw b1_node (.sl 2 ((γ 2)))) (capp (cJob b1_job) ([.sl 3 ((γ 3))]))),.row 84 (γ 2) false (List.map zae b1_node.fingers),.row 56 (γ 3) false (List.map eOut r3)]⟩)
 | .inr ()=>(.brk 0,⟨bd 19 [],[.box 120 [.bptr 1 0],.box 135 (capp (zaw b1_node (.sl 2 ((γ 2)))) (capp (cJob b1_job) ([.sl 3 ((γ 3))]))),.row 84 (γ 2) false (List.map zae b1_node.fingers),.row 56 (γ 3) false (List.map eOut r3)]⟩)
instance {b1_node b1_job r3}:InjS (zcA b1_node b1_job r3):=⟨fun γ γ' x y h=>by
 rcases x with a0 | _ <;> rcases y with a0' | _ <;> simp only [zcA] at h <;> exact inj_⟩
def zeA (s:List Peer) (b1_node:Node) (b1_job:Job) (r3:List Out) (t8:Int):Option (Int ⊕ Unit):=asks (fun γ=>(lim F pr).loop [7,1,0,8] 4 zh3 ⟨.lit 25 false (List.map zah s) :: .fn 179 [.bptr 0 0] :: bd 5 (vI (xlen zah s) :: vI t8 :: bd 10 []),[.box 120 [.bptr 1 0],.box 135 (capp (zaw b1_node (.sl 2 ((γ 2)))) (capp (cJob b1_job) ([.sl 3 ((γ 3))]))),.row 84 (γ 2) false (List.map zae b1_node.fingers),.row 56 (γ 3) false (List.map eOut r3)]⟩) (zcA b1_node b1_job r3)
def zcz (s:List Peer) (b1_node:Node) (b1_job:Job) (r3:List Out) (t8:Int):Option (Int ⊕ Unit):=
 bif Ops.std.ilt t8 (xlen zah s) then
  (xget zah s t8).bind fun x=>
  (ziM x b1_node b1_job r3).bind fun res=>
  bif res then some (.inl t8) else
  zeA s b1_node b1_job r3 (Ops.std.iadd .i64 t8 1)
 else
  some (.inr ())
theorem zfz {s b1_node b1_job r3 t8 r} (h:zcz s b1_node b1_job r3 t8=some r):zeA s b1_node b1_job r3 t8=some r:=by
 unfold zcz at h
 refine zap fun γ=>?_
 rcases zaa h with ⟨h1,h⟩ | ⟨h1,h⟩
 obtain ⟨x,h2,h⟩:=zac h
 obtain ⟨res,γ1,h3,h⟩:=zag h (gam [0,0,(γ 2),(γ 3)])
 rcases zaa h with ⟨h4,h⟩ | ⟨h4,h⟩
 cases h;refine ⟨gam [0,0,(γ1 2),(γ1 3)],zad ?_⟩;rotate_left
 replace h:=zal h (gam [0,0,(γ1 2),(γ1 3)]);obtain ⟨γ',h0⟩:=h;refine ⟨γ',zad ?_⟩;rotate_left
 cases h;refine ⟨gam [0,0,(γ 2),(γ 3)],zad ?_⟩;rotate_left
 all_goals (dsimp only [zcA,zcU] at *;show zaR IF_ _ _ zh3 zw2 _=_;generalize zh3=c0 at *;exact fin_)
def zh0 (s:List Peer) (b1_node:Node) (b1_job:Job) (r3:List Out):Option (Int):=
 (zeA s b1_node b1_job r3 0).bind fun r=>match r with
  | .inl t4=>
   some t4
  | .inr ()=>
   some (-1)
theorem zsA {s b1_node b1_job r3 r} (h:zh0 s b1_node b1_job r3=some r):zkg s b1_node b1_job r3=some r:=by
 unfold zh0 at h
 refine zap fun γ=>?_
 obtain ⟨r1,γ1,h1,h⟩:=zag h (gam [0,0,γ 2,γ 3])
 rcases r1 with t4 | _
 cases h;refine ⟨gam [0,0,(γ1 2),(γ1 3)],zab rfl ?_⟩;rotate_left
 cases h;refine ⟨gam [0,0,(γ1 2),(γ1 3)],zab rfl ?_⟩;rotate_left
 all_goals (dsimp only [zdo,zcA] at *;show zar IF_ (zDO zh3) _ _=_;generalize zh3=c0 at *;exact fin_)
def zfl (l:List Peer) (b0_node:Node) (b0_job:Job) (r2:List Out):Option (zfk):=
 (zkg l b0_node b0_job r2).bind fun res=>
 bif Ops.std.ilt res 0 then zcE 15 b0_node b0_job r2 else
 bif Ops.std.ilt b0_job.hops 64 then
  bif Ops.std.ilt b0_job.hops 0 then
   (xget zah l res).bind fun x=>
   (zcF x b0_node (⟨b0_job.id,b0_job.kind,b0_job.bit,b0_job.key,b0_job.val,b0_job.target,b0_job.via,b0_job.at_,b0_job.doing,Ops.std.iadd .i64 0 1,b0_job.tries,b0_job.due⟩:Job) r2).bind fun ⟨b0_node1,za5,r1,r21⟩=>
   some (.inr (b0_node1,za5,r1,r21))
  else
   (xget zah l res).bind fun x=>
   (zcF x b0_node (⟨b0_job.id,b0_job.kind,b0_job.bit,b0_job.key,b0_job.val,b0_job.target,b0_job.via,b0_job.at_,b0_job.doing,Ops.std.iadd .i64 b0_job.hops 1,b0_job.tries,b0_job.due⟩:Job) r2).bind fun ⟨b0_node1,za5,r1,r21⟩=>
   some (.inr (b0_node1,za5,r1,r21))
 else
  bif Ops.std.ieq b0_job.kind 1 then zcE 19 b0_node b0_job r2 else
  (zbk false ⟨#[]⟩ 19 b0_node b0_job r2).bind fun ⟨b0_node1,r1⟩=>
  some (.inr (b0_node1,b0_job,r1,r2))
theorem zmO {l b0_node b0_job r2 r} (h:zfl l b0_node b0_job r2=some r):zgT l b0_node b0_job r2=some r:=by
 unfold zfl at h
 refine zap fun γ=>?_
 obtain ⟨res,γ1,h1,h⟩:=zag h (gam [0,0,γ 1,γ 2])
 rcases zaa h with ⟨h2,h⟩ | ⟨h2,h⟩
 obtain ⟨γ2,h3⟩:=zal h (gam [0,(γ1 2),(γ1 3)])
 rcases r with ⟨b0_node1,za5,r1⟩ | ⟨b0_node1,za5,r1,r21⟩
 refine ⟨gam [0,(γ2 1),(γ2 2),(γ2 3)],zab rfl ?_⟩;rotate_left
 refine ⟨gam [0,(γ2 1),(γ2 2)],zab rfl ?_⟩;rotate_left
 rcases zaa h with ⟨h3,h⟩ | ⟨h3,h⟩
 rcases zaa h with ⟨h4,h⟩ | ⟨h4,h⟩
 obtain ⟨x,h5,h⟩:=zac h
 obtain ⟨r6,γ2,h6,h⟩:=zag h (gam [0,(γ1 2),(γ1 3)])
 rcases r6 with ⟨b0_node1,za5,r1,r21⟩
 cases h;refine ⟨gam [0,(γ2 1),(γ2 2)],zab rfl ?_⟩;rotate_left
 obtain ⟨x,h5,h⟩:=zac h
 obtain ⟨r6,γ2,h6,h⟩:=zag h (gam [0,(γ1 2),(γ1 3)])
 rcases r6 with ⟨b0_node1,za5,r1,r21⟩
 cases h;refine ⟨gam [0,(γ2 1),(γ2 2)],zab rfl ?_⟩;rotate_left
 rcases zaa h with ⟨h4,h⟩ | ⟨h4,h⟩
 obtain ⟨γ2,h5⟩:=zal h (gam [0,(γ1 2),(γ1 3)])
 rcases r with ⟨b0_node1,za5,r1⟩ | ⟨b0_node1,za5,r1,r21⟩
 refine ⟨gam [0,(γ2 1),(γ2 2),(γ2 3)],zab rfl ?_⟩;rotate_left
 refine ⟨gam [0,(γ2 1),(γ2 2)],zab rfl ?_⟩;rotate_left
 obtain ⟨r5,γ2,h5,h⟩:=zag h (gam [0,(γ1 2),(γ1 3)])
 rcases r5 with ⟨b0_node1,r1⟩
 cases h;refine ⟨gam [0,(γ2 1),(γ2 2)],zab rfl ?_⟩;rotate_left
 all_goals (dsimp only [zdo,zbX,zc9,zdC,zbr] at *;show zar IF_ zIb _ _=_;exact fin_)
def zhy (n:Node) (γ:Nat → Nat):((List Out) × Job × Node) → X × St
 | (a0,a1,a2)=>(.ret,⟨bd 6 (.bptr 2 0 :: .lit 56 false (List.map eOut a0) :: bd 32 []),[.box 34 (zao n),.box 67 (cJob a1),.box 34 (zao a2),.row 56 (γ 3) false (List.map eOut [])]⟩)
instance {n}:InjS (zhy n):=⟨fun γ γ' x y h=>by
 rcases x with ⟨a0,a1,a2⟩ <;> rcases y with ⟨a0',a1',a2'⟩ <;> simp only [zhy] at h <;> exact inj_⟩
def zpH (n:Node) (j:Job):Option (((List Out) × Job × Node)):=asks (fun γ=>(lim F pr).seg [6,7] zv1 ⟨bd 3 (.bptr 0 0 :: .bptr 1 0 :: bd 1 (.bptr 2 0 :: bd 33 [])),[.box 34 (zao n),.box 67 (cJob j),.box 34 ([vU 0,vH 0,vI 0,vF false,.lit 0 true [],.lit 0 true [],.lit 0 true [],.lit 0 true [],.lit 0 true [],.lit 0 true [],.lit 0 true [],vW 0,vI 0,vI 0]),.row 56 (γ 3) false (List.map eOut [])]⟩) (zhy n)
def zj8 (n:Node) (j:Job):Option (((List Out) × Job × Node)):=
 bif Ops.std.ilt j.tries 0 then
  (zkm n (⟨j.id,j.kind,j.bit,j.key,j.val,j.target,j.via,j.at_,j.doing,j.hops,Ops.std.iadd .i64 0 1,j.due⟩:Job)).bind fun ⟨r0,r1⟩=>
  some (r1,(⟨j.id,j.kind,j.bit,j.key,j.val,j.target,j.via,j.at_,j.doing,j.hops,Ops.std.iadd .i64 0 1,j.due⟩:Job),r0)
 else
  (zkm n (⟨j.id,j.kind,j.bit,j.key,j.val,j.target,j.via,j.at_,j.doing,j.hops,Ops.std.iadd .i64 j.tries 1,j.due⟩:Job)).bind fun ⟨r0,r1⟩=>
  some (r1,(⟨j.id,j.kind,j.bit,j.key,j.val,j.target,j.via,j.at_,j.doing,j.hops,Ops.std.iadd .i64 j.tries 1,j.due⟩:Job),r0)
theorem zso {n j r} (h:zj8 n j=some r):zpH n j=some r:=by
 unfold zj8 at h
 refine zap fun γ=>?_
 rcases zaa h with ⟨h1,h⟩ | ⟨h1,h⟩
 obtain ⟨r2,h2,h⟩:=zac h
 rcases r2 with ⟨r0,r1⟩
 cases h;refine ⟨gam [0,0,0,(γ 3)],zak ?_⟩;rotate_left
 obtain ⟨r2,h2,h⟩:=zac h
 rcases r2 with ⟨r0,r1⟩
 cases h;refine ⟨gam [0,0,0,(γ 3)],zak ?_⟩;rotate_left
 all_goals (dsimp only [R2,zhy] at *;show Ifc.apart IF_ _ zCn _=_;exact fin_)
def zrL (n:Node) (j:Job) (why:Int):Option ((Node × (List Out))):=
 bif Ops.std.ieq j.kind 1 then
  (zf7 n (⟨j.id,j.kind,j.bit,j.key,j.val,j.target,j.via,j.at_,false,j.hops,j.tries,j.due⟩:Job)).bind fun res=>
  some (res,[])
 else
  bif Ops.std.ieq j.kind 4 then
   (zbI n j false ⟨#[]⟩ why).bind fun res=>
   some (res,[])
  else
   bif Ops.std.ile 3 j.tries then
    (zbI n j false ⟨#[]⟩ why).bind fun res=>
    some (res,[])
   else
    (zpH n j).bind fun ⟨t7,b1,b2⟩=>
    some (b2,t7)
theorem zEy {n j why r} (h:zrL n j why=some r):zkl n j why=some r:=by
 unfold zrL at h
 refine zas ?_
 rcases zaa h with ⟨h1,h⟩ | ⟨h1,h⟩
 obtain ⟨res,h2,h⟩:=zac h
 cases h;refine zab rfl ?_;rotate_left
 rcases zaa h with ⟨h2,h⟩ | ⟨h2,h⟩
 obtain ⟨res,h3,h⟩:=zac h
 cases h;refine zab rfl ?_;rotate_left
 rcases zaa h with ⟨h3,h⟩ | ⟨h3,h⟩
 obtain ⟨res,h4,h⟩:=zac h
 cases h;refine zab rfl ?_;rotate_left
 obtain ⟨r4,γ1,h4,h⟩:=zag h (gam [0,0,0,0])
 rcases r4 with ⟨t7,b1,b2⟩
 cases h;refine zab rfl ?_;rotate_left
 all_goals (dsimp only [R1,R2,zhy] at *;show zar IF_ (zIc zv1) _ _=_;generalize zv1=c0 at *;exact fin_)
abbrev zk9:=((List Out) × Node × Node) ⊕ ((Node × Node × Node) ⊕ ((Node × Node) ⊕ (Node × Node)))
def ziv (j:Job) (owner:Peer) (γ:Nat → Nat):zk9 → X × St
 | .inl (a0,a1,a2)=>(.ret,⟨bd 6 (.bptr 3 0 :: .lit 56 false (List.map eOut a0) :: bd 123 []),[.box 34 (zao a1),.box 67 (cJob j),.box 25 [vU owner.id,vH owner.addr],.box 34 (zao a2),.row 56 (γ 4) false (List.map eOut [])]⟩)
 | .inr (.inl (b0,b1,b2))=>(.ret,⟨bd 6 (.bptr 3 0 :: .sl 6 ((γ 6)) :: bd 123 []),[.box 34 (zao b0),.box 67 (cJob j),.box 25 [vU owner.id,vH owner.addr],.box 34 (zao b1),.row 56 (γ 4) false (List.map eOut []),.box 34 (zao b2),.row 56 (γ 6) false (List.map eOut [])]⟩)
 | .inr (.inr (.inl (c0,c1)))=>(.ret,⟨bd 6 (.bptr 3 0 :: .sl 5 ((γ 5)) :: bd 123 []),[.box 34 (zao c0),.box 67 (cJob j),.box 25 [vU owner.id,vH owner.addr],.box 34 (zao c1),.row 56 (γ 4) false (List.map eOut []),.row 56 (γ 5) false (List.map eOut [])]⟩)
 | .inr (.inr (.inr (d0,d1)))=>(.ret,⟨bd 6 (.bptr 3 0 :: .sl 6 ((γ 6)) :: bd 123 []),[.box 34 (zaw d0 (.sl 5 ((γ 5)))),.box 67 (cJob j),.box 25 [vU owner.id,vH owner.addr],.box 34 (zao d1),.row 56 (γ 4) false (List.map eOut []),.row 84 (γ 5) true (List.map zae d0.fingers),.row 56 (γ 6) false (List.map eOut [])]⟩)
instance {j owner}:InjS (ziv j owner):=⟨fun γ γ' x y h=>by
 rcases x with ⟨a0,a1,a2⟩ | ⟨b0,b1,b2⟩ | ⟨c0,c1⟩ | ⟨d0,d1⟩ <;> rcases y with ⟨a0',a1',a2'⟩ | ⟨b0',b1',b2'⟩ | ⟨c0',c1'⟩ | ⟨d0',d1'⟩ <;> simp only [ziv] at h <;> exact inj_⟩
def zk8 (n:Node) (j:Job) (owner:Peer):Option (zk9):=asks (fun γ=>(lim F pr).seg [6,7] zv2 ⟨bd 3 (.bptr 0 0 :: .bptr 1 0 :: .bptr 2 0 :: .bptr 3 0 :: bd 124 []),[.box 34 (zao n),.box 67 (cJob j),.box 25 [vU owner.id,vH owner.addr],.box 34 ([vU 0,vH 0,vI 0,vF false,.lit 0 true [],.lit 0 true [],.lit 0 true [],.lit 0 true [],.lit 0 true [],.lit 0 true [],.lit 0 true [],vW 0,vI 0,vI 0]),.row 56 (γ 4) false (List.map eOut [])]⟩) (ziv j owner)
def ziu (j:Job) (owner:Peer) (γ:Nat → Nat):(Node × (List Finger)) → X × St
 | (a0,a1)=>(.brk 0,⟨bd 3 (.bptr 0 0 :: .bptr 1 0 :: bd 1 (.bptr 3 0 :: bd 6 (.sl 5 ((γ 5)) :: bd 117 []))),[.box 34 (zao a0),.box 67 (cJob j),.box 25 [vU owner.id,vH owner.addr],.box 34 ([vU 0,vH 0,vI 0,vF false,.lit 0 true [],.lit 0 true [],.lit 0 true [],.lit 0 true [],.lit 0 true [],.lit 0 true [],.lit 0 true [],vW 0,vI 0,vI 0]),.row 56 (γ 4) false (List.map eOut []),.row 84 (γ 5) false (List.map zae a1)]⟩)
instance {j owner}:InjS (ziu j owner):=⟨fun γ γ' x y h=>by
 rcases x with ⟨a0,a1⟩ <;> rcases y with ⟨a0',a1'⟩ <;> simp only [ziu] at h <;> exact inj_⟩
def zi7 (j:Job) (owner:Peer) (i:Int) (b0:Node) (r5:List Finger):Option ((Node × (List Finger))):=asks (fun γ=>(lim F pr).loop [14,13,3,4,6] 6 zp0 ⟨bd 3 (.bptr 0 0 :: .bptr 1 0 :: bd 1 (.bptr 3 0 :: bd 6 (.sl 5 ((γ 5)) :: vI i :: bd 116 []))),[.box 34 (zao b0),.box 67 (cJob j),.box 25 [vU owner.id,vH owner.addr],.box 34 ([vU 0,vH 0,vI 0,vF false,.lit 0 true [],.lit 0 true [],.lit 0 true [],.lit 0 true [],.lit 0 true [],.lit 0 true [],.lit 0 true [],vW 0,vI 0,vI 0]),.row 56 (γ 4) false (List.map eOut []),.row 84 (γ 5) false (List.map zae r5)]⟩) (ziu j owner)
def zdr (n:Node) (j:Job) (owner:Peer):Option (zk9):=
 (zf7 n j).bind fun res=>
 bif Ops.std.ieq j.kind 1 then
  (zuJ res j j.via).bind fun ⟨r0,r1⟩=>
  some (.inl (r1,res,r0))
 else
  bif Ops.std.ieq j.kind 2 then
   (zvz res j.key j.val).bind fun ⟨r0,r1,r2⟩=>
   bif Ops.std.ieq r2 0 then
    (zbI r0 j true j.val 0).bind fun res1=>
    some (.inl (r1,res,res1))
   else
    (zbI res j false ⟨#[]⟩ r2).bind fun res1=>
    some (.inr (.inl (res,res1,r0)))
  else
   bif Ops.std.ieq j.kind 3 then
    (zxw res.store j.key).bind fun ⟨r0,r1⟩=>
    (zbI res j r1 r0 0).bind fun res1=>
    some (.inr (.inr (.inl (res,res1))))
   else
    bif Ops.std.ieq owner.addr res.me.addr then
     (zi7 j owner 0 res []).bind fun ⟨b0,r5⟩=>
     (zbI (⟨b0.me,b0.clock,b0.joined,b0.pred,b0.list,r5,b0.store,b0.pends,b0.jobs,b0.results,b0.rid,b0.jobID,b0.nextBit⟩:Node) j false ⟨#[]⟩ 0).bind fun res1=>
     some (.inr (.inr (.inr ((⟨b0.me,b0.clock,b0.joined,b0.pred,b0.list,r5,b0.store,b0.pends,b0.jobs,b0.results,b0.rid,b0.jobID,b0.nextBit⟩:Node),res1))))
    else
     (zxv res.fingers j.bit owner).bind fun res1=>
     (zbI (⟨res.me,res.clock,res.joined,res.pred,res.list,res1,res.store,res.pends,res.jobs,res.results,res.rid,res.jobID,res.nextBit⟩:Node) j false ⟨#[]⟩ 0).bind fun res2=>
     some (.inr (.inr (.inl ((⟨res.me,res.clock,res.joined,res.pred,res.list,res1,res.store,res.pends,res.jobs,res.results,res.rid,res.jobID,res.nextBit⟩:Node),res2))))
theorem zgf {n j owner r} (h:zdr n j owner=some r):zk8 n j owner=some r:=by
 unfold zdr at h
 refine zap fun γ=>?_
 obtain ⟨res,h1,h⟩:=zac h
 rcases zaa h with ⟨h2,h⟩ | ⟨h2,h⟩
 obtain ⟨r3,h3,h⟩:=zac h
 rcases r3 with ⟨r0,r1⟩
 cases h;refine ⟨gam [0,0,0,0,(γ 4)],zak ?_⟩;rotate_left
 rcases zaa h with ⟨h3,h⟩ | ⟨h3,h⟩
 obtain ⟨r4,h4,h⟩:=zac h
 rcases r4 with ⟨r0,r1,r2⟩
 rcases zaa h with ⟨h5,h⟩ | ⟨h5,h⟩
 obtain ⟨res1,h6,h⟩:=zac h
 cases h;refine ⟨gam [0,0,0,0,(γ 4)],zak ?_⟩;rotate_left
 obtain ⟨res1,h6,h⟩:=zac h
 cases h;refine ⟨gam [0,0,0,0,(γ 4),0,0],zak ?_⟩;rotate_left
 rcases zaa h with ⟨h4,h⟩ | ⟨h4,h⟩
 obtain ⟨r5,h5,h⟩:=zac h
 rcases r5 with ⟨r0,r1⟩
 obtain ⟨res1,h6,h⟩:=zac h
 cases h;refine ⟨gam [0,0,0,0,(γ 4),0],zak ?_⟩;rotate_left
 rcases zaa h with ⟨h5,h⟩ | ⟨h5,h⟩
 obtain ⟨r6,γ2,h6,h⟩:=zag h (gam [0,0,0,0,(γ 4),0])
 rcases r6 with ⟨b0,r5⟩
 obtain ⟨res1,h7,h⟩:=zac h
 cases h;refine ⟨gam [0,0,0,0,(γ2 4),(γ2 5),0],zak ?_⟩;rotate_left
 obtain ⟨res1,h6,h⟩:=zac h
 obtain ⟨res2,h7,h⟩:=zac h
 cases h;refine ⟨gam [0,0,0,0,(γ 4),0],zak ?_⟩;rotate_left
 all_goals (dsimp only [R1,R2,R3,ziu,ziv] at *;show Ifc.apart IF_ _ (zCp zp0) _=_;generalize zp0=c0 at *;exact fin_)
def zk7 (j:Job) (owner:Peer) (i:Int) (b0:Node) (r5:List Finger):Option ((Node × (List Finger))):=
 bif Ops.std.ilt i (xlen zae b0.fingers) then
  (xget zae b0.fingers i).bind fun x=>
  bif Ops.std.ieq x.bit j.bit then zi7 j owner (Ops.std.iadd .i64 i 1) b0 r5 else
  bif zaK zae 24 r5 [x] then zi7 j owner (Ops.std.iadd .i64 i 1) b0 (r5 ++ [x]) else
  none
 else
  some (b0,r5)
theorem ztA {j owner i b0 r5 r} (h:zk7 j owner i b0 r5=some r):zi7 j owner i b0 r5=some r:=by
 unfold zk7 at h
 refine zap fun γ=>?_
 rcases zaa h with ⟨h1,h⟩ | ⟨h1,h⟩
 obtain ⟨x,h2,h⟩:=zac h
 rcases zaa h with ⟨h3,h⟩ | ⟨h3,h⟩
 replace h:=zal h (gam [0,0,0,0,(γ 4),(γ 5)]);obtain ⟨γ',h0⟩:=h;refine ⟨γ',zad ?_⟩;rotate_left
 obtain ⟨h4,h⟩:=zat h
 replace h:=zal h (gam [0,0,0,0,(γ 4),((γ 5) + 1)]);obtain ⟨γ',h0⟩:=h;refine ⟨γ',zad ?_⟩;rotate_left
 cases h;refine ⟨gam [0,0,0,0,(γ 4),(γ 5)],zad ?_⟩;rotate_left
 all_goals (dsimp only [ziu] at *;show zaR IF_ _ _ zp0 zCo _=_;generalize zp0=c0 at *;exact fin_)
def ztz (n:Node) (j:Job) (owner:Peer):Option ((Node × (List Out))):=
 bif Ops.std.ieq owner.addr n.me.addr then
  (zk8 n j owner).bind fun r=>match r with
   | .inl (t7,b0,b3)=>
    some (b3,t7)
   | .inr (.inl (b0,b3,b5))=>
    some (b3,[])
   | .inr (.inr (.inl (b0,b3)))=>
    some (b3,[])
   | .inr (.inr (.inr (b0,b3)))=>
    some (b3,[])
 else
  bif Ops.std.ieq j.kind 4 then
   (zk8 n j owner).bind fun r=>match r with
    | .inl (t7,b0,b3)=>
     some (b3,t7)
    | .inr (.inl (b0,b3,b5))=>
     some (b3,[])
    | .inr (.inr (.inl (b0,b3)))=>
     some (b3,[])
    | .inr (.inr (.inr (b0,b3)))=>
     some (b3,[])
  else
   zuJ n j owner
theorem zGp {n j owner r} (h:ztz n j owner=some r):zuK n j owner=some r:=by
 unfold ztz at h
 refine zas ?_
 rcases zaa h with ⟨h1,h⟩ | ⟨h1,h⟩
 obtain ⟨r2,γ1,h2,h⟩:=zag h (gam [0,0,0,0,0])
 rcases r2 with ⟨t7,b0,b3⟩ | ⟨b0,b3,b5⟩ | ⟨b0,b3⟩ | ⟨b0,b3⟩
 cases h;refine zab rfl ?_;rotate_left
 cases h;refine zab rfl ?_;rotate_left
 cases h;refine zab rfl ?_;rotate_left
 cases h;refine zab rfl ?_;rotate_left
 rcases zaa h with ⟨h2,h⟩ | ⟨h2,h⟩
 obtain ⟨r3,γ1,h3,h⟩:=zag h (gam [0,0,0,0,0])
 rcases r3 with ⟨t7,b0,b3⟩ | ⟨b0,b3,b5⟩ | ⟨b0,b3⟩ | ⟨b0,b3⟩
 cases h;refine zab rfl ?_;rotate_left
 cases h;refine zab rfl ?_;rotate_left
 cases h;refine zab rfl ?_;rotate_left
 cases h;refine zab rfl ?_;rotate_left
 have h3:=ask_some h
 rcases r with ⟨r0,r1⟩
 refine zab rfl ?_;rotate_left
 all_goals (dsimp only [R2,ziv] at *;show zar IF_ (zId zv2) _ _=_;generalize zv2=c0 at *;exact fin_)
def zmT (a:Int) (x:Int) (b:Int):Option (Bool):=
 bif Ops.std.ieq a b then some (!(Ops.std.ieq x a)) else
 bif Ops.std.ieq x b then some false else
 znS a x b
theorem zyw {a x b r} (h:zmT a x b=some r):zmg a x b=some r:=by
 unfold zmT at h
 refine zas ?_
 rcases zaa h with ⟨h1,h⟩ | ⟨h1,h⟩
 cases h;refine zab rfl ?_;rotate_left
 rcases zaa h with ⟨h2,h⟩ | ⟨h2,h⟩
 cases h;refine zab rfl ?_;rotate_left
 have h3:=ask_some h
 rcases r with res
 refine zab rfl ?_;rotate_left
 all_goals (dsimp only [R1] at *;show zar IF_ zIe _ _=_;exact fin_)
def ztB (n:Node) (j:Job) (has:Bool) (val:ByteArray) (e_:Int):Option (Node):=
 zrD n j.id has val e_
theorem zAL {n j has val e_ r} (h:ztB n j has val e_=some r):zbI n j has val e_=some r:=by
 unfold ztB at h
 refine zas ?_
 have h1:=ask_some h
 rcases r with res
 refine zab rfl ?_;rotate_left
 all_goals (dsimp only [R1] at *;show zar IF_ zIf _ _=_;exact fin_)
def zwJ (n:Node) (j:Job) (to_:Peer):Option ((Node × (List Out))):=
 (zf7 n (⟨j.id,j.kind,j.bit,j.key,j.val,j.target,j.via,to_,j.doing,j.hops,j.tries,j.due⟩:Job)).bind fun res=>
 zlX res to_ (⟨1,0,0,false,j.target,⟨#[]⟩,⟨#[]⟩,(⟨0,0⟩:Peer),[],[]⟩:Msg) 4 j.id
theorem zEz {n j to_ r} (h:zwJ n j to_=some r):ziw n j to_=some r:=by
 unfold zwJ at h
 refine zas ?_
 obtain ⟨res,h1,h⟩:=zac h
 have h2:=ask_some h
 rcases r with ⟨r0,r1⟩
 refine zab rfl ?_;rotate_left
 all_goals (dsimp only [R1,R2] at *;show zar IF_ zIg _ _=_;exact fin_)
def zfM (me:Peer) (l:List Entry) (p:Peer) (γ:Nat → Nat):(Int × (List Entry)) → X × St
 | (a0,a1)=>(.ret,⟨bd 6 (.sub 4 ((γ 4)) (0) (a0) :: bd 57 []),[.box 25 [vU me.id,vH me.addr],.box 25 [vU p.id,vH p.addr],.row 81 (γ 2) false (List.map zai []),.row 81 (γ 3) true (List.map zai l),.row 81 (γ 4) false (List.map zai a1)]⟩)
instance {me l p}:InjS (zfM me l p):=⟨fun γ γ' x y h=>by
 rcases x with ⟨a0,a1⟩ <;> rcases y with ⟨a0',a1'⟩ <;> simp only [zfM] at h <;> exact inj_⟩
def zib (me:Peer) (l:List Entry) (p:Peer):Option ((Int × (List Entry))):=asks (fun γ=>(lim F pr).seg [6] zv8 ⟨bd 3 (.bptr 0 0 :: bd 1 (.bptr 1 0 :: bd 1 (.sl 3 ((γ 3)) :: bd 56 []))),[.box 25 [vU me.id,vH me.addr],.box 25 [vU p.id,vH p.addr],.row 81 (γ 2) false (List.map zai []),.row 81 (γ 3) false (List.map zai l)]⟩) (zfM me l p)
def zfL (me:Peer) (l:List Entry) (p:Peer) (γ:Nat → Nat):(Int × (List Entry)) → X × St
 | (a0,a1)=>(.ret,⟨bd 6 (.sub 4 ((γ 4)) (0) (a0) :: bd 57 []),[.box 25 [vU me.id,vH me.addr],.box 25 [vU p.id,vH p.addr],.row 81 (γ 2) false (List.map zai []),.row 81 (γ 3) true (List.map zai l),.row 81 (γ 4) false (List.map zai a1)]⟩)
instance {me l p}:InjS (zfL me l p):=⟨fun γ γ' x y h=>by
 rcases x with ⟨a0,a1⟩ <;> rcases y with ⟨a0',a1'⟩ <;> simp only [zfL] at h <;> exact inj_⟩
def zkT (me:Peer) (l:List Entry) (p:Peer) (i:Int) (r4:List Entry):Option ((Int × (List Entry))):=asks (fun γ=>(lim F pr).seg [6] zv7 ⟨bd 5 (.bptr 1 0 :: bd 1 (.sl 4 ((γ 4)) :: bd 1 (vI i :: bd 54 []))),[.box 25 [vU me.id,vH me.addr],.box 25 [vU p.id,vH p.addr],.row 81 (γ 2) false (List.map zai []),.row 81 (γ 3) true (List.map zai l),.row 81 (γ 4) false (List.map zai r4)]⟩) (zfL me l p)
def ziT (me:Peer) (l:List Entry) (p:Peer):Option ((Int × (List Entry))):=
 (zri l p.addr).bind fun res=>
 (zkN res me.id me.addr p.id p.addr).bind fun res1=>
 bif Ops.std.ilt res1 0 then zkT me l p (xlen zai res) res else
 zkT me l p res1 res
theorem zqs {me l p r} (h:ziT me l p=some r):zib me l p=some r:=by
 unfold ziT at h
 refine zap fun γ=>?_
 obtain ⟨res,h1,h⟩:=zac h
 obtain ⟨res1,h2,h⟩:=zac h
 rcases zaa h with ⟨h3,h⟩ | ⟨h3,h⟩
 obtain ⟨γ3,h4⟩:=zal h (gam [0,0,(γ 2),(γ 3),0])
 rcases r with ⟨t6_hi,r4⟩
 refine ⟨gam [0,0,(γ3 2),(γ3 3),(γ3 4)],zak ?_⟩;rotate_left
 obtain ⟨γ3,h4⟩:=zal h (gam [0,0,(γ 2),(γ 3),0])
 rcases r with ⟨t6_hi,r4⟩
 refine ⟨gam [0,0,(γ3 2),(γ3 3),(γ3 4)],zak ?_⟩;rotate_left
 all_goals (dsimp only [zdT,K1,zfL,zfM] at *;show Ifc.apart IF_ _ (zCw zv7) _=_;generalize zv7=c0 at *;exact fin_)
def zlK (me:Peer) (l:List Entry) (p:Peer) (i:Int) (r4:List Entry):Option ((Int × (List Entry))):=
 bif zaK zai 24 r4 [(⟨p,0⟩:Entry)] then
  (xsub zai r4 0 i).bind fun ys=>
  (xsub zai r4 i (xlen zai r4)).bind fun ys1=>
  bif Ops.std.ilt (Ops.std.isub .i64 (xlen zai (ys ++ ([(⟨p,0⟩:Entry)] ++ ys1))) 1) 15 then
   bif Ops.std.ilt 15 (xlen zai (ys ++ ([(⟨p,0⟩:Entry)] ++ ys1))) then
    (xsub zai (ys ++ ([(⟨p,0⟩:Entry)] ++ ys1)) 0 15).bind fun ys2=>
    some (15,(ys ++ ([(⟨p,0⟩:Entry)] ++ ys1)))
   else
    (xsub zai (ys ++ ([(⟨p,0⟩:Entry)] ++ ys1)) 0 (xlen zai (ys ++ ([(⟨p,0⟩:Entry)] ++ ys1)))).bind fun ys2=>
    some (xlen zai (ys ++ ([(⟨p,0⟩:Entry)] ++ ys1)),(ys ++ ([(⟨p,0⟩:Entry)] ++ ys1)))
  else
   bif Ops.std.ilt (Ops.std.isub .i64 (xlen zai (ys ++ ([(⟨p,0⟩:Entry)] ++ ys1))) 1) (xlen zai (ys ++ ([(⟨p,0⟩:Entry)] ++ ys1))) then
    (xsub zai (ys ++ ([(⟨p,0⟩:Entry)] ++ ys1)) 0 (Ops.std.isub .i64 (xlen zai (ys ++ ([(⟨p,0⟩:Entry)] ++ ys1))) 1)).bind fun ys2=>
    some (Ops.std.isub .i64 (xlen zai (ys ++ ([(⟨p,0⟩:Entry)] ++ ys1))) 1,(ys ++ ([(⟨p,0⟩:Entry)] ++ ys1)))
   else
    (xsub zai (ys ++ ([(⟨p,0⟩:Entry)] ++ ys1)) 0 (xlen zai (ys ++ ([(⟨p,0⟩:Entry)] ++ ys1)))).bind fun ys2=>
    some (xlen zai (ys ++ ([(⟨p,0⟩:Entry)] ++ ys1)),(ys ++ ([(⟨p,0⟩:Entry)] ++ ys1)))
 else
  none
theorem zxm {me l p i r4 r} (h:zlK me l p i r4=some r):zkT me l p i r4=some r:=by
 unfold zlK at h
 refine zap fun γ=>?_
 obtain ⟨h1,h⟩:=zat h
 obtain ⟨ys,h2,h⟩:=zac h
 obtain ⟨ys1,h3,h⟩:=zac h
 rcases zaa h with ⟨h4,h⟩ | ⟨h4,h⟩
 rcases zaa h with ⟨h5,h⟩ | ⟨h5,h⟩
 obtain ⟨ys2,h6,h⟩:=zac h
 cases h;refine ⟨gam [0,0,(γ 2),(γ 3),((γ 4) + 1)],zak ?_⟩;rotate_left
 obtain ⟨ys2,h6,h⟩:=zac h
 cases h;refine ⟨gam [0,0,(γ 2),(γ 3),((γ 4) + 1)],zak ?_⟩;rotate_left
 rcases zaa h with ⟨h5,h⟩ | ⟨h5,h⟩
 obtain ⟨ys2,h6,h⟩:=zac h
 cases h;refine ⟨gam [0,0,(γ 2),(γ 3),((γ 4) + 1)],zak ?_⟩;rotate_left
 obtain ⟨ys2,h6,h⟩:=zac h
 cases h;refine ⟨gam [0,0,(γ 2),(γ 3),((γ 4) + 1)],zak ?_⟩;rotate_left
 all_goals (dsimp only [zfL] at *;show Ifc.apart IF_ _ zCv _=_;exact fin_)
def zph (me:Peer) (l:List Entry) (p:Peer):Option ((List Entry)):=
 bif zaK zai 24 [] l then
  bif Ops.std.ieq p.addr me.addr then some l else
  (zpj l p.addr).bind fun res=>
  bif Ops.std.ile 0 res then
   (xget zai l res).bind fun x=>
   bif Ops.std.ieq x.peer.id p.id then
    bif Ops.std.ieq x.peer.addr p.addr then some (xset l res (⟨x.peer,0⟩:Entry)) else
    (zib me l p).bind fun ⟨t6_hi,r4⟩=>
    (xsub zai r4 0 t6_hi).bind fun ys=>
    some ys
   else
    (zib me l p).bind fun ⟨t6_hi,r4⟩=>
    (xsub zai r4 0 t6_hi).bind fun ys=>
    some ys
  else
   (zib me l p).bind fun ⟨t6_hi,r4⟩=>
   (xsub zai r4 0 t6_hi).bind fun ys=>
   some ys
 else
  none
theorem zBB {me l p r} (h:zph me l p=some r):zta me l p=some r:=by
 unfold zph at h
 refine zas ?_
 obtain ⟨h1,h⟩:=zat h
 rcases zaa h with ⟨h2,h⟩ | ⟨h2,h⟩
 cases h;refine zab rfl ?_;rotate_left
 obtain ⟨res,h3,h⟩:=zac h
 rcases zaa h with ⟨h4,h⟩ | ⟨h4,h⟩
 obtain ⟨x,h5,h⟩:=zac h
 rcases zaa h with ⟨h6,h⟩ | ⟨h6,h⟩
 rcases zaa h with ⟨h7,h⟩ | ⟨h7,h⟩
 cases h;refine zab rfl ?_;rotate_left
 obtain ⟨r8,γ2,h8,h⟩:=zag h (gam [0,0,0,0])
 rcases r8 with ⟨t6_hi,r4⟩
 obtain ⟨ys,h9,h⟩:=zac h
 cases h;refine zab rfl ?_;rotate_left
 obtain ⟨r7,γ2,h7,h⟩:=zag h (gam [0,0,0,0])
 rcases r7 with ⟨t6_hi,r4⟩
 obtain ⟨ys,h8,h⟩:=zac h
 cases h;refine zab rfl ?_;rotate_left
 obtain ⟨r5,γ2,h5,h⟩:=zag h (gam [0,0,0,0])
 rcases r5 with ⟨t6_hi,r4⟩
 obtain ⟨ys,h6,h⟩:=zac h
 cases h;refine zab rfl ?_;rotate_left
 all_goals (dsimp only [R1,zfM] at *;show zar IF_ (zIk zv8) _ _=_;generalize zv8=c0 at *;exact fin_)
def ziP (n:Node) (out:List Out) (b0_node:Node) (b0_job:Job) (r1:List Out):Option ((List Out)):=
 bif zaK eOut 136 r1 out then some (r1 ++ out) else
 none
theorem zt5 {n out b0_node b0_job r1 r} (h:ziP n out b0_node b0_job r1=some r):zgW n out b0_node b0_job r1=some r:=by
 unfold ziP at h
 refine zap fun γ=>?_
 obtain ⟨h1,h⟩:=zat h
 cases h;refine ⟨gam [0,(γ 1 + 1)],zab rfl ?_⟩;rotate_left
 all_goals (dsimp only [zdE] at *;show zar IF_ zDP _ _=_;exact fin_)
def ziL (b0_node:Node) (b0_job:Job) (r2:List Out):Option ((Node × (List Finger) × (List Out))):=
 (zbk false ⟨#[]⟩ 0 b0_node b0_job r2).bind fun ⟨b0_node1,r1⟩=>
 (zta b0_node1.me b0_node1.list b0_job.at_).bind fun res=>
 (zlN (⟨b0_node1.me,b0_node1.clock,true,b0_node1.pred,res,b0_node1.fingers,b0_node1.store,b0_node1.pends,b0_node1.jobs,b0_node1.results,b0_node1.rid,b0_node1.jobID,b0_node1.nextBit⟩:Node) b0_job.at_ (⟨5,0,0,false,0,⟨#[]⟩,⟨#[]⟩,b0_node1.me,[],[]⟩:Msg) 2 0).bind fun ⟨r0,r11⟩=>
 (zgW r0 r11 (⟨b0_node1.me,b0_node1.clock,true,b0_node1.pred,res,b0_node1.fingers,b0_node1.store,b0_node1.pends,b0_node1.jobs,b0_node1.results,b0_node1.rid,b0_node1.jobID,b0_node1.nextBit⟩:Node) b0_job r2).bind fun r12=>
 some (r0,r1,r12)
theorem zt3 {b0_node b0_job r2 r} (h:ziL b0_node b0_job r2=some r):zku b0_node b0_job r2=some r:=by
 unfold ziL at h
 refine zap fun γ=>?_
 obtain ⟨r1,γ1,h1,h⟩:=zag h (gam [0,γ 1,γ 2])
 rcases r1 with ⟨b0_node1,r1⟩
 obtain ⟨res,h2,h⟩:=zac h
 obtain ⟨r3,h3,h⟩:=zac h
 rcases r3 with ⟨r0,r11⟩
 obtain ⟨r12,γ4,h4,h⟩:=zag h (gam [0,(γ1 2)])
 cases h;refine ⟨gam [0,(γ1 1),(γ4 1)],zab rfl ?_⟩;rotate_left
 all_goals (dsimp only [R1,R2,zdB,zbr,zdE] at *;show zar IF_ zIh _ _=_;exact fin_)
def zii (me:Peer) (l:List Entry) (p:Peer) (γ:Nat → Nat):(List Entry) ⊕ Unit → X × St
 | .inl a0=>(.ret,⟨bd 6 (.sl 3 ((γ 3)) :: bd 85 []),[.box 25 [vU me.id,vH me.addr],.box 25 [vU p.id,vH p.addr],.row 81 (γ 2) false (List.map zai []),.row 81 (γ 3) false (List.map zai a0)]⟩)
 | .inr ()=>(.nor,⟨bd 1 (.lit 81 false (List.map zai l) :: bd 1 (.bptr 0 0 :: bd 1 (.bptr 1 0 :: bd 86 []))),[.box 25 [vU me.id,vH me.addr],.box 25 [vU p.id,vH p.addr],.row 81 (γ 2) false (List.map zai [])]⟩)
instance {me l p}:InjS (zii me l p):=⟨fun γ γ' x y h=>by
 rcases x with a0 | _ <;> rcases y with a0' | _ <;> simp only [zii] at h <;> exact inj_⟩
def zgN (me:Peer) (l:List Entry) (p:Peer) (at_:Int) (t33:Bool):Option ((List Entry) ⊕ Unit):=asks (fun γ=>(lim F pr).seg [1,3,5] zv3 ⟨bd 1 (.lit 81 false (List.map zai l) :: bd 1 (.bptr 0 0 :: bd 1 (.bptr 1 0 :: bd 1 (vI at_ :: bd 25 (vF t33 :: bd 58 []))))),[.box 25 [vU me.id,vH me.addr],.box 25 [vU p.id,vH p.addr],.row 81 (γ 2) false (List.map zai [])]⟩) (zii me l p)
def zik (me:Peer) (p:Peer) (γ:Nat → Nat):(Int × (List Entry)) ⊕ (List Entry) → X × St
 | .inl (a0,a1)=>(.ret,⟨bd 6 (.sub 3 ((γ 3)) (0) (a0) :: bd 85 []),[.box 25 [vU me.id,vH me.addr],.box 25 [vU p.id,vH p.addr],.row 81 (γ 2) false (List.map zai []),.row 81 (γ 3) false (List.map zai a1)]⟩)
 | .inr b0=>(.ret,⟨bd 6 (.sl 3 ((γ 3)) :: bd 85 []),[.box 25 [vU me.id,vH me.addr],.box 25 [vU p.id,vH p.addr],.row 81 (γ 2) false (List.map zai []),.row 81 (γ 3) false (List.map zai b0)]⟩)
instance {me p}:InjS (zik me p):=⟨fun γ γ' x y h=>by
 rcases x with ⟨a0,a1⟩ | b0 <;> rcases y with ⟨a0',a1'⟩ | b0' <;> simp only [zik] at h <;> exact inj_⟩
def ziX (me:Peer) (l:List Entry) (p:Peer):Option ((Int × (List Entry)) ⊕ (List Entry)):=asks (fun γ=>(lim F pr).seg [6] zv5 ⟨bd 1 (.lit 81 false (List.map zai l) :: bd 1 (.bptr 0 0 :: bd 1 (.bptr 1 0 :: bd 86 []))),[.box 25 [vU me.id,vH me.addr],.box 25 [vU p.id,vH p.addr],.row 81 (γ 2) false (List.map zai [])]⟩) (zik me p)
def zih (me:Peer) (p:Peer) (γ:Nat → Nat):(Bool × (List Entry)) → X × St
 | (a0,a1)=>(.brk 0,⟨bd 5 (.bptr 1 0 :: bd 4 (.sl 3 ((γ 3)) :: vF a0 :: bd 80 [])),[.box 25 [vU me.id,vH me.addr],.box 25 [vU p.id,vH p.addr],.row 81 (γ 2) false (List.map zai []),.row 81 (γ 3) false (List.map zai a1)]⟩)
instance {me p}:InjS (zih me p):=⟨fun γ γ' x y h=>by
 rcases x with ⟨a0,a1⟩ <;> rcases y with ⟨a0',a1'⟩ <;> simp only [zih] at h <;> exact inj_⟩
def zgM (me:Peer) (p:Peer) (rest:List Entry) (put_:Bool) (i:Int) (r3:List Entry):Option ((Bool × (List Entry))):=asks (fun γ=>(lim F pr).loop [3,9,12,11,5,10] 4 zp1 ⟨bd 3 (.bptr 0 0 :: bd 1 (.bptr 1 0 :: bd 3 (.lit 81 false (List.map zai rest) :: .sl 3 ((γ 3)) :: vF put_ :: vI i :: bd 79 []))),[.box 25 [vU me.id,vH me.addr],.box 25 [vU p.id,vH p.addr],.row 81 (γ 2) false (List.map zai []),.row 81 (γ 3) false (List.map zai r3)]⟩) (zih me p)
def zij (me:Peer) (p:Peer) (γ:Nat → Nat):(Int × (List Entry)) ⊕ (List Entry) → X × St
 | .inl (a0,a1)=>(.ret,⟨bd 6 (.sub 3 ((γ 3)) (0) (a0) :: bd 85 []),[.box 25 [vU me.id,vH me.addr],.box 25 [vU p.id,vH p.addr],.row 81 (γ 2) false (List.map zai []),.row 81 (γ 3) false (List.map zai a1)]⟩)
 | .inr b0=>(.ret,⟨bd 6 (.sl 3 ((γ 3)) :: bd 85 []),[.box 25 [vU me.id,vH me.addr],.box 25 [vU p.id,vH p.addr],.row 81 (γ 2) false (List.map zai []),.row 81 (γ 3) false (List.map zai b0)]⟩)
instance {me p}:InjS (zij me p):=⟨fun γ γ' x y h=>by
 rcases x with ⟨a0,a1⟩ | b0 <;> rcases y with ⟨a0',a1'⟩ | b0' <;> simp only [zij] at h <;> exact inj_⟩
def zno (me:Peer) (p:Peer) (r3:List Entry):Option ((Int × (List Entry)) ⊕ (List Entry)):=asks (fun γ=>(lim F pr).seg [6] zv4 ⟨bd 10 (.sl 3 ((γ 3)) :: bd 81 []),[.box 25 [vU me.id,vH me.addr],.box 25 [vU p.id,vH p.addr],.row 81 (γ 2) false (List.map zai []),.row 81 (γ 3) false (List.map zai r3)]⟩) (zij me p)
def zkW (me:Peer) (l:List Entry) (p:Peer) (at_:Int) (t33:Bool):Option ((List Entry) ⊕ Unit):=
 bif t33 then
  bif zaK zai 24 [] l then
   (xget zai l at_).bind fun x=>
   some (.inl (xset l at_ (⟨x.peer,0⟩:Entry)))
  else
   none
 else
  some (.inr ())
theorem ztk {me l p at_ t33 r} (h:zkW me l p at_ t33=some r):zgN me l p at_ t33=some r:=by
 unfold zkW at h
 refine zap fun γ=>?_
 rcases zaa h with ⟨h1,h⟩ | ⟨h1,h⟩
 obtain ⟨h2,h⟩:=zat h
 obtain ⟨x,h3,h⟩:=zac h
 cases h;refine ⟨gam [0,0,(γ 2),0],zak ?_⟩;rotate_left
 cases h;refine ⟨gam [0,0,(γ 2)],zak ?_⟩;rotate_left
 all_goals (dsimp only [zii] at *;show Ifc.apart IF_ _ zCq _=_;exact fin_)
def znT (me:Peer) (l:List Entry) (p:Peer):Option ((Int × (List Entry)) ⊕ (List Entry)):=
 (zvs l p.addr).bind fun res=>
 (zgM me p res false 0 []).bind fun ⟨put_,r3⟩=>
 bif put_ then zno me p r3 else
 bif zaK zai 24 r3 [(⟨p,0⟩:Entry)] then zno me p (r3 ++ [(⟨p,0⟩:Entry)]) else
 none
theorem zAA {me l p r} (h:znT me l p=some r):ziX me l p=some r:=by
 unfold znT at h
 refine zap fun γ=>?_
 obtain ⟨res,h1,h⟩:=zac h
 obtain ⟨r2,γ2,h2,h⟩:=zag h (gam [0,0,(γ 2),0])
 rcases r2 with ⟨put_,r3⟩
 rcases zaa h with ⟨h3,h⟩ | ⟨h3,h⟩
 obtain ⟨γ3,h4⟩:=zal h (gam [0,0,(γ2 2),(γ2 3)])
 rcases r with ⟨t6_hi,r31⟩ | r31
 refine ⟨gam [0,0,(γ3 2),(γ3 3)],zak ?_⟩;rotate_left
 refine ⟨gam [0,0,(γ3 2),(γ3 3)],zak ?_⟩;rotate_left
 obtain ⟨h4,h⟩:=zat h
 obtain ⟨γ3,h5⟩:=zal h (gam [0,0,(γ2 2),((γ2 3) + 1)])
 rcases r with ⟨t6_hi,r31⟩ | r31
 refine ⟨gam [0,0,(γ3 2),(γ3 3)],zak ?_⟩;rotate_left
 refine ⟨gam [0,0,(γ3 2),(γ3 3)],zak ?_⟩;rotate_left
 all_goals (dsimp only [R1,zih,zij,zik] at *;show Ifc.apart IF_ _ (zCt zp1 zv4) _=_;generalize zp1=c0,zv4=c1 at *;exact fin_)
def zig (me:Peer) (p:Peer) (rest:List Entry) (put_:Bool) (i:Int) (r3:List Entry):Option ((Bool × (List Entry))):=
 bif Ops.std.ilt i (xlen zai rest) then
  bif put_ then
   (xget zai rest i).bind fun x=>
   bif zaK zai 24 r3 [x] then zgM me p rest true (Ops.std.iadd .i64 i 1) (r3 ++ [x]) else
   none
  else
   (xget zai rest i).bind fun x=>
   (ztm me p x.peer).bind fun res=>
   bif res then
    bif zaK zai 24 r3 [(⟨p,0⟩:Entry)] then
     bif zaK zai 24 (r3 ++ [(⟨p,0⟩:Entry)]) [x] then
      zgM me p rest true (Ops.std.iadd .i64 i 1) ((r3 ++ [(⟨p,0⟩:Entry)]) ++ [x])
     else
      none
    else
     none
   else
    bif zaK zai 24 r3 [x] then zgM me p rest false (Ops.std.iadd .i64 i 1) (r3 ++ [x]) else
    none
 else
  some (put_,r3)
theorem ztj {me p rest put_ i r3 r} (h:zig me p rest put_ i r3=some r):zgM me p rest put_ i r3=some r:=by
 unfold zig at h
 refine zap fun γ=>?_
 rcases zaa h with ⟨h1,h⟩ | ⟨h1,h⟩
 rcases zaa h with ⟨h2,h⟩ | ⟨h2,h⟩
 obtain ⟨x,h3,h⟩:=zac h
 obtain ⟨h4,h⟩:=zat h
 replace h:=zal h (gam [0,0,(γ 2),((γ 3) + 1)]);obtain ⟨γ',h0⟩:=h;refine ⟨γ',zad ?_⟩;rotate_left
 obtain ⟨x,h3,h⟩:=zac h
 obtain ⟨res,h4,h⟩:=zac h
 rcases zaa h with ⟨h5,h⟩ | ⟨h5,h⟩
 obtain ⟨h6,h⟩:=zat h
 obtain ⟨h7,h⟩:=zat h
 replace h:=zal h (gam [0,0,(γ 2),(((γ 3) + 1) + 1)]);obtain ⟨γ',h0⟩:=h;refine ⟨γ',zad ?_⟩;rotate_left
 obtain ⟨h6,h⟩:=zat h
 replace h:=zal h (gam [0,0,(γ 2),((γ 3) + 1)]);obtain ⟨γ',h0⟩:=h;refine ⟨γ',zad ?_⟩;rotate_left
 cases h;refine ⟨gam [0,0,(γ 2),(γ 3)],zad ?_⟩;rotate_left
 all_goals (dsimp only [R1,zih] at *;show zaR IF_ _ _ zp1 zCr _=_;generalize zp1=c0 at *;exact fin_)
def zkX (me:Peer) (p:Peer) (r3:List Entry):Option ((Int × (List Entry)) ⊕ (List Entry)):=
 bif Ops.std.ilt 15 (xlen zai r3) then
  (xsub zai r3 0 (Ops.std.isub .i64 (xlen zai r3) 1)).bind fun ys=>
  some (.inl (Ops.std.isub .i64 (xlen zai r3) 1,r3))
 else
  some (.inr r3)
theorem ztl {me p r3 r} (h:zkX me p r3=some r):zno me p r3=some r:=by
 unfold zkX at h
 refine zap fun γ=>?_
 rcases zaa h with ⟨h1,h⟩ | ⟨h1,h⟩
 obtain ⟨ys,h2,h⟩:=zac h
 cases h;refine ⟨gam [0,0,(γ 2),(γ 3)],zak ?_⟩;rotate_left
 cases h;refine ⟨gam [0,0,(γ 2),(γ 3)],zak ?_⟩;rotate_left
 all_goals (dsimp only [zij] at *;show Ifc.apart IF_ _ zCs _=_;exact fin_)
def zti (me:Peer) (l:List Entry) (p:Peer):Option ((List Entry)):=
 bif Ops.std.ieq p.addr me.addr then some l else
 (zoP l p.addr).bind fun res=>
 bif Ops.std.ile 0 res then
  (xget zai l res).bind fun x=>
  bif Ops.std.ieq x.peer.id p.id then
   bif Ops.std.ieq x.peer.addr p.addr then
    (zgN me l p res true).bind fun r=>match r with
     | .inl r3=>
      some r3
     | .inr ()=>
      (ziX me l p).bind fun r=>match r with
       | .inl (t6_hi,r3)=>
        (xsub zai r3 0 t6_hi).bind fun ys=>
        some ys
       | .inr r3=>
        some r3
   else
    (zgN me l p res false).bind fun r=>match r with
     | .inl r3=>
      some r3
     | .inr ()=>
      (ziX me l p).bind fun r=>match r with
       | .inl (t6_hi,r3)=>
        (xsub zai r3 0 t6_hi).bind fun ys=>
        some ys
       | .inr r3=>
        some r3
  else
   (zgN me l p res false).bind fun r=>match r with
    | .inl r3=>
     some r3
    | .inr ()=>
     (ziX me l p).bind fun r=>match r with
      | .inl (t6_hi,r3)=>
       (xsub zai r3 0 t6_hi).bind fun ys=>
       some ys
      | .inr r3=>
       some r3
 else
  (zgN me l p res false).bind fun r=>match r with
   | .inl r3=>
    some r3
   | .inr ()=>
    (ziX me l p).bind fun r=>match r with
     | .inl (t6_hi,r3)=>
      (xsub zai r3 0 t6_hi).bind fun ys=>
      some ys
     | .inr r3=>
      some r3
theorem zGg {me l p r} (h:zti me l p=some r):zuI me l p=some r:=by
 unfold zti at h
 refine zas ?_
 rcases zaa h with ⟨h1,h⟩ | ⟨h1,h⟩
 cases h;refine zab rfl ?_;rotate_left
 obtain ⟨res,h2,h⟩:=zac h
 rcases zaa h with ⟨h3,h⟩ | ⟨h3,h⟩
 obtain ⟨x,h4,h⟩:=zac h
 rcases zaa h with ⟨h5,h⟩ | ⟨h5,h⟩
 rcases zaa h with ⟨h6,h⟩ | ⟨h6,h⟩
 obtain ⟨r7,γ2,h7,h⟩:=zag h (gam [0,0,0])
 rcases r7 with r3 | _
 cases h;refine zab rfl ?_;rotate_left
 obtain ⟨r8,γ3,h8,h⟩:=zag h (gam [0,0,(γ2 2)])
 rcases r8 with ⟨t6_hi,r3⟩ | r3
 obtain ⟨ys,h9,h⟩:=zac h
 cases h;refine zab rfl ?_;rotate_left
 cases h;refine zab rfl ?_;rotate_left
 obtain ⟨r7,γ2,h7,h⟩:=zag h (gam [0,0,0])
 rcases r7 with r3 | _
 cases h;refine zab rfl ?_;rotate_left
 obtain ⟨r8,γ3,h8,h⟩:=zag h (gam [0,0,(γ2 2)])
 rcases r8 with ⟨t6_hi,r3⟩ | r3
 obtain ⟨ys,h9,h⟩:=zac h
 cases h;refine zab rfl ?_;rotate_left
 cases h;refine zab rfl ?_;rotate_left
 obtain ⟨r6,γ2,h6,h⟩:=zag h (gam [0,0,0])
 rcases r6 with r3 | _
 cases h;refine zab rfl ?_;rotate_left
 obtain ⟨r7,γ3,h7,h⟩:=zag h (gam [0,0,(γ2 2)])
 rcases r7 with ⟨t6_hi,r3⟩ | r3
 obtain ⟨ys,h8,h⟩:=zac h
 cases h;refine zab rfl ?_;rotate_left
 cases h;refine zab rfl ?_;rotate_left
 obtain ⟨r4,γ2,h4,h⟩:=zag h (gam [0,0,0])
 rcases r4 with r3 | _
 cases h;refine zab rfl ?_;rotate_left
 obtain ⟨r5,γ3,h5,h⟩:=zag h (gam [0,0,(γ2 2)])
 rcases r5 with ⟨t6_hi,r3⟩ | r3
 obtain ⟨ys,h6,h⟩:=zac h
 cases h;refine zab rfl ?_;rotate_left
 cases h;refine zab rfl ?_;rotate_left
 all_goals (dsimp only [R1,zii,zik] at *;show zar IF_ (zIi zv3 zv5) _ _=_;generalize zv3=c0,zv5=c1 at *;exact fin_)
def ztr (n:Node) (to_:Peer) (m:Msg) (why:Int) (job:Int):Option ((Node × (List Out))):=
 bif Ops.std.ilt 63 (xlen za4 n.pends) then some (n,[]) else
 bif zaK za4 56 [] n.pends then
  (zxy (⟨n.me,n.clock,n.joined,n.pred,n.list,n.fingers,n.store,n.pends,n.jobs,n.results,Ops.std.iadd .u32 n.rid 1,n.jobID,n.nextBit⟩:Node)).bind fun res=>
  bif zaK za4 56 n.pends [(⟨Ops.std.iadd .u32 n.rid 1,m.kind,why,job,to_,Ops.std.iadd .i64 res 8⟩:Pend)] then
   some ((⟨n.me,n.clock,n.joined,n.pred,n.list,n.fingers,n.store,(n.pends ++ [(⟨Ops.std.iadd .u32 n.rid 1,m.kind,why,job,to_,Ops.std.iadd .i64 res 8⟩:Pend)]),n.jobs,n.results,Ops.std.iadd .u32 n.rid 1,n.jobID,n.nextBit⟩:Node),[(⟨to_,(⟨m.kind,Ops.std.iadd .u32 n.rid 1,m.code,m.has,m.id,m.key,m.val,m.peer,m.peers,m.pairs⟩:Msg)⟩:Out)])
  else
   none
 else
  none
theorem zGl {n to_ m why job r} (h:ztr n to_ m why job=some r):zlX n to_ m why job=some r:=by
 unfold ztr at h
 refine zas ?_
 rcases zaa h with ⟨h1,h⟩ | ⟨h1,h⟩
 cases h;refine zab rfl ?_;rotate_left
 obtain ⟨h2,h⟩:=zat h
 obtain ⟨res,h3,h⟩:=zac h
 obtain ⟨h4,h⟩:=zat h
 cases h;refine zab rfl ?_;rotate_left
 all_goals (dsimp only [R1,R2] at *;show zar IF_ g82F _ _=_;exact fin_)
def zha (γ:Nat → Nat):Unit ⊕ Unit → X × St
 | .inl ()=>(.ret,⟨bd 4 (vF false :: bd 21 []),[]⟩)
 | .inr ()=>(.brk 0,⟨bd 26 [],[]⟩)
instance :InjS zha:=⟨fun γ γ' x y h=>by
 rcases x with _ | _ <;> rcases y with _ | _ <;> simp only [zha] at h <;> exact inj_⟩
def zmj (a:List Entry) (b:List Entry) (i:Int):Option (Unit ⊕ Unit):=asks (fun γ=>(lim F pr).loop [0,1,5] 0 zum ⟨.lit 81 false (List.map zai a) :: .lit 81 false (List.map zai b) :: bd 3 (vI i :: bd 20 []),[]⟩) zha
def zg9 (a:List Entry) (b:List Entry) (i:Int):Option (Unit ⊕ Unit):=
 bif Ops.std.ilt i (xlen zai a) then
  (xget zai a i).bind fun x=>
  (xget zai b i).bind fun x1=>
  bif Ops.std.ieq x.peer.id x1.peer.id then
   bif Ops.std.ieq x.peer.addr x1.peer.addr then
    bif Ops.std.ieq x.misses x1.misses then zmj a b (Ops.std.iadd .i64 i 1) else
    some (.inl ())
   else
    some (.inl ())
  else
   some (.inl ())
 else
  some (.inr ())
theorem zmU {a b i r} (h:zg9 a b i=some r):zmj a b i=some r:=by
 unfold zg9 at h
 refine zap fun γ=>?_
 rcases zaa h with ⟨h1,h⟩ | ⟨h1,h⟩
 obtain ⟨x,h2,h⟩:=zac h
 obtain ⟨x1,h3,h⟩:=zac h
 rcases zaa h with ⟨h4,h⟩ | ⟨h4,h⟩
 rcases zaa h with ⟨h5,h⟩ | ⟨h5,h⟩
 rcases zaa h with ⟨h6,h⟩ | ⟨h6,h⟩
 replace h:=zal h (gam []);obtain ⟨γ',h0⟩:=h;refine ⟨γ',zad ?_⟩;rotate_left
 cases h;refine ⟨gam [],zad ?_⟩;rotate_left
 cases h;refine ⟨gam [],zad ?_⟩;rotate_left
 cases h;refine ⟨gam [],zad ?_⟩;rotate_left
 cases h;refine ⟨gam [],zad ?_⟩;rotate_left
 all_goals (dsimp only [zha] at *;show zaR IF_ _ _ zum zFh _=_;generalize zum=c0 at *;exact fin_)
def zrv (a:List Entry) (b:List Entry):Option (Bool):=
 bif Ops.std.ieq (xlen zai a) (xlen zai b) then
  (zmj a b 0).bind fun r=>match r with
   | .inl ()=>
    some false
   | .inr ()=>
    some true
 else
  some false
theorem zEh {a b r} (h:zrv a b=some r):zru a b=some r:=by
 unfold zrv at h
 refine zas ?_
 rcases zaa h with ⟨h1,h⟩ | ⟨h1,h⟩
 obtain ⟨r2,γ1,h2,h⟩:=zag h (gam [])
 rcases r2 with _ | _
 cases h;refine zab rfl ?_;rotate_left
 cases h;refine zab rfl ?_;rotate_left
 cases h;refine zab rfl ?_;rotate_left
 all_goals (dsimp only [R1,zha] at *;show zar IF_ (g69F zum) _ _=_;generalize zum=c0 at *;exact fin_)
def zhf (γ:Nat → Nat):Unit ⊕ Unit → X × St
 | .inl ()=>(.ret,⟨bd 4 (vF false :: bd 21 []),[]⟩)
 | .inr ()=>(.brk 0,⟨bd 26 [],[]⟩)
instance :InjS zhf:=⟨fun γ γ' x y h=>by
 rcases x with _ | _ <;> rcases y with _ | _ <;> simp only [zhf] at h <;> exact inj_⟩
def zml (a:List Finger) (b:List Finger) (i:Int):Option (Unit ⊕ Unit):=asks (fun γ=>(lim F pr).loop [0,1,5] 0 zun ⟨.lit 84 false (List.map zae a) :: .lit 84 false (List.map zae b) :: bd 3 (vI i :: bd 20 []),[]⟩) zhf
def zjY (a:List Finger) (b:List Finger) (i:Int):Option (Unit ⊕ Unit):=
 bif Ops.std.ilt i (xlen zae a) then
  (xget zae a i).bind fun x=>
  (xget zae b i).bind fun x1=>
  bif Ops.std.ieq x.bit x1.bit then
   bif Ops.std.ieq x.peer.id x1.peer.id then
    bif Ops.std.ieq x.peer.addr x1.peer.addr then zml a b (Ops.std.iadd .i64 i 1) else
    some (.inl ())
   else
    some (.inl ())
  else
   some (.inl ())
 else
  some (.inr ())
theorem zse {a b i r} (h:zjY a b i=some r):zml a b i=some r:=by
 unfold zjY at h
 refine zap fun γ=>?_
 rcases zaa h with ⟨h1,h⟩ | ⟨h1,h⟩
 obtain ⟨x,h2,h⟩:=zac h
 obtain ⟨x1,h3,h⟩:=zac h
 rcases zaa h with ⟨h4,h⟩ | ⟨h4,h⟩
 rcases zaa h with ⟨h5,h⟩ | ⟨h5,h⟩
 rcases zaa h with ⟨h6,h⟩ | ⟨h6,h⟩
 replace h:=zal h (gam []);obtain ⟨γ',h0⟩:=h;refine ⟨γ',zad ?_⟩;rotate_left
 cases h;refine ⟨gam [],zad ?_⟩;rotate_left
 cases h;refine ⟨gam [],zad ?_⟩;rotate_left
 cases h;refine ⟨gam [],zad ?_⟩;rotate_left
 cases h;refine ⟨gam [],zad ?_⟩;rotate_left
 all_goals (dsimp only [zhf] at *;show zaR IF_ _ _ zun zFi _=_;generalize zun=c0 at *;exact fin_)
def zrx (a:List Finger) (b:List Finger):Option (Bool):=
 bif Ops.std.ieq (xlen zae a) (xlen zae b) then
  (zml a b 0).bind fun r=>match r with
   | .inl ()=>
    some false
   | .inr ()=>
    some true
 else
  some false
theorem zEk {a b r} (h:zrx a b=some r):zvu a b=some r:=by
 unfold zrx at h
 refine zas ?_
 rcases zaa h with ⟨h1,h⟩ | ⟨h1,h⟩
 obtain ⟨r2,γ1,h2,h⟩:=zag h (gam [])
 rcases r2 with _ | _
 cases h;refine zab rfl ?_;rotate_left
 cases h;refine zab rfl ?_;rotate_left
 cases h;refine zab rfl ?_;rotate_left
 all_goals (dsimp only [R1,zhf] at *;show zar IF_ (g70F zun) _ _=_;generalize zun=c0 at *;exact fin_)
def zfY (γ:Nat → Nat):Unit ⊕ Unit → X × St
 | .inl ()=>(.ret,⟨bd 4 (vF false :: bd 21 []),[]⟩)
 | .inr ()=>(.brk 0,⟨bd 26 [],[]⟩)
instance :InjS zfY:=⟨fun γ γ' x y h=>by
 rcases x with _ | _ <;> rcases y with _ | _ <;> simp only [zfY] at h <;> exact inj_⟩
def zkV (a:List Pair) (b:List Pair) (i:Int):Option (Unit ⊕ Unit):=asks (fun γ=>(lim F pr).loop [0,1,5] 0 zuo ⟨.lit 78 false (List.map zan a) :: .lit 78 false (List.map zan b) :: bd 3 (vI i :: bd 20 []),[]⟩) zfY
def zfX (a:List Pair) (b:List Pair) (i:Int):Option (Unit ⊕ Unit):=
 bif Ops.std.ilt i (xlen zan a) then
  (xget zan a i).bind fun x=>
  (xget zan b i).bind fun x1=>
  bif Ops.std.seq x.key x1.key then
   bif Ops.std.seq x.val x1.val then zkV a b (Ops.std.iadd .i64 i 1) else
   some (.inl ())
  else
   some (.inl ())
 else
  some (.inr ())
theorem zlU {a b i r} (h:zfX a b i=some r):zkV a b i=some r:=by
 unfold zfX at h
 refine zap fun γ=>?_
 rcases zaa h with ⟨h1,h⟩ | ⟨h1,h⟩
 obtain ⟨x,h2,h⟩:=zac h
 obtain ⟨x1,h3,h⟩:=zac h
 rcases zaa h with ⟨h4,h⟩ | ⟨h4,h⟩
 rcases zaa h with ⟨h5,h⟩ | ⟨h5,h⟩
 replace h:=zal h (gam []);obtain ⟨γ',h0⟩:=h;refine ⟨γ',zad ?_⟩;rotate_left
 cases h;refine ⟨gam [],zad ?_⟩;rotate_left
 cases h;refine ⟨gam [],zad ?_⟩;rotate_left
 cases h;refine ⟨gam [],zad ?_⟩;rotate_left
 all_goals (dsimp only [zfY] at *;show zaR IF_ _ _ zuo zFj _=_;generalize zuo=c0 at *;exact fin_)
def zps (a:List Pair) (b:List Pair):Option (Bool):=
 bif Ops.std.ieq (xlen zan a) (xlen zan b) then
  (zkV a b 0).bind fun r=>match r with
   | .inl ()=>
    some false
   | .inr ()=>
    some true
 else
  some false
theorem zBH {a b r} (h:zps a b=some r):zoN a b=some r:=by
 unfold zps at h
 refine zas ?_
 rcases zaa h with ⟨h1,h⟩ | ⟨h1,h⟩
 obtain ⟨r2,γ1,h2,h⟩:=zag h (gam [])
 rcases r2 with _ | _
 cases h;refine zab rfl ?_;rotate_left
 cases h;refine zab rfl ?_;rotate_left
 cases h;refine zab rfl ?_;rotate_left
 all_goals (dsimp only [R1,zfY] at *;show zar IF_ (g71F zuo) _ _=_;generalize zuo=c0 at *;exact fin_)
end Go.Ab.Tryz
