/- Our texts for this statement, merged: what its theorem leads to. -/
import Derived.Test.YtjmmobicnfojeaaGreatDoorQSv9
set_option linter.unusedVariables false
set_option linter.unusedSimpArgs false
noncomputable section
namespace Go.Ab.Tryz
open Go Go.Ab Go.Proofs
set_option maxRecDepth 10000
set_option maxHeartbeats 4000000
def zhg (m:Msg) (b0_n:Node) (zah:Int) (b0_m:Msg) (r1:List Out):Option ((List Out)):=
 bif zaN eOut 136 r1 [(⟨(⟨0,zah⟩:Peer),(⟨m.kind,b0_m.rid,m.code,m.has,m.id,m.key,m.val,m.peer,m.peers,m.pairs⟩:Msg)⟩:Out)] then
  some (r1 ++ [(⟨(⟨0,zah⟩:Peer),(⟨m.kind,b0_m.rid,m.code,m.has,m.id,m.key,m.val,m.peer,m.peers,m.pairs⟩:Msg)⟩:Out)])
 else
  none
theorem zrz {m b0_n zah b0_m r1 r} (h:zhg m b0_n zah b0_m r1=some r):zbu m b0_n zah b0_m r1=some r:=by
 unfold zhg at h
 refine zaq fun γ=>?_
 obtain ⟨h1,h⟩:=zaw h
 cases h;refine ⟨gam [0,(γ 1 + 1)],zab rfl ?_⟩;rotate_left
 all_goals (dsimp only [zbr] at *;show zat IF_ zHN _ _=_;exact fin_)
def zlF (e_:Int) (b0_n:Node) (zah:Int) (b0_m:Msg) (r1:List Out):Option ((List Out)):=
 zbu (⟨12,0,Ops.std.iwrap .u8 e_,false,0,⟨#[]⟩,⟨#[]⟩,(⟨0,0⟩:Peer),[],[]⟩:Msg) b0_n zah b0_m r1
theorem zsU {e_ b0_n zah b0_m r1 r} (h:zlF e_ b0_n zah b0_m r1=some r):zc4 e_ b0_n zah b0_m r1=some r:=by
 unfold zlF at h
 refine zaq fun γ=>?_
 obtain ⟨γ1,h1⟩:=zai h (gam [0,γ 1])
 rcases r with r11
 refine ⟨gam [0,(γ1 1)],zab rfl ?_⟩;rotate_left
 all_goals (dsimp only [zbQ,zbr] at *;show zat IF_ zHL _ _=_;exact fin_)
def zhd (b0_n:Node) (zah:Int) (b0_m:Msg) (r1:List Out):Option ((Node × (List Out))):=
 bif b0_n.joined then
  (zms (⟨b0_n.me,b0_n.clock,true,b0_n.pred,b0_n.list,b0_n.fingers,b0_n.store,b0_n.pends,b0_n.jobs,b0_n.results,b0_n.rid,b0_n.jobID,b0_n.nextBit⟩:Node) b0_m.id).bind fun ⟨r0,r11,r2⟩=>
  bif r2 then
   (zbu (⟨2,0,0,true,0,⟨#[]⟩,⟨#[]⟩,(⟨0,0⟩:Peer),[r0],[]⟩:Msg) (⟨b0_n.me,b0_n.clock,true,b0_n.pred,b0_n.list,b0_n.fingers,b0_n.store,b0_n.pends,b0_n.jobs,b0_n.results,b0_n.rid,b0_n.jobID,b0_n.nextBit⟩:Node) zah b0_m r1).bind fun r12=>
   some ((⟨b0_n.me,b0_n.clock,true,b0_n.pred,b0_n.list,b0_n.fingers,b0_n.store,b0_n.pends,b0_n.jobs,b0_n.results,b0_n.rid,b0_n.jobID,b0_n.nextBit⟩:Node),r12)
  else
   (zbu (⟨2,0,0,false,0,⟨#[]⟩,⟨#[]⟩,(⟨0,0⟩:Peer),r11,[]⟩:Msg) (⟨b0_n.me,b0_n.clock,true,b0_n.pred,b0_n.list,b0_n.fingers,b0_n.store,b0_n.pends,b0_n.jobs,b0_n.results,b0_n.rid,b0_n.jobID,b0_n.nextBit⟩:Node) zah b0_m r1).bind fun r12=>
   some ((⟨b0_n.me,b0_n.clock,true,b0_n.pred,b0_n.list,b0_n.fingers,b0_n.store,b0_n.pends,b0_n.jobs,b0_n.results,b0_n.rid,b0_n.jobID,b0_n.nextBit⟩:Node),r12)
 else
  (zc4 17 (⟨b0_n.me,b0_n.clock,false,b0_n.pred,b0_n.list,b0_n.fingers,b0_n.store,b0_n.pends,b0_n.jobs,b0_n.results,b0_n.rid,b0_n.jobID,b0_n.nextBit⟩:Node) zah b0_m r1).bind fun r11=>
  some ((⟨b0_n.me,b0_n.clock,false,b0_n.pred,b0_n.list,b0_n.fingers,b0_n.store,b0_n.pends,b0_n.jobs,b0_n.results,b0_n.rid,b0_n.jobID,b0_n.nextBit⟩:Node),r11)
theorem zru {b0_n zah b0_m r1 r} (h:zhd b0_n zah b0_m r1=some r):ziB b0_n zah b0_m r1=some r:=by
 unfold zhd at h
 refine zaq fun γ=>?_
 rcases zaa h with ⟨h1,h⟩ | ⟨h1,h⟩
 obtain ⟨r2,h2,h⟩:=zac h
 rcases r2 with ⟨r0,r11,r2⟩
 rcases zaa h with ⟨h3,h⟩ | ⟨h3,h⟩
 obtain ⟨r12,γ2,h4,h⟩:=zan h (gam [0,γ 1])
 cases h;refine ⟨gam [0,(γ2 1)],zab rfl ?_⟩;rotate_left
 obtain ⟨r12,γ2,h4,h⟩:=zan h (gam [0,γ 1])
 cases h;refine ⟨gam [0,(γ2 1)],zab rfl ?_⟩;rotate_left
 obtain ⟨r11,γ1,h2,h⟩:=zan h (gam [0,γ 1])
 cases h;refine ⟨gam [0,(γ1 1)],zab rfl ?_⟩;rotate_left
 all_goals (dsimp only [R3,zcS,zbQ,zbr] at *;show zat IF_ g55F _ _=_;(try dsimp only [zaf,zag,zaU,zae,zbe,eJob,za7,zbc,eMsg,eOut,zbw,zbm,zau,cMsg,capp] at *);(try simp only [List.map_cons,List.map_nil] at *);(try generalize b0_n.joined=q0 at *);exact fin_)
def zn3 (l:List Entry):Option ((List Peer)):=
 zvS l
theorem zAU {l r} (h:zn3 l=some r):zsi l=some r:=by
 unfold zn3 at h
 refine zar ?_
 have h1:=ask_some h
 rcases r with res
 refine zab rfl ?_;rotate_left
 all_goals (dsimp only [K1,R1] at *;show zat IF_ zHO _ _=_;exact fin_)
abbrev zfN:=((List Out) × Bool × Int × Int × (List Peer))
def zcr (b0_n:Node) (zah:Int) (b0_m:Msg) (γ:Nat → Nat):zfN → X × St
 | (a0,a1,a2,a3,a4)=>(.nor,⟨bd 37 [],[.box 93 (capp (zau b0_n) (vH zah :: (capp (cMsg b0_m) ([.sl 1 ((γ 1))])))),.row 56 (γ 1) false (List.map eOut a0),.box 37 ([vI 4,vW 0,vB 0,vF a1,vU 0,vT ⟨#[]⟩,vT ⟨#[]⟩,vU a2,vH a3,.lit 25 false (List.map zaf a4),.lit 0 true []])]⟩)
instance {b0_n zah b0_m}:InjS (zcr b0_n zah b0_m):=⟨fun γ γ' x y h=>by
 rcases x with ⟨a0,a1,a2,a3,a4⟩ <;> rcases y with ⟨a0',a1',a2',a3',a4'⟩ <;> simp only [zcr] at h <;> exact inj_⟩
def zeg (b0_n:Node) (zah:Int) (b0_m:Msg) (r1:List Out) (zc0:List Peer):Option (zfN):=asks (fun γ=>(lim F pr).seg [] zyu ⟨.bptr 0 0 :: bd 2 (.bptr 2 0 :: bd 33 []),[.box 93 (capp (zau b0_n) (vH zah :: (capp (cMsg b0_m) ([.sl 1 ((γ 1))])))),.row 56 (γ 1) false (List.map eOut r1),.box 37 ([vI 4,vW 0,vB 0,vF (Ops.std.ilt 0 (xlen zag b0_n.pred)),vU 0,vT ⟨#[]⟩,vT ⟨#[]⟩,vU 0,vH 0,.lit 25 false (List.map zaf zc0),.lit 0 true []])]⟩) (zcr b0_n zah b0_m)
def zfO (b0_n:Node) (zah:Int) (b0_m:Msg) (r1:List Out) (zc0:List Peer):Option (zfN):=
 bif Ops.std.ilt 0 (xlen zag b0_n.pred) then
  (xget zag b0_n.pred 0).bind fun x=>
  (zbu (⟨4,0,0,true,0,⟨#[]⟩,⟨#[]⟩,x.peer,zc0,[]⟩:Msg) b0_n zah b0_m r1).bind fun r11=>
  some (r11,true,x.peer.id,x.peer.addr,zc0)
 else
  (zbu (⟨4,0,0,false,0,⟨#[]⟩,⟨#[]⟩,(⟨0,0⟩:Peer),zc0,[]⟩:Msg) b0_n zah b0_m r1).bind fun r11=>
  some (r11,false,0,0,zc0)
theorem zpq {b0_n zah b0_m r1 zc0 r} (h:zfO b0_n zah b0_m r1 zc0=some r):zeg b0_n zah b0_m r1 zc0=some r:=by
 unfold zfO at h
 refine zaq fun γ=>?_
 rcases zaa h with ⟨h1,h⟩ | ⟨h1,h⟩
 obtain ⟨x,h2,h⟩:=zac h
 obtain ⟨r11,γ1,h3,h⟩:=zan h (gam [0,(γ 1)])
 cases h;refine ⟨gam [0,(γ1 1)],zak ?_⟩;rotate_left
 obtain ⟨r11,γ1,h2,h⟩:=zan h (gam [0,(γ 1)])
 cases h;refine ⟨gam [0,(γ1 1)],zak ?_⟩;rotate_left
 all_goals (dsimp only [zcr,zbr] at *;show Ifc.apart IF_ _ zEn _=_;exact fin_)
def zhZ (b0_n:Node) (zah:Int) (b0_m:Msg) (r1:List Out):Option ((List Out)):=
 (zsi b0_n.list).bind fun res=>
 bif Ops.std.ilt 16 (xlen zaf res) then
  (xsub zaf res 0 16).bind fun ys=>
  (zeg b0_n zah b0_m r1 ys).bind fun ⟨r1',zaB,zap,zam,zc0⟩=>
  some r1'
 else
  (xsub zaf res 0 (xlen zaf res)).bind fun ys=>
  (zeg b0_n zah b0_m r1 ys).bind fun ⟨r1',zaB,zap,zam,zc0⟩=>
  some r1'
theorem zsR {b0_n zah b0_m r1 r} (h:zhZ b0_n zah b0_m r1=some r):zjx b0_n zah b0_m r1=some r:=by
 unfold zhZ at h
 refine zaq fun γ=>?_
 obtain ⟨res,h1,h⟩:=zac h
 rcases zaa h with ⟨h2,h⟩ | ⟨h2,h⟩
 obtain ⟨ys,h3,h⟩:=zac h
 obtain ⟨r4,γ2,h4,h⟩:=zan h (gam [0,γ 1])
 rcases r4 with ⟨r1',zaB,zap,zam,zc0⟩
 cases h;refine ⟨gam [0,(γ2 1)],zab rfl ?_⟩;rotate_left
 obtain ⟨ys,h3,h⟩:=zac h
 obtain ⟨r4,γ2,h4,h⟩:=zan h (gam [0,γ 1])
 rcases r4 with ⟨r1',zaB,zap,zam,zc0⟩
 cases h;refine ⟨gam [0,(γ2 1)],zab rfl ?_⟩;rotate_left
 all_goals (dsimp only [R1,zdm,zcr] at *;show zat IF_ (g56F zyu) _ _=_;generalize zyu=c0 at *;exact fin_)
def zkk (b0_n:Node) (zah:Int) (b0_m:Msg) (r1:List Out):Option ((List Out)):=
 zbu (⟨6,0,0,false,0,⟨#[]⟩,⟨#[]⟩,(⟨0,0⟩:Peer),[],[]⟩:Msg) b0_n zah b0_m r1
theorem zry {b0_n zah b0_m r1 r} (h:zkk b0_n zah b0_m r1=some r):zcG b0_n zah b0_m r1=some r:=by
 unfold zkk at h
 refine zaq fun γ=>?_
 obtain ⟨γ1,h1⟩:=zai h (gam [0,γ 1])
 rcases r with r11
 refine ⟨gam [0,(γ1 1)],zab rfl ?_⟩;rotate_left
 all_goals (dsimp only [zbz,zbr] at *;show zat IF_ g61F _ _=_;exact fin_)
def zfl (me:Peer) (l:List Entry) (p:Peer) (γ:Nat → Nat):(Int × (List Entry)) → X × St
 | (a0,a1)=>(.ret,⟨bd 6 (.sub 4 ((γ 4)) (0) (a0) :: bd 57 []),[.box 25 [vU me.id,vH me.addr],.box 25 [vU p.id,vH p.addr],.row 81 (γ 2) false (List.map zag []),.row 81 (γ 3) true (List.map zag l),.row 81 (γ 4) false (List.map zag a1)]⟩)
instance {me l p}:InjS (zfl me l p):=⟨fun γ γ' x y h=>by
 rcases x with ⟨a0,a1⟩ <;> rcases y with ⟨a0',a1'⟩ <;> simp only [zfl] at h <;> exact inj_⟩
def zhB (me:Peer) (l:List Entry) (p:Peer):Option ((Int × (List Entry))):=asks (fun γ=>(lim F pr).seg [6] zvi ⟨bd 3 (.bptr 0 0 :: bd 1 (.bptr 1 0 :: bd 1 (.sl 3 ((γ 3)) :: bd 56 []))),[.box 25 [vU me.id,vH me.addr],.box 25 [vU p.id,vH p.addr],.row 81 (γ 2) false (List.map zag []),.row 81 (γ 3) false (List.map zag l)]⟩) (zfl me l p)
def zfk (me:Peer) (l:List Entry) (p:Peer) (γ:Nat → Nat):(Int × (List Entry)) → X × St
 | (a0,a1)=>(.ret,⟨bd 6 (.sub 4 ((γ 4)) (0) (a0) :: bd 57 []),[.box 25 [vU me.id,vH me.addr],.box 25 [vU p.id,vH p.addr],.row 81 (γ 2) false (List.map zag []),.row 81 (γ 3) true (List.map zag l),.row 81 (γ 4) false (List.map zag a1)]⟩)
instance {me l p}:InjS (zfk me l p):=⟨fun γ γ' x y h=>by
 rcases x with ⟨a0,a1⟩ <;> rcases y with ⟨a0',a1'⟩ <;> simp only [zfk] at h <;> exact inj_⟩
def zjW (me:Peer) (l:List Entry) (p:Peer) (i:Int) (r4:List Entry):Option ((Int × (List Entry))):=asks (fun γ=>(lim F pr).seg [6] zvh ⟨bd 5 (.bptr 1 0 :: bd 1 (.sl 4 ((γ 4)) :: bd 1 (vI i :: bd 54 []))),[.box 25 [vU me.id,vH me.addr],.box 25 [vU p.id,vH p.addr],.row 81 (γ 2) false (List.map zag []),.row 81 (γ 3) true (List.map zag l),.row 81 (γ 4) false (List.map zag r4)]⟩) (zfk me l p)
def zif (me:Peer) (l:List Entry) (p:Peer):Option ((Int × (List Entry))):=
 (zqi l p.addr).bind fun res=>
 (zjO res me.id me.addr p.id p.addr).bind fun res1=>
 bif Ops.std.ilt res1 0 then zjW me l p (xlen zag res) res else
 zjW me l p res1 res
theorem zo9 {me l p r} (h:zif me l p=some r):zhB me l p=some r:=by
 unfold zif at h
 refine zaq fun γ=>?_
 obtain ⟨res,h1,h⟩:=zac h
 obtain ⟨res1,h2,h⟩:=zac h
 rcases zaa h with ⟨h3,h⟩ | ⟨h3,h⟩
 obtain ⟨γ3,h4⟩:=zai h (gam [0,0,(γ 2),(γ 3),0])
 rcases r with ⟨t6_hi,r4⟩
 refine ⟨gam [0,0,(γ3 2),(γ3 3),(γ3 4)],zak ?_⟩;rotate_left
 obtain ⟨γ3,h4⟩:=zai h (gam [0,0,(γ 2),(γ 3),0])
 rcases r with ⟨t6_hi,r4⟩
 refine ⟨gam [0,0,(γ3 2),(γ3 3),(γ3 4)],zak ?_⟩;rotate_left
 all_goals (dsimp only [zdA,K1,zfk,zfl] at *;show Ifc.apart IF_ _ (zBM zvh) _=_;generalize zvh=c0 at *;exact fin_)
def zky (me:Peer) (l:List Entry) (p:Peer) (i:Int) (r4:List Entry):Option ((Int × (List Entry))):=
 bif zaN zag 24 r4 [(⟨p,0⟩:Entry)] then
  (xsub zag r4 0 i).bind fun ys=>
  (xsub zag r4 i (xlen zag r4)).bind fun ys1=>
  bif Ops.std.ilt (Ops.std.isub .i64 (xlen zag (ys ++ ([(⟨p,0⟩:Entry)] ++ ys1))) 1) 15 then
   bif Ops.std.ilt 15 (xlen zag (ys ++ ([(⟨p,0⟩:Entry)] ++ ys1))) then
    (xsub zag (ys ++ ([(⟨p,0⟩:Entry)] ++ ys1)) 0 15).bind fun ys2=>
    some (15,(ys ++ ([(⟨p,0⟩:Entry)] ++ ys1)))
   else
    (xsub zag (ys ++ ([(⟨p,0⟩:Entry)] ++ ys1)) 0 (xlen zag (ys ++ ([(⟨p,0⟩:Entry)] ++ ys1)))).bind fun ys2=>
    some (xlen zag (ys ++ ([(⟨p,0⟩:Entry)] ++ ys1)),(ys ++ ([(⟨p,0⟩:Entry)] ++ ys1)))
  else
   bif Ops.std.ilt (Ops.std.isub .i64 (xlen zag (ys ++ ([(⟨p,0⟩:Entry)] ++ ys1))) 1) (xlen zag (ys ++ ([(⟨p,0⟩:Entry)] ++ ys1))) then
    (xsub zag (ys ++ ([(⟨p,0⟩:Entry)] ++ ys1)) 0 (Ops.std.isub .i64 (xlen zag (ys ++ ([(⟨p,0⟩:Entry)] ++ ys1))) 1)).bind fun ys2=>
    some (Ops.std.isub .i64 (xlen zag (ys ++ ([(⟨p,0⟩:Entry)] ++ ys1))) 1,(ys ++ ([(⟨p,0⟩:Entry)] ++ ys1)))
   else
    (xsub zag (ys ++ ([(⟨p,0⟩:Entry)] ++ ys1)) 0 (xlen zag (ys ++ ([(⟨p,0⟩:Entry)] ++ ys1)))).bind fun ys2=>
    some (xlen zag (ys ++ ([(⟨p,0⟩:Entry)] ++ ys1)),(ys ++ ([(⟨p,0⟩:Entry)] ++ ys1)))
 else
  none
theorem zwB {me l p i r4 r} (h:zky me l p i r4=some r):zjW me l p i r4=some r:=by
 unfold zky at h
 refine zaq fun γ=>?_
 obtain ⟨h1,h⟩:=zaw h
 obtain ⟨ys,h2,h⟩:=zac h
 obtain ⟨ys1,h3,h⟩:=zac h
 rcases zaa h with ⟨h4,h⟩ | ⟨h4,h⟩
 rcases zaa h with ⟨h5,h⟩ | ⟨h5,h⟩
 obtain ⟨ys2,h6,h⟩:=zac h
 cases h;refine ⟨gam [0,0,(γ 2),(γ 3),((γ 4) + 1)],zak ?_⟩;rotate_left
 obtain ⟨ys2,h6,h⟩:=zac h
 cases h;refine ⟨gam [0,0,(γ 2),(γ 3),((γ 4) + 1)],zak ?_⟩;rotate_left
 rcases zaa h with ⟨h5,h⟩ | ⟨h5,h⟩
 obtain ⟨ys2,h6,h⟩:=zac h
 cases h;refine ⟨gam [0,0,(γ 2),(γ 3),((γ 4) + 1)],zak ?_⟩;rotate_left
 obtain ⟨ys2,h6,h⟩:=zac h
 cases h;refine ⟨gam [0,0,(γ 2),(γ 3),((γ 4) + 1)],zak ?_⟩;rotate_left
 all_goals (dsimp only [zfk] at *;show Ifc.apart IF_ _ zBL _=_;exact fin_)
def zn1 (me:Peer) (l:List Entry) (p:Peer):Option ((List Entry)):=
 bif zaN zag 24 [] l then
  bif Ops.std.ieq p.addr me.addr then some l else
  (zk5 l p.addr).bind fun res=>
  bif Ops.std.ile 0 res then
   (xget zag l res).bind fun x=>
   bif Ops.std.ieq x.peer.id p.id then
    bif Ops.std.ieq x.peer.addr p.addr then some (xset l res (⟨x.peer,0⟩:Entry)) else
    (zhB me l p).bind fun ⟨t6_hi,r4⟩=>
    (xsub zag r4 0 t6_hi).bind fun ys=>
    some ys
   else
    (zhB me l p).bind fun ⟨t6_hi,r4⟩=>
    (xsub zag r4 0 t6_hi).bind fun ys=>
    some ys
  else
   (zhB me l p).bind fun ⟨t6_hi,r4⟩=>
   (xsub zag r4 0 t6_hi).bind fun ys=>
   some ys
 else
  none
theorem zAT {me l p r} (h:zn1 me l p=some r):zsh me l p=some r:=by
 unfold zn1 at h
 refine zar ?_
 obtain ⟨h1,h⟩:=zaw h
 rcases zaa h with ⟨h2,h⟩ | ⟨h2,h⟩
 cases h;refine zab rfl ?_;rotate_left
 obtain ⟨res,h3,h⟩:=zac h
 rcases zaa h with ⟨h4,h⟩ | ⟨h4,h⟩
 obtain ⟨x,h5,h⟩:=zac h
 rcases zaa h with ⟨h6,h⟩ | ⟨h6,h⟩
 rcases zaa h with ⟨h7,h⟩ | ⟨h7,h⟩
 cases h;refine zab rfl ?_;rotate_left
 obtain ⟨r8,γ2,h8,h⟩:=zan h (gam [0,0,0,0])
 rcases r8 with ⟨t6_hi,r4⟩
 obtain ⟨ys,h9,h⟩:=zac h
 cases h;refine zab rfl ?_;rotate_left
 obtain ⟨r7,γ2,h7,h⟩:=zan h (gam [0,0,0,0])
 rcases r7 with ⟨t6_hi,r4⟩
 obtain ⟨ys,h8,h⟩:=zac h
 cases h;refine zab rfl ?_;rotate_left
 obtain ⟨r5,γ2,h5,h⟩:=zan h (gam [0,0,0,0])
 rcases r5 with ⟨t6_hi,r4⟩
 obtain ⟨ys,h6,h⟩:=zac h
 cases h;refine zab rfl ?_;rotate_left
 all_goals (dsimp only [R1,zfl] at *;show zat IF_ (zHP zvi) _ _=_;generalize zvi=c0 at *;exact fin_)
def zl8 (l:List Pair) (from_:Int) (to_:Int):Option ((List Pair)):=
 bif zaN zae 32 [] l then zjL l from_ to_ else
 none
theorem zyh {l from_ to_ r} (h:zl8 l from_ to_=some r):zoz l from_ to_=some r:=by
 unfold zl8 at h
 refine zar ?_
 obtain ⟨h1,h⟩:=zaw h
 obtain ⟨γ1,h2⟩:=zai h (gam [0,0,0])
 rcases r with r0
 refine zab rfl ?_;rotate_left
 all_goals (dsimp only [zdz,R1] at *;show zat IF_ zHS _ _=_;exact fin_)
def zhe (to_:Peer) (l:List Pair) (b0_n:Node) (zah:Int) (b0_m:Msg) (r1:List Out):Option ((Node × (List Out))):=
 (zmv b0_n to_ l false).bind fun ⟨r0,r11⟩=>
 bif zaN eOut 136 r1 r11 then some (r0,(r1 ++ r11)) else
 none
theorem zrv {to_ l b0_n zah b0_m r1 r} (h:zhe to_ l b0_n zah b0_m r1=some r):ziC to_ l b0_n zah b0_m r1=some r:=by
 unfold zhe at h
 refine zaq fun γ=>?_
 obtain ⟨r1,h1,h⟩:=zac h
 rcases r1 with ⟨r0,r11⟩
 obtain ⟨h2,h⟩:=zaw h
 cases h;refine ⟨gam [0,(γ 1 + 1)],zab rfl ?_⟩;rotate_left
 all_goals (dsimp only [R2,zcT] at *;show zat IF_ zHR _ _=_;exact fin_)
def zir (a:Int) (x:Int) (b:Int):Option (Bool):=
 bif Ops.std.ieq x a then some false else
 bif Ops.std.ieq a b then some true else
 (zhV a x).bind fun res=>
 (zhV a b).bind fun res1=>
 some (Ops.std.ilt res res1)
theorem zpn {a x b r} (h:zir a x b=some r):zfM a x b=some r:=by
 unfold zir at h
 refine zar ?_
 rcases zaa h with ⟨h1,h⟩ | ⟨h1,h⟩
 cases h;refine zab rfl ?_;rotate_left
 rcases zaa h with ⟨h2,h⟩ | ⟨h2,h⟩
 cases h;refine zab rfl ?_;rotate_left
 obtain ⟨res,h3,h⟩:=zac h
 obtain ⟨res1,h4,h⟩:=zac h
 cases h;refine zab rfl ?_;rotate_left
 all_goals (dsimp only [R1] at *;show zat IF_ zHQ _ _=_;exact fin_)
abbrev zeW:=(Node × (List Out)) ⊕ (Node × (List Out))
def zcc (zah:Int) (b0_m:Msg) (γ:Nat → Nat):zeW → X × St
 | .inl (a0,a1)=>(.ret,⟨bd 116 [],[.box 93 (capp (zau a0) (vH zah :: (capp (cMsg b0_m) ([.sl 1 ((γ 1))])))),.row 56 (γ 1) false (List.map eOut a1),.box 25 [vU b0_m.peer.id,vH b0_m.peer.addr]]⟩)
 | .inr (b0,b1)=>(.nor,⟨bd 116 [],[.box 93 (capp (zau b0) (vH zah :: (capp (cMsg b0_m) ([.sl 1 ((γ 1))])))),.row 56 (γ 1) false (List.map eOut b1),.box 25 [vU b0_m.peer.id,vH b0_m.peer.addr]]⟩)
instance {zah b0_m}:InjS (zcc zah b0_m):=⟨fun γ γ' x y h=>by
 rcases x with ⟨a0,a1⟩ | ⟨b0,b1⟩ <;> rcases y with ⟨a0',a1'⟩ | ⟨b0',b1'⟩ <;> simp only [zcc] at h <;> exact inj_⟩
def zgh (b0_n:Node) (zah:Int) (b0_m:Msg) (r1':List Out):Option (zeW):=asks (fun γ=>(lim F pr).seg [] zyx ⟨.bptr 0 0 :: bd 1 (.bptr 2 0 :: bd 113 []),[.box 93 (capp (zau b0_n) (vH zah :: (capp (cMsg b0_m) ([.sl 1 ((γ 1))])))),.row 56 (γ 1) false (List.map eOut r1'),.box 25 [vU b0_m.peer.id,vH b0_m.peer.addr]]⟩) (zcc zah b0_m)
abbrev zeT:=(Node × (List Out) × Int × Int) ⊕ (Node × (List Out) × Int × Int)
def zca (zah:Int) (b0_m:Msg) (γ:Nat → Nat):zeT → X × St
 | .inl (a0,a1,a2,a3)=>(.ret,⟨bd 116 [],[.box 93 (capp (zau a0) (vH zah :: (capp (cMsg b0_m) ([.sl 1 ((γ 1))])))),.row 56 (γ 1) false (List.map eOut a1),.box 25 [vU b0_m.peer.id,vH b0_m.peer.addr],.box 25 [vU a2,vH a3]]⟩)
 | .inr (b0,b1,b2,b3)=>(.nor,⟨.bptr 0 0 :: bd 1 (.bptr 2 0 :: bd 113 []),[.box 93 (capp (zau b0) (vH zah :: (capp (cMsg b0_m) ([.sl 1 ((γ 1))])))),.row 56 (γ 1) false (List.map eOut b1),.box 25 [vU b0_m.peer.id,vH b0_m.peer.addr],.box 25 [vU b2,vH b3]]⟩)
instance {zah b0_m}:InjS (zca zah b0_m):=⟨fun γ γ' x y h=>by
 rcases x with ⟨a0,a1,a2,a3⟩ | ⟨b0,b1,b2,b3⟩ <;> rcases y with ⟨a0',a1',a2',a3'⟩ | ⟨b0',b1',b2',b3'⟩ <;> simp only [zca] at h <;> exact inj_⟩
def zdN (zah:Int) (b0_m:Msg) (b0_n':Node) (r1':List Out) (zbN:Int) (zbo:Int):Option (zeT):=asks (fun γ=>(lim F pr).seg [0,2] zyv ⟨.bptr 0 0 :: bd 1 (.bptr 2 0 :: .bptr 3 0 :: bd 112 []),[.box 93 (capp (zau b0_n') (vH zah :: (capp (cMsg b0_m) ([.sl 1 ((γ 1))])))),.row 56 (γ 1) false (List.map eOut r1'),.box 25 [vU b0_m.peer.id,vH b0_m.peer.addr],.box 25 [vU zbN,vH zbo]]⟩) (zca zah b0_m)
def zcb (zah:Int) (b0_m:Msg) (γ:Nat → Nat):(Node × (List Out) × Int × Int) → X × St
 | (a0,a1,a2,a3)=>(.nor,⟨bd 116 [],[.box 93 (capp (zau a0) (vH zah :: (capp (cMsg b0_m) ([.sl 1 ((γ 1))])))),.row 56 (γ 1) false (List.map eOut a1),.box 25 [vU b0_m.peer.id,vH b0_m.peer.addr],.box 25 [vU a2,vH a3]]⟩)
instance {zah b0_m}:InjS (zcb zah b0_m):=⟨fun γ γ' x y h=>by
 rcases x with ⟨a0,a1,a2,a3⟩ <;> rcases y with ⟨a0',a1',a2',a3'⟩ <;> simp only [zcb] at h <;> exact inj_⟩
def zcD (zah:Int) (b0_m:Msg) (b0_n':Node) (r1':List Out) (zbN:Int) (zbo:Int):Option ((Node × (List Out) × Int × Int)):=asks (fun γ=>(lim F pr).seg [] zyw ⟨.bptr 0 0 :: bd 1 (.bptr 2 0 :: bd 113 []),[.box 93 (capp (zau b0_n') (vH zah :: (capp (cMsg b0_m) ([.sl 1 ((γ 1))])))),.row 56 (γ 1) false (List.map eOut r1'),.box 25 [vU b0_m.peer.id,vH b0_m.peer.addr],.box 25 [vU zbN,vH zbo]]⟩) (zcb zah b0_m)
def zdd (b0_n:Node) (zah:Int) (b0_m:Msg) (r1':List Out):Option (zeW):=
 (zsh b0_n.me b0_n.list b0_m.peer).bind fun res=>
 bif Ops.std.ilt 0 (xlen zag b0_n.pred) then
  (xget zag b0_n.pred 0).bind fun x=>
  bif Ops.std.ieq x.peer.addr b0_m.peer.addr then
   (zdN zah b0_m (⟨b0_n.me,b0_n.clock,b0_n.joined,b0_n.pred,res,b0_n.fingers,b0_n.store,b0_n.pends,b0_n.jobs,b0_n.results,b0_n.rid,b0_n.jobID,b0_n.nextBit⟩:Node) r1' x.peer.id x.peer.addr).bind fun r=>match r with
    | .inl (b0_n',r1'1,zbN,zbo)=>
     some (.inl (b0_n',r1'1))
    | .inr (b0_n',r1'1,zbN,zbo)=>
     (zcD zah b0_m b0_n' r1'1 zbN zbo).bind fun ⟨b0_n'1,r1'2,zyN,zun⟩=>
     some (.inr (b0_n'1,r1'2))
  else
   (zfM x.peer.id b0_m.peer.id b0_n.me.id).bind fun res1=>
   bif res1 then
    (zdN zah b0_m (⟨b0_n.me,b0_n.clock,b0_n.joined,b0_n.pred,res,b0_n.fingers,b0_n.store,b0_n.pends,b0_n.jobs,b0_n.results,b0_n.rid,b0_n.jobID,b0_n.nextBit⟩:Node) r1' x.peer.id x.peer.addr).bind fun r=>match r with
     | .inl (b0_n',r1'1,zbN,zbo)=>
      some (.inl (b0_n',r1'1))
     | .inr (b0_n',r1'1,zbN,zbo)=>
      (zcD zah b0_m b0_n' r1'1 zbN zbo).bind fun ⟨b0_n'1,r1'2,zyN,zun⟩=>
      some (.inr (b0_n'1,r1'2))
   else
    some (.inl ((⟨b0_n.me,b0_n.clock,b0_n.joined,b0_n.pred,res,b0_n.fingers,b0_n.store,b0_n.pends,b0_n.jobs,b0_n.results,b0_n.rid,b0_n.jobID,b0_n.nextBit⟩:Node),r1'))
 else
  (zcD zah b0_m (⟨b0_n.me,b0_n.clock,b0_n.joined,b0_n.pred,res,b0_n.fingers,b0_n.store,b0_n.pends,b0_n.jobs,b0_n.results,b0_n.rid,b0_n.jobID,b0_n.nextBit⟩:Node) r1' 0 0).bind fun ⟨b0_n',r1'1,zbN,zbo⟩=>
  some (.inr (b0_n',r1'1))
theorem zov {b0_n zah b0_m r1' r} (h:zdd b0_n zah b0_m r1'=some r):zgh b0_n zah b0_m r1'=some r:=by
 unfold zdd at h
 refine zaq fun γ=>?_
 obtain ⟨res,h1,h⟩:=zac h
 rcases zaa h with ⟨h2,h⟩ | ⟨h2,h⟩
 obtain ⟨x,h3,h⟩:=zac h
 rcases zaa h with ⟨h4,h⟩ | ⟨h4,h⟩
 obtain ⟨r5,γ2,h5,h⟩:=zan h (gam [0,(γ 1)])
 rcases r5 with ⟨b0_n',r1'1,zbN,zbo⟩ | ⟨b0_n',r1'1,zbN,zbo⟩
 cases h;refine ⟨gam [0,(γ2 1)],zak ?_⟩;rotate_left
 obtain ⟨r6,γ3,h6,h⟩:=zan h (gam [0,(γ2 1)])
 rcases r6 with ⟨b0_n'1,r1'2,zyN,zun⟩
 cases h;refine ⟨gam [0,(γ3 1)],zak ?_⟩;rotate_left
 obtain ⟨res1,h5,h⟩:=zac h
 rcases zaa h with ⟨h6,h⟩ | ⟨h6,h⟩
 obtain ⟨r7,γ3,h7,h⟩:=zan h (gam [0,(γ 1)])
 rcases r7 with ⟨b0_n',r1'1,zbN,zbo⟩ | ⟨b0_n',r1'1,zbN,zbo⟩
 cases h;refine ⟨gam [0,(γ3 1)],zak ?_⟩;rotate_left
 obtain ⟨r8,γ4,h8,h⟩:=zan h (gam [0,(γ3 1)])
 rcases r8 with ⟨b0_n'1,r1'2,zyN,zun⟩
 cases h;refine ⟨gam [0,(γ4 1)],zak ?_⟩;rotate_left
 cases h;refine ⟨gam [0,(γ 1)],zak ?_⟩;rotate_left
 obtain ⟨r3,γ2,h3,h⟩:=zan h (gam [0,(γ 1)])
 rcases r3 with ⟨b0_n',r1'1,zbN,zbo⟩
 cases h;refine ⟨gam [0,(γ2 1)],zak ?_⟩;rotate_left
 all_goals (dsimp only [R1,zca,zcb,zcc] at *;show Ifc.apart IF_ _ (zEq zyv zyw) _=_;generalize zyv=c0,zyw=c1 at *;exact fin_)
def zeU (zah:Int) (b0_m:Msg) (b0_n':Node) (r1':List Out) (zbN:Int) (zbo:Int):Option (zeT):=
 bif Ops.std.ieq zbN b0_m.peer.id then
  bif Ops.std.ieq zbo b0_m.peer.addr then
   some (.inl ((⟨b0_n'.me,b0_n'.clock,b0_n'.joined,[(⟨b0_m.peer,0⟩:Entry)],b0_n'.list,b0_n'.fingers,b0_n'.store,b0_n'.pends,b0_n'.jobs,b0_n'.results,b0_n'.rid,b0_n'.jobID,b0_n'.nextBit⟩:Node),r1',zbN,zbo))
  else
   some (.inr ((⟨b0_n'.me,b0_n'.clock,b0_n'.joined,[(⟨b0_m.peer,0⟩:Entry)],b0_n'.list,b0_n'.fingers,b0_n'.store,b0_n'.pends,b0_n'.jobs,b0_n'.results,b0_n'.rid,b0_n'.jobID,b0_n'.nextBit⟩:Node),r1',zbN,zbo))
 else
  some (.inr ((⟨b0_n'.me,b0_n'.clock,b0_n'.joined,[(⟨b0_m.peer,0⟩:Entry)],b0_n'.list,b0_n'.fingers,b0_n'.store,b0_n'.pends,b0_n'.jobs,b0_n'.results,b0_n'.rid,b0_n'.jobID,b0_n'.nextBit⟩:Node),r1',zbN,zbo))
theorem zot {zah b0_m b0_n' r1' zbN zbo r} (h:zeU zah b0_m b0_n' r1' zbN zbo=some r):zdN zah b0_m b0_n' r1' zbN zbo=some r:=by
 unfold zeU at h
 refine zaq fun γ=>?_
 rcases zaa h with ⟨h1,h⟩ | ⟨h1,h⟩
 rcases zaa h with ⟨h2,h⟩ | ⟨h2,h⟩
 cases h;refine ⟨gam [0,(γ 1)],zak ?_⟩;rotate_left
 cases h;refine ⟨gam [0,(γ 1)],zak ?_⟩;rotate_left
 cases h;refine ⟨gam [0,(γ 1)],zak ?_⟩;rotate_left
 all_goals (dsimp only [zca] at *;show Ifc.apart IF_ _ zEo _=_;exact fin_)
def zeV (zah:Int) (b0_m:Msg) (b0_n':Node) (r1':List Out) (zbN:Int) (zbo:Int):Option ((Node × (List Out) × Int × Int)):=
 (zoz b0_n'.store b0_n'.me.id b0_m.peer.id).bind fun res=>
 (ziC b0_m.peer res (⟨b0_n'.me,b0_n'.clock,b0_n'.joined,[(⟨b0_m.peer,0⟩:Entry)],b0_n'.list,b0_n'.fingers,b0_n'.store,b0_n'.pends,b0_n'.jobs,b0_n'.results,b0_n'.rid,b0_n'.jobID,b0_n'.nextBit⟩:Node) zah b0_m r1').bind fun ⟨b0_n1,r11⟩=>
 some (b0_n1,r11,zbN,zbo)
theorem zou {zah b0_m b0_n' r1' zbN zbo r} (h:zeV zah b0_m b0_n' r1' zbN zbo=some r):zcD zah b0_m b0_n' r1' zbN zbo=some r:=by
 unfold zeV at h
 refine zaq fun γ=>?_
 obtain ⟨res,h1,h⟩:=zac h
 obtain ⟨r2,γ2,h2,h⟩:=zan h (gam [0,(γ 1)])
 rcases r2 with ⟨b0_n1,r11⟩
 cases h;refine ⟨gam [0,(γ2 1)],zak ?_⟩;rotate_left
 all_goals (dsimp only [R1,zcT,zcb] at *;show Ifc.apart IF_ _ zEp _=_;exact fin_)
def zhf (b0_n:Node) (zah:Int) (b0_m:Msg) (r1:List Out):Option ((Node × (List Out))):=
 (zcG b0_n zah b0_m r1).bind fun r11=>
 bif Ops.std.ieq b0_m.peer.addr zah then
  bif Ops.std.ieq b0_m.peer.addr b0_n.me.addr then some (b0_n,r11) else
  (zgh b0_n zah b0_m r11).bind fun r=>match r with
   | .inl (b0_n',r1')=>
    some (b0_n',r1')
   | .inr (b0_n',r1')=>
    some (b0_n',r1')
 else
  some (b0_n,r11)
theorem zrx {b0_n zah b0_m r1 r} (h:zhf b0_n zah b0_m r1=some r):ziE b0_n zah b0_m r1=some r:=by
 unfold zhf at h
 refine zaq fun γ=>?_
 obtain ⟨r11,γ1,h1,h⟩:=zan h (gam [0,γ 1])
 rcases zaa h with ⟨h2,h⟩ | ⟨h2,h⟩
 rcases zaa h with ⟨h3,h⟩ | ⟨h3,h⟩
 cases h;refine ⟨gam [0,(γ1 1)],zab rfl ?_⟩;rotate_left
 obtain ⟨r4,γ2,h4,h⟩:=zan h (gam [0,(γ1 1)])
 rcases r4 with ⟨b0_n',r1'⟩ | ⟨b0_n',r1'⟩
 cases h;refine ⟨gam [0,(γ2 1)],zab rfl ?_⟩;rotate_left
 cases h;refine ⟨gam [0,(γ2 1)],zab rfl ?_⟩;rotate_left
 cases h;refine ⟨gam [0,(γ1 1)],zab rfl ?_⟩;rotate_left
 all_goals (dsimp only [zcV,zcc,zbz] at *;show zat IF_ (g57F zyx) _ _=_;generalize zyx=c0 at *;exact fin_)
def zmU (s:ByteArray):Option (Int):=
 (zux s).bind fun res=>
 zuw res
theorem zzh {s r} (h:zmU s=some r):zmj s=some r:=by
 unfold zmU at h
 refine zar ?_
 obtain ⟨res,h1,h⟩:=zac h
 have h2:=ask_some h
 rcases r with res1
 refine zab rfl ?_;rotate_left
 all_goals (dsimp only [R1] at *;show zat IF_ g88F _ _=_;exact fin_)
def zna (n:Node) (key:Int):Option (Bool):=
 (zms n key).bind fun ⟨r0,r1,r2⟩=>
 bif r2 then
  bif Ops.std.ieq r0.id n.me.id then
   bif Ops.std.ieq r0.addr n.me.addr then some true else
   some false
  else
   some false
 else
  some false
theorem zz2 {n key r} (h:zna n key=some r):zqS n key=some r:=by
 unfold zna at h
 refine zar ?_
 obtain ⟨r1,h1,h⟩:=zac h
 rcases r1 with ⟨r0,r1,r2⟩
 rcases zaa h with ⟨h2,h⟩ | ⟨h2,h⟩
 rcases zaa h with ⟨h3,h⟩ | ⟨h3,h⟩
 rcases zaa h with ⟨h4,h⟩ | ⟨h4,h⟩
 cases h;refine zab rfl ?_;rotate_left
 cases h;refine zab rfl ?_;rotate_left
 cases h;refine zab rfl ?_;rotate_left
 cases h;refine zab rfl ?_;rotate_left
 all_goals (dsimp only [R1,R3] at *;show zat IF_ zIA _ _=_;exact fin_)
def zh1 (b0_n:Node) (zah:Int) (b0_m:Msg) (r1:List Out):Option ((Bool × Node × (List Out))):=
 bif b0_n.joined then
  (zmj b0_m.key).bind fun res=>
  (zqS (⟨b0_n.me,b0_n.clock,true,b0_n.pred,b0_n.list,b0_n.fingers,b0_n.store,b0_n.pends,b0_n.jobs,b0_n.results,b0_n.rid,b0_n.jobID,b0_n.nextBit⟩:Node) res).bind fun res1=>
  bif res1 then
   some (true,(⟨b0_n.me,b0_n.clock,true,b0_n.pred,b0_n.list,b0_n.fingers,b0_n.store,b0_n.pends,b0_n.jobs,b0_n.results,b0_n.rid,b0_n.jobID,b0_n.nextBit⟩:Node),r1)
  else
   (zc4 14 (⟨b0_n.me,b0_n.clock,true,b0_n.pred,b0_n.list,b0_n.fingers,b0_n.store,b0_n.pends,b0_n.jobs,b0_n.results,b0_n.rid,b0_n.jobID,b0_n.nextBit⟩:Node) zah b0_m r1).bind fun r11=>
   some (false,(⟨b0_n.me,b0_n.clock,true,b0_n.pred,b0_n.list,b0_n.fingers,b0_n.store,b0_n.pends,b0_n.jobs,b0_n.results,b0_n.rid,b0_n.jobID,b0_n.nextBit⟩:Node),r11)
 else
  (zc4 17 (⟨b0_n.me,b0_n.clock,false,b0_n.pred,b0_n.list,b0_n.fingers,b0_n.store,b0_n.pends,b0_n.jobs,b0_n.results,b0_n.rid,b0_n.jobID,b0_n.nextBit⟩:Node) zah b0_m r1).bind fun r11=>
  some (false,(⟨b0_n.me,b0_n.clock,false,b0_n.pred,b0_n.list,b0_n.fingers,b0_n.store,b0_n.pends,b0_n.jobs,b0_n.results,b0_n.rid,b0_n.jobID,b0_n.nextBit⟩:Node),r11)
theorem zsT {b0_n zah b0_m r1 r} (h:zh1 b0_n zah b0_m r1=some r):zgg b0_n zah b0_m r1=some r:=by
 unfold zh1 at h
 refine zaq fun γ=>?_
 rcases zaa h with ⟨h1,h⟩ | ⟨h1,h⟩
 obtain ⟨res,h2,h⟩:=zac h
 obtain ⟨res1,h3,h⟩:=zac h
 rcases zaa h with ⟨h4,h⟩ | ⟨h4,h⟩
 cases h;refine ⟨gam [0,γ 1],zab rfl ?_⟩;rotate_left
 obtain ⟨r11,γ3,h5,h⟩:=zan h (gam [0,γ 1])
 cases h;refine ⟨gam [0,(γ3 1)],zab rfl ?_⟩;rotate_left
 obtain ⟨r11,γ1,h2,h⟩:=zan h (gam [0,γ 1])
 cases h;refine ⟨gam [0,(γ1 1)],zab rfl ?_⟩;rotate_left
 all_goals (dsimp only [R1,zcs,zbQ] at *;show zat IF_ zHT _ _=_;(try dsimp only [zaf,zag,zaU,zae,zbe,eJob,za7,zbc,eMsg,eOut,zbw,zbm,zau,cMsg,capp] at *);(try simp only [List.map_cons,List.map_nil] at *);(try generalize b0_n.joined=q0 at *);exact fin_)
def zh2 (b0_n:Node) (zah:Int) (b0_m:Msg) (r1:List Out):Option ((Node × (List Out))):=
 (zgg b0_n zah b0_m r1).bind fun ⟨res,b0_n1,r11⟩=>
 bif res then
  (zqV b0_n1 b0_m.key b0_m.val).bind fun ⟨r0,r12,r2⟩=>
  bif Ops.std.ieq r2 0 then
   (zcG b0_n1 zah b0_m r11).bind fun r13=>
   bif zaN eOut 136 r13 r12 then some (r0,(r13 ++ r12)) else
   none
  else
   (zc4 r2 b0_n1 zah b0_m r11).bind fun r13=>
   some (b0_n1,r13)
 else
  some (b0_n1,r11)
theorem zsV {b0_n zah b0_m r1 r} (h:zh2 b0_n zah b0_m r1=some r):zjz b0_n zah b0_m r1=some r:=by
 unfold zh2 at h
 refine zaq fun γ=>?_
 obtain ⟨r1,γ1,h1,h⟩:=zan h (gam [0,γ 1])
 rcases r1 with ⟨res,b0_n1,r11⟩
 rcases zaa h with ⟨h2,h⟩ | ⟨h2,h⟩
 obtain ⟨r3,h3,h⟩:=zac h
 rcases r3 with ⟨r0,r12,r2⟩
 rcases zaa h with ⟨h4,h⟩ | ⟨h4,h⟩
 obtain ⟨r13,γ3,h5,h⟩:=zan h (gam [0,(γ1 1)])
 obtain ⟨h6,h⟩:=zaw h
 cases h;refine ⟨gam [0,((γ3 1) + 1)],zab rfl ?_⟩;rotate_left
 obtain ⟨r13,γ3,h5,h⟩:=zan h (gam [0,(γ1 1)])
 cases h;refine ⟨gam [0,(γ3 1)],zab rfl ?_⟩;rotate_left
 cases h;refine ⟨gam [0,(γ1 1)],zab rfl ?_⟩;rotate_left
 all_goals (dsimp only [R3,zcs,zbQ,zbz,zdo] at *;show zat IF_ g58F _ _=_;exact fin_)
def zlm (l:List Pair) (key:ByteArray):Option ((ByteArray × Bool)):=
 (zeX l key).bind fun res=>
 bif Ops.std.ilt res 0 then some (⟨#[]⟩,false) else
 (xget zae l res).bind fun x=>
 some (x.val,true)
theorem zBt {l key r} (h:zlm l key=some r):zsX l key=some r:=by
 unfold zlm at h
 refine zar ?_
 obtain ⟨res,h1,h⟩:=zac h
 rcases zaa h with ⟨h2,h⟩ | ⟨h2,h⟩
 cases h;refine zab rfl ?_;rotate_left
 obtain ⟨x,h3,h⟩:=zac h
 cases h;refine zab rfl ?_;rotate_left
 all_goals (dsimp only [R1,R2] at *;show zat IF_ zHU _ _=_;exact fin_)
def zh0 (b0_n:Node) (zah:Int) (b0_m:Msg) (r1:List Out):Option ((Node × (List Out))):=
 (zgg b0_n zah b0_m r1).bind fun ⟨res,b0_n1,r11⟩=>
 bif res then
  (zsX b0_n1.store b0_m.key).bind fun ⟨r0,r12⟩=>
  (zbu (⟨9,0,0,r12,0,⟨#[]⟩,r0,(⟨0,0⟩:Peer),[],[]⟩:Msg) b0_n1 zah b0_m r11).bind fun r13=>
  some (b0_n1,r13)
 else
  some (b0_n1,r11)
theorem zsS {b0_n zah b0_m r1 r} (h:zh0 b0_n zah b0_m r1=some r):zjy b0_n zah b0_m r1=some r:=by
 unfold zh0 at h
 refine zaq fun γ=>?_
 obtain ⟨r1,γ1,h1,h⟩:=zan h (gam [0,γ 1])
 rcases r1 with ⟨res,b0_n1,r11⟩
 rcases zaa h with ⟨h2,h⟩ | ⟨h2,h⟩
 obtain ⟨r3,h3,h⟩:=zac h
 rcases r3 with ⟨r0,r12⟩
 obtain ⟨r13,γ3,h4,h⟩:=zan h (gam [0,(γ1 1)])
 cases h;refine ⟨gam [0,(γ3 1)],zab rfl ?_⟩;rotate_left
 cases h;refine ⟨gam [0,(γ1 1)],zab rfl ?_⟩;rotate_left
 all_goals (dsimp only [R2,zdn,zcs,zbr] at *;show zat IF_ g59F _ _=_;exact fin_)
def zfR (key:ByteArray) (γ:Nat → Nat):(List Pair) → X × St
 | a0=>(.ret,⟨bd 6 (.sl 2 ((γ 2)) :: vI 0 :: bd 45 []),[.box 9 [vT key],.row 78 (γ 1) false (List.map zae []),.row 78 (γ 2) false (List.map zae a0)]⟩)
instance {key}:InjS (zfR key):=⟨fun γ γ' x y h=>by
 rcases x with a0 <;> rcases y with a0' <;> simp only [zfR] at h <;> exact inj_⟩
def zng (l:List Pair) (key:ByteArray) (val:ByteArray):Option ((List Pair)):=asks (fun γ=>(lim F pr).seg [6,7] zyB ⟨bd 2 (vT val :: bd 1 (.bptr 0 0 :: bd 3 (.sl 2 ((γ 2)) :: bd 44 []))),[.box 9 [vT key],.row 78 (γ 1) false (List.map zae []),.row 78 (γ 2) false (List.map zae l)]⟩) (zfR key)
def zkT (l:List Pair) (key:ByteArray) (val:ByteArray):Option ((List Pair)):=
 (zjk l key).bind fun res=>
 bif Ops.std.ilt res 0 then
  bif zaN zae 32 l [(⟨key,val⟩:Pair)] then
   (xsub zae l 0 (xlen zae l)).bind fun ys=>
   (xsub zae l (xlen zae l) (xlen zae l)).bind fun ys1=>
   some (ys ++ ([(⟨key,val⟩:Pair)] ++ ys1))
  else
   none
 else
  bif zaN zae 32 l [(⟨key,val⟩:Pair)] then
   (xsub zae l 0 res).bind fun ys=>
   (xsub zae l res (xlen zae l)).bind fun ys1=>
   some (ys ++ ([(⟨key,val⟩:Pair)] ++ ys1))
  else
   none
theorem zwX {l key val r} (h:zkT l key val=some r):zng l key val=some r:=by
 unfold zkT at h
 refine zaq fun γ=>?_
 obtain ⟨res,h1,h⟩:=zac h
 rcases zaa h with ⟨h2,h⟩ | ⟨h2,h⟩
 obtain ⟨h3,h⟩:=zaw h
 obtain ⟨ys,h4,h⟩:=zac h
 obtain ⟨ys1,h5,h⟩:=zac h
 cases h;refine ⟨gam [0,(γ 1),((γ 2) + 1)],zak ?_⟩;rotate_left
 obtain ⟨h3,h⟩:=zaw h
 obtain ⟨ys,h4,h⟩:=zac h
 obtain ⟨ys1,h5,h⟩:=zac h
 cases h;refine ⟨gam [0,(γ 1),((γ 2) + 1)],zak ?_⟩;rotate_left
 all_goals (dsimp only [zdh,zfR] at *;show Ifc.apart IF_ _ zED _=_;exact fin_)
def zoy (l:List Pair) (key:ByteArray) (val:ByteArray):Option (((List Pair) × Int)):=
 bif zaN zae 32 [] l then
  (zeX l key).bind fun res=>
  (zmA key).bind fun res1=>
  bif res1 then
   bif Ops.std.ilt 512 (Ops.std.slen val) then some (l,5) else
   bif Ops.std.ile 0 res then
    (xget zae l res).bind fun x=>
    some (xset l res (⟨x.key,val⟩:Pair),0)
   else
    bif Ops.std.ile 64 (xlen zae l) then some (l,10) else
    (zng l key val).bind fun r2=>
    some (r2,0)
  else
   some (l,7)
 else
  none
theorem zBu {l key val r} (h:zoy l key val=some r):zh3 l key val=some r:=by
 unfold zoy at h
 refine zar ?_
 obtain ⟨h1,h⟩:=zaw h
 obtain ⟨res,h2,h⟩:=zac h
 obtain ⟨res1,h3,h⟩:=zac h
 rcases zaa h with ⟨h4,h⟩ | ⟨h4,h⟩
 rcases zaa h with ⟨h5,h⟩ | ⟨h5,h⟩
 cases h;refine zab rfl ?_;rotate_left
 rcases zaa h with ⟨h6,h⟩ | ⟨h6,h⟩
 obtain ⟨x,h7,h⟩:=zac h
 cases h;refine zab rfl ?_;rotate_left
 rcases zaa h with ⟨h7,h⟩ | ⟨h7,h⟩
 cases h;refine zab rfl ?_;rotate_left
 obtain ⟨r2,γ3,h8,h⟩:=zan h (gam [0,0,0])
 cases h;refine zab rfl ?_;rotate_left
 cases h;refine zab rfl ?_;rotate_left
 all_goals (dsimp only [R1,R2,zfR] at *;show zat IF_ (g75F zyB) _ _=_;generalize zyB=c0 at *;exact fin_)
def zbF (l:List Pair) (γ:Nat → Nat):Unit ⊕ (((List Pair) × Int) ⊕ Int) → X × St
 | .inl ()=>(.brk 0,⟨bd 6 (.sl 1 ((γ 1)) :: vI 0 :: bd 33 []),[.row 78 (γ 0) false (List.map zae []),.row 78 (γ 1) false (List.map zae l)]⟩)
 | .inr (.inl (b0,b1))=>(.brk 0,⟨bd 6 (.lit 78 false (List.map zae b0) :: vI b1 :: bd 33 []),[.row 78 (γ 0) false (List.map zae []),.row 78 (γ 1) true (List.map zae l)]⟩)
 | .inr (.inr c0)=>(.brk 0,⟨bd 6 (.sl 1 ((γ 1)) :: vI c0 :: bd 33 []),[.row 78 (γ 0) false (List.map zae []),.row 78 (γ 1) true (List.map zae l)]⟩)
instance {l}:InjS (zbF l):=⟨fun γ γ' x y h=>by
 rcases x with _ | ⟨b0,b1⟩ | c0 <;> rcases y with _ | ⟨b0',b1'⟩ | c0' <;> simp only [zbF] at h <;> exact inj_⟩
def zfQ (l:List Pair) (more:List Pair) (t16:Int):Option (Unit ⊕ (((List Pair) × Int) ⊕ Int)):=asks (fun γ=>(lim F pr).loop [15,14,16,6,7] 2 zgk ⟨bd 6 (.sl 1 ((γ 1)) :: vI 0 :: bd 6 (.lit 78 false (List.map zae more) :: vI (xlen zae more) :: vI t16 :: bd 24 [])),[.row 78 (γ 0) false (List.map zae []),.row 78 (γ 1) false (List.map zae l)]⟩) (zbF l)
def zce (l:List Pair) (more:List Pair) (out:List Pair) (met:Int) (t16:Int):Option (Unit ⊕ (((List Pair) × Int) ⊕ Int)):=asks (fun γ=>(lim F pr).loop [15,14,16,6,7] 2 zgk ⟨bd 6 (.lit 78 false (List.map zae out) :: vI met :: bd 6 (.lit 78 false (List.map zae more) :: vI (xlen zae more) :: vI t16 :: bd 24 [])),[.row 78 (γ 0) false (List.map zae []),.row 78 (γ 1) true (List.map zae l)]⟩) (zbF l)
def zd8 (l:List Pair) (more:List Pair) (met:Int) (t16:Int):Option (Unit ⊕ (((List Pair) × Int) ⊕ Int)):=asks (fun γ=>(lim F pr).loop [15,14,16,6,7] 2 zgk ⟨bd 6 (.sl 1 ((γ 1)) :: vI met :: bd 6 (.lit 78 false (List.map zae more) :: vI (xlen zae more) :: vI t16 :: bd 24 [])),[.row 78 (γ 0) false (List.map zae []),.row 78 (γ 1) true (List.map zae l)]⟩) (zbF l)
def zgi (l:List Pair) (more:List Pair) (t16:Int):Option (Unit ⊕ (((List Pair) × Int) ⊕ Int)):=
 bif Ops.std.ilt t16 (xlen zae more) then
  (xget zae more t16).bind fun x=>
  (zeX l x.key).bind fun res=>
  bif Ops.std.ile 0 res then zfQ l more (Ops.std.iadd .i64 t16 1) else
  (zh3 l x.key x.val).bind fun ⟨r0,r1⟩=>
  bif Ops.std.ieq r1 0 then zce l more r0 0 (Ops.std.iadd .i64 t16 1) else
  zd8 l more r1 (Ops.std.iadd .i64 t16 1)
 else
  some (.inl ())
theorem znf {l more t16 r} (h:zgi l more t16=some r):zfQ l more t16=some r:=by
 unfold zgi at h
 refine zaq fun γ=>?_
 rcases zaa h with ⟨h1,h⟩ | ⟨h1,h⟩
 obtain ⟨x,h2,h⟩:=zac h
 obtain ⟨res,h3,h⟩:=zac h
 rcases zaa h with ⟨h4,h⟩ | ⟨h4,h⟩
 replace h:=zai h (gam [(γ 0),(γ 1)]);obtain ⟨γ',h0⟩:=h;refine ⟨γ',zad ?_⟩;rotate_left
 obtain ⟨r5,h5,h⟩:=zac h
 rcases r5 with ⟨r0,r1⟩
 rcases zaa h with ⟨h6,h⟩ | ⟨h6,h⟩
 replace h:=zai h (gam [(γ 0),(γ 1)]);obtain ⟨γ',h0⟩:=h;refine ⟨γ',zad ?_⟩;rotate_left
 replace h:=zai h (gam [(γ 0),(γ 1)]);obtain ⟨γ',h0⟩:=h;refine ⟨γ',zad ?_⟩;rotate_left
 cases h;refine ⟨gam [(γ 0),(γ 1)],zad ?_⟩;rotate_left
 all_goals (dsimp only [R1,R2,zbF] at *;show zaH IF_ _ _ zgk zte _=_;generalize zgk=c0 at *;exact fin_)
def zeJ (l:List Pair) (more:List Pair) (out:List Pair) (met:Int) (t16:Int):Option (Unit ⊕ (((List Pair) × Int) ⊕ Int)):=
 bif Ops.std.ilt t16 (xlen zae more) then
  (xget zae more t16).bind fun x=>
  (zeX out x.key).bind fun res=>
  bif Ops.std.ile 0 res then zce l more out met (Ops.std.iadd .i64 t16 1) else
  (zh3 out x.key x.val).bind fun ⟨r0,r1⟩=>
  bif Ops.std.ieq r1 0 then zce l more r0 met (Ops.std.iadd .i64 t16 1) else
  zce l more out r1 (Ops.std.iadd .i64 t16 1)
 else
  some (.inr (.inl (out,met)))
theorem zlG {l more out met t16 r} (h:zeJ l more out met t16=some r):zce l more out met t16=some r:=by
 unfold zeJ at h
 refine zaq fun γ=>?_
 rcases zaa h with ⟨h1,h⟩ | ⟨h1,h⟩
 obtain ⟨x,h2,h⟩:=zac h
 obtain ⟨res,h3,h⟩:=zac h
 rcases zaa h with ⟨h4,h⟩ | ⟨h4,h⟩
 replace h:=zai h (gam [(γ 0),(γ 1)]);obtain ⟨γ',h0⟩:=h;refine ⟨γ',zad ?_⟩;rotate_left
 obtain ⟨r5,h5,h⟩:=zac h
 rcases r5 with ⟨r0,r1⟩
 rcases zaa h with ⟨h6,h⟩ | ⟨h6,h⟩
 replace h:=zai h (gam [(γ 0),(γ 1)]);obtain ⟨γ',h0⟩:=h;refine ⟨γ',zad ?_⟩;rotate_left
 replace h:=zai h (gam [(γ 0),(γ 1)]);obtain ⟨γ',h0⟩:=h;refine ⟨γ',zad ?_⟩;rotate_left
 cases h;refine ⟨gam [(γ 0),(γ 1)],zad ?_⟩;rotate_left
 all_goals (dsimp only [R1,R2,zbF] at *;show zaH IF_ _ _ zgk zte _=_;generalize zgk=c0 at *;exact fin_)
def zeK (l:List Pair) (more:List Pair) (met:Int) (t16:Int):Option (Unit ⊕ (((List Pair) × Int) ⊕ Int)):=
 bif Ops.std.ilt t16 (xlen zae more) then
  (xget zae more t16).bind fun x=>
  (zeX l x.key).bind fun res=>
  bif Ops.std.ile 0 res then zd8 l more met (Ops.std.iadd .i64 t16 1) else
  (zh3 l x.key x.val).bind fun ⟨r0,r1⟩=>
  bif Ops.std.ieq r1 0 then zce l more r0 met (Ops.std.iadd .i64 t16 1) else
  zd8 l more r1 (Ops.std.iadd .i64 t16 1)
 else
  some (.inr (.inr met))
theorem zlH {l more met t16 r} (h:zeK l more met t16=some r):zd8 l more met t16=some r:=by
 unfold zeK at h
 refine zaq fun γ=>?_
 rcases zaa h with ⟨h1,h⟩ | ⟨h1,h⟩
 obtain ⟨x,h2,h⟩:=zac h
 obtain ⟨res,h3,h⟩:=zac h
 rcases zaa h with ⟨h4,h⟩ | ⟨h4,h⟩
 replace h:=zai h (gam [(γ 0),(γ 1)]);obtain ⟨γ',h0⟩:=h;refine ⟨γ',zad ?_⟩;rotate_left
 obtain ⟨r5,h5,h⟩:=zac h
 rcases r5 with ⟨r0,r1⟩
 rcases zaa h with ⟨h6,h⟩ | ⟨h6,h⟩
 replace h:=zai h (gam [(γ 0),(γ 1)]);obtain ⟨γ',h0⟩:=h;refine ⟨γ',zad ?_⟩;rotate_left
 replace h:=zai h (gam [(γ 0),(γ 1)]);obtain ⟨γ',h0⟩:=h;refine ⟨γ',zad ?_⟩;rotate_left
 cases h;refine ⟨gam [(γ 0),(γ 1)],zad ?_⟩;rotate_left
 all_goals (dsimp only [R1,R2,zbF] at *;show zaH IF_ _ _ zgk zte _=_;generalize zgk=c0 at *;exact fin_)
def zl7 (l:List Pair) (more:List Pair):Option (((List Pair) × Int)):=
 bif zaN zae 32 [] l then
  (zfQ l more 0).bind fun r=>match r with
   | .inl ()=>
    some (l,0)
   | .inr (.inl (out,met))=>
    some (out,met)
   | .inr (.inr met)=>
    some (l,met)
 else
  none
theorem zyf {l more r} (h:zl7 l more=some r):zow l more=some r:=by
 unfold zl7 at h
 refine zar ?_
 obtain ⟨h1,h⟩:=zaw h
 obtain ⟨r2,γ1,h2,h⟩:=zan h (gam [0,0])
 rcases r2 with _ | ⟨out,met⟩ | met
 cases h;refine zab rfl ?_;rotate_left
 cases h;refine zab rfl ?_;rotate_left
 cases h;refine zab rfl ?_;rotate_left
 all_goals (dsimp only [R2,zbF] at *;show zat IF_ (zHV zgk) _ _=_;generalize zgk=c0 at *;exact fin_)
def zb9 (zah:Int) (b0_m:Msg) (γ:Nat → Nat):(Node × (List Out)) → X × St
 | (a0,a1)=>(.brk 0,⟨bd 64 [],[.box 93 (capp (zau a0) (vH zah :: (capp (cMsg (⟨b0_m.kind,b0_m.rid,b0_m.code,true,b0_m.id,b0_m.key,b0_m.val,b0_m.peer,b0_m.peers,b0_m.pairs⟩:Msg)) ([.sl 1 ((γ 1))])))),.row 56 (γ 1) false (List.map eOut a1)]⟩)
instance {zah b0_m}:InjS (zb9 zah b0_m):=⟨fun γ γ' x y h=>by
 rcases x with ⟨a0,a1⟩ <;> rcases y with ⟨a0',a1'⟩ <;> simp only [zb9] at h <;> exact inj_⟩
def zbX (zah:Int) (b0_m:Msg) (t38:Int) (b0_n':Node) (r1':List Out):Option ((Node × (List Out))):=asks (fun γ=>(lim F pr).loop [37,36,0,38] 2 ztq ⟨.bptr 0 0 :: bd 35 (.lit 78 false (List.map zae b0_m.pairs) :: vI (xlen zae b0_m.pairs) :: vI t38 :: bd 25 []),[.box 93 (capp (zau b0_n') (vH zah :: (capp (cMsg (⟨b0_m.kind,b0_m.rid,b0_m.code,true,b0_m.id,b0_m.key,b0_m.val,b0_m.peer,b0_m.peers,b0_m.pairs⟩:Msg)) ([.sl 1 ((γ 1))])))),.row 56 (γ 1) false (List.map eOut r1')]⟩) (zb9 zah b0_m)
def zdc (zah:Int) (b0_m:Msg) (t38:Int) (b0_n':Node) (r1':List Out):Option ((Node × (List Out))):=
 bif Ops.std.ilt t38 (xlen zae b0_m.pairs) then
  (xget zae b0_m.pairs t38).bind fun x=>
  (zh3 b0_n'.store x.key x.val).bind fun ⟨r0,r11⟩=>
  bif Ops.std.ieq r11 0 then
   bif zaN zae 32 [] r0 then
    zbX zah b0_m (Ops.std.iadd .i64 t38 1) (⟨b0_n'.me,b0_n'.clock,b0_n'.joined,b0_n'.pred,b0_n'.list,b0_n'.fingers,r0,b0_n'.pends,b0_n'.jobs,b0_n'.results,b0_n'.rid,b0_n'.jobID,b0_n'.nextBit⟩:Node) r1'
   else
    none
  else
   zbX zah b0_m (Ops.std.iadd .i64 t38 1) b0_n' r1'
 else
  some (b0_n',r1')
theorem ziL {zah b0_m t38 b0_n' r1' r} (h:zdc zah b0_m t38 b0_n' r1'=some r):zbX zah b0_m t38 b0_n' r1'=some r:=by
 unfold zdc at h
 refine zaq fun γ=>?_
 rcases zaa h with ⟨h1,h⟩ | ⟨h1,h⟩
 obtain ⟨x,h2,h⟩:=zac h
 obtain ⟨r3,h3,h⟩:=zac h
 rcases r3 with ⟨r0,r11⟩
 rcases zaa h with ⟨h4,h⟩ | ⟨h4,h⟩
 obtain ⟨h5,h⟩:=zaw h
 replace h:=zai h (gam [0,(γ 1)]);obtain ⟨γ',h0⟩:=h;refine ⟨γ',zad ?_⟩;rotate_left
 replace h:=zai h (gam [0,(γ 1)]);obtain ⟨γ',h0⟩:=h;refine ⟨γ',zad ?_⟩;rotate_left
 cases h;refine ⟨gam [0,(γ 1)],zad ?_⟩;rotate_left
 all_goals (dsimp only [R2,zb9] at *;show zaH IF_ _ _ ztq zEr _=_;generalize ztq=c0 at *;exact fin_)
def zeh (b0_n:Node) (zah:Int) (b0_m:Msg) (r1:List Out):Option ((Node × Msg × (List Out))):=
 (zcG b0_n zah b0_m r1).bind fun r11=>
 bif b0_m.has then
  (zbX zah b0_m 0 b0_n r11).bind fun ⟨b0_n',r1'⟩=>
  some (b0_n',(⟨b0_m.kind,b0_m.rid,b0_m.code,true,b0_m.id,b0_m.key,b0_m.val,b0_m.peer,b0_m.peers,b0_m.pairs⟩:Msg),r1')
 else
  (zow b0_n.store b0_m.pairs).bind fun ⟨r0,r12⟩=>
  some ((⟨b0_n.me,b0_n.clock,b0_n.joined,b0_n.pred,b0_n.list,b0_n.fingers,r0,b0_n.pends,b0_n.jobs,b0_n.results,b0_n.rid,b0_n.jobID,b0_n.nextBit⟩:Node),(⟨b0_m.kind,b0_m.rid,b0_m.code,false,b0_m.id,b0_m.key,b0_m.val,b0_m.peer,b0_m.peers,b0_m.pairs⟩:Msg),r11)
theorem zrw {b0_n zah b0_m r1 r} (h:zeh b0_n zah b0_m r1=some r):ziD b0_n zah b0_m r1=some r:=by
 unfold zeh at h
 refine zaq fun γ=>?_
 obtain ⟨r11,γ1,h1,h⟩:=zan h (gam [0,γ 1])
 rcases zaa h with ⟨h2,h⟩ | ⟨h2,h⟩
 obtain ⟨r3,γ2,h3,h⟩:=zan h (gam [0,(γ1 1)])
 rcases r3 with ⟨b0_n',r1'⟩
 cases h;refine ⟨gam [0,(γ2 1)],zab rfl ?_⟩;rotate_left
 obtain ⟨r3,h3,h⟩:=zac h
 rcases r3 with ⟨r0,r12⟩
 cases h;refine ⟨gam [0,(γ1 1)],zab rfl ?_⟩;rotate_left
 all_goals (dsimp only [R2,zcU,zb9,zbz] at *;show zat IF_ (g60F ztq) _ _=_;generalize ztq=c0 at *;(try dsimp only [zaf,zag,zaU,zae,zbe,eJob,za7,zbc,eMsg,eOut,zbw,zbm,zau,cMsg,capp] at *);(try simp only [List.map_cons,List.map_nil] at *);(try generalize b0_m.has=q0 at *);exact fin_)
def zv1 (from_:Int) (rid:Int) (m:Msg):Option ((List Out)):=
 some [(⟨(⟨0,from_⟩:Peer),(⟨m.kind,rid,m.code,m.has,m.id,m.key,m.val,m.peer,m.peers,m.pairs⟩:Msg)⟩:Out)]
theorem zDO {from_ rid m r} (h:zv1 from_ rid m=some r):zc2 from_ rid m=some r:=by
 unfold zv1 at h
 refine zar ?_
 cases h;refine zab rfl ?_;rotate_left
 all_goals (dsimp only [K1] at *;show zat IF_ g62F _ _=_;exact fin_)
abbrev zl3:=(Int × Int × (List Peer)) ⊕ ((List Peer) × (List Peer))
def zgT (n:Node) (γ:Nat → Nat):zl3 → X × St
 | .inl (a0,a1,a2)=>(.ret,⟨bd 4 (.bptr 1 0 :: .sl 4 ((γ 4)) :: vF true :: bd 71 []),[.box 34 (zau n),.box 25 [vU a0,vH a1],.row 25 (γ 2) false (List.map zaf []),.row 25 (γ 3) false (List.map zaf a2),.row 25 (γ 4) false (List.map zaf [])]⟩)
 | .inr (b0,b1)=>(.ret,⟨bd 4 (.bptr 1 0 :: .lit 25 false (List.map zaf b0) :: vF false :: bd 71 []),[.box 34 (zau n),.box 25 [vU 0,vH 0],.row 25 (γ 2) false (List.map zaf []),.row 25 (γ 3) false (List.map zaf b1)]⟩)
instance {n}:InjS (zgT n):=⟨fun γ γ' x y h=>by
 rcases x with ⟨a0,a1,a2⟩ | ⟨b0,b1⟩ <;> rcases y with ⟨a0',a1',a2'⟩ | ⟨b0',b1'⟩ <;> simp only [zgT] at h <;> exact inj_⟩
def zoo (n:Node) (key:Int) (r3:List Peer):Option (zl3):=asks (fun γ=>(lim F pr).seg [4,5,6] zyz ⟨bd 1 (vU key :: .bptr 0 0 :: bd 1 (.bptr 1 0 :: bd 2 (.sl 3 ((γ 3)) :: bd 70 []))),[.box 34 (zau n),.box 25 [vU 0,vH 0],.row 25 (γ 2) false (List.map zaf []),.row 25 (γ 3) false (List.map zaf r3)]⟩) (zgT n)
abbrev zl1:=(List Peer) ⊕ ((List Peer) × (List Peer))
def zgS (n:Node) (γ:Nat → Nat):zl1 → X × St
 | .inl a0=>(.ret,⟨bd 4 (.bptr 1 0 :: .sl 4 ((γ 4)) :: vF true :: bd 71 []),[.box 34 (zau n),.box 25 [vU n.me.id,vH n.me.addr],.row 25 (γ 2) false (List.map zaf []),.row 25 (γ 3) false (List.map zaf a0),.row 25 (γ 4) false (List.map zaf [])]⟩)
 | .inr (b0,b1)=>(.ret,⟨bd 4 (.bptr 1 0 :: .lit 25 false (List.map zaf b0) :: vF false :: bd 71 []),[.box 34 (zau n),.box 25 [vU 0,vH 0],.row 25 (γ 2) false (List.map zaf []),.row 25 (γ 3) false (List.map zaf b1)]⟩)
instance {n}:InjS (zgS n):=⟨fun γ γ' x y h=>by
 rcases x with a0 | ⟨b0,b1⟩ <;> rcases y with a0' | ⟨b0',b1'⟩ <;> simp only [zgS] at h <;> exact inj_⟩
def zg6 (n:Node) (key:Int) (r3:List Peer):Option (zl1):=asks (fun γ=>(lim F pr).seg [4,5,6] zyy ⟨bd 1 (vU key :: .bptr 0 0 :: bd 1 (.bptr 1 0 :: bd 73 [])),[.box 34 (zau n),.box 25 [vU 0,vH 0],.row 25 (γ 2) false (List.map zaf []),.row 25 (γ 3) false (List.map zaf r3)]⟩) (zgS n)
def zi9 (n:Node) (key:Int) (r3:List Peer):Option (zl3):=
 (xget zaf r3 0).bind fun x=>
 (zjt n.me.id key x.id).bind fun res=>
 bif res then some (.inl (x.id,x.addr,r3)) else
 bif Ops.std.ilt 0 (xlen zag n.pred) then
  (xget zag n.pred 0).bind fun x1=>
  bif Ops.std.ilt x1.misses 1 then
   (zjt x1.peer.id key n.me.id).bind fun res1=>
   bif res1 then some (.inl (n.me.id,n.me.addr,r3)) else
   (zg6 n key r3).bind fun r=>match r with
    | .inl r31=>
     some (.inl (n.me.id,n.me.addr,r31))
    | .inr (t5,r31)=>
     some (.inr (t5,r31))
  else
   (zg6 n key r3).bind fun r=>match r with
    | .inl r31=>
     some (.inl (n.me.id,n.me.addr,r31))
    | .inr (t5,r31)=>
     some (.inr (t5,r31))
 else
  (zg6 n key r3).bind fun r=>match r with
   | .inl r31=>
    some (.inl (n.me.id,n.me.addr,r31))
   | .inr (t5,r31)=>
    some (.inr (t5,r31))
theorem zx4 {n key r3 r} (h:zi9 n key r3=some r):zoo n key r3=some r:=by
 unfold zi9 at h
 refine zaq fun γ=>?_
 obtain ⟨x,h1,h⟩:=zac h
 obtain ⟨res,h2,h⟩:=zac h
 rcases zaa h with ⟨h3,h⟩ | ⟨h3,h⟩
 cases h;refine ⟨gam [0,0,(γ 2),(γ 3),0],zak ?_⟩;rotate_left
 rcases zaa h with ⟨h4,h⟩ | ⟨h4,h⟩
 obtain ⟨x1,h5,h⟩:=zac h
 rcases zaa h with ⟨h6,h⟩ | ⟨h6,h⟩
 obtain ⟨res1,h7,h⟩:=zac h
 rcases zaa h with ⟨h8,h⟩ | ⟨h8,h⟩
 cases h;refine ⟨gam [0,0,(γ 2),(γ 3),0],zak ?_⟩;rotate_left
 obtain ⟨r9,γ3,h9,h⟩:=zan h (gam [0,0,(γ 2),(γ 3)])
 rcases r9 with r31 | ⟨t5,r31⟩
 cases h;refine ⟨gam [0,0,(γ3 2),(γ3 3),(γ3 4)],zak ?_⟩;rotate_left
 cases h;refine ⟨gam [0,0,(γ3 2),(γ3 3)],zak ?_⟩;rotate_left
 obtain ⟨r7,γ2,h7,h⟩:=zan h (gam [0,0,(γ 2),(γ 3)])
 rcases r7 with r31 | ⟨t5,r31⟩
 cases h;refine ⟨gam [0,0,(γ2 2),(γ2 3),(γ2 4)],zak ?_⟩;rotate_left
 cases h;refine ⟨gam [0,0,(γ2 2),(γ2 3)],zak ?_⟩;rotate_left
 obtain ⟨r5,γ2,h5,h⟩:=zan h (gam [0,0,(γ 2),(γ 3)])
 rcases r5 with r31 | ⟨t5,r31⟩
 cases h;refine ⟨gam [0,0,(γ2 2),(γ2 3),(γ2 4)],zak ?_⟩;rotate_left
 cases h;refine ⟨gam [0,0,(γ2 2),(γ2 3)],zak ?_⟩;rotate_left
 all_goals (dsimp only [R1,zgS,zgT] at *;show Ifc.apart IF_ _ (zEt zyy) _=_;generalize zyy=c0 at *;exact fin_)
def zl2 (n:Node) (key:Int) (r3:List Peer):Option (zl1):=
 (zuO n.me n.list n.fingers key 4).bind fun res=>
 bif Ops.std.ieq (xlen zaf res) 0 then some (.inl r3) else
 some (.inr (res,r3))
theorem zx3 {n key r3 r} (h:zl2 n key r3=some r):zg6 n key r3=some r:=by
 unfold zl2 at h
 refine zaq fun γ=>?_
 obtain ⟨res,h1,h⟩:=zac h
 rcases zaa h with ⟨h2,h⟩ | ⟨h2,h⟩
 cases h;refine ⟨gam [0,0,(γ 2),(γ 3),0],zak ?_⟩;rotate_left
 cases h;refine ⟨gam [0,0,(γ 2),(γ 3)],zak ?_⟩;rotate_left
 all_goals (dsimp only [R1,zgS] at *;show Ifc.apart IF_ _ zEs _=_;exact fin_)
def zqL (n:Node) (key:Int):Option ((Peer × (List Peer) × Bool)):=
 (zm6 n.list).bind fun res=>
 bif Ops.std.ieq (xlen zaf res) 0 then some (n.me,[],true) else
 bif Ops.std.ieq key n.me.id then some (n.me,[],true) else
 (zoo n key res).bind fun r=>match r with
  | .inl (zav,za1,r3)=>
   some ((⟨zav,za1⟩:Peer),[],true)
  | .inr (t5,r3)=>
   some ((⟨0,0⟩:Peer),t5,false)
theorem zDJ {n key r} (h:zqL n key=some r):zqK n key=some r:=by
 unfold zqL at h
 refine zar ?_
 obtain ⟨res,h1,h⟩:=zac h
 rcases zaa h with ⟨h2,h⟩ | ⟨h2,h⟩
 cases h;refine zab rfl ?_;rotate_left
 rcases zaa h with ⟨h3,h⟩ | ⟨h3,h⟩
 cases h;refine zab rfl ?_;rotate_left
 obtain ⟨r4,γ2,h4,h⟩:=zan h (gam [0,0,0,0])
 rcases r4 with ⟨zav,za1,r3⟩ | ⟨t5,r3⟩
 cases h;refine zab rfl ?_;rotate_left
 cases h;refine zab rfl ?_;rotate_left
 all_goals (dsimp only [K1,R3,zgT] at *;show zat IF_ (g63F zyz) _ _=_;generalize zyz=c0 at *;exact fin_)
end Go.Ab.Tryz
