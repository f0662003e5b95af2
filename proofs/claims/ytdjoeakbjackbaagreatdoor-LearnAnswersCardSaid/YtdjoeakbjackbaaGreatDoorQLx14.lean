/- Our texts for this statement, merged: what its theorem leads to. -/
import Derived.Test.YtdjoeakbjackbaaGreatDoorQLx10
set_option linter.unusedVariables false
set_option linter.unusedSimpArgs false
noncomputable section
namespace Go.Ab.Tryz
open Go Go.Ab Go.Proofs
set_option maxRecDepth 10000
set_option maxHeartbeats 4000000
open Go.Ab.Ops renaming std->yac
open List renaming map->yab
def zkr(b0_node:Node)(b0_job:Job)(r2:List Out):Option ((Node×(List Finger))):=
 (zsY b0_node b0_job).bind fun⟨zaA,zao,zaB,zat,zaG,zaJ,zam,zaw,zas,zaz,zal,zaK,zaC,zap⟩=>
 some ((⟨(⟨zaA,zao⟩:Peer),zaB,zat,zaG,zaJ,zam,zaw,zas,zaz,zal,zaK,zaC,zap⟩:Node),b0_node.fingers)
theorem zwQ{b0_node b0_job r2 r}:zkr b0_node b0_job r2=some r->zd7 b0_node b0_job r2=some r:=by
 unfold zkr;refine kas fun γ=>kb fun⟨zaA,zao,zaB,zat,zaG,zaJ,zam,zaw,zas,zaz,zal,zaK,zaC,zap⟩ h1=>lc rfl [0,γ 1,γ 2,0] ?_
 all_goals (dsimp only[zjN,zcY]at *;show zak IF_ zGu _ _=_;exact fin_)
def zmw(to_:Peer)(b0_node:Node)(b0_job:Job)(r2:List Out):Option (zmv):=
 bif yac.ieq b0_job.kind 2 then
  zfa to_ (⟨7,0,0,false,0,b0_job.key,b0_job.val,(⟨0,0⟩:Peer),[],[]⟩:Msg) 5 b0_node (⟨b0_job.id,b0_job.kind,b0_job.bit,b0_job.key,b0_job.val,b0_job.target,b0_job.via,b0_job.at_,true,b0_job.hops,b0_job.tries,b0_job.due⟩:Job) r2
 else
  bif yac.ieq b0_job.kind 3 then
   zfa to_ (⟨8,0,0,false,0,b0_job.key,⟨#[]⟩,(⟨0,0⟩:Peer),[],[]⟩:Msg) 5 b0_node (⟨b0_job.id,b0_job.kind,b0_job.bit,b0_job.key,b0_job.val,b0_job.target,b0_job.via,b0_job.at_,true,b0_job.hops,b0_job.tries,b0_job.due⟩:Job) r2
  else
   zfa to_ (⟨3,0,0,false,0,⟨#[]⟩,⟨#[]⟩,(⟨0,0⟩:Peer),[],[]⟩:Msg) 5 b0_node (⟨b0_job.id,b0_job.kind,b0_job.bit,b0_job.key,b0_job.val,b0_job.target,b0_job.via,b0_job.at_,true,b0_job.hops,b0_job.tries,b0_job.due⟩:Job) r2
theorem zza{to_ b0_node b0_job r2 r}:zmw to_ b0_node b0_job r2=some r->zld to_ b0_node b0_job r2=some r:=by
 unfold zmw;refine kas fun γ=>kc (fun h1=>ps [0,γ 1,γ 2] fun⟨b0_node1,zaX,r1,r21⟩ γ1 h2=>lc rfl [0,γ1 1,γ1 2] ?_) fun h1=>kc (fun h2=>ps [0,γ 1,γ 2] fun⟨b0_node1,zaX,r1,r21⟩ γ1 h3=>lc rfl [0,γ1 1,γ1 2] ?_) fun h2=>ps [0,γ 1,γ 2] fun⟨b0_node1,zaX,r1,r21⟩ γ1 h3=>lc rfl [0,γ1 1,γ1 2] ?_
 all_goals (dsimp only[zd4,zd5]at *;show zak IF_ zLO _ _=_;exact fin_)
def zmB(f:Finger)(b1_node:Node)(b1_job:Job)(r3:List Out):Option (Bool):=
 some (yac.ieq f.bit b1_job.bit)
theorem zmC{f b1_node b1_job r3 r}:zmB f b1_node b1_job r3=some r->zdQ f b1_node b1_job r3=some r:=by
 unfold zmB;refine kag fun γ=>l0 rfl ?_
 all_goals (dsimp only[zbX]at *;show zak IF_ zMh _ _=_;exact fin_)
def zcs(b2_node:Node)(zaQ:Job)(r3:List Out)(γ:Nat->Nat):Int⊕Unit->X×St
 | .inl a0=>(.ret,⟨bd 4 (vI a0::bd 14 []),[.row 82 (γ 0) false (yab zab b2_node.fingers),.box 129 [.bptr 2 0],.box 133 (capp (zau b2_node (.sl 0 (γ 0))) (capp (cJob zaQ) ([.sl 3 (γ 3)]))),.row 78 (γ 3) false (yab eOut r3)]⟩)
 | .inr ()=>(.brk 0,⟨bd 19 [],[.row 82 (γ 0) false (yab zab b2_node.fingers),.box 129 [.bptr 2 0],.box 133 (capp (zau b2_node (.sl 0 (γ 0))) (capp (cJob zaQ) ([.sl 3 (γ 3)]))),.row 78 (γ 3) false (yab eOut r3)]⟩)
instance {b2_node zaQ r3}:InjS (zcs b2_node zaQ r3):=⟨by unfold zcs;exact ij_⟩
def zeV(b2_node:Node)(zaQ:Job)(r3:List Out)(t8:Int):Option (Int⊕Unit):=askg (fun γ=>(lim F pr).loop [7,1,0,8] 4 zch ⟨.sl 0 (γ 0):: .fn 259 [.bptr 1 0]::bd 5 (vI (xlen zab b2_node.fingers)::vI t8::bd 10 []),[.row 82 (γ 0) false (yab zab b2_node.fingers),.box 129 [.bptr 2 0],.box 133 (capp (zau b2_node (.sl 0 (γ 0))) (capp (cJob zaQ) ([.sl 3 (γ 3)]))),.row 78 (γ 3) false (yab eOut r3)]⟩) (zcs b2_node zaQ r3)
def zcr(b2_node:Node)(zaQ:Job)(r3:List Out)(t8:Int):Option (Int⊕Unit):=
 bif yac.ilt t8 (xlen zab b2_node.fingers)then
  (xget zab b2_node.fingers t8).bind fun x=>
  (zdQ x b2_node zaQ r3).bind fun res=>
  bif res then some (.inl t8)else
  zeV b2_node zaQ r3 (yac.iadd .i64 t8 1)
 else
  some (.inr ())
theorem zf3{b2_node zaQ r3 t8 r}:zcr b2_node zaQ r3 t8=some r->zeV b2_node zaQ r3 t8=some r:=by
 unfold zcr;refine kag fun γ=>kc (fun h1=>kb fun x h2=>kg [0,0,γ 0,γ 3] fun res h3=>kc (fun h4=>l2 ?_) fun h4=>lh [γ 0,0,0,γ 3] fun h0=>?_) fun h1=>l2 ?_
 all_goals (dsimp only[zcs,zbX]at *;show zaE IF_ _ _ zch zrN _=_;generalize zch=c0 at *;exact fin_)
def ziJ(b2_node:Node)(zaQ:Job)(r3:List Out):Option (Int):=
 (zeV b2_node zaQ r3 0).bind fun r=>match r with
  | .inl t4=>
   some t4
  | .inr ()=>
   some (-1)
theorem zuw{b2_node zaQ r3 r}:ziJ b2_node zaQ r3=some r->zlf b2_node zaQ r3=some r:=by
 unfold ziJ;refine kag fun γ=>kg [γ 0,0,0,γ 3] fun| .inl t4,h1=>(l0 rfl ?_)| .inr _,h1=>(l0 rfl ?_)
 all_goals (dsimp only[zdz,zcs]at *;show zak IF_ (zyz zch) _ _=_;generalize zch=c0 at *;exact fin_)
def zca(zaQ:Job)(r3:List Out)(γ:Nat->Nat):(Int×Node)->X×St
 |(a0,a1)=>(.brk 0,⟨.sl 0 (γ 0)::bd 4 (vI a0::bd 36 []),[.row 82 (γ 0) false (yab zab a1.fingers),.box 129 [.bptr 2 0],.box 133 (capp (zau a1 (.sl 0 (γ 0))) (capp (cJob zaQ) ([.sl 3 (γ 3)]))),.row 78 (γ 3) false (yab eOut r3),.row 82 (γ 4) false (yab zab [])]⟩)
instance {zaQ r3}:InjS (zca zaQ r3):=⟨by unfold zca;exact ij_⟩
def zbR(zaQ:Job)(r3:List Out)(i:Int)(j:Int)(b2_node':Node):Option ((Int×Node)):=asks (fun γ=>(lim F pr).loop [1,6,0,5] 5 ziO ⟨.sl 0 (γ 0):: .fn 259 [.bptr 1 0]::bd 3 (vI i::vI j::bd 35 []),[.row 82 (γ 0) false (yab zab b2_node'.fingers),.box 129 [.bptr 2 0],.box 133 (capp (zau b2_node' (.sl 0 (γ 0))) (capp (cJob zaQ) ([.sl 3 (γ 3)]))),.row 78 (γ 3) false (yab eOut r3),.row 82 (γ 4) false (yab zab [])]⟩) (zca zaQ r3)
def zbz(zaQ:Job)(r3:List Out)(i:Int)(j:Int)(b2_node':Node):Option ((Int×Node)):=
 bif yac.ilt j (xlen zab b2_node'.fingers)then
  (xget zab b2_node'.fingers j).bind fun x=>
  (zdQ x b2_node' zaQ r3).bind fun res=>
  bif res then zbR zaQ r3 i (yac.iadd .i64 j 1) b2_node' else
  (xget zab b2_node'.fingers i).bind fun x1=>
  zbR zaQ r3 (yac.iadd .i64 i 1) (yac.iadd .i64 j 1) (⟨b2_node'.me,b2_node'.clock,b2_node'.joined,b2_node'.pred,b2_node'.list,xset b2_node'.fingers i x,b2_node'.store,b2_node'.pends,b2_node'.jobs,b2_node'.results,b2_node'.rid,b2_node'.jobID,b2_node'.nextBit⟩:Node)
 else
  some (i,b2_node')
theorem zdm{zaQ r3 i j b2_node' r}:zbz zaQ r3 i j b2_node'=some r->zbR zaQ r3 i j b2_node'=some r:=by
 unfold zbz;refine kas fun γ=>kc (fun h1=>kb fun x h2=>kg [0,0,γ 0,γ 3] fun res h3=>kc (fun h4=>lg [γ 0,0,0,γ 3,γ 4] fun γ' h0=>?_) fun h4=>kb fun x1 h5=>lg [γ 0,0,0,γ 3,γ 4] fun γ' h0=>?_) fun h1=>lr [γ 0,0,0,γ 3,γ 4] ?_
 all_goals (dsimp only[zca,zbX]at *;show zaE IF_ _ _ ziO zzg _=_;generalize ziO=c0 at *;exact fin_)
def ziq(b2_node:Node)(zaQ:Job)(r3:List Out):Option (zip):=
 (zlf b2_node zaQ r3).bind fun res=>
 bif yac.ieq res (-1)then
  some (b2_node.fingers,b2_node.me.id,b2_node.me.addr,b2_node.clock,b2_node.joined,b2_node.pred,b2_node.list,b2_node.store,b2_node.pends,b2_node.jobs,b2_node.results,b2_node.rid,b2_node.jobID,b2_node.nextBit)
 else
  (zbR zaQ r3 res (yac.iadd .i64 res 1) b2_node).bind fun⟨i,b2_node'⟩=>
  (xsub zab b2_node'.fingers i (xlen zab b2_node'.fingers)).bind fun ys=>
  (xsub zab (xfil b2_node'.fingers i (xlen zab b2_node'.fingers) (⟨0,(⟨0,0⟩:Peer)⟩:Finger)) 0 i).bind fun ys1=>
  bif yac.ieq 0 0 then
   some (ys1,b2_node'.me.id,b2_node'.me.addr,b2_node'.clock,b2_node'.joined,b2_node'.pred,b2_node'.list,b2_node'.store,b2_node'.pends,b2_node'.jobs,b2_node'.results,b2_node'.rid,b2_node'.jobID,b2_node'.nextBit)
  else
   none
theorem zur{b2_node zaQ r3 r}:ziq b2_node zaQ r3=some r->zkk b2_node zaQ r3=some r:=by
 unfold ziq;refine kas fun γ=>kg [γ 0,0,0,γ 3] fun res h1=>kc (fun h2=>lc rfl [γ 0,0,0,γ 3,0,0,0,0,0,0,0,0,0,0,0,0,0,0,0,0,0,0,0,0,0,0,0,0,0,0,0,0,0,0,0,0,0,0,0,0,γ 0] ?_) fun h2=>ks [γ 0,0,0,γ 3,0] fun⟨i,b2_node'⟩ γ2 h3=>kb fun ys h4=>kb fun ys1 h5=>k1 fun h6=>lc rfl [((γ2 0)+1),0,0,γ2 3,0,0,0,0,0,0,0,0,0,0,0,0,0,0,0,0,0,0,0,0,0,0,0,0,0,0,0,0,0,0,0,0,0,0,0,0,γ2 0] ?_
 all_goals (dsimp only[zc6,zca,zdz]at *;show zak IF_ (zGs ziO) _ _=_;generalize ziO=c0 at *;exact fin_)
def zgf(bit:Int)(p:Peer)(γ:Nat->Nat):(List Finger)->X×St
 |a0=>(.ret,⟨bd 6 (.sl 3 (γ 3)::bd 37 []),[.box 3 [vI bit],.box 25 [vU p.id,vH p.addr],.row 82 (γ 2) false (yab zab []),.row 82 (γ 3) false (yab zab a0)]⟩)
instance {bit p}:InjS (zgf bit p):=⟨by unfold zgf;exact ij_⟩
def zuT(l:List Finger)(bit:Int)(p:Peer):Option ((List Finger)):=asks (fun γ=>(lim F pr).seg [6] zyk ⟨bd 4 (.bptr 0 0:: .bptr 1 0::bd 1 (.sl 3 (γ 3)::bd 36 [])),[.box 3 [vI bit],.box 25 [vU p.id,vH p.addr],.row 82 (γ 2) false (yab zab []),.row 82 (γ 3) false (yab zab l)]⟩) (zgf bit p)
def zmP(l:List Finger)(bit:Int)(p:Peer):Option ((List Finger)):=
 (ziG l bit).bind fun res=>
 bif yac.ile 0 res then
  (xget zab l res).bind fun x=>
  some (xset l res (⟨x.bit,p⟩:Finger))
 else
  (ziH l bit).bind fun res1=>
  bif yac.ilt res1 0 then
   bif zar zab 24 l [(⟨bit,p⟩:Finger)]then
    (xsub zab l 0 (xlen zab l)).bind fun ys=>
    (xsub zab l (xlen zab l) (xlen zab l)).bind fun ys1=>
    some (ys++([(⟨bit,p⟩:Finger)]++ys1))
   else
    none
  else
   bif zar zab 24 l [(⟨bit,p⟩:Finger)]then
    (xsub zab l 0 res1).bind fun ys=>
    (xsub zab l res1 (xlen zab l)).bind fun ys1=>
    some (ys++([(⟨bit,p⟩:Finger)]++ys1))
   else
    none
theorem zzt{l bit p r}:zmP l bit p=some r->zuT l bit p=some r:=by
 unfold zmP;refine kas fun γ=>kg [γ 3,0] fun res h1=>kc (fun h2=>kb fun x h3=>ls [0,0,γ 2,γ 3] ?_) fun h2=>kg [γ 3,0] fun res1 h3=>kc (fun h4=>k1 fun h5=>kb fun ys h6=>kb fun ys1 h7=>ls [0,0,γ 2,((γ 3)+1)] ?_) fun h4=>k1 fun h5=>kb fun ys h6=>kb fun ys1 h7=>ls [0,0,γ 2,((γ 3)+1)] ?_
 all_goals (dsimp only[zcJ,zcK,zgf]at *;show Ifc.apart IF_ _ zFw _=_;exact fin_)
def zqQ(l:List Finger)(bit:Int)(p:Peer):Option ((List Finger)):=
 bif zar zab 24 [] l then
  bif yac.ilt bit 0 then some l else
  bif yac.ilt 63 bit then some l else
  zuT l bit p
 else
  none
theorem zDY{l bit p r}:zqQ l bit p=some r->zuS l bit p=some r:=by
 unfold zqQ;refine ka (k1 fun h1=>kc (fun h2=>l0 rfl ?_) fun h2=>kc (fun h3=>l0 rfl ?_) fun h3=>ps [0,0,0,0] fun r3 γ1 h4=>l0 rfl ?_)
 all_goals (dsimp only[R1,zgf]at *;show zak IF_ (zMi zyk) _ _=_;generalize zyk=c0 at *;exact fin_)
def zmE(has:Bool)(val:ByteArray)(e_:Int)(b0_node:Node)(b0_job:Job)(r1:List Out):Option (Node):=
 zkw b0_node b0_job.id has val e_
theorem ztO{has val e_ b0_node b0_job r1 r}:zmE has val e_ b0_node b0_job r1=some r->zdV has val e_ b0_node b0_job r1=some r:=by
 unfold zmE;refine kas fun γ=>pb fun res h1=>lc rfl [0,γ 1] ?_
 all_goals (dsimp only[R1,zbY]at *;show zak IF_ zBP _ _=_;exact fin_)
def zfN(owner:Peer)(mine:Bool)(b0_node:Node)(b0_job:Job)(r2:List Out):Option ((Node×(List Finger))):=
 bif mine then
  (zkk b0_node b0_job r2).bind fun⟨r0,ztU,zp2,ztS,zr4,zuH,zuG,ztW,ztV,zuF,zp4,zwR,ztT,zp3⟩=>
  zba false ⟨#[]⟩ 0 (⟨(⟨ztU,zp2⟩:Peer),ztS,zr4,zuH,zuG,r0,ztW,ztV,zuF,zp4,zwR,ztT,zp3⟩:Node) b0_job r2
 else
  (zuS b0_node.fingers b0_job.bit owner).bind fun res=>
  (zdV false ⟨#[]⟩ 0 (⟨b0_node.me,b0_node.clock,b0_node.joined,b0_node.pred,b0_node.list,res,b0_node.store,b0_node.pends,b0_node.jobs,b0_node.results,b0_node.rid,b0_node.jobID,b0_node.nextBit⟩:Node) b0_job r2).bind fun b0_node1=>
  some (b0_node1,b0_node.fingers)
theorem zn9{owner mine b0_node b0_job r2 r}:zfN owner mine b0_node b0_job r2=some r->zlv owner mine b0_node b0_job r2=some r:=by
 unfold zfN;refine kas fun γ=>kc (fun h1=>ks [γ 1,0,0,γ 2] fun⟨r0,ztU,zp2,ztS,zr4,zuH,zuG,ztW,ztV,zuF,zp4,zwR,ztT,zp3⟩ γ1 h2=>ps [0,γ1 0,γ1 3] fun⟨b0_node1,r1⟩ γ2 h3=>lc rfl [0,γ2 1,γ2 2] ?_) fun h1=>kb fun res h2=>ks [0,γ 2] fun b0_node1 γ2 h3=>lc rfl [0,γ 1,γ2 1] ?_
 all_goals (dsimp only[zc6,R1,zdR,zbY,zbg]at *;show zak IF_ zLP _ _=_;exact fin_)
abbrev zmp:=(Node×(List Entry)×(List Entry)×(List Finger)×(List Pair)×(List Pend)×(List Job)×(List Result)×(List Peer)×(List Out))
def zfv(γ:Nat->Nat):zmp->X×St
 |(a0,a1,a2,a3,a4,a5,a6,a7,a8,a9)=>(.brk 0,⟨bd 3 (.bptr 0 0::bd 2 (.bptr 1 0::bd 5 (.sl 11 (γ 11)::bd 50 []))),[.box 34 (zah a0),.box 34 ([vU 0,vH 0,vI 0,vF false,.lit 0 true [],.lit 0 true [],.lit 0 true [],.lit 0 true [],.lit 0 true [],.lit 0 true [],.lit 0 true [],vW 0,vI 0,vI 0]),.row 78 (γ 2) false (yab eOut []),.row 55 (γ 3) true (yab zaa a1),.row 55 (γ 4) true (yab zaa a2),.row 82 (γ 5) true (yab zab a3),.row 76 (γ 6) true (yab zag a4),.row 36 (γ 7) true (yab zaL a5),.row 57 (γ 8) true (yab eJob a6),.row 74 (γ 9) true (yab zaj a7),.row 25 (γ 10) true (yab zad a8),.row 78 (γ 11) false (yab eOut a9)]⟩)
instance :InjS zfv:=⟨by unfold zfv;exact ij_⟩
def ze9(key:ByteArray)(val:ByteArray)(t40:List Peer)(t41:Int)(t42:Int)(b0:Node)(r3:List Entry)(r4:List Entry)(r5:List Finger)(r6:List Pair)(r7:List Pend)(r8:List Job)(r9:List Result)(r10:List Peer)(r11:List Out):Option (zmp):=asks (fun γ=>(lim F pr).loop [41,40,1,2,42,3,12,6] 12 zrT ⟨bd 1 (vT key::vT val:: .bptr 0 0::bd 2 (.bptr 1 0::bd 5 (.sl 11 (γ 11)::bd 27 (.lit 25 false (yab zad t40)::vI t41::vI t42::bd 20 [])))),[.box 34 (zah b0),.box 34 ([vU 0,vH 0,vI 0,vF false,.lit 0 true [],.lit 0 true [],.lit 0 true [],.lit 0 true [],.lit 0 true [],.lit 0 true [],.lit 0 true [],vW 0,vI 0,vI 0]),.row 78 (γ 2) false (yab eOut []),.row 55 (γ 3) true (yab zaa r3),.row 55 (γ 4) true (yab zaa r4),.row 82 (γ 5) true (yab zab r5),.row 76 (γ 6) true (yab zag r6),.row 36 (γ 7) true (yab zaL r7),.row 57 (γ 8) true (yab eJob r8),.row 74 (γ 9) true (yab zaj r9),.row 25 (γ 10) true (yab zad r10),.row 78 (γ 11) false (yab eOut r11)]⟩) zfv
def ziB(key:ByteArray)(val:ByteArray)(t40:List Peer)(t41:Int)(t42:Int)(b0:Node)(r3:List Entry)(r4:List Entry)(r5:List Finger)(r6:List Pair)(r7:List Pend)(r8:List Job)(r9:List Result)(r10:List Peer)(r11:List Out):Option (zmp):=
 bif yac.ilt t42 t41 then
  (xget zad t40 t42).bind fun x=>
  (ztJ b0 x [(⟨key,val⟩:Pair)] true).bind fun⟨r0,r1⟩=>
  bif zar eOut 136 r11 r1 then
   ze9 key val t40 t41 (yac.iadd .i64 t42 1) r0 r3 r4 r5 r6 r7 r8 r9 r10 (r11++r1)
  else
   none
 else
  some (b0,r3,r4,r5,r6,r7,r8,r9,r10,r11)
theorem zqD{key val t40 t41 t42 b0 r3 r4 r5 r6 r7 r8 r9 r10 r11 r}:ziB key val t40 t41 t42 b0 r3 r4 r5 r6 r7 r8 r9 r10 r11=some r->ze9 key val t40 t41 t42 b0 r3 r4 r5 r6 r7 r8 r9 r10 r11=some r:=by
 unfold ziB;refine kas fun γ=>kc (fun h1=>kb fun x h2=>kb fun⟨r0,r1⟩ h3=>k1 fun h4=>lg [0,0,γ 2,γ 3,γ 4,γ 5,γ 6,γ 7,γ 8,γ 9,γ 10,((γ 11)+1)] fun γ' h0=>?_) fun h1=>lr [0,0,γ 2,γ 3,γ 4,γ 5,γ 6,γ 7,γ 8,γ 9,γ 10,γ 11] ?_
 all_goals (dsimp only[R2,zfv]at *;show zaE IF_ _ _ zrT zFp _=_;generalize zrT=c0 at *;exact fin_)
def zpK(n:Node)(key:ByteArray)(val:ByteArray):Option ((Node×(List Out)×Int)):=
 (zc1 n).bind fun⟨zaA,zao,zaB,zat,zaG,zaJ,zam,zaw,zas,zaz,zal,zaK,zaC,zap⟩=>
 (zvO zaw key val).bind fun⟨r0,r1⟩=>
 bif yac.ieq r1 0 then
  (zl1 zaJ).bind fun res=>
  bif yac.ilt 2 (xlen zad res)then
   (xsub zad res 0 2).bind fun ys=>
   (ze9 key val ys (xlen zad ys) 0 (⟨(⟨zaA,zao⟩:Peer),zaB,zat,zaG,zaJ,zam,r0,zas,zaz,zal,zaK,zaC,zap⟩:Node) zaG zaJ zam zaw zas zaz zal res []).bind fun⟨b0,r3,r4,r5,r6,r7,r8,r9,r10,r11⟩=>
   some (b0,r11,0)
  else
   (xsub zad res 0 (xlen zad res)).bind fun ys=>
   (ze9 key val ys (xlen zad ys) 0 (⟨(⟨zaA,zao⟩:Peer),zaB,zat,zaG,zaJ,zam,r0,zas,zaz,zal,zaK,zaC,zap⟩:Node) zaG zaJ zam zaw zas zaz zal res []).bind fun⟨b0,r3,r4,r5,r6,r7,r8,r9,r10,r11⟩=>
   some (b0,r11,0)
 else
  some ((⟨(⟨zaA,zao⟩:Peer),zaB,zat,zaG,zaJ,zam,zaw,zas,zaz,zal,zaK,zaC,zap⟩:Node),[],r1)
theorem zDp{n key val r}:zpK n key val=some r->ztK n key val=some r:=by
 unfold zpK;refine ka (kb fun⟨zaA,zao,zaB,zat,zaG,zaJ,zam,zaw,zas,zaz,zal,zaK,zaC,zap⟩ h1=>kb fun⟨r0,r1⟩ h2=>kc (fun h3=>kb fun res h4=>kc (fun h5=>kb fun ys h6=>ks [0,0,0,0,0,0,0,0,0,0,0,0] fun⟨b0,r3,r4,r5,r6,r7,r8,r9,r10,r11⟩ γ4 h7=>l0 rfl ?_) fun h5=>kb fun ys h6=>ks [0,0,0,0,0,0,0,0,0,0,0,0] fun⟨b0,r3,r4,r5,r6,r7,r8,r9,r10,r11⟩ γ4 h7=>l0 rfl ?_) fun h3=>l0 rfl ?_)
 all_goals (dsimp only[K1,R2,R3,zbr,zfv]at *;show zak IF_ (zL8 zrT) _ _=_;generalize zrT=c0 at *;exact fin_)
def zhw(has:Bool)(val:ByteArray)(e_:Int)(b0_node:Node)(b0_job:Job)(r2:List Out):Option ((Node×(List Finger))):=
 (zkw b0_node b0_job.id has val e_).bind fun res=>
 some (res,b0_node.fingers)
theorem ztP{has val e_ b0_node b0_job r2 r}:zhw has val e_ b0_node b0_job r2=some r->zjI has val e_ b0_node b0_job r2=some r:=by
 unfold zhw;refine kas fun γ=>kb fun res h1=>lc rfl [0,γ 1,γ 2] ?_
 all_goals (dsimp only[R1,zcX]at *;show zak IF_ zBP _ _=_;exact fin_)
def zlz(b0_node:Node)(b0_job:Job)(r2:List Out):Option ((Node×(List Finger)×(List Out))):=
 (ztK b0_node b0_job.key b0_job.val).bind fun⟨r0,r1,r21⟩=>
 bif yac.ieq r21 0 then
  (zg5 r0 r1 b0_node b0_job r2).bind fun⟨r11,r22⟩=>
  (zdV true b0_job.val 0 r0 b0_job r22).bind fun b0_node1=>
  some (b0_node1,r11,r22)
 else
  (zjI false ⟨#[]⟩ r21 b0_node b0_job r2).bind fun⟨b0_node1,r11⟩=>
  some (b0_node1,r11,r2)
theorem zxX{b0_node b0_job r2 r}:zlz b0_node b0_job r2=some r->znr b0_node b0_job r2=some r:=by
 unfold zlz;refine kas fun γ=>kb fun⟨r0,r1,r21⟩ h1=>kc (fun h2=>ks [0,γ 1,γ 2] fun⟨r11,r22⟩ γ2 h3=>ks [0,γ2 2] fun b0_node1 γ3 h4=>lc rfl [0,γ2 1,γ3 1] ?_) fun h2=>ks [0,γ 1,γ 2] fun⟨b0_node1,r11⟩ γ2 h3=>lc rfl [0,γ2 1,γ2 2] ?_
 all_goals (dsimp only[R3,zeS,zbY,zcX,zco]at *;show zak IF_ zLQ _ _=_;exact fin_)
def znO(l:List Pair)(key:ByteArray):Option ((ByteArray×Bool)):=
 (znP l key).bind fun res=>
 bif yac.ilt res 0 then some (⟨#[]⟩,false)else
 (xget zag l res).bind fun x=>
 some (x.val,true)
theorem zEI{l key r}:znO l key=some r->zvN l key=some r:=by
 unfold znO;refine ka (kb fun res h1=>kc (fun h2=>l0 rfl ?_) fun h2=>kb fun x h3=>l0 rfl ?_)
 all_goals (dsimp only[R1,R2]at *;show zak IF_ zLR _ _=_;exact fin_)
abbrev zjE:=(Node×Job×(List Finger)×(List Out))
def zdP(owner:Peer)(γ:Nat->Nat):zjE->X×St
 |(a0,a1,a2,a3)=>(.nor,⟨bd 87 [],[.box 133 (capp (zah a0) (capp (cJob a1) ([.sl 2 (γ 2)]))),.row 82 (γ 1) true (yab zab a2),.row 78 (γ 2) false (yab eOut a3),.box 25 [vU owner.id,vH owner.addr]]⟩)
instance {owner}:InjS (zdP owner):=⟨by unfold zdP;exact ij_⟩
def zhs(owner:Peer)(b0_node:Node)(b0_job:Job)(r2:List Out)(t19:Bool):Option (zjE):=asks (fun γ=>(lim F pr).seg [] zx6 ⟨.bptr 0 0::bd 2 (.bptr 3 0::vF (yac.ieq owner.addr b0_node.me.addr)::bd 14 (vF t19::bd 67 [])),[.box 133 (capp (zau b0_node (.sl 1 (γ 1))) (capp (cJob b0_job) ([.sl 2 (γ 2)]))),.row 82 (γ 1) false (yab zab b0_node.fingers),.row 78 (γ 2) false (yab eOut r2),.box 25 [vU owner.id,vH owner.addr]]⟩) (zdP owner)
abbrev zjD:=(Node×Job×(List Finger)×(List Out))
def zdN(owner:Peer)(γ:Nat->Nat):zjD->X×St
 |(a0,a1,a2,a3)=>(.nor,⟨bd 87 [],[.box 133 (capp (zah a0) (capp (cJob a1) ([.sl 2 (γ 2)]))),.row 82 (γ 1) true (yab zab a2),.row 78 (γ 2) false (yab eOut a3),.box 25 [vU owner.id,vH owner.addr]]⟩)
instance {owner}:InjS (zdN owner):=⟨by unfold zdN;exact ij_⟩
def zhr(owner:Peer)(b0_node:Node)(b0_job:Job)(r2:List Out)(mine:Bool)(t47:Bool):Option (zjD):=asks (fun γ=>(lim F pr).seg [] zx5 ⟨.bptr 0 0::bd 2 (.bptr 3 0::vF mine::bd 42 (vF t47::bd 39 [])),[.box 133 (capp (zau b0_node (.sl 1 (γ 1))) (capp (cJob b0_job) ([.sl 2 (γ 2)]))),.row 82 (γ 1) false (yab zab b0_node.fingers),.row 78 (γ 2) false (yab eOut r2),.box 25 [vU owner.id,vH owner.addr]]⟩) (zdN owner)
abbrev zjC:=(Node×Job×(List Finger)×(List Out))
def zdL(owner:Peer)(γ:Nat->Nat):zjC->X×St
 |(a0,a1,a2,a3)=>(.nor,⟨bd 87 [],[.box 133 (capp (zah a0) (capp (cJob a1) ([.sl 2 (γ 2)]))),.row 82 (γ 1) true (yab zab a2),.row 78 (γ 2) false (yab eOut a3),.box 25 [vU owner.id,vH owner.addr]]⟩)
instance {owner}:InjS (zdL owner):=⟨by unfold zdL;exact ij_⟩
def zhq(owner:Peer)(b0_node:Node)(b0_job:Job)(r2:List Out)(t59:Bool):Option (zjC):=asks (fun γ=>(lim F pr).seg [] zx4 ⟨.bptr 0 0::bd 2 (.bptr 3 0::bd 55 (vF t59::bd 27 [])),[.box 133 (capp (zau b0_node (.sl 1 (γ 1))) (capp (cJob b0_job) ([.sl 2 (γ 2)]))),.row 82 (γ 1) false (yab zab b0_node.fingers),.row 78 (γ 2) false (yab eOut r2),.box 25 [vU owner.id,vH owner.addr]]⟩) (zdL owner)
def zbO(owner:Peer)(b0_node:Node)(b0_job:Job)(r2:List Out)(t19:Bool):Option (zjE):=
 bif t19 then zld b0_job.via b0_node b0_job r2 else
 bif yac.ieq b0_job.kind 4 then
  (zlv owner (yac.ieq owner.addr b0_node.me.addr) b0_node b0_job r2).bind fun⟨b0_node1,r1⟩=>
  some (b0_node1,b0_job,r1,r2)
 else
  bif yac.ieq b0_job.kind 2 then
   zhr owner b0_node b0_job r2 (yac.ieq owner.addr b0_node.me.addr) (yac.ieq owner.addr b0_node.me.addr)
  else
   zhr owner b0_node b0_job r2 (yac.ieq owner.addr b0_node.me.addr) false
theorem zdO{owner b0_node b0_job r2 t19 r}:zbO owner b0_node b0_job r2 t19=some r->zhs owner b0_node b0_job r2 t19=some r:=by
 unfold zbO;refine kas fun γ=>kc (fun h1=>ps [0,γ 1,γ 2] fun⟨b0_node1,zaX,r1,r21⟩ γ1 h2=>ls [0,γ1 1,γ1 2] ?_) fun h1=>kc (fun h2=>ks [0,γ 1,γ 2] fun⟨b0_node1,r1⟩ γ1 h3=>ls [0,γ1 1,γ1 2] ?_) fun h2=>kc (fun h3=>ps [0,γ 1,γ 2] fun⟨zo6,zrB,r1,r2'⟩ γ1 h4=>ls [0,γ1 1,γ1 2] ?_) fun h3=>ps [0,γ 1,γ 2] fun⟨zo6,zrB,r1,r2'⟩ γ1 h4=>ls [0,γ1 1,γ1 2] ?_
 all_goals (dsimp only[zd4,zdN,zdP,zdR]at *;show Ifc.apart IF_ _ (zEX zx5) _=_;generalize zx5=c0 at *;exact fin_)
def zbN(owner:Peer)(b0_node:Node)(b0_job:Job)(r2:List Out)(mine:Bool)(t47:Bool):Option (zjD):=
 bif t47 then
  (znr b0_node b0_job r2).bind fun⟨b0_node1,r1,r21⟩=>
  some (b0_node1,b0_job,r1,r21)
 else
  bif yac.ieq b0_job.kind 3 then zhq owner b0_node b0_job r2 mine else
  zhq owner b0_node b0_job r2 false
theorem zdM{owner b0_node b0_job r2 mine t47 r}:zbN owner b0_node b0_job r2 mine t47=some r->zhr owner b0_node b0_job r2 mine t47=some r:=by
 unfold zbN;refine kas fun γ=>kc (fun h1=>ks [0,γ 1,γ 2] fun⟨b0_node1,r1,r21⟩ γ1 h2=>ls [0,γ1 1,γ1 2] ?_) fun h1=>kc (fun h2=>ps [0,γ 1,γ 2] fun⟨zo6,zrB,r1,r2'⟩ γ1 h3=>ls [0,γ1 1,γ1 2] ?_) fun h2=>ps [0,γ 1,γ 2] fun⟨zo6,zrB,r1,r2'⟩ γ1 h3=>ls [0,γ1 1,γ1 2] ?_
 all_goals (dsimp only[zdL,zdN,zeS]at *;show Ifc.apart IF_ _ (zEW zx4) _=_;generalize zx4=c0 at *;exact fin_)
def zfM(owner:Peer)(b0_node:Node)(b0_job:Job)(r2:List Out)(t59:Bool):Option (zjC):=
 bif t59 then
  (zvN b0_node.store b0_job.key).bind fun⟨r0,r1⟩=>
  (zba r1 r0 0 b0_node b0_job r2).bind fun⟨b0_node1,r11⟩=>
  some (b0_node1,b0_job,r11,r2)
 else
  zld owner b0_node b0_job r2
theorem zn8{owner b0_node b0_job r2 t59 r}:zfM owner b0_node b0_job r2 t59=some r->zhq owner b0_node b0_job r2 t59=some r:=by
 unfold zfM;refine kas fun γ=>kc (fun h1=>kb fun⟨r0,r1⟩ h2=>ks [0,γ 1,γ 2] fun⟨b0_node1,r11⟩ γ2 h3=>ls [0,γ2 1,γ2 2] ?_) fun h1=>ps [0,γ 1,γ 2] fun⟨b0_node1,zaX,r1,r21⟩ γ1 h2=>ls [0,γ1 1,γ1 2] ?_
 all_goals (dsimp only[R2,zd4,zdL,zbg]at *;show Ifc.apart IF_ _ zEV _=_;exact fin_)
def zfL(owner:Peer)(b0_node:Node)(b0_job:Job)(r2:List Out):Option (zmz):=
 bif yac.ieq b0_job.kind 1 then
  zhs owner b0_node b0_job r2 (yac.ieq owner.addr b0_node.me.addr)
 else
  zhs owner b0_node b0_job r2 false
theorem zmA{owner b0_node b0_job r2 r}:zfL owner b0_node b0_job r2=some r->zig owner b0_node b0_job r2=some r:=by
 unfold zfL;refine kas fun γ=>kc (fun h1=>ps [0,γ 1,γ 2] fun⟨zo6,zrB,r1,r2'⟩ γ1 h2=>lc rfl [0,γ1 1,γ1 2] ?_) fun h1=>ps [0,γ 1,γ 2] fun⟨zo6,zrB,r1,r2'⟩ γ1 h2=>lc rfl [0,γ1 1,γ1 2] ?_
 all_goals (dsimp only[zd6,zdP]at *;show zak IF_ (zLi zx6) _ _=_;generalize zx6=c0 at *;exact fin_)
def zoG(to_:Peer)(m:Msg)(why:Int)(b0_node:Node)(b0_job:Job)(r2:List Out):Option (zkq):=
 (zd7 b0_node (⟨b0_job.id,b0_job.kind,b0_job.bit,b0_job.key,b0_job.val,b0_job.target,b0_job.via,to_,b0_job.doing,b0_job.hops,b0_job.tries,b0_job.due⟩:Job) r2).bind fun⟨b0_node1,r1⟩=>
 (zi1 b0_node1 to_ m why b0_job.id).bind fun⟨r0,r11⟩=>
 (zg5 r0 r11 b0_node1 (⟨b0_job.id,b0_job.kind,b0_job.bit,b0_job.key,b0_job.val,b0_job.target,b0_job.via,to_,b0_job.doing,b0_job.hops,b0_job.tries,b0_job.due⟩:Job) r2).bind fun⟨r12,r21⟩=>
 some (r0,(⟨b0_job.id,b0_job.kind,b0_job.bit,b0_job.key,b0_job.val,b0_job.target,b0_job.via,to_,b0_job.doing,b0_job.hops,b0_job.tries,b0_job.due⟩:Job),r1,r21)
theorem zwP{to_ m why b0_node b0_job r2 r}:zoG to_ m why b0_node b0_job r2=some r->zmx to_ m why b0_node b0_job r2=some r:=by
 unfold zoG;refine kas fun γ=>ks [0,γ 1,γ 2] fun⟨b0_node1,r1⟩ γ1 h1=>kb fun⟨r0,r11⟩ h2=>ks [0,γ1 3,γ1 2] fun⟨r12,r21⟩ γ3 h3=>lc rfl [0,γ1 1,γ3 2] ?_
 all_goals (dsimp only[R2,zeh,zcY,zco]at *;show zak IF_ zGy _ _=_;exact fin_)
def zoa(to_:Peer)(b0_node:Node)(b0_job:Job)(r2:List Out):Option (zjF):=
 zmx to_ (⟨1,0,0,false,b0_job.target,⟨#[]⟩,⟨#[]⟩,(⟨0,0⟩:Peer),[],[]⟩:Msg) 4 b0_node b0_job r2
theorem zv4{to_ b0_node b0_job r2 r}:zoa to_ b0_node b0_job r2=some r->zlw to_ b0_node b0_job r2=some r:=by
 unfold zoa;refine kas fun γ=>ps [0,γ 1,γ 2] fun⟨b0_node1,zaX,r1,r21⟩ γ1 h1=>lc rfl [0,γ1 1,γ1 2] ?_
 all_goals (dsimp only[zeh,zdS]at *;show zak IF_ zGw _ _=_;exact fin_)
def zeT(b0_node:Node)(b0_job:Job)(r2:List Out):Option (zlA):=
 bif yac.ieq b0_job.kind 1 then
  zcD b0_job.via b0_node (⟨b0_job.id,b0_job.kind,b0_job.bit,b0_job.key,b0_job.val,b0_job.target,b0_job.via,b0_job.at_,false,0,b0_job.tries,b0_job.due⟩:Job) r2
 else
  (ztH b0_node b0_job.target).bind fun⟨r0,r1,r21⟩=>
  bif r21 then
   (zd7 b0_node (⟨b0_job.id,b0_job.kind,b0_job.bit,b0_job.key,b0_job.val,b0_job.target,b0_job.via,b0_job.at_,false,0,b0_job.tries,b0_job.due⟩:Job) r2).bind fun⟨b0_node1,r11⟩=>
   (zig r0 b0_node1 (⟨b0_job.id,b0_job.kind,b0_job.bit,b0_job.key,b0_job.val,b0_job.target,b0_job.via,b0_job.at_,false,0,b0_job.tries,b0_job.due⟩:Job) r2).bind fun⟨zB2,zaX,r12,r22⟩=>
   some (zB2,zaX,r11,r22)
  else
   (xget zad r1 0).bind fun x=>
   zlw x b0_node (⟨b0_job.id,b0_job.kind,b0_job.bit,b0_job.key,b0_job.val,b0_job.target,b0_job.via,b0_job.at_,false,1,b0_job.tries,b0_job.due⟩:Job) r2
theorem zlB{b0_node b0_job r2 r}:zeT b0_node b0_job r2=some r->zeD b0_node b0_job r2=some r:=by
 unfold zeT;refine kas fun γ=>kc (fun h1=>ps [0,γ 1,γ 2] fun⟨b0_node1,zaX,r1,r21⟩ γ1 h2=>lc rfl [0,γ1 1,γ1 2] ?_) fun h1=>kb fun⟨r0,r1,r21⟩ h2=>kc (fun h3=>ks [0,γ 1,γ 2] fun⟨b0_node1,r11⟩ γ2 h4=>ks [0,γ2 3,γ2 2] fun⟨zB2,zaX,r12,r22⟩ γ3 h5=>lc rfl [0,γ2 1,γ3 2] ?_) fun h3=>kb fun x h4=>ps [0,γ 1,γ 2] fun⟨b0_node1,zaX,r11,r22⟩ γ2 h5=>lc rfl [0,γ2 1,γ2 2] ?_
 all_goals (dsimp only[R3,zd6,zdS,zdl,zcY,zeU]at *;show zak IF_ zLN _ _=_;exact fin_)
def zcn(why:Int)(b0_node:Node)(b0_job:Job)(r2:List Out):Option (zht):=
 bif yac.ieq b0_job.kind 1 then
  (zfb b0_node (⟨b0_job.id,b0_job.kind,b0_job.bit,b0_job.key,b0_job.val,b0_job.target,b0_job.via,b0_job.at_,false,b0_job.hops,b0_job.tries,b0_job.due⟩:Job) r2).bind fun⟨b0_node1,r1⟩=>
  some (.inl (b0_node1,(⟨b0_job.id,b0_job.kind,b0_job.bit,b0_job.key,b0_job.val,b0_job.target,b0_job.via,b0_job.at_,false,b0_job.hops,b0_job.tries,b0_job.due⟩:Job),r1))
 else
  bif yac.ieq b0_job.kind 4 then
   (zba false ⟨#[]⟩ why b0_node b0_job r2).bind fun⟨b0_node1,r1⟩=>
   some (.inr (b0_node1,b0_job,r1,r2))
  else
   bif yac.ile 3 b0_job.tries then
    (zba false ⟨#[]⟩ why b0_node b0_job r2).bind fun⟨b0_node1,r1⟩=>
    some (.inr (b0_node1,b0_job,r1,r2))
   else
    bif yac.ilt b0_job.tries 0 then
     (zeD b0_node (⟨b0_job.id,b0_job.kind,b0_job.bit,b0_job.key,b0_job.val,b0_job.target,b0_job.via,b0_job.at_,b0_job.doing,b0_job.hops,yac.iadd .i64 0 1,b0_job.due⟩:Job) r2).bind fun⟨b0_node1,zaX,r1,r21⟩=>
     some (.inr (b0_node1,zaX,r1,r21))
    else
     (zeD b0_node (⟨b0_job.id,b0_job.kind,b0_job.bit,b0_job.key,b0_job.val,b0_job.target,b0_job.via,b0_job.at_,b0_job.doing,b0_job.hops,yac.iadd .i64 b0_job.tries 1,b0_job.due⟩:Job) r2).bind fun⟨b0_node1,zaX,r1,r21⟩=>
     some (.inr (b0_node1,zaX,r1,r21))
theorem zeR{why b0_node b0_job r2 r}:zcn why b0_node b0_job r2=some r->zcC why b0_node b0_job r2=some r:=by
 unfold zcn;refine kas fun γ=>kc (fun h1=>ks [0,γ 1,γ 2] fun⟨b0_node1,r1⟩ γ1 h2=>lc rfl [0,γ1 1,γ1 2,γ1 3] ?_) fun h1=>kc (fun h2=>ks [0,γ 1,γ 2] fun⟨b0_node1,r1⟩ γ1 h3=>lc rfl [0,γ1 1,γ1 2] ?_) fun h2=>kc (fun h3=>ks [0,γ 1,γ 2] fun⟨b0_node1,r1⟩ γ1 h4=>lc rfl [0,γ1 1,γ1 2] ?_) fun h3=>kc (fun h4=>ks [0,γ 1,γ 2] fun⟨b0_node1,zaX,r1,r21⟩ γ1 h5=>lc rfl [0,γ1 1,γ1 2] ?_) fun h4=>ks [0,γ 1,γ 2] fun⟨b0_node1,zaX,r1,r21⟩ γ1 h5=>lc rfl [0,γ1 1,γ1 2] ?_
 all_goals (dsimp only[zbP,zd8,zeU,zbg]at *;show zak IF_ zLh _ _=_;exact fin_)
def zn7(b0_node:Node)(b0_job:Job)(r1:List Out):Option (Node):=
 some b0_node
theorem zv3{b0_node b0_job r1 r}:zn7 b0_node b0_job r1=some r->za9 b0_node b0_job r1=some r:=by
 unfold zn7;refine kas fun γ=>lc rfl [0,γ 1] ?_
 all_goals (dsimp only[zbM]at *;show zak IF_ zGr _ _=_;exact fin_)
def zj8(a:Int)(x:Int)(b:Int):Option (Bool):=
 bif yac.ieq x a then some false else
 bif yac.ieq a b then some true else
 (zjo a x).bind fun res=>
 (zjo a b).bind fun res1=>
 some (yac.ilt res res1)
theorem zsn{a x b r}:zj8 a x b=some r->zgO a x b=some r:=by
 unfold zj8;refine ka (kc (fun h1=>l0 rfl ?_) fun h1=>kc (fun h2=>l0 rfl ?_) fun h2=>kb fun res h3=>kb fun res1 h4=>l0 rfl ?_)
 all_goals (dsimp only[R1]at *;show zak IF_ zLT _ _=_;exact fin_)
def zhv(p:Peer)(b1_node:Node)(b1_job:Job)(r3:List Out):Option (Bool):=
 bif yac.ieq p.addr b1_node.me.addr then some false else
 zgO b1_job.at_.id p.id b1_job.target
theorem ztN{p b1_node b1_job r3 r}:zhv p b1_node b1_job r3=some r->zjH p b1_node b1_job r3=some r:=by
 unfold zhv;refine kas fun γ=>kc (fun h1=>lc rfl [0,0,γ 2,γ 3] ?_) fun h1=>pb fun res h2=>lc rfl [0,0,γ 2,γ 3] ?_
 all_goals (dsimp only[R1,zcW]at *;show zak IF_ zLS _ _=_;exact fin_)
def zcy(b1_node:Node)(b1_job:Job)(r3:List Out)(γ:Nat->Nat):Int⊕Unit->X×St
 | .inl a0=>(.ret,⟨bd 4 (vI a0::bd 14 []),[.box 129 [.bptr 1 0],.box 133 (capp (zau b1_node (.sl 2 (γ 2))) (capp (cJob b1_job) ([.sl 3 (γ 3)]))),.row 82 (γ 2) false (yab zab b1_node.fingers),.row 78 (γ 3) false (yab eOut r3)]⟩)
 | .inr ()=>(.brk 0,⟨bd 19 [],[.box 129 [.bptr 1 0],.box 133 (capp (zau b1_node (.sl 2 (γ 2))) (capp (cJob b1_job) ([.sl 3 (γ 3)]))),.row 82 (γ 2) false (yab zab b1_node.fingers),.row 78 (γ 3) false (yab eOut r3)]⟩)
instance {b1_node b1_job r3}:InjS (zcy b1_node b1_job r3):=⟨by unfold zcy;exact ij_⟩
def zeY(s:List Peer)(b1_node:Node)(b1_job:Job)(r3:List Out)(t8:Int):Option (Int⊕Unit):=asks (fun γ=>(lim F pr).loop [7,1,0,8] 4 ziQ ⟨.lit 25 false (yab zad s):: .fn 206 [.bptr 0 0]::bd 5 (vI (xlen zad s)::vI t8::bd 10 []),[.box 129 [.bptr 1 0],.box 133 (capp (zau b1_node (.sl 2 (γ 2))) (capp (cJob b1_job) ([.sl 3 (γ 3)]))),.row 82 (γ 2) false (yab zab b1_node.fingers),.row 78 (γ 3) false (yab eOut r3)]⟩) (zcy b1_node b1_job r3)
def zcx(s:List Peer)(b1_node:Node)(b1_job:Job)(r3:List Out)(t8:Int):Option (Int⊕Unit):=
 bif yac.ilt t8 (xlen zad s)then
  (xget zad s t8).bind fun x=>
  (zjH x b1_node b1_job r3).bind fun res=>
  bif res then some (.inl t8)else
  zeY s b1_node b1_job r3 (yac.iadd .i64 t8 1)
 else
  some (.inr ())
theorem zf6{s b1_node b1_job r3 t8 r}:zcx s b1_node b1_job r3 t8=some r->zeY s b1_node b1_job r3 t8=some r:=by
 unfold zcx;refine kas fun γ=>kc (fun h1=>kb fun x h2=>ks [0,0,γ 2,γ 3] fun res γ1 h3=>kc (fun h4=>lr [0,0,γ1 2,γ1 3] ?_) fun h4=>lg [0,0,γ1 2,γ1 3] fun γ' h0=>?_) fun h1=>lr [0,0,γ 2,γ 3] ?_
 all_goals (dsimp only[zcy,zcW]at *;show zaE IF_ _ _ ziQ zzj _=_;generalize ziQ=c0 at *;exact fin_)
def ziM(s:List Peer)(b1_node:Node)(b1_job:Job)(r3:List Out):Option (Int):=
 (zeY s b1_node b1_job r3 0).bind fun r=>match r with
  | .inl t4=>
   some t4
  | .inr ()=>
   some (-1)
theorem zuz{s b1_node b1_job r3 r}:ziM s b1_node b1_job r3=some r->zlh s b1_node b1_job r3=some r:=by
 unfold ziM;refine kas fun γ=>ks [0,0,γ 2,γ 3] fun| .inl t4,γ1,h1=>(lc rfl [0,0,γ1 2,γ1 3] ?_)| .inr _,γ1,h1=>(lc rfl [0,0,γ1 2,γ1 3] ?_)
 all_goals (dsimp only[zdC,zcy]at *;show zak IF_ (zGv ziQ) _ _=_;generalize ziQ=c0 at *;exact fin_)
def zfP(l:List Peer)(b0_node:Node)(b0_job:Job)(r2:List Out):Option (zfO):=
 (zlh l b0_node b0_job r2).bind fun res=>
 bif yac.ilt res 0 then zcC 15 b0_node b0_job r2 else
 bif yac.ilt b0_job.hops 64 then
  bif yac.ilt b0_job.hops 0 then
   (xget zad l res).bind fun x=>
   (zcD x b0_node (⟨b0_job.id,b0_job.kind,b0_job.bit,b0_job.key,b0_job.val,b0_job.target,b0_job.via,b0_job.at_,b0_job.doing,yac.iadd .i64 0 1,b0_job.tries,b0_job.due⟩:Job) r2).bind fun⟨b0_node1,zaX,r1,r21⟩=>
   some (.inr (b0_node1,zaX,r1,r21))
  else
   (xget zad l res).bind fun x=>
   (zcD x b0_node (⟨b0_job.id,b0_job.kind,b0_job.bit,b0_job.key,b0_job.val,b0_job.target,b0_job.via,b0_job.at_,b0_job.doing,yac.iadd .i64 b0_job.hops 1,b0_job.tries,b0_job.due⟩:Job) r2).bind fun⟨b0_node1,zaX,r1,r21⟩=>
   some (.inr (b0_node1,zaX,r1,r21))
 else
  bif yac.ieq b0_job.kind 1 then zcC 19 b0_node b0_job r2 else
  (zba false ⟨#[]⟩ 19 b0_node b0_job r2).bind fun⟨b0_node1,r1⟩=>
  some (.inr (b0_node1,b0_job,r1,r2))
theorem zob{l b0_node b0_job r2 r}:zfP l b0_node b0_job r2=some r->zhu l b0_node b0_job r2=some r:=by
 unfold zfP;refine kas fun γ=>ks [0,0,γ 1,γ 2] fun res γ1 h1=>kc (fun h2=>ps [0,γ1 2,γ1 3] fun| .inl ⟨b0_node1,zaX,r1⟩,γ2,h3=>(lc rfl [0,γ2 1,γ2 2,γ2 3] ?_)| .inr ⟨b0_node1,zaX,r1,r21⟩,γ2,h3=>(lc rfl [0,γ2 1,γ2 2] ?_)) fun h2=>kc (fun h3=>kc (fun h4=>kb fun x h5=>ks [0,γ1 2,γ1 3] fun⟨b0_node1,zaX,r1,r21⟩ γ2 h6=>lc rfl [0,γ2 1,γ2 2] ?_) fun h4=>kb fun x h5=>ks [0,γ1 2,γ1 3] fun⟨b0_node1,zaX,r1,r21⟩ γ2 h6=>lc rfl [0,γ2 1,γ2 2] ?_) fun h3=>kc (fun h4=>ps [0,γ1 2,γ1 3] fun| .inl ⟨b0_node1,zaX,r1⟩,γ2,h5=>(lc rfl [0,γ2 1,γ2 2,γ2 3] ?_)| .inr ⟨b0_node1,zaX,r1,r21⟩,γ2,h5=>(lc rfl [0,γ2 1,γ2 2] ?_)) fun h4=>ks [0,γ1 2,γ1 3] fun⟨b0_node1,r1⟩ γ2 h5=>lc rfl [0,γ2 1,γ2 2] ?_
 all_goals (dsimp only[zdC,zbP,zdl,zdU,zbg]at *;show zak IF_ zLj _ _=_;exact fin_)
def zjK(n:Node)(out:List Out)(b0_node:Node)(b0_job:Job)(r1:List Out):Option ((List Out)):=
 bif zar eOut 136 r1 out then some (r1++out)else
 none
theorem zv7{n out b0_node b0_job r1 r}:zjK n out b0_node b0_job r1=some r->zhx n out b0_node b0_job r1=some r:=by
 unfold zjK;refine kas fun γ=>k1 fun h1=>lc rfl [0,(γ 1+1)] ?_
 all_goals (dsimp only[zdW]at *;show zak IF_ zGx _ _=_;exact fin_)
def zjG(b0_node:Node)(b0_job:Job)(r2:List Out):Option ((Node×(List Finger)×(List Out))):=
 (zba false ⟨#[]⟩ 0 b0_node b0_job r2).bind fun⟨b0_node1,r1⟩=>
 (zn3 b0_node1.me b0_node1.list b0_job.at_).bind fun res=>
 (zi1 (⟨b0_node1.me,b0_node1.clock,true,b0_node1.pred,res,b0_node1.fingers,b0_node1.store,b0_node1.pends,b0_node1.jobs,b0_node1.results,b0_node1.rid,b0_node1.jobID,b0_node1.nextBit⟩:Node) b0_job.at_ (⟨5,0,0,false,0,⟨#[]⟩,⟨#[]⟩,b0_node1.me,[],[]⟩:Msg) 2 0).bind fun⟨r0,r11⟩=>
 (zhx r0 r11 (⟨b0_node1.me,b0_node1.clock,true,b0_node1.pred,res,b0_node1.fingers,b0_node1.store,b0_node1.pends,b0_node1.jobs,b0_node1.results,b0_node1.rid,b0_node1.jobID,b0_node1.nextBit⟩:Node) b0_job r2).bind fun r12=>
 some (r0,r1,r12)
theorem zv5{b0_node b0_job r2 r}:zjG b0_node b0_job r2=some r->zly b0_node b0_job r2=some r:=by
 unfold zjG;refine kas fun γ=>ks [0,γ 1,γ 2] fun⟨b0_node1,r1⟩ γ1 h1=>kb fun res h2=>kb fun⟨r0,r11⟩ h3=>ks [0,γ1 2] fun r12 γ4 h4=>lc rfl [0,γ1 1,γ4 1] ?_
 all_goals (dsimp only[R1,R2,zdT,zbg,zdW]at *;show zak IF_ zLk _ _=_;exact fin_)
def zgz(γ:Nat->Nat):Int⊕Unit->X×St
 | .inl a0=>(.ret,⟨bd 4 (vI a0::bd 16 []),[]⟩)
 | .inr ()=>(.brk 0,⟨bd 21 [],[]⟩)
instance :InjS zgz:=⟨by unfold zgz;exact ij_⟩
def zl6(l:List Entry)(addr:Int)(i:Int):Option (Int⊕Unit):=asks (fun γ=>(lim F pr).loop [0,1,5] 0 zwq ⟨.lit 55 false (yab zaa l)::vH addr::bd 3 (vI i::bd 15 []),[]⟩) zgz
def zgy(l:List Entry)(addr:Int)(i:Int):Option (Int⊕Unit):=
 bif yac.ilt i (xlen zaa l)then
  (xget zaa l i).bind fun x=>
  bif yac.ieq x.peer.addr addr then some (.inl i)else
  zl6 l addr (yac.iadd .i64 i 1)
 else
  some (.inr ())
theorem zm8{l addr i r}:zgy l addr i=some r->zl6 l addr i=some r:=by
 unfold zgy;refine kas fun γ=>kc (fun h1=>kb fun x h2=>kc (fun h3=>lr [] ?_) fun h3=>lg [] fun γ' h0=>?_) fun h1=>lr [] ?_
 all_goals (dsimp only[zgz]at *;show zaE IF_ _ _ zwq zId _=_;generalize zwq=c0 at *;exact fin_)
def zq8(l:List Entry)(addr:Int):Option (Int):=
 (zl6 l addr 0).bind fun r=>match r with
  | .inl t4=>
   some t4
  | .inr ()=>
   some (-1)
theorem zEp{l addr r}:zq8 l addr=some r->zqr l addr=some r:=by
 unfold zq8;refine ka (ks [] fun| .inl t4,γ1,h1=>(l0 rfl ?_)| .inr _,γ1,h1=>(l0 rfl ?_))
 all_goals (dsimp only[R1,zgz]at *;show zak IF_ (g66F zwq) _ _=_;generalize zwq=c0 at *;exact fin_)
def zhH(γ:Nat->Nat):(List Entry)->X×St
 |a0=>(.brk 0,⟨bd 5 (.sl 1 (γ 1)::bd 23 []),[.row 55 (γ 0) false (yab zaa []),.row 55 (γ 1) false (yab zaa a0)]⟩)
instance :InjS zhH:=⟨by unfold zhH;exact ij_⟩
def zkA(l:List Entry)(addr:Int)(i:Int)(r1:List Entry):Option ((List Entry)):=asks (fun γ=>(lim F pr).loop [1,0,6,5] 2 zwr ⟨.lit 55 false (yab zaa l)::vH addr::bd 3 (.sl 1 (γ 1)::vI i::bd 22 []),[.row 55 (γ 0) false (yab zaa []),.row 55 (γ 1) false (yab zaa r1)]⟩) zhH
def zhG(l:List Entry)(addr:Int)(i:Int)(r1:List Entry):Option ((List Entry)):=
 bif yac.ilt i (xlen zaa l)then
  (xget zaa l i).bind fun x=>
  bif yac.ieq x.peer.addr addr then zkA l addr (yac.iadd .i64 i 1) r1 else
  bif zar zaa 24 r1 [x]then zkA l addr (yac.iadd .i64 i 1) (r1++[x])else
  none
 else
  some r1
theorem zt3{l addr i r1 r}:zhG l addr i r1=some r->zkA l addr i r1=some r:=by
 unfold zhG;refine kas fun γ=>kc (fun h1=>kb fun x h2=>kc (fun h3=>lg [γ 0,γ 1] fun γ' h0=>?_) fun h3=>k1 fun h4=>lg [γ 0,((γ 1)+1)] fun γ' h0=>?_) fun h1=>lr [γ 0,γ 1] ?_
 all_goals (dsimp only[zhH]at *;show zaE IF_ _ _ zwr zIe _=_;generalize zwr=c0 at *;exact fin_)
def ztl(l:List Entry)(addr:Int):Option ((List Entry)):=
 zkA l addr 0 []
theorem zGZ{l addr r}:ztl l addr=some r->zxA l addr=some r:=by
 unfold ztl;refine ka (ps [0,0] fun r1 γ1 h1=>l0 rfl ?_)
 all_goals (dsimp only[R1,zhH]at *;show zak IF_ (g68F zwr) _ _=_;generalize zwr=c0 at *;exact fin_)
def zq7(me:Peer)(a:Peer)(b:Peer):Option (Bool):=
 (zm1 me.id a.id).bind fun res=>
 (zm1 me.id b.id).bind fun res1=>
 bif yac.ieq res res1 then some (yac.ilt a.addr b.addr)else
 some (yac.ilt res res1)
theorem zEn{me a b r}:zq7 me a b=some r->zvn me a b=some r:=by
 unfold zq7;refine ka (kb fun res h1=>kb fun res1 h2=>kc (fun h3=>l0 rfl ?_) fun h3=>l0 rfl ?_)
 all_goals (dsimp only[R1]at *;show zak IF_ zLl _ _=_;exact fin_)
def zvv(n:Node):Option (Int):=
 bif yac.ilt 0 n.clock then
  bif yac.ile n.clock 1099511627776 then some n.clock else
  some 0
 else
  some 0
theorem zJg{n r}:zvv n=some r->zzS n=some r:=by
 unfold zvv;refine ka (kc (fun h1=>kc (fun h2=>l0 rfl ?_) fun h2=>l0 rfl ?_) fun h1=>l0 rfl ?_)
 all_goals (dsimp only[R1]at *;show zak IF_ g83F _ _=_;exact fin_)
def zkG(n:Node)(id:Int):Option (Int):=
 (zpA n.jobs id).bind fun res=>
 bif yac.ile 0 res then
  (xget eJob n.jobs res).bind fun x=>
  bif yac.ilt x.kind 1 then some (-1)else
  bif yac.ilt 4 x.kind then some (-1)else
  some res
 else
  some res
theorem zrm{n id r}:zkG n id=some r->zqy n id=some r:=by
 unfold zkG;refine ka (kb fun res h1=>kc (fun h2=>kb fun x h3=>kc (fun h4=>l0 rfl ?_) fun h4=>kc (fun h5=>l0 rfl ?_) fun h5=>l0 rfl ?_) fun h2=>l0 rfl ?_)
 all_goals (dsimp only[R1]at *;show zak IF_ zLm _ _=_;exact fin_)
def zh9(n:Node)(γ:Nat->Nat):((List Out)×Job×Node)->X×St
 |(a0,a1,a2)=>(.ret,⟨bd 6 (.bptr 2 0:: .lit 78 false (yab eOut a0)::bd 32 []),[.box 34 (zah n),.box 57 (cJob a1),.box 34 (zah a2),.row 78 (γ 3) false (yab eOut [])]⟩)
instance {n}:InjS (zh9 n):=⟨by unfold zh9;exact ij_⟩
def zrl(n:Node)(j:Job):Option (((List Out)×Job×Node)):=asks (fun γ=>(lim F pr).seg [6,7] zx7 ⟨bd 3 (.bptr 0 0:: .bptr 1 0::bd 1 (.bptr 2 0::bd 33 [])),[.box 34 (zah n),.box 57 (cJob j),.box 34 ([vU 0,vH 0,vI 0,vF false,.lit 0 true [],.lit 0 true [],.lit 0 true [],.lit 0 true [],.lit 0 true [],.lit 0 true [],.lit 0 true [],vW 0,vI 0,vI 0]),.row 78 (γ 3) false (yab eOut [])]⟩) (zh9 n)
def zk6(n:Node)(j:Job):Option (((List Out)×Job×Node)):=
 bif yac.ilt j.tries 0 then
  (znf n (⟨j.id,j.kind,j.bit,j.key,j.val,j.target,j.via,j.at_,j.doing,j.hops,yac.iadd .i64 0 1,j.due⟩:Job)).bind fun⟨r0,r1⟩=>
  some (r1,(⟨j.id,j.kind,j.bit,j.key,j.val,j.target,j.via,j.at_,j.doing,j.hops,yac.iadd .i64 0 1,j.due⟩:Job),r0)
 else
  (znf n (⟨j.id,j.kind,j.bit,j.key,j.val,j.target,j.via,j.at_,j.doing,j.hops,yac.iadd .i64 j.tries 1,j.due⟩:Job)).bind fun⟨r0,r1⟩=>
  some (r1,(⟨j.id,j.kind,j.bit,j.key,j.val,j.target,j.via,j.at_,j.doing,j.hops,yac.iadd .i64 j.tries 1,j.due⟩:Job),r0)
theorem zui{n j r}:zk6 n j=some r->zrl n j=some r:=by
 unfold zk6;refine kas fun γ=>kc (fun h1=>kb fun⟨r0,r1⟩ h2=>ls [0,0,0,γ 3] ?_) fun h1=>kb fun⟨r0,r1⟩ h2=>ls [0,0,0,γ 3] ?_
 all_goals (dsimp only[R2,zh9]at *;show Ifc.apart IF_ _ zEY _=_;exact fin_)
def ztC(n:Node)(j:Job)(why:Int):Option ((Node×(List Out))):=
 bif yac.ieq j.kind 1 then
  (zgF n (⟨j.id,j.kind,j.bit,j.key,j.val,j.target,j.via,j.at_,false,j.hops,j.tries,j.due⟩:Job)).bind fun res=>
  some (res,[])
 else
  bif yac.ieq j.kind 4 then
   (zbv n j false ⟨#[]⟩ why).bind fun res=>
   some (res,[])
  else
   bif yac.ile 3 j.tries then
    (zbv n j false ⟨#[]⟩ why).bind fun res=>
    some (res,[])
   else
    (zrl n j).bind fun⟨t7,b1,b2⟩=>
    some (b2,t7)
theorem zHi{n j why r}:ztC n j why=some r->zne n j why=some r:=by
 unfold ztC;refine ka (kc (fun h1=>kb fun res h2=>l0 rfl ?_) fun h1=>kc (fun h2=>kb fun res h3=>l0 rfl ?_) fun h2=>kc (fun h3=>kb fun res h4=>l0 rfl ?_) fun h3=>ks [0,0,0,0] fun⟨t7,b1,b2⟩ γ1 h4=>l0 rfl ?_)
 all_goals (dsimp only[R1,R2,zh9]at *;show zak IF_ (zLn zx7) _ _=_;generalize zx7=c0 at *;exact fin_)
abbrev zmi:=((List Out)×Node×Node)⊕((Node×Node×Node)⊕((Node×Node)⊕(Node×Node)))
def zjm(j:Job)(owner:Peer)(γ:Nat->Nat):zmi->X×St
 | .inl (a0,a1,a2)=>(.ret,⟨bd 6 (.bptr 3 0:: .lit 78 false (yab eOut a0)::bd 123 []),[.box 34 (zah a1),.box 57 (cJob j),.box 25 [vU owner.id,vH owner.addr],.box 34 (zah a2),.row 78 (γ 4) false (yab eOut [])]⟩)
 | .inr (.inl (b0,b1,b2))=>(.ret,⟨bd 6 (.bptr 3 0:: .sl 6 (γ 6)::bd 123 []),[.box 34 (zah b0),.box 57 (cJob j),.box 25 [vU owner.id,vH owner.addr],.box 34 (zah b1),.row 78 (γ 4) false (yab eOut []),.box 34 (zah b2),.row 78 (γ 6) false (yab eOut [])]⟩)
 | .inr (.inr (.inl (c0,c1)))=>(.ret,⟨bd 6 (.bptr 3 0:: .sl 5 (γ 5)::bd 123 []),[.box 34 (zah c0),.box 57 (cJob j),.box 25 [vU owner.id,vH owner.addr],.box 34 (zah c1),.row 78 (γ 4) false (yab eOut []),.row 78 (γ 5) false (yab eOut [])]⟩)
 | .inr (.inr (.inr (d0,d1)))=>(.ret,⟨bd 6 (.bptr 3 0:: .sl 6 (γ 6)::bd 123 []),[.box 34 (zau d0 (.sl 5 (γ 5))),.box 57 (cJob j),.box 25 [vU owner.id,vH owner.addr],.box 34 (zah d1),.row 78 (γ 4) false (yab eOut []),.row 82 (γ 5) true (yab zab d0.fingers),.row 78 (γ 6) false (yab eOut [])]⟩)
instance {j owner}:InjS (zjm j owner):=⟨by unfold zjm;exact ij_⟩
def zmh(n:Node)(j:Job)(owner:Peer):Option (zmi):=asks (fun γ=>(lim F pr).seg [6,7] zx8 ⟨bd 3 (.bptr 0 0:: .bptr 1 0:: .bptr 2 0:: .bptr 3 0::bd 124 []),[.box 34 (zah n),.box 57 (cJob j),.box 25 [vU owner.id,vH owner.addr],.box 34 ([vU 0,vH 0,vI 0,vF false,.lit 0 true [],.lit 0 true [],.lit 0 true [],.lit 0 true [],.lit 0 true [],.lit 0 true [],.lit 0 true [],vW 0,vI 0,vI 0]),.row 78 (γ 4) false (yab eOut [])]⟩) (zjm j owner)
def zjl(j:Job)(owner:Peer)(γ:Nat->Nat):(Node×(List Finger))->X×St
 |(a0,a1)=>(.brk 0,⟨bd 3 (.bptr 0 0:: .bptr 1 0::bd 1 (.bptr 3 0::bd 6 (.sl 5 (γ 5)::bd 117 []))),[.box 34 (zah a0),.box 57 (cJob j),.box 25 [vU owner.id,vH owner.addr],.box 34 ([vU 0,vH 0,vI 0,vF false,.lit 0 true [],.lit 0 true [],.lit 0 true [],.lit 0 true [],.lit 0 true [],.lit 0 true [],.lit 0 true [],vW 0,vI 0,vI 0]),.row 78 (γ 4) false (yab eOut []),.row 82 (γ 5) false (yab zab a1)]⟩)
instance {j owner}:InjS (zjl j owner):=⟨by unfold zjl;exact ij_⟩
def zj6(j:Job)(owner:Peer)(i:Int)(b0:Node)(r5:List Finger):Option ((Node×(List Finger))):=asks (fun γ=>(lim F pr).loop [14,13,3,4,6] 6 zrD ⟨bd 3 (.bptr 0 0:: .bptr 1 0::bd 1 (.bptr 3 0::bd 6 (.sl 5 (γ 5)::vI i::bd 116 []))),[.box 34 (zah b0),.box 57 (cJob j),.box 25 [vU owner.id,vH owner.addr],.box 34 ([vU 0,vH 0,vI 0,vF false,.lit 0 true [],.lit 0 true [],.lit 0 true [],.lit 0 true [],.lit 0 true [],.lit 0 true [],.lit 0 true [],vW 0,vI 0,vI 0]),.row 78 (γ 4) false (yab eOut []),.row 82 (γ 5) false (yab zab r5)]⟩) (zjl j owner)
def zdF(n:Node)(j:Job)(owner:Peer):Option (zmi):=
 (zgF n j).bind fun res=>
 bif yac.ieq j.kind 1 then
  (zwH res j j.via).bind fun⟨r0,r1⟩=>
  some (.inl (r1,res,r0))
 else
  bif yac.ieq j.kind 2 then
   (zxH res j.key j.val).bind fun⟨r0,r1,r2⟩=>
   bif yac.ieq r2 0 then
    (zbv r0 j true j.val 0).bind fun res1=>
    some (.inl (r1,res,res1))
   else
    (zbv res j false ⟨#[]⟩ r2).bind fun res1=>
    some (.inr (.inl (res,res1,r0)))
  else
   bif yac.ieq j.kind 3 then
    (zzP res.store j.key).bind fun⟨r0,r1⟩=>
    (zbv res j r1 r0 0).bind fun res1=>
    some (.inr (.inr (.inl (res,res1))))
   else
    bif yac.ieq owner.addr res.me.addr then
     (zj6 j owner 0 res []).bind fun⟨b0,r5⟩=>
     (zbv (⟨b0.me,b0.clock,b0.joined,b0.pred,b0.list,r5,b0.store,b0.pends,b0.jobs,b0.results,b0.rid,b0.jobID,b0.nextBit⟩:Node) j false ⟨#[]⟩ 0).bind fun res1=>
     some (.inr (.inr (.inr ((⟨b0.me,b0.clock,b0.joined,b0.pred,b0.list,r5,b0.store,b0.pends,b0.jobs,b0.results,b0.rid,b0.jobID,b0.nextBit⟩:Node),res1))))
    else
     (zzO res.fingers j.bit owner).bind fun res1=>
     (zbv (⟨res.me,res.clock,res.joined,res.pred,res.list,res1,res.store,res.pends,res.jobs,res.results,res.rid,res.jobID,res.nextBit⟩:Node) j false ⟨#[]⟩ 0).bind fun res2=>
     some (.inr (.inr (.inl ((⟨res.me,res.clock,res.joined,res.pred,res.list,res1,res.store,res.pends,res.jobs,res.results,res.rid,res.jobID,res.nextBit⟩:Node),res2))))
theorem zgN{n j owner r}:zdF n j owner=some r->zmh n j owner=some r:=by
 unfold zdF;refine kas fun γ=>kb fun res h1=>kc (fun h2=>kb fun⟨r0,r1⟩ h3=>ls [0,0,0,0,γ 4] ?_) fun h2=>kc (fun h3=>kb fun⟨r0,r1,r2⟩ h4=>kc (fun h5=>kb fun res1 h6=>ls [0,0,0,0,γ 4] ?_) fun h5=>kb fun res1 h6=>ls [0,0,0,0,γ 4,0,0] ?_) fun h3=>kc (fun h4=>kb fun⟨r0,r1⟩ h5=>kb fun res1 h6=>ls [0,0,0,0,γ 4,0] ?_) fun h4=>kc (fun h5=>ks [0,0,0,0,γ 4,0] fun⟨b0,r5⟩ γ2 h6=>kb fun res1 h7=>ls [0,0,0,0,γ2 4,γ2 5,0] ?_) fun h5=>kb fun res1 h6=>kb fun res2 h7=>ls [0,0,0,0,γ 4,0] ?_
 all_goals (dsimp only[R1,R2,R3,zjl,zjm]at *;show Ifc.apart IF_ _ (zE0 zrD) _=_;generalize zrD=c0 at *;exact fin_)
def zmg(j:Job)(owner:Peer)(i:Int)(b0:Node)(r5:List Finger):Option ((Node×(List Finger))):=
 bif yac.ilt i (xlen zab b0.fingers)then
  (xget zab b0.fingers i).bind fun x=>
  bif yac.ieq x.bit j.bit then zj6 j owner (yac.iadd .i64 i 1) b0 r5 else
  bif zar zab 24 r5 [x]then zj6 j owner (yac.iadd .i64 i 1) b0 (r5++[x])else
  none
 else
  some (b0,r5)
theorem zvC{j owner i b0 r5 r}:zmg j owner i b0 r5=some r->zj6 j owner i b0 r5=some r:=by
 unfold zmg;refine kas fun γ=>kc (fun h1=>kb fun x h2=>kc (fun h3=>lg [0,0,0,0,γ 4,γ 5] fun γ' h0=>?_) fun h3=>k1 fun h4=>lg [0,0,0,0,γ 4,((γ 5)+1)] fun γ' h0=>?_) fun h1=>lr [0,0,0,0,γ 4,γ 5] ?_
 all_goals (dsimp only[zjl]at *;show zaE IF_ _ _ zrD zEZ _=_;generalize zrD=c0 at *;exact fin_)
def zvB(n:Node)(j:Job)(owner:Peer):Option ((Node×(List Out))):=
 bif yac.ieq owner.addr n.me.addr then
  (zmh n j owner).bind fun r=>match r with
   | .inl (t7,b0,b3)=>
    some (b3,t7)
   | .inr (.inl (b0,b3,b5))=>
    some (b3,[])
   | .inr (.inr (.inl (b0,b3)))=>
    some (b3,[])
   | .inr (.inr (.inr (b0,b3)))=>
    some (b3,[])
 else
  bif yac.ieq j.kind 4 then
   (zmh n j owner).bind fun r=>match r with
    | .inl (t7,b0,b3)=>
     some (b3,t7)
    | .inr (.inl (b0,b3,b5))=>
     some (b3,[])
    | .inr (.inr (.inl (b0,b3)))=>
     some (b3,[])
    | .inr (.inr (.inr (b0,b3)))=>
     some (b3,[])
  else
   zwH n j owner
theorem zJj{n j owner r}:zvB n j owner=some r->zwI n j owner=some r:=by
 unfold zvB;refine ka (kc (fun h1=>ks [0,0,0,0,0] fun| .inl ⟨t7,b0,b3⟩,γ1,h2=>(l0 rfl ?_)| .inr (.inl ⟨b0,b3,b5⟩),γ1,h2=>(l0 rfl ?_)| .inr (.inr (.inl ⟨b0,b3⟩)),γ1,h2=>(l0 rfl ?_)| .inr (.inr (.inr ⟨b0,b3⟩)),γ1,h2=>(l0 rfl ?_)) fun h1=>kc (fun h2=>ks [0,0,0,0,0] fun| .inl ⟨t7,b0,b3⟩,γ1,h3=>(l0 rfl ?_)| .inr (.inl ⟨b0,b3,b5⟩),γ1,h3=>(l0 rfl ?_)| .inr (.inr (.inl ⟨b0,b3⟩)),γ1,h3=>(l0 rfl ?_)| .inr (.inr (.inr ⟨b0,b3⟩)),γ1,h3=>(l0 rfl ?_)) fun h2=>pb fun⟨r0,r1⟩ h3=>l0 rfl ?_)
 all_goals (dsimp only[R2,zjm]at *;show zak IF_ (zLo zx8) _ _=_;generalize zx8=c0 at *;exact fin_)
end Go.Ab.Tryz
