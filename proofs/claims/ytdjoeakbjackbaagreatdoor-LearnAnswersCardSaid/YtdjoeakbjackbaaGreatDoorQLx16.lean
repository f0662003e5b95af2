/- Our texts for this statement, merged: what its theorem leads to. -/
import Derived.Test.YtdjoeakbjackbaaGreatDoorQLx10
set_option linter.unusedVariables false
set_option linter.unusedSimpArgs false
noncomputable section
namespace Go.Ab.Tryz
open Go Go.Ab Go.Proofs
set_option maxRecDepth 10000
set_option maxHeartbeats 4000000
open Go.Ab.Ops renaming std->yac
open List renaming map->yab
def zqu(l:List Pair)(key:ByteArray):Option ((ByteArray×Bool)):=
 (zqv l key).bind fun res=>
 bif yac.ilt res 0 then some (⟨#[]⟩,false)else
 (xget zag l res).bind fun x=>
 some (x.val,true)
theorem zJc{l key r}:zqu l key=some r->zzP l key=some r:=by
 unfold zqu;refine ka (kb fun res h1=>kc (fun h2=>l0 rfl ?_) fun h2=>kb fun x h3=>l0 rfl ?_)
 all_goals (dsimp only[R1,R2]at *;show zak IF_ zLK _ _=_;exact fin_)
def zjg(p:Peer)(γ:Nat->Nat):(Int×Int×(List Finger))->X×St
 |(a0,a1,a2)=>(.ret,⟨bd 6 (.sl 3 (γ 3)::bd 73 []),[.box 25 [vU p.id,vH p.addr],.row 82 (γ 1) false (yab zab []),.box 25 [vU a0,vH a1],.row 82 (γ 3) false (yab zab a2)]⟩)
instance {p}:InjS (zjg p):=⟨by unfold zjg;exact ij_⟩
def ztr(l:List Finger)(bit:Int)(p:Peer):Option ((Int×Int×(List Finger))):=asks (fun γ=>(lim F pr).seg [6] zyh ⟨.lit 82 false (yab zab l)::vI bit::bd 3 (.bptr 0 0::bd 74 []),[.box 25 [vU p.id,vH p.addr],.row 82 (γ 1) false (yab zab [])]⟩) (zjg p)
def zje(bit:Int)(p:Peer)(γ:Nat->Nat):(Bool×Int×Int×(List Finger))->X×St
 |(a0,a1,a2,a3)=>(.brk 0,⟨bd 1 (vI bit::bd 3 (.bptr 0 0::bd 3 (.sl 3 (γ 3)::vF a0::bd 69 []))),[.box 25 [vU p.id,vH p.addr],.row 82 (γ 1) false (yab zab []),.box 25 [vU a1,vH a2],.row 82 (γ 3) false (yab zab a3)]⟩)
instance {bit p}:InjS (zje bit p):=⟨by unfold zje;exact ij_⟩
def zcl(l:List Finger)(bit:Int)(p:Peer)(there:Bool)(put_:Bool)(i:Int)(zb7:Int)(zbi:Int)(r3:List Finger):Option ((Bool×Int×Int×(List Finger))):=asks (fun γ=>(lim F pr).loop [0,8,11,10,1,5,9] 4 zrM ⟨.lit 82 false (yab zab l)::vI bit::bd 3 (.bptr 0 0::bd 2 (vF there:: .sl 3 (γ 3)::vF put_::vI i::bd 68 [])),[.box 25 [vU p.id,vH p.addr],.row 82 (γ 1) false (yab zab []),.box 25 [vU zb7,vH zbi],.row 82 (γ 3) false (yab zab r3)]⟩) (zje bit p)
abbrev zpw:=(Bool×Bool×Int×Int×Int×(List Finger)×Int×Int×Int)
def zjf(l:List Finger)(bit:Int)(p:Peer)(γ:Nat->Nat):zpw->X×St
 |(a0,a1,a2,a3,a4,a5,a6,a7,a8)=>(.nor,⟨.lit 82 false (yab zab l)::vI bit::bd 3 (.bptr 0 0::bd 2 (vF a0:: .sl 3 (γ 3)::vF a1::vI a2::bd 68 [])),[.box 25 [vU p.id,vH p.addr],.row 82 (γ 1) false (yab zab []),.box 25 [vU a3,vH a4],.row 82 (γ 3) false (yab zab a5),.box 82 [vI a6,vU a7,vH a8]]⟩)
instance {l bit p}:InjS (zjf l bit p):=⟨by unfold zjf;exact ij_⟩
def zjW(l:List Finger)(bit:Int)(p:Peer)(there:Bool)(put_:Bool)(i:Int)(zb7:Int)(zbi:Int)(r3:List Finger)(zbs:Int)(zaY:Int)(zaR:Int):Option (zpw):=asks (fun γ=>(lim F pr).seg [11,0,8,10,1,5,9] zyg ⟨.lit 82 false (yab zab l)::vI bit::bd 3 (.bptr 0 0::bd 2 (vF there:: .sl 3 (γ 3)::vF put_::vI i:: .bptr 4 0::bd 67 [])),[.box 25 [vU p.id,vH p.addr],.row 82 (γ 1) false (yab zab []),.box 25 [vU zb7,vH zbi],.row 82 (γ 3) false (yab zab r3),.box 82 [vI zbs,vU zaY,vH zaR]]⟩) (zjf l bit p)
def zpy(l:List Finger)(bit:Int)(p:Peer):Option ((Int×Int×(List Finger))):=
 (zzN l bit).bind fun⟨r0,r1⟩=>
 (zcl l bit p r1 false 0 r0.id r0.addr []).bind fun⟨put_,zb7,zbi,r3⟩=>
 bif put_ then some (zb7,zbi,r3)else
 bif zar zab 24 r3 [(⟨bit,p⟩:Finger)]then some (zb7,zbi,(r3++[(⟨bit,p⟩:Finger)]))else
 none
theorem zC9{l bit p r}:zpy l bit p=some r->ztr l bit p=some r:=by
 unfold zpy;refine kas fun γ=>kb fun⟨r0,r1⟩ h1=>ks [0,γ 1,0,0] fun⟨put_,zb7,zbi,r3⟩ γ2 h2=>kc (fun h3=>ls [0,γ2 1,0,γ2 3] ?_) fun h3=>k1 fun h4=>ls [0,γ2 1,0,((γ2 3)+1)] ?_
 all_goals (dsimp only[R2,zje,zjg]at *;show Ifc.apart IF_ _ (zFi zrM) _=_;generalize zrM=c0 at *;exact fin_)
def zgA(l:List Finger)(bit:Int)(p:Peer)(there:Bool)(put_:Bool)(i:Int)(zb7:Int)(zbi:Int)(r3:List Finger):Option ((Bool×Int×Int×(List Finger))):=
 bif yac.ilt i (xlen zab l)then
  (xget zab l i).bind fun x=>
  bif there then
   bif put_ then
    (zjW l bit p true true i zb7 zbi r3 x.bit x.peer.id x.peer.addr).bind fun⟨there1,put_1,i1,ziR,zeH,r31,zbs,zaY,zaR⟩=>
    zcl l bit p there1 put_1 (yac.iadd .i64 i1 1) ziR zeH r31
   else
    bif yac.ieq x.bit bit then
     (zjW l bit p true true i zb7 zbi r3 x.bit p.id p.addr).bind fun⟨there1,put_1,i1,ziR,zeH,r31,zbs,zaY,zaR⟩=>
     zcl l bit p there1 put_1 (yac.iadd .i64 i1 1) ziR zeH r31
    else
     (zjW l bit p true false i zb7 zbi r3 x.bit x.peer.id x.peer.addr).bind fun⟨there1,put_1,i1,ziR,zeH,r31,zbs,zaY,zaR⟩=>
     zcl l bit p there1 put_1 (yac.iadd .i64 i1 1) ziR zeH r31
  else
   (zjW l bit p false put_ i zb7 zbi r3 x.bit x.peer.id x.peer.addr).bind fun⟨there1,put_1,i1,ziR,zeH,r31,zbs,zaY,zaR⟩=>
   zcl l bit p there1 put_1 (yac.iadd .i64 i1 1) ziR zeH r31
 else
  some (put_,zb7,zbi,r3)
theorem zl7{l bit p there put_ i zb7 zbi r3 r}:zgA l bit p there put_ i zb7 zbi r3=some r->zcl l bit p there put_ i zb7 zbi r3=some r:=by
 unfold zgA;refine kas fun γ=>kc (fun h1=>kb fun x h2=>kc (fun h3=>kc (fun h4=>ks [0,γ 1,0,γ 3] fun⟨there1,put_1,i1,ziR,zeH,r31,zbs,zaY,zaR⟩ γ1 h5=>lg [0,γ1 1,0,γ1 3] fun γ' h0=>?_) fun h4=>kc (fun h5=>ks [0,γ 1,0,γ 3] fun⟨there1,put_1,i1,ziR,zeH,r31,zbs,zaY,zaR⟩ γ1 h6=>lg [0,γ1 1,0,γ1 3] fun γ' h0=>?_) fun h5=>ks [0,γ 1,0,γ 3] fun⟨there1,put_1,i1,ziR,zeH,r31,zbs,zaY,zaR⟩ γ1 h6=>lg [0,γ1 1,0,γ1 3] fun γ' h0=>?_) fun h3=>ks [0,γ 1,0,γ 3] fun⟨there1,put_1,i1,ziR,zeH,r31,zbs,zaY,zaR⟩ γ1 h4=>lg [0,γ1 1,0,γ1 3] fun γ' h0=>?_) fun h1=>lr [0,γ 1,0,γ 3] ?_
 all_goals (dsimp only[zje,zjf]at *;show zaE IF_ _ _ zrM (zFh zyg) _=_;generalize zrM=c0,zyg=c1 at *;exact fin_)
def zpx(l:List Finger)(bit:Int)(p:Peer)(there:Bool)(put_:Bool)(i:Int)(zb7:Int)(zbi:Int)(r3:List Finger)(zbs:Int)(zaY:Int)(zaR:Int):Option (zpw):=
 bif there then
  bif zar zab 24 r3 [(⟨zbs,(⟨zaY,zaR⟩:Peer)⟩:Finger)]then
   some (true,put_,i,zb7,zbi,(r3++[(⟨zbs,(⟨zaY,zaR⟩:Peer)⟩:Finger)]),zbs,zaY,zaR)
  else
   none
 else
  bif put_ then
   bif zar zab 24 r3 [(⟨zbs,(⟨zaY,zaR⟩:Peer)⟩:Finger)]then
    some (false,true,i,zb7,zbi,(r3++[(⟨zbs,(⟨zaY,zaR⟩:Peer)⟩:Finger)]),zbs,zaY,zaR)
   else
    none
  else
   bif yac.ilt bit zbs then
    bif zar zab 24 r3 [(⟨bit,p⟩:Finger)]then
     bif zar zab 24 (r3++[(⟨bit,p⟩:Finger)]) [(⟨zbs,(⟨zaY,zaR⟩:Peer)⟩:Finger)]then
      some (false,true,i,zb7,zbi,((r3++[(⟨bit,p⟩:Finger)])++[(⟨zbs,(⟨zaY,zaR⟩:Peer)⟩:Finger)]),zbs,zaY,zaR)
     else
      none
    else
     none
   else
    bif zar zab 24 r3 [(⟨zbs,(⟨zaY,zaR⟩:Peer)⟩:Finger)]then
     some (false,false,i,zb7,zbi,(r3++[(⟨zbs,(⟨zaY,zaR⟩:Peer)⟩:Finger)]),zbs,zaY,zaR)
    else
     none
theorem zC8{l bit p there put_ i zb7 zbi r3 zbs zaY zaR r}:zpx l bit p there put_ i zb7 zbi r3 zbs zaY zaR=some r->zjW l bit p there put_ i zb7 zbi r3 zbs zaY zaR=some r:=by
 unfold zpx;refine kas fun γ=>kc (fun h1=>k1 fun h2=>ls [0,γ 1,0,((γ 3)+1)] ?_) fun h1=>kc (fun h2=>k1 fun h3=>ls [0,γ 1,0,((γ 3)+1)] ?_) fun h2=>kc (fun h3=>k1 fun h4=>k1 fun h5=>ls [0,γ 1,0,(((γ 3)+1)+1)] ?_) fun h3=>k1 fun h4=>ls [0,γ 1,0,((γ 3)+1)] ?_
 all_goals (dsimp only[zjf]at *;show Ifc.apart IF_ _ zFg _=_;exact fin_)
def zvo(l:List Finger)(bit:Int)(p:Peer):Option ((List Finger)):=
 bif yac.ilt bit 0 then some l else
 bif yac.ilt 63 bit then some l else
 (ztr l bit p).bind fun⟨zb7,zbi,r3⟩=>
 some r3
theorem zJa{l bit p r}:zvo l bit p=some r->zzO l bit p=some r:=by
 unfold zvo;refine ka (kc (fun h1=>l0 rfl ?_) fun h1=>kc (fun h2=>l0 rfl ?_) fun h2=>ks [0,0] fun⟨zb7,zbi,r3⟩ γ1 h3=>l0 rfl ?_)
 all_goals (dsimp only[R1,zjg]at *;show zak IF_ (zL0 zyh) _ _=_;generalize zyh=c0 at *;exact fin_)
def ztg(a:Int)(x:Int)(b:Int):Option (Bool):=
 bif yac.ilt a b then
  bif yac.ilt a x then some (yac.ile x b)else
  some false
 else
  bif yac.ilt b a then
   bif yac.ilt a x then some true else
   some (yac.ile x b)
  else
   some true
theorem zGU{a x b r}:ztg a x b=some r->zps a x b=some r:=by
 unfold ztg;refine ka (kc (fun h1=>kc (fun h2=>l0 rfl ?_) fun h2=>l0 rfl ?_) fun h1=>kc (fun h2=>kc (fun h3=>l0 rfl ?_) fun h3=>l0 rfl ?_) fun h2=>l0 rfl ?_)
 all_goals (dsimp only[R1]at *;show zak IF_ zL1 _ _=_;exact fin_)
def zpB(n:Node)(id:Int)(has:Bool)(val:ByteArray)(e_:Int):Option (Node):=
 (zpA n.jobs id).bind fun res=>
 bif yac.ilt res 0 then some n else
 (xget eJob n.jobs res).bind fun x=>
 (zxE n.results x has val e_).bind fun res1=>
 (zrg n.jobs res).bind fun res2=>
 some (⟨n.me,n.clock,n.joined,n.pred,n.list,n.fingers,n.store,n.pends,res2,res1,n.rid,n.jobID,n.nextBit⟩:Node)
theorem zDc{n id has val e_ r}:zpB n id has val e_=some r->ztw n id has val e_=some r:=by
 unfold zpB;refine ka (kb fun res h1=>kc (fun h2=>l0 rfl ?_) fun h2=>kb fun x h3=>kb fun res1 h4=>kb fun res2 h5=>l0 rfl ?_)
 all_goals (dsimp only[R1]at *;show zak IF_ zL2 _ _=_;exact fin_)
def zeg(γ:Nat->Nat):(List Peer)->X×St
 |a0=>(.brk 0,⟨bd 5 (.sl 1 (γ 1)::bd 18 []),[.row 25 (γ 0) false (yab zad []),.row 25 (γ 1) false (yab zad a0)]⟩)
instance :InjS zeg:=⟨by unfold zeg;exact ij_⟩
def zfp(l:List Entry)(t10:Int)(r1:List Peer):Option ((List Peer)):=asks (fun γ=>(lim F pr).loop [9,8,1,10,5] 2 zrH ⟨bd 1 (.fn 159 []::bd 3 (.sl 1 (γ 1)::bd 2 (.lit 55 false (yab zaa l)::vI (xlen zaa l)::vI t10::bd 13 []))),[.row 25 (γ 0) false (yab zad []),.row 25 (γ 1) false (yab zad r1)]⟩) zeg
def zef(l:List Entry)(t10:Int)(r1:List Peer):Option ((List Peer)):=
 bif yac.ilt t10 (xlen zaa l)then
  (xget zaa l t10).bind fun x=>
  (zta x).bind fun res=>
  bif res then
   bif zar zad 16 r1 [x.peer]then zfp l (yac.iadd .i64 t10 1) (r1++[x.peer])else
   none
  else
   zfp l (yac.iadd .i64 t10 1) r1
 else
  some r1
theorem zoF{l t10 r1 r}:zef l t10 r1=some r->zfp l t10 r1=some r:=by
 unfold zef;refine kas fun γ=>kc (fun h1=>kb fun x h2=>kb fun res h3=>kc (fun h4=>k1 fun h5=>lg [γ 0,((γ 1)+1)] fun γ' h0=>?_) fun h4=>lg [γ 0,γ 1] fun γ' h0=>?_) fun h1=>lr [γ 0,γ 1] ?_
 all_goals (dsimp only[R1,zeg]at *;show zaE IF_ _ _ zrH zE7 _=_;generalize zrH=c0 at *;exact fin_)
def zm0(l:List Entry):Option ((List Peer)):=
 zfp l 0 []
theorem zzI{l r}:zm0 l=some r->zvc l=some r:=by
 unfold zm0;refine ka (ps [0,0] fun r1 γ1 h1=>l0 rfl ?_)
 all_goals (dsimp only[K1,zeg]at *;show zak IF_ (zLF zrH) _ _=_;generalize zrH=c0 at *;exact fin_)
def zsa(q:Peer)(zan:Int)(zai:Int):Option (Bool):=
 some (yac.ieq q.addr zai)
theorem zzs{q zan zai r}:zsa q zan zai=some r->zpe q zan zai=some r:=by
 unfold zsa;refine ka (l0 rfl ?_)
 all_goals (dsimp only[zge]at *;show zak IF_ zMm _ _=_;exact fin_)
def zdb(zan:Int)(zai:Int)(γ:Nat->Nat):Int⊕Unit->X×St
 | .inl a0=>(.ret,⟨bd 4 (vI a0::bd 14 []),[.box 25 [vU zan,vH zai]]⟩)
 | .inr ()=>(.brk 0,⟨bd 19 [],[.box 25 [vU zan,vH zai]]⟩)
instance {zan zai}:InjS (zdb zan zai):=⟨by unfold zdb;exact ij_⟩
def zfV(s:List Peer)(zan:Int)(zai:Int)(t8:Int):Option (Int⊕Unit):=asks (fun γ=>(lim F pr).loop [7,1,0,8] 1 ziQ ⟨.lit 25 false (yab zad s):: .fn 264 [.bptr 0 0]::bd 5 (vI (xlen zad s)::vI t8::bd 10 []),[.box 25 [vU zan,vH zai]]⟩) (zdb zan zai)
def zda(s:List Peer)(zan:Int)(zai:Int)(t8:Int):Option (Int⊕Unit):=
 bif yac.ilt t8 (xlen zad s)then
  (xget zad s t8).bind fun x=>
  (zpe x zan zai).bind fun res=>
  bif res then some (.inl t8)else
  zfV s zan zai (yac.iadd .i64 t8 1)
 else
  some (.inr ())
theorem ziu{s zan zai t8 r}:zda s zan zai t8=some r->zfV s zan zai t8=some r:=by
 unfold zda;refine kas fun γ=>kc (fun h1=>kb fun x h2=>kb fun res h3=>kc (fun h4=>lr [] ?_) fun h4=>lg [] fun γ' h0=>?_) fun h1=>lr [] ?_
 all_goals (dsimp only[zdb,zge]at *;show zaE IF_ _ _ ziQ zzj _=_;generalize ziQ=c0 at *;exact fin_)
def zli(s:List Peer)(zan:Int)(zai:Int):Option (Int):=
 (zfV s zan zai 0).bind fun r=>match r with
  | .inl t4=>
   some t4
  | .inr ()=>
   some (-1)
theorem zxe{s zan zai r}:zli s zan zai=some r->zmH s zan zai=some r:=by
 unfold zli;refine ka (ks [] fun| .inl t4,γ1,h1=>(l0 rfl ?_)| .inr _,γ1,h1=>(l0 rfl ?_))
 all_goals (dsimp only[zeF,zdb]at *;show zak IF_ (zGv ziQ) _ _=_;generalize ziQ=c0 at *;exact fin_)
def zu7(s:ByteArray):Option (Bool):=
 bif yac.seq s ⟨#[]⟩then some false else
 bif yac.ile (yac.slen s) 96 then
  (zvR s).bind fun res=>
  bif res then
   (zvQ s).bind fun res1=>
   some (yac.ile res1 32)
  else
   some false
 else
  some false
theorem zIU{s r}:zu7 s=some r->zzF s=some r:=by
 unfold zu7;refine ka (kc (fun h1=>l0 rfl ?_) fun h1=>kc (fun h2=>kb fun res h3=>kc (fun h4=>kb fun res1 h5=>l0 rfl ?_) fun h4=>l0 rfl ?_) fun h2=>l0 rfl ?_)
 all_goals (dsimp only[R1]at *;show zak IF_ zL7 _ _=_;exact fin_)
def zun(p:Pair)(b0:ByteArray):Option (Bool):=
 some (yac.slt b0 p.key)
theorem zBk{p b0 r}:zun p b0=some r->zrp p b0=some r:=by
 unfold zun;refine ka (l0 rfl ?_)
 all_goals (dsimp only[zic]at *;show zak IF_ zMq _ _=_;exact fin_)
def zcu(b0:ByteArray)(γ:Nat->Nat):Int⊕Unit->X×St
 | .inl a0=>(.ret,⟨bd 4 (vI a0::bd 14 []),[.box 9 [vT b0]]⟩)
 | .inr ()=>(.brk 0,⟨bd 19 [],[.box 9 [vT b0]]⟩)
instance {b0}:InjS (zcu b0):=⟨by unfold zcu;exact ij_⟩
def zeW(s:List Pair)(b0:ByteArray)(t8:Int):Option (Int⊕Unit):=asks (fun γ=>(lim F pr).loop [7,1,0,8] 1 ziP ⟨.lit 76 false (yab zag s):: .fn 275 [.bptr 0 0]::bd 5 (vI (xlen zag s)::vI t8::bd 10 []),[.box 9 [vT b0]]⟩) (zcu b0)
def zct(s:List Pair)(b0:ByteArray)(t8:Int):Option (Int⊕Unit):=
 bif yac.ilt t8 (xlen zag s)then
  (xget zag s t8).bind fun x=>
  (zrp x b0).bind fun res=>
  bif res then some (.inl t8)else
  zeW s b0 (yac.iadd .i64 t8 1)
 else
  some (.inr ())
theorem zf4{s b0 t8 r}:zct s b0 t8=some r->zeW s b0 t8=some r:=by
 unfold zct;refine kas fun γ=>kc (fun h1=>kb fun x h2=>kb fun res h3=>kc (fun h4=>lr [] ?_) fun h4=>lg [] fun γ' h0=>?_) fun h1=>lr [] ?_
 all_goals (dsimp only[zcu,zic]at *;show zaE IF_ _ _ ziP zzi _=_;generalize ziP=c0 at *;exact fin_)
def ziK(s:List Pair)(b0:ByteArray):Option (Int):=
 (zeW s b0 0).bind fun r=>match r with
  | .inl t4=>
   some t4
  | .inr ()=>
   some (-1)
theorem zux{s b0 r}:ziK s b0=some r->zlg s b0=some r:=by
 unfold ziK;refine ka (ks [] fun| .inl t4,γ1,h1=>(l0 rfl ?_)| .inr _,γ1,h1=>(l0 rfl ?_))
 all_goals (dsimp only[zdA,zcu]at *;show zak IF_ (zGt ziP) _ _=_;generalize ziP=c0 at *;exact fin_)
def zqE(p:Pair)(b0:ByteArray):Option (Bool):=
 some (yac.seq p.key b0)
theorem zqF{p b0 r}:zqE p b0=some r->zlc p b0=some r:=by
 unfold zqE;refine ka (l0 rfl ?_)
 all_goals (dsimp only[zfy]at *;show zak IF_ zMv _ _=_;exact fin_)
def zcw(b0:ByteArray)(γ:Nat->Nat):Int⊕Unit->X×St
 | .inl a0=>(.ret,⟨bd 4 (vI a0::bd 14 []),[.box 9 [vT b0]]⟩)
 | .inr ()=>(.brk 0,⟨bd 19 [],[.box 9 [vT b0]]⟩)
instance {b0}:InjS (zcw b0):=⟨by unfold zcw;exact ij_⟩
def zeX(s:List Pair)(b0:ByteArray)(t8:Int):Option (Int⊕Unit):=asks (fun γ=>(lim F pr).loop [7,1,0,8] 1 ziP ⟨.lit 76 false (yab zag s):: .fn 283 [.bptr 0 0]::bd 5 (vI (xlen zag s)::vI t8::bd 10 []),[.box 9 [vT b0]]⟩) (zcw b0)
def zcv(s:List Pair)(b0:ByteArray)(t8:Int):Option (Int⊕Unit):=
 bif yac.ilt t8 (xlen zag s)then
  (xget zag s t8).bind fun x=>
  (zlc x b0).bind fun res=>
  bif res then some (.inl t8)else
  zeX s b0 (yac.iadd .i64 t8 1)
 else
  some (.inr ())
theorem zf5{s b0 t8 r}:zcv s b0 t8=some r->zeX s b0 t8=some r:=by
 unfold zcv;refine kas fun γ=>kc (fun h1=>kb fun x h2=>kb fun res h3=>kc (fun h4=>lr [] ?_) fun h4=>lg [] fun γ' h0=>?_) fun h1=>lr [] ?_
 all_goals (dsimp only[zcw,zfy]at *;show zaE IF_ _ _ ziP zzi _=_;generalize ziP=c0 at *;exact fin_)
def ziL(s:List Pair)(b0:ByteArray):Option (Int):=
 (zeX s b0 0).bind fun r=>match r with
  | .inl t4=>
   some t4
  | .inr ()=>
   some (-1)
theorem zuy{s b0 r}:ziL s b0=some r->zo3 s b0=some r:=by
 unfold ziL;refine ka (ks [] fun| .inl t4,γ1,h1=>(l0 rfl ?_)| .inr _,γ1,h1=>(l0 rfl ?_))
 all_goals (dsimp only[zdB,zcw]at *;show zak IF_ (zGt ziP) _ _=_;generalize ziP=c0 at *;exact fin_)
abbrev zov:=(Int×Int×(List Peer))⊕((List Peer)×(List Peer))
def zh1(n:Node)(γ:Nat->Nat):zov->X×St
 | .inl (a0,a1,a2)=>(.ret,⟨bd 4 (.bptr 1 0:: .sl 4 (γ 4)::vF true::bd 71 []),[.box 34 (zah n),.box 25 [vU a0,vH a1],.row 25 (γ 2) false (yab zad []),.row 25 (γ 3) false (yab zad a2),.row 25 (γ 4) false (yab zad [])]⟩)
 | .inr (b0,b1)=>(.ret,⟨bd 4 (.bptr 1 0:: .lit 25 false (yab zad b0)::vF false::bd 71 []),[.box 34 (zah n),.box 25 [vU 0,vH 0],.row 25 (γ 2) false (yab zad []),.row 25 (γ 3) false (yab zad b1)]⟩)
instance {n}:InjS (zh1 n):=⟨by unfold zh1;exact ij_⟩
def zrh(n:Node)(key:Int)(r3:List Peer):Option (zov):=asks (fun γ=>(lim F pr).seg [4,5,6] zyd ⟨bd 1 (vU key:: .bptr 0 0::bd 1 (.bptr 1 0::bd 2 (.sl 3 (γ 3)::bd 70 []))),[.box 34 (zah n),.box 25 [vU 0,vH 0],.row 25 (γ 2) false (yab zad []),.row 25 (γ 3) false (yab zad r3)]⟩) (zh1 n)
abbrev zot:=(List Peer)⊕((List Peer)×(List Peer))
def zh0(n:Node)(γ:Nat->Nat):zot->X×St
 | .inl a0=>(.ret,⟨bd 4 (.bptr 1 0:: .sl 4 (γ 4)::vF true::bd 71 []),[.box 34 (zah n),.box 25 [vU n.me.id,vH n.me.addr],.row 25 (γ 2) false (yab zad []),.row 25 (γ 3) false (yab zad a0),.row 25 (γ 4) false (yab zad [])]⟩)
 | .inr (b0,b1)=>(.ret,⟨bd 4 (.bptr 1 0:: .lit 25 false (yab zad b0)::vF false::bd 71 []),[.box 34 (zah n),.box 25 [vU 0,vH 0],.row 25 (γ 2) false (yab zad []),.row 25 (γ 3) false (yab zad b1)]⟩)
instance {n}:InjS (zh0 n):=⟨by unfold zh0;exact ij_⟩
def zim(n:Node)(key:Int)(r3:List Peer):Option (zot):=asks (fun γ=>(lim F pr).seg [4,5,6] zyc ⟨bd 1 (vU key:: .bptr 0 0::bd 1 (.bptr 1 0::bd 73 [])),[.box 34 (zah n),.box 25 [vU 0,vH 0],.row 25 (γ 2) false (yab zad []),.row 25 (γ 3) false (yab zad r3)]⟩) (zh0 n)
def zk0(n:Node)(key:Int)(r3:List Peer):Option (zov):=
 (xget zad r3 0).bind fun x=>
 (zps n.me.id key x.id).bind fun res=>
 bif res then some (.inl (x.id,x.addr,r3))else
 bif yac.ilt 0 (xlen zaa n.pred)then
  (xget zaa n.pred 0).bind fun x1=>
  bif yac.ilt x1.misses 1 then
   (zps x1.peer.id key n.me.id).bind fun res1=>
   bif res1 then some (.inl (n.me.id,n.me.addr,r3))else
   (zim n key r3).bind fun r=>match r with
    | .inl r31=>
     some (.inl (n.me.id,n.me.addr,r31))
    | .inr (t5,r31)=>
     some (.inr (t5,r31))
  else
   (zim n key r3).bind fun r=>match r with
    | .inl r31=>
     some (.inl (n.me.id,n.me.addr,r31))
    | .inr (t5,r31)=>
     some (.inr (t5,r31))
 else
  (zim n key r3).bind fun r=>match r with
   | .inl r31=>
    some (.inl (n.me.id,n.me.addr,r31))
   | .inr (t5,r31)=>
    some (.inr (t5,r31))
theorem zBa{n key r3 r}:zk0 n key r3=some r->zrh n key r3=some r:=by
 unfold zk0;refine kas fun γ=>kb fun x h1=>kb fun res h2=>kc (fun h3=>ls [0,0,γ 2,γ 3,0] ?_) fun h3=>kc (fun h4=>kb fun x1 h5=>kc (fun h6=>kb fun res1 h7=>kc (fun h8=>ls [0,0,γ 2,γ 3,0] ?_) fun h8=>ks [0,0,γ 2,γ 3] fun| .inl r31,γ3,h9=>(ls [0,0,γ3 2,γ3 3,γ3 4] ?_)| .inr ⟨t5,r31⟩,γ3,h9=>(ls [0,0,γ3 2,γ3 3] ?_)) fun h6=>ks [0,0,γ 2,γ 3] fun| .inl r31,γ2,h7=>(ls [0,0,γ2 2,γ2 3,γ2 4] ?_)| .inr ⟨t5,r31⟩,γ2,h7=>(ls [0,0,γ2 2,γ2 3] ?_)) fun h4=>ks [0,0,γ 2,γ 3] fun| .inl r31,γ2,h5=>(ls [0,0,γ2 2,γ2 3,γ2 4] ?_)| .inr ⟨t5,r31⟩,γ2,h5=>(ls [0,0,γ2 2,γ2 3] ?_)
 all_goals (dsimp only[R1,zh0,zh1]at *;show Ifc.apart IF_ _ (zE9 zyc) _=_;generalize zyc=c0 at *;exact fin_)
def zou(n:Node)(key:Int)(r3:List Peer):Option (zot):=
 (zxB n.me n.list n.fingers key 4).bind fun res=>
 bif yac.ieq (xlen zad res) 0 then some (.inl r3)else
 some (.inr (res,r3))
theorem zA9{n key r3 r}:zou n key r3=some r->zim n key r3=some r:=by
 unfold zou;refine kas fun γ=>kb fun res h1=>kc (fun h2=>ls [0,0,γ 2,γ 3,0] ?_) fun h2=>ls [0,0,γ 2,γ 3] ?_
 all_goals (dsimp only[R1,zh0]at *;show Ifc.apart IF_ _ zE8 _=_;exact fin_)
def zty(n:Node)(key:Int):Option ((Peer×(List Peer)×Bool)):=
 (zpu n.list).bind fun res=>
 bif yac.ieq (xlen zad res) 0 then some (n.me,[],true)else
 bif yac.ieq key n.me.id then some (n.me,[],true)else
 (zrh n key res).bind fun r=>match r with
  | .inl (za5,zaT,r3)=>
   some ((⟨za5,zaT⟩:Peer),[],true)
  | .inr (t5,r3)=>
   some ((⟨0,0⟩:Peer),t5,false)
theorem zHe{n key r}:zty n key=some r->zxF n key=some r:=by
 unfold zty;refine ka (kb fun res h1=>kc (fun h2=>l0 rfl ?_) fun h2=>kc (fun h3=>l0 rfl ?_) fun h3=>ks [0,0,0,0] fun| .inl ⟨za5,zaT,r3⟩,γ2,h4=>(l0 rfl ?_)| .inr ⟨t5,r3⟩,γ2,h4=>(l0 rfl ?_))
 all_goals (dsimp only[K1,R3,zh1]at *;show zak IF_ (zLH zyd) _ _=_;generalize zyd=c0 at *;exact fin_)
def zjh(l:List Pair)(key:ByteArray)(val:ByteArray)(γ:Nat->Nat):Int->X×St
 |a0=>(.brk 0,⟨.lit 76 false (yab zag l)::vT key::vT val::bd 5 (vI a0::bd 60 []),[.row 76 (γ 0) false (yab zag [])]⟩)
instance {l key val}:InjS (zjh l key val):=⟨by unfold zjh;exact ij_⟩
def zl9(l:List Pair)(key:ByteArray)(val:ByteArray)(at_:Int):Option (Int):=asks (fun γ=>(lim F pr).loop [1,2,0,8] 1 zrW ⟨.lit 76 false (yab zag l)::vT key::vT val::bd 5 (vI at_::bd 60 []),[.row 76 (γ 0) false (yab zag [])]⟩) (zjh l key val)
def zma(l:List Pair)(key:ByteArray)(val:ByteArray)(at_:Int):Option (Int):=
 bif yac.ilt at_ (xlen zag l)then
  (xget zag l at_).bind fun x=>
  (ztj key x.key).bind fun res=>
  bif res then some at_ else
  zl9 l key val (yac.iadd .i64 at_ 1)
 else
  some at_
theorem zvr{l key val at_ r}:zma l key val at_=some r->zl9 l key val at_=some r:=by
 unfold zma;refine kas fun γ=>kc (fun h1=>kb fun x h2=>kb fun res h3=>kc (fun h4=>lr [γ 0] ?_) fun h4=>lg [γ 0] fun γ' h0=>?_) fun h1=>lr [γ 0] ?_
 all_goals (dsimp only[R1,zjh]at *;show zaE IF_ _ _ zrW zFt _=_;generalize zrW=c0 at *;exact fin_)
def zvq(l:List Pair)(key:ByteArray)(val:ByteArray):Option (((List Pair)×Int)):=
 (zzM key).bind fun res=>
 bif res then
  bif yac.ilt 512 (yac.slen val)then some (l,5)else
  (zqv l key).bind fun res1=>
  bif yac.ile 0 res1 then
   bif zar zag 32 [] l then
    (xget zag l res1).bind fun x=>
    some (xset l res1 (⟨x.key,val⟩:Pair),0)
   else
    none
  else
   bif yac.ilt 63 (xlen zag l)then some (l,10)else
   (zl9 l key val 0).bind fun at_=>
   (xsub zag l 0 at_).bind fun ys=>
   bif zar zag 32 [] ys then
    bif zar zag 32 ys [(⟨key,val⟩:Pair)]then
     (xsub zag l at_ (xlen zag l)).bind fun ys1=>
     bif zar zag 32 (ys++[(⟨key,val⟩:Pair)]) ys1 then some (((ys++[(⟨key,val⟩:Pair)])++ys1),0)else
     none
    else
     none
   else
    none
 else
  some (l,7)
theorem zJd{l key val r}:zvq l key val=some r->zzQ l key val=some r:=by
 unfold zvq;refine ka (kb fun res h1=>kc (fun h2=>kc (fun h3=>l0 rfl ?_) fun h3=>kb fun res1 h4=>kc (fun h5=>k1 fun h6=>kb fun x h7=>l0 rfl ?_) fun h5=>kc (fun h6=>l0 rfl ?_) fun h6=>ks [0] fun at_ γ3 h7=>kb fun ys h8=>k1 fun h9=>k1 fun h10=>kb fun ys1 h11=>k1 fun h12=>l0 rfl ?_) fun h2=>l0 rfl ?_)
 all_goals (dsimp only[R1,R2,zjh]at *;show zak IF_ (zMc zrW) _ _=_;generalize zrW=c0 at *;exact fin_)
def zhJ(γ:Nat->Nat):(List Peer)->X×St
 |a0=>(.brk 0,⟨bd 3 (.sl 1 (γ 1)::bd 22 []),[.row 25 (γ 0) false (yab zad []),.row 25 (γ 1) false (yab zad a0)]⟩)
instance :InjS zhJ:=⟨by unfold zhJ;exact ij_⟩
def zkB(l:List Entry)(i:Int)(r1:List Peer):Option ((List Peer)):=asks (fun γ=>(lim F pr).loop [0,4,3] 2 zwt ⟨.lit 55 false (yab zaa l)::bd 2 (.sl 1 (γ 1)::vI i::bd 21 []),[.row 25 (γ 0) false (yab zad []),.row 25 (γ 1) false (yab zad r1)]⟩) zhJ
def zhI(l:List Entry)(i:Int)(r1:List Peer):Option ((List Peer)):=
 bif yac.ilt i (xlen zaa l)then
  (xget zaa l i).bind fun x=>
  bif yac.ilt x.misses 1 then
   bif zar zad 16 r1 [x.peer]then zkB l (yac.iadd .i64 i 1) (r1++[x.peer])else
   none
  else
   zkB l (yac.iadd .i64 i 1) r1
 else
  some r1
theorem zt4{l i r1 r}:zhI l i r1=some r->zkB l i r1=some r:=by
 unfold zhI;refine kas fun γ=>kc (fun h1=>kb fun x h2=>kc (fun h3=>k1 fun h4=>lg [γ 0,((γ 1)+1)] fun γ' h0=>?_) fun h3=>lg [γ 0,γ 1] fun γ' h0=>?_) fun h1=>lr [γ 0,γ 1] ?_
 all_goals (dsimp only[zhJ]at *;show zaE IF_ _ _ zwt zIh _=_;generalize zwt=c0 at *;exact fin_)
def ztm(l:List Entry):Option ((List Peer)):=
 zkB l 0 []
theorem zG0{l r}:ztm l=some r->zpu l=some r:=by
 unfold ztm;refine ka (ps [0,0] fun r1 γ1 h1=>l0 rfl ?_)
 all_goals (dsimp only[K1,zhJ]at *;show zak IF_ (g92F zwt) _ _=_;generalize zwt=c0 at *;exact fin_)
def zh2(to_:Peer)(γ:Nat->Nat):(Node×(List Out))->X×St
 |(a0,a1)=>(.brk 0,⟨bd 4 (.bptr 0 0::bd 3 (.bptr 2 0::bd 1 (.sl 4 (γ 4)::bd 30 []))),[.box 34 (zah a0),.box 25 [vU to_.id,vH to_.addr],.box 34 ([vU 0,vH 0,vI 0,vF false,.lit 0 true [],.lit 0 true [],.lit 0 true [],.lit 0 true [],.lit 0 true [],.lit 0 true [],.lit 0 true [],vW 0,vI 0,vI 0]),.row 78 (γ 3) false (yab eOut []),.row 78 (γ 4) false (yab eOut a1)]⟩)
instance {to_}:InjS (zh2 to_):=⟨by unfold zh2;exact ij_⟩
def znI(to_:Peer)(fresh:Bool)(c:List (List Pair))(i:Int)(b0:Node)(r4:List Out):Option ((Node×(List Out))):=asks (fun γ=>(lim F pr).loop [5,3,11,12,4,10,8] 5 zrC ⟨bd 3 (vF fresh:: .bptr 0 0:: .bptr 1 0::bd 2 (.bptr 2 0::bd 1 (.sl 4 (γ 4):: .lit 28 false (yab (eL 76 zag) c)::vI i::bd 28 []))),[.box 34 (zah b0),.box 25 [vU to_.id,vH to_.addr],.box 34 ([vU 0,vH 0,vI 0,vF false,.lit 0 true [],.lit 0 true [],.lit 0 true [],.lit 0 true [],.lit 0 true [],.lit 0 true [],.lit 0 true [],vW 0,vI 0,vI 0]),.row 78 (γ 3) false (yab eOut []),.row 78 (γ 4) false (yab eOut r4)]⟩) (zh2 to_)
def zk1(to_:Peer)(fresh:Bool)(c:List (List Pair))(i:Int)(b0:Node)(r4:List Out):Option ((Node×(List Out))):=
 bif yac.ilt i (xlen (eL 76 zag) c)then
  (xget (eL 76 zag) c i).bind fun x=>
  (zil b0 to_ (⟨10,0,0,fresh,0,⟨#[]⟩,⟨#[]⟩,(⟨0,0⟩:Peer),[],x⟩:Msg) 6 0).bind fun⟨r0,r1⟩=>
  bif zar eOut 136 r4 r1 then znI to_ fresh c (yac.iadd .i64 i 1) r0 (r4++r1)else
  none
 else
  some (b0,r4)
theorem zuf{to_ fresh c i b0 r4 r}:zk1 to_ fresh c i b0 r4=some r->znI to_ fresh c i b0 r4=some r:=by
 unfold zk1;refine kas fun γ=>kc (fun h1=>kb fun x h2=>kb fun⟨r0,r1⟩ h3=>k1 fun h4=>lg [0,0,0,γ 3,((γ 4)+1)] fun γ' h0=>?_) fun h1=>lr [0,0,0,γ 3,γ 4] ?_
 all_goals (dsimp only[R2,zh2]at *;show zaE IF_ _ _ zrC zET _=_;generalize zrC=c0 at *;exact fin_)
def ztz(n:Node)(to_:Peer)(l:List Pair)(fresh:Bool):Option ((Node×(List Out))):=
 (xcut zag 76 l).bind fun cs=>
 znI to_ fresh cs 0 n []
theorem zHf{n to_ l fresh r}:ztz n to_ l fresh=some r->zxG n to_ l fresh=some r:=by
 unfold ztz;refine ka (kb fun cs h1=>ps [0,0,0,0,0] fun⟨b0,r4⟩ γ1 h2=>l0 rfl ?_)
 all_goals (dsimp only[R2,zh2]at *;show zak IF_ (zLe zrC) _ _=_;generalize zrC=c0 at *;exact fin_)
def zgD(γ:Nat->Nat):Int⊕Unit->X×St
 | .inl a0=>(.ret,⟨bd 4 (vI a0::bd 15 []),[]⟩)
 | .inr ()=>(.brk 0,⟨bd 20 [],[]⟩)
instance :InjS zgD:=⟨by unfold zgD;exact ij_⟩
def zmb(l:List Pair)(key:ByteArray)(i:Int):Option (Int⊕Unit):=asks (fun γ=>(lim F pr).loop [0,1,5] 0 zrX ⟨.lit 76 false (yab zag l)::vT key::bd 3 (vI i::bd 14 []),[]⟩) zgD
def zgC(l:List Pair)(key:ByteArray)(i:Int):Option (Int⊕Unit):=
 bif yac.ilt i (xlen zag l)then
  (xget zag l i).bind fun x=>
  bif yac.seq x.key key then some (.inl i)else
  zmb l key (yac.iadd .i64 i 1)
 else
  some (.inr ())
theorem zm9{l key i r}:zgC l key i=some r->zmb l key i=some r:=by
 unfold zgC;refine kas fun γ=>kc (fun h1=>kb fun x h2=>kc (fun h3=>lr [] ?_) fun h3=>lg [] fun γ' h0=>?_) fun h1=>lr [] ?_
 all_goals (dsimp only[zgD]at *;show zaE IF_ _ _ zrX zFu _=_;generalize zrX=c0 at *;exact fin_)
def zrb(l:List Pair)(key:ByteArray):Option (Int):=
 (zmb l key 0).bind fun r=>match r with
  | .inl t4=>
   some t4
  | .inr ()=>
   some (-1)
theorem zEs{l key r}:zrb l key=some r->zqv l key=some r:=by
 unfold zrb;refine ka (ks [] fun| .inl t4,γ1,h1=>(l0 rfl ?_)| .inr _,γ1,h1=>(l0 rfl ?_))
 all_goals (dsimp only[R1,zgD]at *;show zak IF_ (zMd zrX) _ _=_;generalize zrX=c0 at *;exact fin_)
def zjd(γ:Nat->Nat):(Int×Int)⊕Unit->X×St
 | .inl (a0,a1)=>(.ret,⟨bd 4 (.bptr 0 0::vF true::bd 20 []),[.box 25 [vU a0,vH a1]]⟩)
 | .inr ()=>(.brk 0,⟨bd 4 (.bptr 0 0::bd 21 []),[.box 25 [vU 0,vH 0]]⟩)
instance :InjS zjd:=⟨by unfold zjd;exact ij_⟩
def zfr(l:List Finger)(bit:Int)(i:Int):Option ((Int×Int)⊕Unit):=asks (fun γ=>(lim F pr).loop [1,0,6,4] 1 zrZ ⟨.lit 82 false (yab zab l)::vI bit::bd 2 (.bptr 0 0::bd 1 (vI i::bd 19 [])),[.box 25 [vU 0,vH 0]]⟩) zjd
def zjc(l:List Finger)(bit:Int)(i:Int):Option ((Int×Int)⊕Unit):=
 bif yac.ilt i (xlen zab l)then
  (xget zab l i).bind fun x=>
  bif yac.ieq x.bit bit then some (.inl (x.peer.id,x.peer.addr))else
  zfr l bit (yac.iadd .i64 i 1)
 else
  some (.inr ())
theorem zpv{l bit i r}:zjc l bit i=some r->zfr l bit i=some r:=by
 unfold zjc;refine kas fun γ=>kc (fun h1=>kb fun x h2=>kc (fun h3=>lr [] ?_) fun h3=>lg [] fun γ' h0=>?_) fun h1=>lr [] ?_
 all_goals (dsimp only[zjd]at *;show zaE IF_ _ _ zrZ zFx _=_;generalize zrZ=c0 at *;exact fin_)
def zqs(l:List Finger)(bit:Int):Option ((Peer×Bool)):=
 (zfr l bit 0).bind fun r=>match r with
  | .inl (zan,zai)=>
   some ((⟨zan,zai⟩:Peer),true)
  | .inr ()=>
   some ((⟨0,0⟩:Peer),false)
theorem zAu{l bit r}:zqs l bit=some r->zzN l bit=some r:=by
 unfold zqs;refine ka (ks [] fun| .inl ⟨zan,zai⟩,γ1,h1=>(l0 rfl ?_)| .inr _,γ1,h1=>(l0 rfl ?_))
 all_goals (dsimp only[R2,zjd]at *;show zak IF_ (zMl zrZ) _ _=_;generalize zrZ=c0 at *;exact fin_)
def zhZ(l:List Result)(j:Job)(has:Bool)(val:ByteArray)(e_:Int)(γ:Nat->Nat):Unit⊕(Int×Int)->X×St
 | .inl ()=>(.ret,⟨bd 10 (.sl 2 (γ 2)::bd 32 []),[.box 57 (cJob j),.row 74 (γ 1) false (yab zaj []),.row 74 (γ 2) false (yab zaj (l++[(⟨j.id,j.kind,j.key,val,has,e_⟩:Result)]))]⟩)
 | .inr (b0,b1)=>(.ret,⟨bd 10 (.sub 2 (γ 2) (b0) (b1)::bd 32 []),[.box 57 (cJob j),.row 74 (γ 1) false (yab zaj []),.row 74 (γ 2) false (yab zaj (l++[(⟨j.id,j.kind,j.key,val,has,e_⟩:Result)]))]⟩)
instance {l j has val e_}:InjS (zhZ l j has val e_):=⟨by unfold zhZ;exact ij_⟩
def zkD(l:List Result)(j:Job)(has:Bool)(val:ByteArray)(e_:Int):Option (Unit⊕(Int×Int)):=asks (fun γ=>(lim F pr).seg [10] zya ⟨.lit 74 false (yab zaj l)::bd 1 (vF has::vT val::vI e_::bd 1 (.bptr 0 0::bd 36 [])),[.box 57 (cJob j),.row 74 (γ 1) false (yab zaj [])]⟩) (zhZ l j has val e_)
def zeb(l:List Result)(j:Job)(has:Bool)(val:ByteArray)(e_:Int)(γ:Nat->Nat):Unit⊕(Int×Int)->X×St
 | .inl ()=>(.brk 0,⟨bd 11 (.sl 2 (γ 2)::bd 31 []),[.box 57 (cJob j),.row 74 (γ 1) false (yab zaj []),.row 74 (γ 2) false (yab zaj (l++[(⟨j.id,j.kind,j.key,val,has,e_⟩:Result)]))]⟩)
 | .inr (b0,b1)=>(.brk 0,⟨bd 11 (.sub 2 (γ 2) (b0) (b1)::bd 31 []),[.box 57 (cJob j),.row 74 (γ 1) false (yab zaj []),.row 74 (γ 2) false (yab zaj (l++[(⟨j.id,j.kind,j.key,val,has,e_⟩:Result)]))]⟩)
instance {l j has val e_}:InjS (zeb l j has val e_):=⟨by unfold zeb;exact ij_⟩
def zrf(l:List Result)(j:Job)(has:Bool)(val:ByteArray)(e_:Int):Option (Unit⊕(Int×Int)):=asks (fun γ=>(lim F pr).loop [11] 3 zlR ⟨bd 11 (.sl 2 (γ 2)::bd 31 []),[.box 57 (cJob j),.row 74 (γ 1) false (yab zaj []),.row 74 (γ 2) false (yab zaj (l++[(⟨j.id,j.kind,j.key,val,has,e_⟩:Result)]))]⟩) (zeb l j has val e_)
def ze7(l:List Result)(j:Job)(has:Bool)(val:ByteArray)(e_:Int)(out_lo:Int)(out_hi:Int):Option (Unit⊕(Int×Int)):=asks (fun γ=>(lim F pr).loop [11] 3 zlR ⟨bd 11 (.sub 2 (γ 2) (out_lo) (out_hi)::bd 31 []),[.box 57 (cJob j),.row 74 (γ 1) false (yab zaj []),.row 74 (γ 2) false (yab zaj (l++[(⟨j.id,j.kind,j.key,val,has,e_⟩:Result)]))]⟩) (zeb l j has val e_)
def zue(l:List Result)(j:Job)(has:Bool)(val:ByteArray)(e_:Int):Option (Unit⊕(Int×Int)):=
 bif zar zaj 64 [] l then
  bif zar zaj 64 l [(⟨j.id,j.kind,j.key,val,has,e_⟩:Result)]then zrf l j has val e_ else
  none
 else
  none
theorem zA7{l j has val e_ r}:zue l j has val e_=some r->zkD l j has val e_=some r:=by
 unfold zue;refine kas fun γ=>k1 fun h1=>k1 fun h2=>ps [0,γ 1,1] fun| .inl _,γ1,h3=>(ls [0,γ1 1,γ1 2] ?_)| .inr ⟨out_lo,out_hi⟩,γ1,h3=>(ls [0,γ1 1,γ1 2] ?_)
 all_goals (dsimp only[zeb,zhZ]at *;show Ifc.apart IF_ _ (zE4 zlR) _=_;generalize zlR=c0 at *;exact fin_)
def zud(l:List Result)(j:Job)(has:Bool)(val:ByteArray)(e_:Int):Option (Unit⊕(Int×Int)):=
 bif yac.ilt 16 (xlen zaj (l++[(⟨j.id,j.kind,j.key,val,has,e_⟩:Result)]))then
  (xsub zaj (l++[(⟨j.id,j.kind,j.key,val,has,e_⟩:Result)]) 1 (xlen zaj (l++[(⟨j.id,j.kind,j.key,val,has,e_⟩:Result)]))).bind fun ys=>
  ze7 l j has val e_ 1 (xlen zaj (l++[(⟨j.id,j.kind,j.key,val,has,e_⟩:Result)]))
 else
  some (.inl ())
theorem zA6{l j has val e_ r}:zud l j has val e_=some r->zrf l j has val e_=some r:=by
 unfold zud;refine kas fun γ=>kc (fun h1=>kb fun ys h2=>lg [0,γ 1,γ 2] fun γ' h0=>?_) fun h1=>lr [0,γ 1,γ 2] ?_
 all_goals (dsimp only[zeb]at *;show zaE IF_ _ _ zlR zzh _=_;generalize zlR=c0 at *;exact fin_)
def zqw(l:List Result)(j:Job)(has:Bool)(val:ByteArray)(e_:Int)(out_lo:Int)(out_hi:Int):Option (Unit⊕(Int×Int)):=
 (xsub zaj (l++[(⟨j.id,j.kind,j.key,val,has,e_⟩:Result)]) out_lo out_hi).bind fun ys=>
 bif yac.ilt 16 (xlen zaj ys)then
  bif yac.ieq out_lo 0 then
   (xsub zaj (l++[(⟨j.id,j.kind,j.key,val,has,e_⟩:Result)]) 1 (xlen zaj ys)).bind fun ys1=>
   ze7 l j has val e_ 1 (xlen zaj ys)
  else
   (xsub zaj ys 1 (xlen zaj ys)).bind fun ys1=>
   ze7 l j has val e_ (yac.iadd .i64 out_lo 1) (yac.iadd .i64 out_lo (xlen zaj ys))
 else
  some (.inr (out_lo,out_hi))
theorem zqx{l j has val e_ out_lo out_hi r}:zqw l j has val e_ out_lo out_hi=some r->ze7 l j has val e_ out_lo out_hi=some r:=by
 unfold zqw;refine kas fun γ=>kb fun ys h1=>kc (fun h2=>kc (fun h3=>kb fun ys1 h4=>lg [0,γ 1,γ 2] fun γ' h0=>?_) fun h3=>kb fun ys1 h4=>lg [0,γ 1,γ 2] fun γ' h0=>?_) fun h2=>lr [0,γ 1,γ 2] ?_
 all_goals (dsimp only[zeb]at *;show zaE IF_ _ _ zlR zzh _=_;generalize zlR=c0 at *;exact fin_)
def ztx(l:List Result)(j:Job)(has:Bool)(val:ByteArray)(e_:Int):Option ((List Result)):=
 bif yac.ieq j.kind 2 then
  (zkD l j has val e_).bind fun r=>match r with
   | .inl ()=>
    some (l++[(⟨j.id,j.kind,j.key,val,has,e_⟩:Result)])
   | .inr (t10_lo,t10_hi)=>
    (xsub zaj (l++[(⟨j.id,j.kind,j.key,val,has,e_⟩:Result)]) t10_lo t10_hi).bind fun ys=>
    some ys
 else
  bif yac.ieq j.kind 3 then
   (zkD l j has val e_).bind fun r=>match r with
    | .inl ()=>
     some (l++[(⟨j.id,j.kind,j.key,val,has,e_⟩:Result)])
    | .inr (t10_lo,t10_hi)=>
     (xsub zaj (l++[(⟨j.id,j.kind,j.key,val,has,e_⟩:Result)]) t10_lo t10_hi).bind fun ys=>
     some ys
  else
   some l
theorem zHd{l j has val e_ r}:ztx l j has val e_=some r->zxE l j has val e_=some r:=by
 unfold ztx;refine ka (kc (fun h1=>ks [0,0] fun| .inl _,γ1,h2=>(l0 rfl ?_)| .inr ⟨t10_lo,t10_hi⟩,γ1,h2=>(kb fun ys h3=>l0 rfl ?_)) fun h1=>kc (fun h2=>ks [0,0] fun| .inl _,γ1,h3=>(l0 rfl ?_)| .inr ⟨t10_lo,t10_hi⟩,γ1,h3=>(kb fun ys h4=>l0 rfl ?_)) fun h2=>l0 rfl ?_)
 all_goals (dsimp only[R1,zhZ]at *;show zak IF_ (zLC zya) _ _=_;generalize zya=c0 at *;exact fin_)
def zeP(γ:Nat->Nat):(List Job)->X×St
 |a0=>(.brk 0,⟨bd 5 (.sl 1 (γ 1)::bd 18 []),[.row 57 (γ 0) false (yab eJob []),.row 57 (γ 1) false (yab eJob a0)]⟩)
instance :InjS zeP:=⟨by unfold zeP;exact ij_⟩
def zgG(l:List Job)(at_:Int)(i:Int)(r1:List Job):Option ((List Job)):=asks (fun γ=>(lim F pr).loop [1,0,6,5] 2 zrG ⟨.lit 57 false (yab eJob l)::vI at_::bd 3 (.sl 1 (γ 1)::vI i::bd 17 []),[.row 57 (γ 0) false (yab eJob []),.row 57 (γ 1) false (yab eJob r1)]⟩) zeP
def zhp(l:List Job)(at_:Int)(i:Int)(r1:List Job):Option ((List Job)):=
 bif yac.ilt i (xlen eJob l)then
  bif yac.ieq i at_ then zgG l at_ (yac.iadd .i64 i 1) r1 else
  (xget eJob l i).bind fun x=>
  bif zar eJob 128 r1 [x]then zgG l at_ (yac.iadd .i64 i 1) (r1++[x])else
  none
 else
  some r1
theorem zpC{l at_ i r1 r}:zhp l at_ i r1=some r->zgG l at_ i r1=some r:=by
 unfold zhp;refine kas fun γ=>kc (fun h1=>kc (fun h2=>lg [γ 0,γ 1] fun γ' h0=>?_) fun h2=>kb fun x h3=>k1 fun h4=>lg [γ 0,((γ 1)+1)] fun γ' h0=>?_) fun h1=>lr [γ 0,γ 1] ?_
 all_goals (dsimp only[zeP]at *;show zaE IF_ _ _ zrG zE5 _=_;generalize zrG=c0 at *;exact fin_)
def zos(l:List Job)(at_:Int):Option ((List Job)):=
 zgG l at_ 0 []
theorem zA8{l at_ r}:zos l at_=some r->zrg l at_=some r:=by
 unfold zos;refine ka (ps [0,0] fun r1 γ1 h1=>l0 rfl ?_)
 all_goals (dsimp only[R1,zeP]at *;show zak IF_ (zLD zrG) _ _=_;generalize zrG=c0 at *;exact fin_)
def zvb(x:Entry):Option (Bool):=
 some (yac.ile x.misses 0)
theorem zCW{x r}:zvb x=some r->zta x=some r:=by
 unfold zvb;refine ka (l0 rfl ?_)
 all_goals (dsimp only[R1]at *;show zak IF_ zLG _ _=_;exact fin_)
def zgT(s:ByteArray)(γ:Nat->Nat):Int⊕Int->X×St
 | .inl a0=>(.ret,⟨bd 2 (vF false::bd 12 []),[.it s a0]⟩)
 | .inr b0=>(.brk 0,⟨bd 15 [],[.it s b0]⟩)
instance {s}:InjS (zgT s):=⟨by unfold zgT;exact ij_⟩
def zjs(s:ByteArray)(at0:Int):Option (Int⊕Int):=asks (fun γ=>(lim F pr).loop [6,0] 1 zr1 ⟨vT s::bd 5 (.bptr 0 0::bd 8 []),[.it s at0]⟩) (zgT s)
def zgS(s:ByteArray)(at0:Int):Option (Int⊕Int):=
 xopt (ztQ s at0) (fun⟨c,nx⟩=>
  (zvS s at0 c).bind fun res=>
  bif res then some (.inl nx)else
  zjs s nx)
  (some (.inr at0))
theorem znn{s at0 r}:zgS s at0=some r->zjs s at0=some r:=by
 unfold zgS;refine kas fun γ=>kx (fun⟨c,nx⟩ h1=>kb fun res h2=>kc (fun h3=>lr [] ?_) fun h3=>lg [] fun γ' h0=>?_) fun h1=>lr [] ?_
 all_goals (dsimp only[R1,zgT]at *;show zaE IF_ _ _ zr1 zFz _=_;generalize zr1=c0 at *;exact fin_)
def zrs(s:ByteArray):Option (Bool):=
 (zjs s 0).bind fun r=>match r with
  | .inl at0=>
   some false
  | .inr at0=>
   some true
theorem zEL{s r}:zrs s=some r->zvR s=some r:=by
 unfold zrs;refine ka (ks [] fun| .inl at0,γ1,h1=>(l0 rfl ?_)| .inr at0,γ1,h1=>(l0 rfl ?_))
 all_goals (dsimp only[R1,zgT]at *;show zak IF_ (zMo zr1) _ _=_;generalize zr1=c0 at *;exact fin_)
def zgR(s:ByteArray)(γ:Nat->Nat):(Int×Int)->X×St
 |(a0,a1)=>(.brk 0,⟨bd 3 (vI a0::bd 7 []),[.it s a1]⟩)
instance {s}:InjS (zgR s):=⟨by unfold zgR;exact ij_⟩
def zjr(s:ByteArray)(n:Int)(at0:Int):Option ((Int×Int)):=asks (fun γ=>(lim F pr).loop [5,3] 1 zr2 ⟨bd 3 (vI n::bd 1 (.bptr 0 0::bd 5 [])),[.it s at0]⟩) (zgR s)
def zkb(s:ByteArray)(n:Int)(at0:Int):Option ((Int×Int)):=
 xopt (ztQ s at0) (fun⟨c,nx⟩=>
  zjr s (yac.iadd .i64 n 1) nx)
  (some (n,at0))
theorem zsr{s n at0 r}:zkb s n at0=some r->zjr s n at0=some r:=by
 unfold zkb;refine kas fun γ=>kx (fun⟨c,nx⟩ h1=>lg [] fun γ' h0=>?_) fun h1=>lr [] ?_
 all_goals (dsimp only[zgR]at *;show zaE IF_ _ _ zr2 zFA _=_;generalize zr2=c0 at *;exact fin_)
def zrr(s:ByteArray):Option (Int):=
 (zjr s 0 0).bind fun⟨n,at0⟩=>
 some n
theorem zEK{s r}:zrr s=some r->zvQ s=some r:=by
 unfold zrr;refine ka (ks [] fun⟨n,at0⟩ γ1 h1=>l0 rfl ?_)
 all_goals (dsimp only[R1,zgR]at *;show zak IF_ (zMp zr2) _ _=_;generalize zr2=c0 at *;exact fin_)
def zhM(me:Peer)(key:Int)(most:Int)(γ:Nat->Nat):(List Peer)->X×St
 |a0=>(.brk 0,⟨bd 3 (vU key::vI most:: .bptr 0 0::bd 5 (.sl 2 (γ 2)::bd 125 [])),[.box 25 [vU me.id,vH me.addr],.row 25 (γ 1) false (yab zad []),.row 25 (γ 2) false (yab zad a0)]⟩)
instance {me key most}:InjS (zhM me key most):=⟨by unfold zhM;exact ij_⟩
def znC(me:Peer)(f:List Finger)(key:Int)(most:Int)(i:Int)(r2:List Peer):Option ((List Peer)):=asks (fun γ=>(lim F pr).loop [2,12,11,3,5,4] 3 zrQ ⟨bd 2 (.lit 82 false (yab zab f)::vU key::vI most:: .bptr 0 0::bd 5 (.sl 2 (γ 2)::vI i::bd 124 [])),[.box 25 [vU me.id,vH me.addr],.row 25 (γ 1) false (yab zad []),.row 25 (γ 2) false (yab zad r2)]⟩) (zhM me key most)
abbrev zok:=((List Peer)×(List Peer)×(List Peer))
def zhO(me:Peer)(most:Int)(γ:Nat->Nat):zok->X×St
 |(a0,a1,a2)=>(.brk 2,⟨bd 4 (vI most::bd 9 (.lit 25 false (yab zad a0)::bd 122 [])),[.box 25 [vU me.id,vH me.addr],.row 25 (γ 1) false (yab zad []),.row 25 (γ 2) false (yab zad a1),.row 25 (γ 3) false (yab zad a2)]⟩)
instance {me most}:InjS (zhO me most):=⟨by unfold zhO;exact ij_⟩
def zer(me:Peer)(key:Int)(most:Int)(out:List Peer)(i:Int)(r2:List Peer)(r3:List Peer):Option (zok):=asks (fun γ=>(lim F pr).loop [11,13,3,5,15,4,14] 4 zrS ⟨bd 3 (vU key::vI most:: .bptr 0 0::bd 5 (.sl 2 (γ 2)::bd 1 (.sl 3 (γ 3):: .lit 25 false (yab zad out)::vI i::bd 121 []))),[.box 25 [vU me.id,vH me.addr],.row 25 (γ 1) false (yab zad []),.row 25 (γ 2) false (yab zad r2),.row 25 (γ 3) false (yab zad r3)]⟩) (zhO me most)
abbrev zol:=((List Peer)×Int×(List Peer)×(List Peer)×Int×Int)⊕((List Peer)×Int×(List Peer)×(List Peer)×Int×Int)
def zhP(me:Peer)(key:Int)(most:Int)(γ:Nat->Nat):zol->X×St
 | .inl (a0,a1,a2,a3,a4,a5)=>(.nor,⟨bd 3 (vU key::vI most:: .bptr 0 0::bd 5 (.sl 2 (γ 2)::bd 1 (.sl 3 (γ 3):: .lit 25 false (yab zad a0)::vI a1::bd 121 []))),[.box 25 [vU me.id,vH me.addr],.row 25 (γ 1) false (yab zad []),.row 25 (γ 2) false (yab zad a2),.row 25 (γ 3) false (yab zad a3),.box 25 [vU a4,vH a5]]⟩)
 | .inr (b0,b1,b2,b3,b4,b5)=>(.brk 3,⟨bd 3 (vU key::vI most:: .bptr 0 0::bd 5 (.sl 2 (γ 2)::bd 1 (.sl 3 (γ 3):: .lit 25 false (yab zad b0)::vI b1::bd 121 []))),[.box 25 [vU me.id,vH me.addr],.row 25 (γ 1) false (yab zad []),.row 25 (γ 2) false (yab zad b2),.row 25 (γ 3) false (yab zad b3),.box 25 [vU b4,vH b5]]⟩)
instance {me key most}:InjS (zhP me key most):=⟨by unfold zhP;exact ij_⟩
def zq9(me:Peer)(key:Int)(most:Int)(out:List Peer)(i:Int)(r2:List Peer)(r3:List Peer)(zbT:Int)(zbj:Int):Option (zol):=asks (fun γ=>(lim F pr).seg [15,11,13,3,5,4,14] zyi ⟨bd 3 (vU key::vI most:: .bptr 0 0::bd 5 (.sl 2 (γ 2)::bd 1 (.sl 3 (γ 3):: .lit 25 false (yab zad out)::vI i:: .bptr 4 0::bd 120 []))),[.box 25 [vU me.id,vH me.addr],.row 25 (γ 1) false (yab zad []),.row 25 (γ 2) false (yab zad r2),.row 25 (γ 3) false (yab zad r3),.box 25 [vU zbT,vH zbj]]⟩) (zhP me key most)
abbrev zoj:=((List Peer)×Int×Int×(List Peer)×(List Peer)×Int×Int)
def zhN(me:Peer)(key:Int)(most:Int)(γ:Nat->Nat):zoj->X×St
 |(a0,a1,a2,a3,a4,a5,a6)=>(.brk 4,⟨bd 3 (vU key::vI most:: .bptr 0 0::bd 5 (.sl 2 (γ 2)::bd 1 (.sl 3 (γ 3):: .lit 25 false (yab zad a0)::vI a1:: .bptr 4 0::vI a2::bd 119 []))),[.box 25 [vU me.id,vH me.addr],.row 25 (γ 1) false (yab zad []),.row 25 (γ 2) false (yab zad a3),.row 25 (γ 3) false (yab zad a4),.box 25 [vU a5,vH a6]]⟩)
instance {me key most}:InjS (zhN me key most):=⟨by unfold zhN;exact ij_⟩
def zik(me:Peer)(key:Int)(most:Int)(out:List Peer)(i:Int)(at_:Int)(far:Int)(r2:List Peer)(r3:List Peer)(zbT:Int)(zbj:Int):Option (zoj):=asks (fun γ=>(lim F pr).loop [18,16,14,17,15,11,13,3,5,4] 5 zrR ⟨bd 3 (vU key::vI most:: .bptr 0 0::bd 5 (.sl 2 (γ 2)::bd 1 (.sl 3 (γ 3):: .lit 25 false (yab zad out)::vI i:: .bptr 4 0::vI at_::vU far::bd 118 []))),[.box 25 [vU me.id,vH me.addr],.row 25 (γ 1) false (yab zad []),.row 25 (γ 2) false (yab zad r2),.row 25 (γ 3) false (yab zad r3),.box 25 [vU zbT,vH zbj]]⟩) (zhN me key most)
def zkT(me:Peer)(f:List Finger)(key:Int)(most:Int)(i:Int)(r2:List Peer):Option ((List Peer)):=
 bif yac.ilt i (xlen zab f)then
  (xget zab f i).bind fun x=>
  bif zar zad 16 r2 [x.peer]then znC me f key most (yac.iadd .i64 i 1) (r2++[x.peer])else
  none
 else
  some r2
theorem zt5{me f key most i r2 r}:zkT me f key most i r2=some r->znC me f key most i r2=some r:=by
 unfold zkT;refine kas fun γ=>kc (fun h1=>kb fun x h2=>k1 fun h3=>lg [0,γ 1,((γ 2)+1)] fun γ' h0=>?_) fun h1=>lr [0,γ 1,γ 2] ?_
 all_goals (dsimp only[zhM]at *;show zaE IF_ _ _ zrQ zFl _=_;generalize zrQ=c0 at *;exact fin_)
def zkV(me:Peer)(key:Int)(most:Int)(out:List Peer)(i:Int)(r2:List Peer)(r3:List Peer):Option (zok):=
 bif yac.ilt i (xlen zad r2)then
  (xget zad r2 i).bind fun x=>
  (zvp r3 x.addr).bind fun res=>
  bif res then zer me key most out (yac.iadd .i64 i 1) r2 r3 else
  bif yac.ieq x.addr me.addr then zer me key most out (yac.iadd .i64 i 1) r2 r3 else
  (zq9 me key most out i r2 r3 x.id x.addr).bind fun r=>match r with
   | .inl (out1,i1,r21,r31,zbT,zbj)=>
    zer me key most out1 (yac.iadd .i64 i1 1) r21 r31
   | .inr (out1,i1,r21,r31,zbT,zbj)=>
    zer me key most out1 (yac.iadd .i64 i1 1) r21 r31
 else
  some (out,r2,r3)
theorem zt7{me key most out i r2 r3 r}:zkV me key most out i r2 r3=some r->zer me key most out i r2 r3=some r:=by
 unfold zkV;refine kas fun γ=>kc (fun h1=>kb fun x h2=>kb fun res h3=>kc (fun h4=>lg [0,γ 1,γ 2,γ 3] fun γ' h0=>?_) fun h4=>kc (fun h5=>lg [0,γ 1,γ 2,γ 3] fun γ' h0=>?_) fun h5=>ks [0,γ 1,γ 2,γ 3] fun| .inl ⟨out1,i1,r21,r31,zbT,zbj⟩,γ2,h6=>(lg [0,γ2 1,γ2 2,γ2 3] fun γ' h0=>?_)| .inr ⟨out1,i1,r21,r31,zbT,zbj⟩,γ2,h6=>(lg [0,γ2 1,γ2 2,γ2 3] fun γ' h0=>?_)) fun h1=>lr [0,γ 1,γ 2,γ 3] ?_
 all_goals (dsimp only[R1,zhO,zhP]at *;show zaE IF_ _ _ zrS (zFo zyi) _=_;generalize zrS=c0,zyi=c1 at *;exact fin_)
def zom(me:Peer)(key:Int)(most:Int)(out:List Peer)(i:Int)(r2:List Peer)(r3:List Peer)(zbT:Int)(zbj:Int):Option (zol):=
 bif zar zad 16 r3 [(⟨zbT,zbj⟩:Peer)]then
  (zny me.id zbT key).bind fun res=>
  bif res then
   (zm1 me.id zbT).bind fun res1=>
   (zik me key most out i 0 res1 r2 (r3++[(⟨zbT,zbj⟩:Peer)]) zbT zbj).bind fun⟨out1,i1,at_,r21,r31,zuI,zo7⟩=>
   (xsub zad out1 0 at_).bind fun ys=>
   bif zar zad 16 [] ys then
    bif zar zad 16 ys [(⟨zuI,zo7⟩:Peer)]then
     (xsub zad out1 at_ (xlen zad out1)).bind fun ys1=>
     bif zar zad 16 (ys++[(⟨zuI,zo7⟩:Peer)]) ys1 then
      some (.inl (((ys++[(⟨zuI,zo7⟩:Peer)])++ys1),i1,r21,r31,zuI,zo7))
     else
      none
    else
     none
   else
    none
  else
   some (.inr (out,i,r2,(r3++[(⟨zbT,zbj⟩:Peer)]),zbT,zbj))
 else
  none
theorem zAY{me key most out i r2 r3 zbT zbj r}:zom me key most out i r2 r3 zbT zbj=some r->zq9 me key most out i r2 r3 zbT zbj=some r:=by
 unfold zom;refine kas fun γ=>k1 fun h1=>kb fun res h2=>kc (fun h3=>kb fun res1 h4=>ks [0,γ 1,γ 2,((γ 3)+1)] fun⟨out1,i1,at_,r21,r31,zuI,zo7⟩ γ3 h5=>kb fun ys h6=>k1 fun h7=>k1 fun h8=>kb fun ys1 h9=>k1 fun h10=>ls [0,γ3 1,γ3 2,γ3 3] ?_) fun h3=>ls [0,γ 1,γ 2,((γ 3)+1)] ?_
 all_goals (dsimp only[R1,zhN,zhP]at *;show Ifc.apart IF_ _ (zFn zrR) _=_;generalize zrR=c0 at *;exact fin_)
def zkU(me:Peer)(key:Int)(most:Int)(out:List Peer)(i:Int)(at_:Int)(far:Int)(r2:List Peer)(r3:List Peer)(zbT:Int)(zbj:Int):Option (zoj):=
 bif yac.ilt at_ (xlen zad out)then
  (xget zad out at_).bind fun x=>
  (zm1 me.id x.id).bind fun res=>
  bif yac.ilt far res then
   zik me key most out i (yac.iadd .i64 at_ 1) far r2 r3 zbT zbj
  else
   bif yac.ieq res far then
    bif yac.ilt x.addr zbj then
     zik me key most out i (yac.iadd .i64 at_ 1) far r2 r3 zbT zbj
    else
     some (out,i,at_,r2,r3,zbT,zbj)
   else
    some (out,i,at_,r2,r3,zbT,zbj)
 else
  some (out,i,at_,r2,r3,zbT,zbj)
theorem zt6{me key most out i at_ far r2 r3 zbT zbj r}:zkU me key most out i at_ far r2 r3 zbT zbj=some r->zik me key most out i at_ far r2 r3 zbT zbj=some r:=by
 unfold zkU;refine kas fun γ=>kc (fun h1=>kb fun x h2=>kb fun res h3=>kc (fun h4=>lg [0,γ 1,γ 2,γ 3] fun γ' h0=>?_) fun h4=>kc (fun h5=>kc (fun h6=>lg [0,γ 1,γ 2,γ 3] fun γ' h0=>?_) fun h6=>lr [0,γ 1,γ 2,γ 3] ?_) fun h5=>lr [0,γ 1,γ 2,γ 3] ?_) fun h1=>lr [0,γ 1,γ 2,γ 3] ?_
 all_goals (dsimp only[R1,zhN]at *;show zaE IF_ _ _ zrR zFm _=_;generalize zrR=c0 at *;exact fin_)
def ztp(me:Peer)(l:List Entry)(f:List Finger)(key:Int)(most:Int):Option ((List Peer)):=
 (zpu l).bind fun res=>
 (znC me f key most 0 res).bind fun r2=>
 (zer me key most [] 0 r2 []).bind fun⟨out,r21,r3⟩=>
 bif yac.ilt most 0 then some []else
 bif yac.ilt most (xlen zad out)then
  (xsub zad out 0 most).bind fun ys=>
  some ys
 else
  some out
theorem zG3{me l f key most r}:ztp me l f key most=some r->zxB me l f key most=some r:=by
 unfold ztp;refine ka (kb fun res h1=>ks [0,0,0] fun r2 γ2 h2=>ks [0,γ2 1,γ2 2,0] fun⟨out,r21,r3⟩ γ3 h3=>kc (fun h4=>l0 rfl ?_) fun h4=>kc (fun h5=>kb fun ys h6=>l0 rfl ?_) fun h5=>l0 rfl ?_)
 all_goals (dsimp only[K1,R1,zhM,zhO]at *;show zak IF_ (zL6 zrQ zrS) _ _=_;generalize zrQ=c0,zrS=c1 at *;exact fin_)
end Go.Ab.Tryz
