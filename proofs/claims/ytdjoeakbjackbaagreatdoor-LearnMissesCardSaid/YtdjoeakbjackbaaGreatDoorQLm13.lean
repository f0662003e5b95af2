/- Our texts for this statement, merged: what its theorem leads to. -/
import Derived.Test.YtdjoeakbjackbaaGreatDoorQLm9
set_option linter.unusedVariables false
set_option linter.unusedSimpArgs false
noncomputable section
namespace Go.Ab.Tryz
open Go Go.Ab Go.Proofs
set_option maxRecDepth 10000
set_option maxHeartbeats 4000000
open Go.Ab.Ops renaming std->yab
open List renaming map->yac
def zmb(to_:Peer)(m:Msg)(why:Int)(b0_node:Node)(b0_job:Job)(r2:List Out):Option (ziq):=
 (zdo b0_node (⟨b0_job.id,b0_job.kind,b0_job.bit,b0_job.key,b0_job.val,b0_job.target,b0_job.via,to_,b0_job.doing,b0_job.hops,b0_job.tries,b0_job.due⟩:Job) r2).bind fun⟨b0_node1,r1⟩=>
 (zjh b0_node1 to_ m why b0_job.id).bind fun⟨r0,r11⟩=>
 (zfN r0 r11 b0_node1 (⟨b0_job.id,b0_job.kind,b0_job.bit,b0_job.key,b0_job.val,b0_job.target,b0_job.via,to_,b0_job.doing,b0_job.hops,b0_job.tries,b0_job.due⟩:Job) r2).bind fun⟨r12,r21⟩=>
 some (r0,(⟨b0_job.id,b0_job.kind,b0_job.bit,b0_job.key,b0_job.val,b0_job.target,b0_job.via,to_,b0_job.doing,b0_job.hops,b0_job.tries,b0_job.due⟩:Job),r1,r21)
theorem ztw{to_ m why b0_node b0_job r2 r}:zmb to_ m why b0_node b0_job r2=some r->zkg to_ m why b0_node b0_job r2=some r:=by
 unfold zmb;refine kas fun γ=>ks [0,γ 1,γ 2] fun⟨b0_node1,r1⟩ γ1 h1=>kb fun⟨r0,r11⟩ h2=>ks [0,γ1 3,γ1 2] fun⟨r12,r21⟩ γ3 h3=>lc rfl [0,γ1 1,γ3 2] ?_
 all_goals (dsimp only[R2,zdA,zcw,zb7]at *;show zah IF_ zCj _ _=_;exact fin_)
def zlL(to_:Peer)(b0_node:Node)(b0_job:Job)(r2:List Out):Option (zhU):=
 zkg to_ (⟨1,0,0,false,b0_job.target,⟨#[]⟩,⟨#[]⟩,(⟨0,0⟩:Peer),[],[]⟩:Msg) 4 b0_node b0_job r2
theorem zsU{to_ b0_node b0_job r2 r}:zlL to_ b0_node b0_job r2=some r->zjn to_ b0_node b0_job r2=some r:=by
 unfold zlL;refine kas fun γ=>ps [0,γ 1,γ 2] fun⟨b0_node1,zbf,r1,r21⟩ γ1 h1=>lc rfl [0,γ1 1,γ1 2] ?_
 all_goals (dsimp only[zdA,zdd]at *;show zah IF_ zCi _ _=_;exact fin_)
def zd5(b0_node:Node)(b0_job:Job)(r2:List Out):Option (zjq):=
 bif yab.ieq b0_job.kind 1 then
  zk5 b0_job.via b0_node (⟨b0_job.id,b0_job.kind,b0_job.bit,b0_job.key,b0_job.val,b0_job.target,b0_job.via,b0_job.at_,false,0,b0_job.tries,b0_job.due⟩:Job) r2
 else
  (zqK b0_node b0_job.target).bind fun⟨r0,r1,r21⟩=>
  bif r21 then
   (zdo b0_node (⟨b0_job.id,b0_job.kind,b0_job.bit,b0_job.key,b0_job.val,b0_job.target,b0_job.via,b0_job.at_,false,0,b0_job.tries,b0_job.due⟩:Job) r2).bind fun⟨b0_node1,r11⟩=>
   (zi9 r0 b0_node1 (⟨b0_job.id,b0_job.kind,b0_job.bit,b0_job.key,b0_job.val,b0_job.target,b0_job.via,b0_job.at_,false,0,b0_job.tries,b0_job.due⟩:Job) r2).bind fun⟨zx8,zbf,r12,r22⟩=>
   some (zx8,zbf,r11,r22)
  else
   (xget zad r1 0).bind fun x=>
   zjn x b0_node (⟨b0_job.id,b0_job.kind,b0_job.bit,b0_job.key,b0_job.val,b0_job.target,b0_job.via,b0_job.at_,false,1,b0_job.tries,b0_job.due⟩:Job) r2
theorem zjr{b0_node b0_job r2 r}:zd5 b0_node b0_job r2=some r->zdQ b0_node b0_job r2=some r:=by
 unfold zd5;refine kas fun γ=>kc (fun h1=>ps [0,γ 1,γ 2] fun⟨b0_node1,zbf,r1,r21⟩ γ1 h2=>lc rfl [0,γ1 1,γ1 2] ?_) fun h1=>kb fun⟨r0,r1,r21⟩ h2=>kc (fun h3=>ks [0,γ 1,γ 2] fun⟨b0_node1,r11⟩ γ2 h4=>ks [0,γ2 3,γ2 2] fun⟨zx8,zbf,r12,r22⟩ γ3 h5=>lc rfl [0,γ2 1,γ3 2] ?_) fun h3=>kb fun x h4=>ps [0,γ 1,γ 2] fun⟨b0_node1,zbf,r11,r22⟩ γ2 h5=>lc rfl [0,γ2 1,γ2 2] ?_
 all_goals (dsimp only[R3,zeJ,zdd,zd3,zcw,zd6]at *;show zah IF_ zG5 _ _=_;exact fin_)
def zb5(why:Int)(b0_node:Node)(b0_job:Job)(r2:List Out):Option (zf6):=
 bif yab.ieq b0_job.kind 1 then
  (zel b0_node (⟨b0_job.id,b0_job.kind,b0_job.bit,b0_job.key,b0_job.val,b0_job.target,b0_job.via,b0_job.at_,false,b0_job.hops,b0_job.tries,b0_job.due⟩:Job) r2).bind fun⟨b0_node1,r1⟩=>
  some (.inl (b0_node1,(⟨b0_job.id,b0_job.kind,b0_job.bit,b0_job.key,b0_job.val,b0_job.target,b0_job.via,b0_job.at_,false,b0_job.hops,b0_job.tries,b0_job.due⟩:Job),r1))
 else
  bif yab.ieq b0_job.kind 4 then
   (zb6 false ⟨#[]⟩ why b0_node b0_job r2).bind fun⟨b0_node1,r1⟩=>
   some (.inr (b0_node1,b0_job,r1,r2))
  else
   bif yab.ile 3 b0_job.tries then
    (zb6 false ⟨#[]⟩ why b0_node b0_job r2).bind fun⟨b0_node1,r1⟩=>
    some (.inr (b0_node1,b0_job,r1,r2))
   else
    bif yab.ilt b0_job.tries 0 then
     (zdQ b0_node (⟨b0_job.id,b0_job.kind,b0_job.bit,b0_job.key,b0_job.val,b0_job.target,b0_job.via,b0_job.at_,b0_job.doing,b0_job.hops,yab.iadd .i64 0 1,b0_job.due⟩:Job) r2).bind fun⟨b0_node1,zbf,r1,r21⟩=>
     some (.inr (b0_node1,zbf,r1,r21))
    else
     (zdQ b0_node (⟨b0_job.id,b0_job.kind,b0_job.bit,b0_job.key,b0_job.val,b0_job.target,b0_job.via,b0_job.at_,b0_job.doing,b0_job.hops,yab.iadd .i64 b0_job.tries 1,b0_job.due⟩:Job) r2).bind fun⟨b0_node1,zbf,r1,r21⟩=>
     some (.inr (b0_node1,zbf,r1,r21))
theorem zd2{why b0_node b0_job r2 r}:zb5 why b0_node b0_job r2=some r->zk4 why b0_node b0_job r2=some r:=by
 unfold zb5;refine kas fun γ=>kc (fun h1=>ks [0,γ 1,γ 2] fun⟨b0_node1,r1⟩ γ1 h2=>lc rfl [0,γ1 1,γ1 2,γ1 3] ?_) fun h1=>kc (fun h2=>ks [0,γ 1,γ 2] fun⟨b0_node1,r1⟩ γ1 h3=>lc rfl [0,γ1 1,γ1 2] ?_) fun h2=>kc (fun h3=>ks [0,γ 1,γ 2] fun⟨b0_node1,r1⟩ γ1 h4=>lc rfl [0,γ1 1,γ1 2] ?_) fun h3=>kc (fun h4=>ks [0,γ 1,γ 2] fun⟨b0_node1,zbf,r1,r21⟩ γ1 h5=>lc rfl [0,γ1 1,γ1 2] ?_) fun h4=>ks [0,γ 1,γ 2] fun⟨b0_node1,zbf,r1,r21⟩ γ1 h5=>lc rfl [0,γ1 1,γ1 2] ?_
 all_goals (dsimp only[zd1,zdp,zd6,zbA]at *;show zah IF_ zGC _ _=_;exact fin_)
def znf(b0_node:Node)(b0_job:Job)(r2:List Out):Option (zjl):=
 some (b0_node.me.id,b0_node.me.addr,b0_node.clock,b0_node.joined,b0_node.pred,b0_node.list,b0_node.store,b0_node.pends,b0_node.jobs,b0_node.results,b0_node.rid,b0_node.jobID,b0_node.nextBit)
theorem zuA{b0_node b0_job r2 r}:znf b0_node b0_job r2=some r->zij b0_node b0_job r2=some r:=by
 unfold znf;refine kas fun γ=>lc rfl [0,γ 1,γ 2] ?_
 all_goals (dsimp only[zd0]at *;show zah IF_ zCe _ _=_;exact fin_)
def zlI(b0_node:Node)(b0_job:Job)(r1:List Out):Option (Node):=
 some b0_node
theorem zsT{b0_node b0_job r1 r}:zlI b0_node b0_job r1=some r->zjk b0_node b0_job r1=some r:=by
 unfold zlI;refine kas fun γ=>lc rfl [0,γ 1] ?_
 all_goals (dsimp only[zc5]at *;show zah IF_ zCe _ _=_;exact fin_)
def ziE(n:Node)(id:Int):Option (Int):=
 (zmY n.jobs id).bind fun res=>
 bif yab.ile 0 res then
  (xget eJob n.jobs res).bind fun x=>
  bif yab.ilt x.kind 1 then some (-1)else
  bif yab.ilt 4 x.kind then some (-1)else
  some res
 else
  some res
theorem zou{n id r}:ziE n id=some r->zsx n id=some r:=by
 unfold ziE;refine ka (kb fun res h1=>kc (fun h2=>kb fun x h3=>kc (fun h4=>l0 rfl ?_) fun h4=>kc (fun h5=>l0 rfl ?_) fun h5=>l0 rfl ?_) fun h2=>l0 rfl ?_)
 all_goals (dsimp only[R1]at *;show zah IF_ zGE _ _=_;exact fin_)
def zgL(n:Node)(γ:Nat->Nat):((List Out)×Job×Node)->X×St
 |(a0,a1,a2)=>(.ret,⟨bd 6 (.bptr 2 0:: .lit 78 false (yac eOut a0)::bd 32 []),[.box 34 (zal n),.box 57 (cJob a1),.box 34 (zal a2),.row 78 (γ 3) false (yac eOut [])]⟩)
instance {n}:InjS (zgL n):=⟨by unfold zgL;exact ij_⟩
def zot(n:Node)(j:Job):Option (((List Out)×Job×Node)):=asks (fun γ=>(lim F pr).seg [6,7] zuO ⟨bd 3 (.bptr 0 0:: .bptr 1 0::bd 1 (.bptr 2 0::bd 33 [])),[.box 34 (zal n),.box 57 (cJob j),.box 34 ([vU 0,vH 0,vI 0,vF false,.lit 0 true [],.lit 0 true [],.lit 0 true [],.lit 0 true [],.lit 0 true [],.lit 0 true [],.lit 0 true [],vW 0,vI 0,vI 0]),.row 78 (γ 3) false (yac eOut [])]⟩) (zgL n)
def zi2(n:Node)(j:Job):Option (((List Out)×Job×Node)):=
 bif yab.ilt j.tries 0 then
  (zkU n (⟨j.id,j.kind,j.bit,j.key,j.val,j.target,j.via,j.at_,j.doing,j.hops,yab.iadd .i64 0 1,j.due⟩:Job)).bind fun⟨r0,r1⟩=>
  some (r1,(⟨j.id,j.kind,j.bit,j.key,j.val,j.target,j.via,j.at_,j.doing,j.hops,yab.iadd .i64 0 1,j.due⟩:Job),r0)
 else
  (zkU n (⟨j.id,j.kind,j.bit,j.key,j.val,j.target,j.via,j.at_,j.doing,j.hops,yab.iadd .i64 j.tries 1,j.due⟩:Job)).bind fun⟨r0,r1⟩=>
  some (r1,(⟨j.id,j.kind,j.bit,j.key,j.val,j.target,j.via,j.at_,j.doing,j.hops,yab.iadd .i64 j.tries 1,j.due⟩:Job),r0)
theorem zrj{n j r}:zi2 n j=some r->zot n j=some r:=by
 unfold zi2;refine kas fun γ=>kc (fun h1=>kb fun⟨r0,r1⟩ h2=>ls [0,0,0,γ 3] ?_) fun h1=>kb fun⟨r0,r1⟩ h2=>ls [0,0,0,γ 3] ?_
 all_goals (dsimp only[R2,zgL]at *;show Ifc.apart IF_ _ zAL _=_;exact fin_)
def zqE(n:Node)(j:Job)(why:Int):Option ((Node×(List Out))):=
 bif yab.ieq j.kind 1 then
  (zfA n (⟨j.id,j.kind,j.bit,j.key,j.val,j.target,j.via,j.at_,false,j.hops,j.tries,j.due⟩:Job)).bind fun res=>
  some (res,[])
 else
  bif yab.ieq j.kind 4 then
   (zcu n j false ⟨#[]⟩ why).bind fun res=>
   some (res,[])
  else
   bif yab.ile 3 j.tries then
    (zcu n j false ⟨#[]⟩ why).bind fun res=>
    some (res,[])
   else
    (zot n j).bind fun⟨t7,b1,b2⟩=>
    some (b2,t7)
theorem zC5{n j why r}:zqE n j why=some r->zum n j why=some r:=by
 unfold zqE;refine ka (kc (fun h1=>kb fun res h2=>l0 rfl ?_) fun h1=>kc (fun h2=>kb fun res h3=>l0 rfl ?_) fun h2=>kc (fun h3=>kb fun res h4=>l0 rfl ?_) fun h3=>ks [0,0,0,0] fun⟨t7,b1,b2⟩ γ1 h4=>l0 rfl ?_)
 all_goals (dsimp only[R1,R2,zgL]at *;show zah IF_ (zGF zuO) _ _=_;generalize zuO=c0 at *;exact fin_)
def zfs(γ:Nat->Nat):Unit⊕Unit->X×St
 | .inl ()=>(.ret,⟨bd 4 (vF false::bd 21 []),[]⟩)
 | .inr ()=>(.brk 0,⟨bd 26 [],[]⟩)
instance :InjS zfs:=⟨by unfold zfs;exact ij_⟩
def zhx(a:List Peer)(b:List Peer)(i:Int):Option (Unit⊕Unit):=asks (fun γ=>(lim F pr).loop [0,1,5] 0 zoI ⟨.lit 25 false (yac zad a):: .lit 25 false (yac zad b)::bd 3 (vI i::bd 20 []),[]⟩) zfs
def zch(a:List Peer)(b:List Peer)(i:Int):Option (Unit⊕Unit):=
 bif yab.ilt i (xlen zad a)then
  (xget zad a i).bind fun x=>
  (xget zad b i).bind fun x1=>
  bif yab.ieq x.id x1.id then
   bif yab.ieq x.addr x1.addr then zhx a b (yab.iadd .i64 i 1)else
   some (.inl ())
  else
   some (.inl ())
 else
  some (.inr ())
theorem zdO{a b i r}:zch a b i=some r->zhx a b i=some r:=by
 unfold zch;refine kas fun γ=>kc (fun h1=>kb fun x h2=>kb fun x1 h3=>kc (fun h4=>kc (fun h5=>lg [] fun γ' h0=>?_) fun h5=>lr [] ?_) fun h4=>lr [] ?_) fun h1=>lr [] ?_
 all_goals (dsimp only[zfs]at *;show zaz IF_ _ _ zoI zAO _=_;generalize zoI=c0 at *;exact fin_)
def zle(a:List Peer)(b:List Peer):Option (Bool):=
 bif yab.ieq (xlen zad a) (xlen zad b)then
  (zhx a b 0).bind fun r=>match r with
   | .inl ()=>
    some false
   | .inr ()=>
    some true
 else
  some false
theorem ztG{a b r}:zle a b=some r->znH a b=some r:=by
 unfold zle;refine ka (kc (fun h1=>ks [] fun| .inl _,γ1,h2=>(l0 rfl ?_)| .inr _,γ1,h2=>(l0 rfl ?_)) fun h1=>l0 rfl ?_)
 all_goals (dsimp only[R1,zfs]at *;show zah IF_ (zGK zoI) _ _=_;generalize zoI=c0 at *;exact fin_)
def zid(a:Int)(x:Int)(b:Int):Option (Bool):=
 bif yab.ieq x a then some false else
 bif yab.ieq a b then some true else
 (zlG a x).bind fun res=>
 (zlG a b).bind fun res1=>
 some (yab.ilt res res1)
theorem zpo{a x b r}:zid a x b=some r->zhJ a x b=some r:=by
 unfold zid;refine ka (kc (fun h1=>l0 rfl ?_) fun h1=>kc (fun h2=>l0 rfl ?_) fun h2=>kb fun res h3=>kb fun res1 h4=>l0 rfl ?_)
 all_goals (dsimp only[R1]at *;show zah IF_ zHb _ _=_;exact fin_)
def zqZ(j:Job)(b0:Int):Option (Bool):=
 some (yab.ieq j.id b0)
theorem zxh{j b0 r}:zqZ j b0=some r->zn5 j b0=some r:=by
 unfold zqZ;refine ka (l0 rfl ?_)
 all_goals (dsimp only[zgc]at *;show zah IF_ zHy _ _=_;exact fin_)
def zcr(b0:Int)(γ:Nat->Nat):Int⊕Unit->X×St
 | .inl a0=>(.ret,⟨bd 4 (vI a0::bd 14 []),[.box 3 [vI b0]]⟩)
 | .inr ()=>(.brk 0,⟨bd 19 [],[.box 3 [vI b0]]⟩)
instance {b0}:InjS (zcr b0):=⟨by unfold zcr;exact ij_⟩
def zen(s:List Job)(b0:Int)(t8:Int):Option (Int⊕Unit):=asks (fun γ=>(lim F pr).loop [7,1,0,8] 1 zo4 ⟨.lit 57 false (yac eJob s):: .fn 256 [.bptr 0 0]::bd 5 (vI (xlen eJob s)::vI t8::bd 10 []),[.box 3 [vI b0]]⟩) (zcr b0)
def zcq(s:List Job)(b0:Int)(t8:Int):Option (Int⊕Unit):=
 bif yab.ilt t8 (xlen eJob s)then
  (xget eJob s t8).bind fun x=>
  (zn5 x b0).bind fun res=>
  bif res then some (.inl t8)else
  zen s b0 (yab.iadd .i64 t8 1)
 else
  some (.inr ())
theorem zfW{s b0 t8 r}:zcq s b0 t8=some r->zen s b0 t8=some r:=by
 unfold zcq;refine kas fun γ=>kc (fun h1=>kb fun x h2=>kb fun res h3=>kc (fun h4=>lr [] ?_) fun h4=>lg [] fun γ' h0=>?_) fun h1=>lr [] ?_
 all_goals (dsimp only[zcr,zgc]at *;show zaz IF_ _ _ zo4 zBj _=_;generalize zo4=c0 at *;exact fin_)
def zio(s:List Job)(b0:Int):Option (Int):=
 (zen s b0 0).bind fun r=>match r with
  | .inl t4=>
   some t4
  | .inr ()=>
   some (-1)
theorem ztu{s b0 r}:zio s b0=some r->znh s b0=some r:=by
 unfold zio;refine ka (ks [] fun| .inl t4,γ1,h1=>(l0 rfl ?_)| .inr _,γ1,h1=>(l0 rfl ?_))
 all_goals (dsimp only[zdw,zcr]at *;show zah IF_ (zHx zo4) _ _=_;generalize zo4=c0 at *;exact fin_)
def zmu(i:Int)(j:Int)(r0:List Job):Option ((List Job)):=
 (xsub eJob r0 i j).bind fun ys=>
 (xsub eJob r0 j (xlen eJob r0)).bind fun ys1=>
 bif yab.ieq i j then some r0 else
 (xsub eJob r0 0 i).bind fun ys2=>
 bif yab.ieq 0 0 then
  bif yab.ile (xlen eJob ys1) (yab.isub .i64 (xlen eJob r0) i)then
   (xsub eJob (xput r0 i ys1) 0 (yab.iadd .i64 i (xlen eJob ys1))).bind fun ys3=>
   (xsub eJob (xput r0 i ys1) (xlen eJob ys3) (xlen eJob r0)).bind fun ys4=>
   (xsub eJob (xfil (xput r0 i ys1) (xlen eJob ys3) (xlen eJob r0) (⟨0,0,0,⟨#[]⟩,⟨#[]⟩,0,(⟨0,0⟩:Peer),(⟨0,0⟩:Peer),false,0,0,0⟩:Job)) 0 (yab.iadd .i64 i (xlen eJob ys1))).bind fun ys5=>
   some ys5
  else
   none
 else
  none
theorem zx2{i j r0 r}:zmu i j r0=some r->zpx i j r0=some r:=by
 unfold zmu;refine kas fun γ=>kb fun ys h1=>kb fun ys1 h2=>kc (fun h3=>lc rfl [γ 0] ?_) fun h3=>kb fun ys2 h4=>k1 fun h5=>k1 fun h6=>kb fun ys3 h7=>kb fun ys4 h8=>kb fun ys5 h9=>lc rfl [(γ 0+1)] ?_
 all_goals (dsimp only[zhc]at *;show zah IF_ zHD _ _=_;exact fin_)
def zfe(j:Job)(has:Bool)(val:ByteArray)(e_:Int)(za7:Int)(zaX:Int)(za5:Int)(za0:Bool)(zbq:Int)(za6:Int)(zaY:Int)(r1:List Entry)(r2:List Entry)(r3:List Finger)(r4:List Pair)(r5:List Pend)(r6:List Job)(r7:List Result)(γ:Nat->Nat):(List Result)->X×St
 |a0=>(.nor,⟨bd 53 [],[.box 34 [vU za7,vH zaX,vI za5,vF za0,.sl 1 (γ 1),.sl 2 (γ 2),.sl 3 (γ 3),.sl 4 (γ 4),.sl 5 (γ 5),.sl 6 (γ 6),.sl 9 (γ 9),vW zbq,vI za6,vI zaY],.row 55 (γ 1) false (yac zab r1),.row 55 (γ 2) false (yac zab r2),.row 82 (γ 3) false (yac zaa r3),.row 76 (γ 4) false (yac zag r4),.row 36 (γ 5) false (yac zaI r5),.row 57 (γ 6) false (yac eJob r6),.row 74 (γ 7) false (yac zaf (r7++[(⟨j.id,j.kind,j.key,val,has,e_⟩:Result)])),.box 57 (cJob j),.row 74 (γ 9) false (yac zaf a0)]⟩)
instance {j has val e_ za7 zaX za5 za0 zbq za6 zaY r1 r2 r3 r4 r5 r6 r7}:InjS (zfe j has val e_ za7 zaX za5 za0 zbq za6 zaY r1 r2 r3 r4 r5 r6 r7):=⟨by unfold zfe;exact ij_⟩
def zjJ(j:Job)(has:Bool)(val:ByteArray)(e_:Int)(za7:Int)(zaX:Int)(za5:Int)(za0:Bool)(zbq:Int)(za6:Int)(zaY:Int)(r1:List Entry)(r2:List Entry)(r3:List Finger)(r4:List Pair)(r5:List Pend)(r6:List Job)(r7:List Result):Option ((List Result)):=asks (fun γ=>(lim F pr).seg [] zuQ ⟨.bptr 0 0::bd 1 (vF has::vT val::vI e_::bd 1 (.bptr 8 0::bd 46 [])),[.box 34 [vU za7,vH zaX,vI za5,vF za0,.sl 1 (γ 1),.sl 2 (γ 2),.sl 3 (γ 3),.sl 4 (γ 4),.sl 5 (γ 5),.sl 6 (γ 6),.sl 7 (γ 7),vW zbq,vI za6,vI zaY],.row 55 (γ 1) false (yac zab r1),.row 55 (γ 2) false (yac zab r2),.row 82 (γ 3) false (yac zaa r3),.row 76 (γ 4) false (yac zag r4),.row 36 (γ 5) false (yac zaI r5),.row 57 (γ 6) false (yac eJob r6),.row 74 (γ 7) false (yac zaf r7),.box 57 (cJob j)]⟩) (zfe j has val e_ za7 zaX za5 za0 zbq za6 zaY r1 r2 r3 r4 r5 r6 r7)
def zpf(j:Job)(has:Bool)(val:ByteArray)(e_:Int)(za7:Int)(zaX:Int)(za5:Int)(za0:Bool)(zbq:Int)(za6:Int)(zaY:Int)(r1:List Entry)(r2:List Entry)(r3:List Finger)(r4:List Pair)(r5:List Pend)(r6:List Job)(r7:List Result):Option ((List Result)):=
 bif zaA zaf 64 r7 [(⟨j.id,j.kind,j.key,val,has,e_⟩:Result)]then
  bif yab.ilt 0 (yab.isub .i64 (xlen zaf (r7++[(⟨j.id,j.kind,j.key,val,has,e_⟩:Result)])) 16)then
   (xsub zaf (r7++[(⟨j.id,j.kind,j.key,val,has,e_⟩:Result)]) (yab.isub .i64 (xlen zaf (r7++[(⟨j.id,j.kind,j.key,val,has,e_⟩:Result)])) 16) (xlen zaf (r7++[(⟨j.id,j.kind,j.key,val,has,e_⟩:Result)]))).bind fun ys=>
   bif zaA zaf 64 [] ys then some ys else
   none
  else
   (xsub zaf (r7++[(⟨j.id,j.kind,j.key,val,has,e_⟩:Result)]) 0 (xlen zaf (r7++[(⟨j.id,j.kind,j.key,val,has,e_⟩:Result)]))).bind fun ys=>
   bif zaA zaf 64 [] ys then some ys else
   none
 else
  none
theorem zv8{j has val e_ za7 zaX za5 za0 zbq za6 zaY r1 r2 r3 r4 r5 r6 r7 r}:zpf j has val e_ za7 zaX za5 za0 zbq za6 zaY r1 r2 r3 r4 r5 r6 r7=some r->zjJ j has val e_ za7 zaX za5 za0 zbq za6 zaY r1 r2 r3 r4 r5 r6 r7=some r:=by
 unfold zpf;refine kas fun γ=>k1 fun h1=>kc (fun h2=>kb fun ys h3=>k1 fun h4=>ls [0,γ 1,γ 2,γ 3,γ 4,γ 5,γ 6,((γ 7)+1),0,0] ?_) fun h2=>kb fun ys h3=>k1 fun h4=>ls [0,γ 1,γ 2,γ 3,γ 4,γ 5,γ 6,((γ 7)+1),0,0] ?_
 all_goals (dsimp only[zfe]at *;show Ifc.apart IF_ _ zAQ _=_;exact fin_)
def zn7(j:Job)(has:Bool)(val:ByteArray)(e_:Int)(za7:Int)(zaX:Int)(za5:Int)(za0:Bool)(zbq:Int)(za6:Int)(zaY:Int)(r1:List Entry)(r2:List Entry)(r3:List Finger)(r4:List Pair)(r5:List Pend)(r6:List Job)(r7:List Result):Option (((List Result)×(List Result))⊕Unit):=
 bif yab.ieq j.kind 2 then
  (zjJ j has val e_ za7 zaX za5 za0 zbq za6 zaY r1 r2 r3 r4 r5 r6 r7).bind fun r9=>
  some (.inl ((r7++[(⟨j.id,j.kind,j.key,val,has,e_⟩:Result)]),r9))
 else
  bif yab.ieq j.kind 3 then
   (zjJ j has val e_ za7 zaX za5 za0 zbq za6 zaY r1 r2 r3 r4 r5 r6 r7).bind fun r9=>
   some (.inl ((r7++[(⟨j.id,j.kind,j.key,val,has,e_⟩:Result)]),r9))
  else
   some (.inr ())
theorem zzW{j has val e_ za7 zaX za5 za0 zbq za6 zaY r1 r2 r3 r4 r5 r6 r7 r}:zn7 j has val e_ za7 zaX za5 za0 zbq za6 zaY r1 r2 r3 r4 r5 r6 r7=some r->zrY j has val e_ za7 zaX za5 za0 zbq za6 zaY r1 r2 r3 r4 r5 r6 r7=some r:=by
 unfold zn7;refine kas fun γ=>kc (fun h1=>ks [0,γ 1,γ 2,γ 3,γ 4,γ 5,γ 6,γ 7] fun r9 γ1 h2=>lc rfl [0,γ1 1,γ1 2,γ1 3,γ1 4,γ1 5,γ1 6,γ1 7,γ1 9] ?_) fun h1=>kc (fun h2=>ks [0,γ 1,γ 2,γ 3,γ 4,γ 5,γ 6,γ 7] fun r9 γ1 h3=>lc rfl [0,γ1 1,γ1 2,γ1 3,γ1 4,γ1 5,γ1 6,γ1 7,γ1 9] ?_) fun h2=>lc rfl [0,γ 1,γ 2,γ 3,γ 4,γ 5,γ 6,γ 7] ?_
 all_goals (dsimp only[ziw,zfe]at *;show zah IF_ (zGT zuQ) _ _=_;generalize zuQ=c0 at *;exact fin_)
def zmQ(l:List Entry):Option ((List Peer)):=
 zsa l
theorem zyS{l r}:zmQ l=some r->zjO l=some r:=by
 unfold zmQ;refine ka (pb fun res h1=>l0 rfl ?_)
 all_goals (dsimp only[K1]at *;show zah IF_ g98F _ _=_;exact fin_)
def zow(a:Int)(x:Int)(b:Int):Option (Bool):=
 bif yab.ieq a b then some true else
 bif yab.ieq x b then some true else
 zhJ a x b
theorem zAn{a x b r}:zow a x b=some r->zjD a x b=some r:=by
 unfold zow;refine ka (kc (fun h1=>l0 rfl ?_) fun h1=>kc (fun h2=>l0 rfl ?_) fun h2=>pb fun res h3=>l0 rfl ?_)
 all_goals (dsimp only[R1]at *;show zah IF_ zHm _ _=_;exact fin_)
def zkW(n:Node)(key:Int):Option (Bool):=
 bif yab.ilt 0 (xlen zab n.pred)then
  (xget zab n.pred 0).bind fun x=>
  bif yab.ile x.misses 0 then zjD x.peer.id key n.me.id else
  some false
 else
  some false
theorem zww{n key r}:zkW n key=some r->zm5 n key=some r:=by
 unfold zkW;refine ka (kc (fun h1=>kb fun x h2=>kc (fun h3=>pb fun res h4=>l0 rfl ?_) fun h3=>l0 rfl ?_) fun h1=>l0 rfl ?_)
 all_goals (dsimp only[R1]at *;show zah IF_ zHn _ _=_;exact fin_)
def zep(me:Peer)(key:Int)(most:Int)(γ:Nat->Nat):(List Peer)->X×St
 |a0=>(.brk 0,⟨bd 3 (vU key::vI most:: .bptr 0 0::bd 5 (.sl 2 (γ 2)::bd 63 [])),[.box 25 [vU me.id,vH me.addr],.row 25 (γ 1) false (yac zad []),.row 25 (γ 2) false (yac zad a0)]⟩)
instance {me key most}:InjS (zep me key most):=⟨by unfold zep;exact ij_⟩
def ziK(me:Peer)(f:List Finger)(key:Int)(most:Int)(t22:Int)(r2:List Peer):Option ((List Peer)):=asks (fun γ=>(lim F pr).loop [21,20,22,11,3,5,4] 3 zoU ⟨bd 3 (vU key::vI most:: .bptr 0 0::bd 5 (.sl 2 (γ 2)::bd 8 (.lit 82 false (yac zaa f)::vI (xlen zaa f)::vI t22::bd 52 []))),[.box 25 [vU me.id,vH me.addr],.row 25 (γ 1) false (yac zad []),.row 25 (γ 2) false (yac zad r2)]⟩) (zep me key most)
def zeq(me:Peer)(most:Int)(γ:Nat->Nat):((List Peer)×(List Peer))->X×St
 |(a0,a1)=>(.brk 2,⟨bd 4 (vI most:: .bptr 0 0::bd 8 (.sl 3 (γ 3)::bd 60 [])),[.box 25 [vU me.id,vH me.addr],.row 25 (γ 1) false (yac zad []),.row 25 (γ 2) true (yac zad a0),.row 25 (γ 3) false (yac zad a1)]⟩)
instance {me most}:InjS (zeq me most):=⟨by unfold zeq;exact ij_⟩
def zcx(me:Peer)(key:Int)(most:Int)(t32:List Peer)(t33:Int)(t34:Int)(r2:List Peer)(r3:List Peer):Option (((List Peer)×(List Peer))):=asks (fun γ=>(lim F pr).loop [33,32,11,3,34,5,14,4] 4 zoV ⟨bd 3 (vU key::vI most:: .bptr 0 0::bd 5 (.sl 2 (γ 2)::bd 2 (.sl 3 (γ 3)::bd 17 (.lit 25 false (yac zad t32)::vI t33::vI t34::bd 40 [])))),[.box 25 [vU me.id,vH me.addr],.row 25 (γ 1) false (yac zad []),.row 25 (γ 2) true (yac zad r2),.row 25 (γ 3) false (yac zad r3)]⟩) (zeq me most)
def zg4(me:Peer)(f:List Finger)(key:Int)(most:Int)(t22:Int)(r2:List Peer):Option ((List Peer)):=
 bif yab.ilt t22 (xlen zaa f)then
  (xget zaa f t22).bind fun x=>
  bif zaA zad 16 r2 [x.peer]then
   ziK me f key most (yab.iadd .i64 t22 1) (r2++[x.peer])
  else
   none
 else
  some r2
theorem znt{me f key most t22 r2 r}:zg4 me f key most t22 r2=some r->ziK me f key most t22 r2=some r:=by
 unfold zg4;refine kas fun γ=>kc (fun h1=>kb fun x h2=>k1 fun h3=>lg [0,γ 1,((γ 2)+1)] fun γ' h0=>?_) fun h1=>lr [0,γ 1,γ 2] ?_
 all_goals (dsimp only[zep]at *;show zaz IF_ _ _ zoU zA7 _=_;generalize zoU=c0 at *;exact fin_)
def zg5(me:Peer)(key:Int)(most:Int)(t32:List Peer)(t33:Int)(t34:Int)(r2:List Peer)(r3:List Peer):Option (((List Peer)×(List Peer))):=
 bif yab.ilt t34 t33 then
  (xget zad t32 t34).bind fun x=>
  (zkq r2 x.id x.addr).bind fun res=>
  bif yab.ieq res t34 then
   bif yab.ieq x.addr me.addr then zcx me key most t32 t33 (yab.iadd .i64 t34 1) r2 r3 else
   (zhJ me.id x.id key).bind fun res1=>
   bif res1 then
    bif zaA zad 16 r3 [x]then
     zcx me key most t32 t33 (yab.iadd .i64 t34 1) r2 (r3++[x])
    else
     none
   else
    zcx me key most t32 t33 (yab.iadd .i64 t34 1) r2 r3
  else
   zcx me key most t32 t33 (yab.iadd .i64 t34 1) r2 r3
 else
  some (r2,r3)
theorem znu{me key most t32 t33 t34 r2 r3 r}:zg5 me key most t32 t33 t34 r2 r3=some r->zcx me key most t32 t33 t34 r2 r3=some r:=by
 unfold zg5;refine kas fun γ=>kc (fun h1=>kb fun x h2=>kb fun res h3=>kc (fun h4=>kc (fun h5=>lg [0,γ 1,γ 2,γ 3] fun γ' h0=>?_) fun h5=>kb fun res1 h6=>kc (fun h7=>k1 fun h8=>lg [0,γ 1,γ 2,((γ 3)+1)] fun γ' h0=>?_) fun h7=>lg [0,γ 1,γ 2,γ 3] fun γ' h0=>?_) fun h4=>lg [0,γ 1,γ 2,γ 3] fun γ' h0=>?_) fun h1=>lr [0,γ 1,γ 2,γ 3] ?_
 all_goals (dsimp only[zdS,R1,zeq]at *;show zaz IF_ _ _ zoV zA8 _=_;generalize zoV=c0 at *;exact fin_)
def zmH(me:Peer)(l:List Entry)(f:List Finger)(key:Int)(most:Int):Option ((List Peer)):=
 (zjO l).bind fun res=>
 (ziK me f key most 0 res).bind fun r2=>
 (zcx me key most r2 (xlen zad r2) 0 r2 []).bind fun⟨r21,r3⟩=>
 (xsrt zad me.id r3).bind fun out=>
 bif yab.ilt most 0 then
  bif yab.ilt 0 (xlen zad out)then
   (xsub zad out 0 0).bind fun ys=>
   some ys
  else
   (xsub zad out 0 (xlen zad out)).bind fun ys=>
   some ys
 else
  bif yab.ilt most (xlen zad out)then
   (xsub zad out 0 most).bind fun ys=>
   some ys
  else
   (xsub zad out 0 (xlen zad out)).bind fun ys=>
   some ys
theorem zyx{me l f key most r}:zmH me l f key most=some r->zpS me l f key most=some r:=by
 unfold zmH;refine ka (kb fun res h1=>ks [0,0,0] fun r2 γ2 h2=>ks [0,γ2 1,γ2 2,0] fun⟨r21,r3⟩ γ3 h3=>kb fun out h4=>kc (fun h5=>kc (fun h6=>kb fun ys h7=>l0 rfl ?_) fun h6=>kb fun ys h7=>l0 rfl ?_) fun h5=>kc (fun h6=>kb fun ys h7=>l0 rfl ?_) fun h6=>kb fun ys h7=>l0 rfl ?_)
 all_goals (dsimp only[K1,R1,zep,zeq]at *;show zah IF_ (zHo zoU zoV) _ _=_;generalize zoU=c0,zoV=c1 at *;exact fin_)
def zqX(f:Finger)(b0:Int):Option (Bool):=
 some (yab.ieq f.bit b0)
theorem zxf{f b0 r}:zqX f b0=some r->zn2 f b0=some r:=by
 unfold zqX;refine ka (l0 rfl ?_)
 all_goals (dsimp only[zf9]at *;show zah IF_ zHM _ _=_;exact fin_)
def zbK(r0:List Finger)(b1:Int)(γ:Nat->Nat):Int⊕Unit->X×St
 | .inl a0=>(.ret,⟨bd 4 (vI a0::bd 14 []),[.row 82 (γ 0) false (yac zaa r0),.box 3 [vI b1]]⟩)
 | .inr ()=>(.brk 0,⟨bd 19 [],[.row 82 (γ 0) false (yac zaa r0),.box 3 [vI b1]]⟩)
instance {r0 b1}:InjS (zbK r0 b1):=⟨by unfold zbK;exact ij_⟩
def zdg(r0:List Finger)(b1:Int)(t8:Int):Option (Int⊕Unit):=askg (fun γ=>(lim F pr).loop [7,1,0,8] 2 zb0 ⟨.sl 0 (γ 0):: .fn 280 [.bptr 1 0]::bd 5 (vI (xlen zaa r0)::vI t8::bd 10 []),[.row 82 (γ 0) false (yac zaa r0),.box 3 [vI b1]]⟩) (zbK r0 b1)
def zbJ(r0:List Finger)(b1:Int)(t8:Int):Option (Int⊕Unit):=
 bif yab.ilt t8 (xlen zaa r0)then
  (xget zaa r0 t8).bind fun x=>
  (zn2 x b1).bind fun res=>
  bif res then some (.inl t8)else
  zdg r0 b1 (yab.iadd .i64 t8 1)
 else
  some (.inr ())
theorem zec{r0 b1 t8 r}:zbJ r0 b1 t8=some r->zdg r0 b1 t8=some r:=by
 unfold zbJ;refine kag fun γ=>kc (fun h1=>kb fun x h2=>kb fun res h3=>kc (fun h4=>l2 ?_) fun h4=>lh [γ 0] fun h0=>?_) fun h1=>l2 ?_
 all_goals (dsimp only[zbK,zf9]at *;show zaz IF_ _ _ zb0 zoT _=_;generalize zb0=c0 at *;exact fin_)
def zfT(r0:List Finger)(b1:Int):Option (Int):=
 (zdg r0 b1 0).bind fun r=>match r with
  | .inl t4=>
   some t4
  | .inr ()=>
   some (-1)
theorem zpy{r0 b1 r}:zfT r0 b1=some r->zhd r0 b1=some r:=by
 unfold zfT;refine kag fun γ=>kg [γ 0] fun| .inl t4,h1=>(l0 rfl ?_)| .inr _,h1=>(l0 rfl ?_)
 all_goals (dsimp only[zcn,zbK]at *;show zah IF_ (zvg zb0) _ _=_;generalize zb0=c0 at *;exact fin_)
def zqY(f:Finger)(b0:Int):Option (Bool):=
 some (yab.ilt b0 f.bit)
theorem zxg{f b0 r}:zqY f b0=some r->zn3 f b0=some r:=by
 unfold zqY;refine ka (l0 rfl ?_)
 all_goals (dsimp only[zga]at *;show zah IF_ zHN _ _=_;exact fin_)
def zbM(r0:List Finger)(b1:Int)(γ:Nat->Nat):Int⊕Unit->X×St
 | .inl a0=>(.ret,⟨bd 4 (vI a0::bd 14 []),[.row 82 (γ 0) false (yac zaa r0),.box 3 [vI b1]]⟩)
 | .inr ()=>(.brk 0,⟨bd 19 [],[.row 82 (γ 0) false (yac zaa r0),.box 3 [vI b1]]⟩)
instance {r0 b1}:InjS (zbM r0 b1):=⟨by unfold zbM;exact ij_⟩
def zdh(r0:List Finger)(b1:Int)(t8:Int):Option (Int⊕Unit):=askg (fun γ=>(lim F pr).loop [7,1,0,8] 2 zb0 ⟨.sl 0 (γ 0):: .fn 281 [.bptr 1 0]::bd 5 (vI (xlen zaa r0)::vI t8::bd 10 []),[.row 82 (γ 0) false (yac zaa r0),.box 3 [vI b1]]⟩) (zbM r0 b1)
def zbL(r0:List Finger)(b1:Int)(t8:Int):Option (Int⊕Unit):=
 bif yab.ilt t8 (xlen zaa r0)then
  (xget zaa r0 t8).bind fun x=>
  (zn3 x b1).bind fun res=>
  bif res then some (.inl t8)else
  zdh r0 b1 (yab.iadd .i64 t8 1)
 else
  some (.inr ())
theorem zed{r0 b1 t8 r}:zbL r0 b1 t8=some r->zdh r0 b1 t8=some r:=by
 unfold zbL;refine kag fun γ=>kc (fun h1=>kb fun x h2=>kb fun res h3=>kc (fun h4=>l2 ?_) fun h4=>lh [γ 0] fun h0=>?_) fun h1=>l2 ?_
 all_goals (dsimp only[zbM,zga]at *;show zaz IF_ _ _ zb0 zoT _=_;generalize zb0=c0 at *;exact fin_)
def zfU(r0:List Finger)(b1:Int):Option (Int):=
 (zdh r0 b1 0).bind fun r=>match r with
  | .inl t4=>
   some t4
  | .inr ()=>
   some (-1)
theorem zpz{r0 b1 r}:zfU r0 b1=some r->zhe r0 b1=some r:=by
 unfold zfU;refine kag fun γ=>kg [γ 0] fun| .inl t4,h1=>(l0 rfl ?_)| .inr _,h1=>(l0 rfl ?_)
 all_goals (dsimp only[zco,zbM]at *;show zah IF_ (zvg zb0) _ _=_;generalize zb0=c0 at *;exact fin_)
def zfE(key:ByteArray)(γ:Nat->Nat):(List Pair)->X×St
 |a0=>(.ret,⟨bd 6 (.sl 2 (γ 2)::vI 0::bd 45 []),[.box 9 [vT key],.row 76 (γ 1) false (yac zag []),.row 76 (γ 2) false (yac zag a0)]⟩)
instance {key}:InjS (zfE key):=⟨by unfold zfE;exact ij_⟩
def zm8(l:List Pair)(key:ByteArray)(val:ByteArray):Option ((List Pair)):=asks (fun γ=>(lim F pr).seg [6,7] zu1 ⟨bd 2 (vT val::bd 1 (.bptr 0 0::bd 3 (.sl 2 (γ 2)::bd 44 []))),[.box 9 [vT key],.row 76 (γ 1) false (yac zag []),.row 76 (γ 2) false (yac zag l)]⟩) (zfE key)
def zkY(l:List Pair)(key:ByteArray)(val:ByteArray):Option ((List Pair)):=
 (zjc l key).bind fun res=>
 bif yab.ilt res 0 then
  bif zaA zag 32 l [(⟨key,val⟩:Pair)]then
   (xsub zag l 0 (xlen zag l)).bind fun ys=>
   (xsub zag l (xlen zag l) (xlen zag l)).bind fun ys1=>
   some (ys++([(⟨key,val⟩:Pair)]++ys1))
  else
   none
 else
  bif zaA zag 32 l [(⟨key,val⟩:Pair)]then
   (xsub zag l 0 res).bind fun ys=>
   (xsub zag l res (xlen zag l)).bind fun ys1=>
   some (ys++([(⟨key,val⟩:Pair)]++ys1))
  else
   none
theorem zwA{l key val r}:zkY l key val=some r->zm8 l key val=some r:=by
 unfold zkY;refine kas fun γ=>kb fun res h1=>kc (fun h2=>k1 fun h3=>kb fun ys h4=>kb fun ys1 h5=>ls [0,γ 1,((γ 2)+1)] ?_) fun h2=>k1 fun h3=>kb fun ys h4=>kb fun ys1 h5=>ls [0,γ 1,((γ 2)+1)] ?_
 all_goals (dsimp only[zcY,zfE]at *;show Ifc.apart IF_ _ zBe _=_;exact fin_)
def zoy(l:List Pair)(key:ByteArray)(val:ByteArray):Option (((List Pair)×Int)):=
 bif zaA zag 32 [] l then
  (zlr l key).bind fun res=>
  (zwe key).bind fun res1=>
  bif res1 then
   bif yab.ilt 512 (yab.slen val)then some (l,5)else
   bif yab.ile 0 res then
    (xget zag l res).bind fun x=>
    some (xset l res (⟨x.key,val⟩:Pair),0)
   else
    bif yab.ile 64 (xlen zag l)then some (l,10)else
    (zm8 l key val).bind fun r2=>
    some (r2,0)
  else
   some (l,7)
 else
  none
theorem zAx{l key val r}:zoy l key val=some r->zsG l key val=some r:=by
 unfold zoy;refine ka (k1 fun h1=>kb fun res h2=>kb fun res1 h3=>kc (fun h4=>kc (fun h5=>l0 rfl ?_) fun h5=>kc (fun h6=>kb fun x h7=>l0 rfl ?_) fun h6=>kc (fun h7=>l0 rfl ?_) fun h7=>ks [0,0,0] fun r2 γ3 h8=>l0 rfl ?_) fun h4=>l0 rfl ?_)
 all_goals (dsimp only[R1,R2,zfE]at *;show zah IF_ (zHs zu1) _ _=_;generalize zu1=c0 at *;exact fin_)
abbrev zka:=(Node×(List Entry)×(List Entry)×(List Finger)×(List Pair)×(List Pend)×(List Job)×(List Result)×(List Out))
def zeB(to_:Peer)(γ:Nat->Nat):zka->X×St
 |(a0,a1,a2,a3,a4,a5,a6,a7,a8)=>(.brk 0,⟨bd 4 (.bptr 0 0::bd 3 (.bptr 2 0::bd 1 (.sl 11 (γ 11)::bd 29 []))),[.box 34 (zal a0),.box 25 [vU to_.id,vH to_.addr],.box 34 ([vU 0,vH 0,vI 0,vF false,.lit 0 true [],.lit 0 true [],.lit 0 true [],.lit 0 true [],.lit 0 true [],.lit 0 true [],.lit 0 true [],vW 0,vI 0,vI 0]),.row 78 (γ 3) false (yac eOut []),.row 55 (γ 4) true (yac zab a1),.row 55 (γ 5) true (yac zab a2),.row 82 (γ 6) true (yac zaa a3),.row 76 (γ 7) true (yac zag a4),.row 36 (γ 8) true (yac zaI a5),.row 57 (γ 9) true (yac eJob a6),.row 74 (γ 10) true (yac zaf a7),.row 78 (γ 11) false (yac eOut a8)]⟩)
instance {to_}:InjS (zeB to_):=⟨by unfold zeB;exact ij_⟩
def zi5(to_:Peer)(fresh:Bool)(t18:List (List Pair))(t19:Int)(t20:Int)(b0:Node)(r4:List Entry)(r5:List Entry)(r6:List Finger)(r7:List Pair)(r8:List Pend)(r9:List Job)(r10:List Result)(r11:List Out):Option (zka):=asks (fun γ=>(lim F pr).loop [19,18,5,3,20,4,10,8] 12 ztg ⟨bd 3 (vF fresh:: .bptr 0 0:: .bptr 1 0::bd 2 (.bptr 2 0::bd 1 (.sl 11 (γ 11)::bd 7 (.lit 28 false (yac (eL 76 zag) t18)::vI t19::vI t20::bd 19 [])))),[.box 34 (zal b0),.box 25 [vU to_.id,vH to_.addr],.box 34 ([vU 0,vH 0,vI 0,vF false,.lit 0 true [],.lit 0 true [],.lit 0 true [],.lit 0 true [],.lit 0 true [],.lit 0 true [],.lit 0 true [],vW 0,vI 0,vI 0]),.row 78 (γ 3) false (yac eOut []),.row 55 (γ 4) true (yac zab r4),.row 55 (γ 5) true (yac zab r5),.row 82 (γ 6) true (yac zaa r6),.row 76 (γ 7) true (yac zag r7),.row 36 (γ 8) true (yac zaI r8),.row 57 (γ 9) true (yac eJob r9),.row 74 (γ 10) true (yac zaf r10),.row 78 (γ 11) false (yac eOut r11)]⟩) (zeB to_)
def zg8(to_:Peer)(fresh:Bool)(t18:List (List Pair))(t19:Int)(t20:Int)(b0:Node)(r4:List Entry)(r5:List Entry)(r6:List Finger)(r7:List Pair)(r8:List Pend)(r9:List Job)(r10:List Result)(r11:List Out):Option (zka):=
 bif yab.ilt t20 t19 then
  (xget (eL 76 zag) t18 t20).bind fun x=>
  (zjh b0 to_ (⟨10,0,0,fresh,0,⟨#[]⟩,⟨#[]⟩,(⟨0,0⟩:Peer),[],x⟩:Msg) 6 0).bind fun⟨r0,r1⟩=>
  bif zaA eOut 136 r11 r1 then
   zi5 to_ fresh t18 t19 (yab.iadd .i64 t20 1) r0 r4 r5 r6 r7 r8 r9 r10 (r11++r1)
  else
   none
 else
  some (b0,r4,r5,r6,r7,r8,r9,r10,r11)
theorem znQ{to_ fresh t18 t19 t20 b0 r4 r5 r6 r7 r8 r9 r10 r11 r}:zg8 to_ fresh t18 t19 t20 b0 r4 r5 r6 r7 r8 r9 r10 r11=some r->zi5 to_ fresh t18 t19 t20 b0 r4 r5 r6 r7 r8 r9 r10 r11=some r:=by
 unfold zg8;refine kas fun γ=>kc (fun h1=>kb fun x h2=>kb fun⟨r0,r1⟩ h3=>k1 fun h4=>lg [0,0,0,γ 3,γ 4,γ 5,γ 6,γ 7,γ 8,γ 9,γ 10,((γ 11)+1)] fun γ' h0=>?_) fun h1=>lr [0,0,0,γ 3,γ 4,γ 5,γ 6,γ 7,γ 8,γ 9,γ 10,γ 11] ?_
 all_goals (dsimp only[R2,zeB]at *;show zaz IF_ _ _ ztg zDN _=_;generalize ztg=c0 at *;exact fin_)
def zm6(n:Node)(to_:Peer)(l:List Pair)(fresh:Bool):Option ((Node×(List Out))):=
 (zdJ n).bind fun⟨zaD,zan,zaB,zas,zaF,zaH,zam,zav,zaq,zax,zak,zaM,zaC,zao⟩=>
 (xcut zag 76 l).bind fun cs=>
 (zi5 to_ fresh cs (xlen (eL 76 zag) cs) 0 (⟨(⟨zaD,zan⟩:Peer),zaB,zas,zaF,zaH,zam,zav,zaq,zax,zak,zaM,zaC,zao⟩:Node) zaF zaH zam zav zaq zax zak []).bind fun⟨b0,r4,r5,r6,r7,r8,r9,r10,r11⟩=>
 some (b0,r11)
theorem zzl{n to_ l fresh r}:zm6 n to_ l fresh=some r->zqM n to_ l fresh=some r:=by
 unfold zm6;refine ka (kb fun⟨zaD,zan,zaB,zas,zaF,zaH,zam,zav,zaq,zax,zak,zaM,zaC,zao⟩ h1=>kb fun cs h2=>ks [0,0,0,0,0,0,0,0,0,0,0,0] fun⟨b0,r4,r5,r6,r7,r8,r9,r10,r11⟩ γ2 h3=>l0 rfl ?_)
 all_goals (dsimp only[R2,zbC,zeB]at *;show zah IF_ (g99F ztg) _ _=_;generalize ztg=c0 at *;exact fin_)
def zrp(l:List Pair)(key:ByteArray):Option (Int):=
 zmv l key
theorem zxL{l key r}:zrp l key=some r->zlr l key=some r:=by
 unfold zrp;refine ka (pb fun res h1=>l0 rfl ?_)
 all_goals (dsimp only[zcZ,R1]at *;show zah IF_ zHC _ _=_;exact fin_)
def zgE(γ:Nat->Nat):Int⊕Unit->X×St
 | .inl a0=>(.ret,⟨bd 4 (vI a0::bd 15 []),[]⟩)
 | .inr ()=>(.brk 0,⟨bd 20 [],[]⟩)
instance :InjS zgE:=⟨by unfold zgE;exact ij_⟩
def zlm(l:List Job)(id:Int)(i:Int):Option (Int⊕Unit):=asks (fun γ=>(lim F pr).loop [0,1,5] 0 zoQ ⟨.lit 57 false (yac eJob l)::vI id::bd 3 (vI i::bd 14 []),[]⟩) zgE
def zgD(l:List Job)(id:Int)(i:Int):Option (Int⊕Unit):=
 bif yab.ilt i (xlen eJob l)then
  (xget eJob l i).bind fun x=>
  bif yab.ieq x.id id then some (.inl i)else
  zlm l id (yab.iadd .i64 i 1)
 else
  some (.inr ())
theorem zl0{l id i r}:zgD l id i=some r->zlm l id i=some r:=by
 unfold zgD;refine kas fun γ=>kc (fun h1=>kb fun x h2=>kc (fun h3=>lr [] ?_) fun h3=>lg [] fun γ' h0=>?_) fun h1=>lr [] ?_
 all_goals (dsimp only[zgE]at *;show zaz IF_ _ _ zoQ zA1 _=_;generalize zoQ=c0 at *;exact fin_)
def zqy(l:List Job)(id:Int):Option (Int):=
 (zlm l id 0).bind fun r=>match r with
  | .inl t4=>
   some t4
  | .inr ()=>
   some (-1)
theorem zCZ{l id r}:zqy l id=some r->zmY l id=some r:=by
 unfold zqy;refine ka (ks [] fun| .inl t4,γ1,h1=>(l0 rfl ?_)| .inr _,γ1,h1=>(l0 rfl ?_))
 all_goals (dsimp only[R1,zgE]at *;show zah IF_ (zHf zoQ) _ _=_;generalize zoQ=c0 at *;exact fin_)
def zhF(n:Node)(j:Job)(γ:Nat->Nat):(List Job)->X×St
 |a0=>(.brk 0,⟨bd 2 (.bptr 0 0::bd 1 (.bptr 2 0::bd 1 (.sl 3 (γ 3)::bd 31 []))),[.box 34 (zal n),.box 57 (cJob j),.box 34 ([vU 0,vH 0,vI 0,vF false,.lit 0 true [],.lit 0 true [],.lit 0 true [],.lit 0 true [],.lit 0 true [],.lit 0 true [],.lit 0 true [],vW 0,vI 0,vI 0]),.row 57 (γ 3) false (yac eJob a0)]⟩)
instance {n j}:InjS (zhF n j):=⟨by unfold zhF;exact ij_⟩
def zh9(n:Node)(j:Job)(at_:Int)(i:Int)(r3:List Job):Option ((List Job)):=asks (fun γ=>(lim F pr).loop [5,3,7,6,2,4] 4 zoR ⟨bd 2 (.bptr 0 0:: .bptr 1 0:: .bptr 2 0::vI at_:: .sl 3 (γ 3)::vI i::bd 30 []),[.box 34 (zal n),.box 57 (cJob j),.box 34 ([vU 0,vH 0,vI 0,vF false,.lit 0 true [],.lit 0 true [],.lit 0 true [],.lit 0 true [],.lit 0 true [],.lit 0 true [],.lit 0 true [],vW 0,vI 0,vI 0]),.row 57 (γ 3) false (yac eJob r3)]⟩) (zhF n j)
def zj1(n:Node)(j:Job)(at_:Int)(i:Int)(r3:List Job):Option ((List Job)):=
 bif yab.ilt i (xlen eJob n.jobs)then
  bif yab.ieq i at_ then
   bif zaA eJob 128 r3 [j]then zh9 n j at_ (yab.iadd .i64 i 1) (r3++[j])else
   none
  else
   (xget eJob n.jobs i).bind fun x=>
   bif zaA eJob 128 r3 [x]then zh9 n j at_ (yab.iadd .i64 i 1) (r3++[x])else
   none
 else
  some r3
theorem zsr{n j at_ i r3 r}:zj1 n j at_ i r3=some r->zh9 n j at_ i r3=some r:=by
 unfold zj1;refine kas fun γ=>kc (fun h1=>kc (fun h2=>k1 fun h3=>lg [0,0,0,((γ 3)+1)] fun γ' h0=>?_) fun h2=>kb fun x h3=>k1 fun h4=>lg [0,0,0,((γ 3)+1)] fun γ' h0=>?_) fun h1=>lr [0,0,0,γ 3] ?_
 all_goals (dsimp only[zhF]at *;show zaz IF_ _ _ zoR zA2 _=_;generalize zoR=c0 at *;exact fin_)
def zsq(n:Node)(j:Job):Option (Node):=
 (zmY n.jobs j.id).bind fun res=>
 (zh9 n j res 0 []).bind fun r3=>
 some (⟨n.me,n.clock,n.joined,n.pred,n.list,n.fingers,n.store,n.pends,r3,n.results,n.rid,n.jobID,n.nextBit⟩:Node)
theorem zEG{n j r}:zsq n j=some r->zfA n j=some r:=by
 unfold zsq;refine ka (kb fun res h1=>ks [0,0,0,0] fun r3 γ2 h2=>l0 rfl ?_)
 all_goals (dsimp only[R1,zhF]at *;show zah IF_ (zHg zoR) _ _=_;generalize zoR=c0 at *;exact fin_)
def zsw(n:Node)(j:Job)(has:Bool)(val:ByteArray)(e_:Int):Option (Node):=
 zqz n j.id has val e_
theorem zzc{n j has val e_ r}:zsw n j has val e_=some r->zcu n j has val e_=some r:=by
 unfold zsw;refine ka (pb fun res h1=>l0 rfl ?_)
 all_goals (dsimp only[R1]at *;show zah IF_ zGI _ _=_;exact fin_)
end Go.Ab.Tryz
