/- Our texts for this statement, merged: what its theorem leads to. -/
import Derived.Test.YtdjoeakbjackbaaGreatDoorQLx10
set_option linter.unusedVariables false
set_option linter.unusedSimpArgs false
noncomputable section
namespace Go.Ab.Tryz
open Go Go.Ab Go.Proofs
set_option maxRecDepth 10000
set_option maxHeartbeats 4000000
open Go.Ab.Ops renaming std->yac
open List renaming map->yab
abbrev zk4:=((List Out)×Node×Node)⊕(Node×Job)
def zh8(n:Node)(id:Int)(m:Msg)(γ:Nat->Nat):zk4->X×St
 | .inl (a0,a1,a2)=>(.ret,⟨bd 6 (.bptr 2 0:: .lit 78 false (yab eOut a0)::bd 91 []),[.box 34 (zah a1),.box 39 [vI m.kind,vW m.rid,vB m.code,vF m.has,vU m.id,vT m.key,vT m.val,vU m.peer.id,vH m.peer.addr,.lit 25 false (yab zad m.peers),.lit 76 false (yab zag m.pairs)],.box 34 (zah a2),.row 78 (γ 3) false (yab eOut [])]⟩)
 | .inr (b0,b1)=>(.ret,⟨bd 6 (.bptr 2 0:: .sl 5 (γ 5)::bd 91 []),[.box 34 (zah n),.box 39 [vI m.kind,vW m.rid,vB m.code,vF m.has,vU m.id,vT m.key,vT m.val,vU m.peer.id,vH m.peer.addr,.lit 25 false (yab zad m.peers),.lit 76 false (yab zag m.pairs)],.box 34 (zah b0),.row 78 (γ 3) false (yab eOut []),.box 57 (cJob b1),.row 78 (γ 5) false (yab eOut [])]⟩)
instance {n id m}:InjS (zh8 n id m):=⟨by unfold zh8;exact ij_⟩
def zrj(n:Node)(id:Int)(m:Msg)(at_:Int):Option (zk4):=asks (fun γ=>(lim F pr).seg [6,7] zBL ⟨bd 3 (.bptr 0 0::bd 1 (.bptr 1 0:: .bptr 2 0::bd 1 (vI at_::bd 90 []))),[.box 34 (zah n),.box 39 [vI m.kind,vW m.rid,vB m.code,vF m.has,vU m.id,vT m.key,vT m.val,vU m.peer.id,vH m.peer.addr,.lit 25 false (yab zad m.peers),.lit 76 false (yab zag m.pairs)],.box 34 ([vU 0,vH 0,vI 0,vF false,.lit 0 true [],.lit 0 true [],.lit 0 true [],.lit 0 true [],.lit 0 true [],.lit 0 true [],.lit 0 true [],vW 0,vI 0,vI 0]),.row 78 (γ 3) false (yab eOut [])]⟩) (zh8 n id m)
def zh5(n:Node)(id:Int)(m:Msg)(γ:Nat->Nat):((List Out)×Node×Node×Job)⊕Job->X×St
 | .inl (a0,a1,a2,a3)=>(.ret,⟨bd 6 (.bptr 2 0:: .lit 78 false (yab eOut a0)::bd 91 []),[.box 34 (zah a1),.box 39 [vI m.kind,vW m.rid,vB m.code,vF m.has,vU m.id,vT m.key,vT m.val,vU m.peer.id,vH m.peer.addr,.lit 25 false (yab zad m.peers),.lit 76 false (yab zag m.pairs)],.box 34 (zah a2),.row 78 (γ 3) false (yab eOut []),.box 57 (cJob a3)]⟩)
 | .inr b0=>(.nor,⟨bd 3 (.bptr 0 0::bd 1 (.bptr 1 0:: .bptr 2 0::bd 2 (.bptr 4 0::bd 89 []))),[.box 34 (zah n),.box 39 [vI m.kind,vW m.rid,vB m.code,vF m.has,vU m.id,vT m.key,vT m.val,vU m.peer.id,vH m.peer.addr,.lit 25 false (yab zad m.peers),.lit 76 false (yab zag m.pairs)],.box 34 ([vU 0,vH 0,vI 0,vF false,.lit 0 true [],.lit 0 true [],.lit 0 true [],.lit 0 true [],.lit 0 true [],.lit 0 true [],.lit 0 true [],vW 0,vI 0,vI 0]),.row 78 (γ 3) false (yab eOut []),.box 57 (cJob b0)]⟩)
instance {n id m}:InjS (zh5 n id m):=⟨by unfold zh5;exact ij_⟩
def zkE(n:Node)(id:Int)(m:Msg)(t48:Bool)(b4:Job):Option (((List Out)×Node×Node×Job)⊕Job):=asks (fun γ=>(lim F pr).seg [9,5,3,6] zBI ⟨bd 3 (.bptr 0 0::bd 1 (.bptr 1 0:: .bptr 2 0::bd 2 (.bptr 4 0::bd 38 (vF t48::bd 50 [])))),[.box 34 (zah n),.box 39 [vI m.kind,vW m.rid,vB m.code,vF m.has,vU m.id,vT m.key,vT m.val,vU m.peer.id,vH m.peer.addr,.lit 25 false (yab zad m.peers),.lit 76 false (yab zag m.pairs)],.box 34 ([vU 0,vH 0,vI 0,vF false,.lit 0 true [],.lit 0 true [],.lit 0 true [],.lit 0 true [],.lit 0 true [],.lit 0 true [],.lit 0 true [],vW 0,vI 0,vI 0]),.row 78 (γ 3) false (yab eOut []),.box 57 (cJob b4)]⟩) (zh5 n id m)
def zh7(n:Node)(id:Int)(m:Msg)(γ:Nat->Nat):(Node×Job)->X×St
 |(a0,a1)=>(.ret,⟨bd 6 (.bptr 2 0:: .sl 5 (γ 5)::bd 91 []),[.box 34 (zah n),.box 39 [vI m.kind,vW m.rid,vB m.code,vF m.has,vU m.id,vT m.key,vT m.val,vU m.peer.id,vH m.peer.addr,.lit 25 false (yab zad m.peers),.lit 76 false (yab zag m.pairs)],.box 34 (zah a0),.row 78 (γ 3) false (yab eOut []),.box 57 (cJob a1),.row 78 (γ 5) false (yab eOut [])]⟩)
instance {n id m}:InjS (zh7 n id m):=⟨by unfold zh7;exact ij_⟩
def zkF(n:Node)(id:Int)(m:Msg)(b4:Job):Option ((Node×Job)):=asks (fun γ=>(lim F pr).seg [6,7] zBK ⟨bd 3 (.bptr 0 0::bd 1 (.bptr 1 0:: .bptr 2 0::bd 2 (.bptr 4 0::bd 89 []))),[.box 34 (zah n),.box 39 [vI m.kind,vW m.rid,vB m.code,vF m.has,vU m.id,vT m.key,vT m.val,vU m.peer.id,vH m.peer.addr,.lit 25 false (yab zad m.peers),.lit 76 false (yab zag m.pairs)],.box 34 ([vU 0,vH 0,vI 0,vF false,.lit 0 true [],.lit 0 true [],.lit 0 true [],.lit 0 true [],.lit 0 true [],.lit 0 true [],.lit 0 true [],vW 0,vI 0,vI 0]),.row 78 (γ 3) false (yab eOut []),.box 57 (cJob b4)]⟩) (zh7 n id m)
def zh6(n:Node)(id:Int)(m:Msg)(γ:Nat->Nat):(Node×Job)->X×St
 |(a0,a1)=>(.ret,⟨bd 6 (.bptr 2 0:: .sl 5 (γ 5)::bd 91 []),[.box 34 (zah n),.box 39 [vI m.kind,vW m.rid,vB m.code,vF m.has,vU m.id,vT m.key,vT m.val,vU m.peer.id,vH m.peer.addr,.lit 25 false (yab zad m.peers),.lit 76 false (yab zag m.pairs)],.box 34 (zah a0),.row 78 (γ 3) false (yab eOut []),.box 57 (cJob a1),.row 78 (γ 5) false (yab eOut [])]⟩)
instance {n id m}:InjS (zh6 n id m):=⟨by unfold zh6;exact ij_⟩
def znK(n:Node)(id:Int)(m:Msg)(b4:Job):Option ((Node×Job)):=asks (fun γ=>(lim F pr).seg [6,7] zBJ ⟨bd 3 (.bptr 0 0::bd 1 (.bptr 1 0:: .bptr 2 0::bd 2 (.bptr 4 0::bd 89 []))),[.box 34 (zah n),.box 39 [vI m.kind,vW m.rid,vB m.code,vF m.has,vU m.id,vT m.key,vT m.val,vU m.peer.id,vH m.peer.addr,.lit 25 false (yab zad m.peers),.lit 76 false (yab zag m.pairs)],.box 34 ([vU 0,vH 0,vI 0,vF false,.lit 0 true [],.lit 0 true [],.lit 0 true [],.lit 0 true [],.lit 0 true [],.lit 0 true [],.lit 0 true [],vW 0,vI 0,vI 0]),.row 78 (γ 3) false (yab eOut []),.box 57 (cJob b4)]⟩) (zh6 n id m)
def ze8(n:Node)(id:Int)(m:Msg)(at_:Int):Option (zk4):=
 (xget eJob n.jobs at_).bind fun x=>
 bif yac.ieq m.kind 12 then
  (zne n x (yac.iwrap .i64 m.code)).bind fun⟨r0,r1⟩=>
  some (.inl (r1,n,r0))
 else
  bif yac.ieq m.kind 4 then
   (zkE n id m (yac.ieq x.kind 1) x).bind fun r=>match r with
    | .inl (t7,b0,b2,b4)=>
     some (.inl (t7,b0,b2))
    | .inr b4=>
     (zkF n id m b4).bind fun⟨b2,b41⟩=>
     some (.inr (b2,b41))
  else
   (zkE n id m false x).bind fun r=>match r with
    | .inl (t7,b0,b2,b4)=>
     some (.inl (t7,b0,b2))
    | .inr b4=>
     (zkF n id m b4).bind fun⟨b2,b41⟩=>
     some (.inr (b2,b41))
theorem zk5{n id m at_ r}:ze8 n id m at_=some r->zrj n id m at_=some r:=by
 unfold ze8;refine kas fun γ=>kb fun x h1=>kc (fun h2=>kb fun⟨r0,r1⟩ h3=>ls [0,0,0,γ 3] ?_) fun h2=>kc (fun h3=>ks [0,0,0,γ 3] fun| .inl ⟨t7,b0,b2,b4⟩,γ1,h4=>(ls [0,0,0,γ1 3] ?_)| .inr b4,γ1,h4=>(ks [0,0,0,γ1 3] fun⟨b2,b41⟩ γ2 h5=>ls [0,0,0,γ2 3,0,γ2 5] ?_)) fun h3=>ks [0,0,0,γ 3] fun| .inl ⟨t7,b0,b2,b4⟩,γ1,h4=>(ls [0,0,0,γ1 3] ?_)| .inr b4,γ1,h4=>(ks [0,0,0,γ1 3] fun⟨b2,b41⟩ γ2 h5=>ls [0,0,0,γ2 3,0,γ2 5] ?_)
 all_goals (dsimp only[R2,zh5,zh7,zh8]at *;show Ifc.apart IF_ _ (zH4 zBI zBK) _=_;generalize zBI=c0,zBK=c1 at *;exact fin_)
def zk3(n:Node)(id:Int)(m:Msg)(t48:Bool)(b4:Job):Option (((List Out)×Node×Node×Job)⊕Job):=
 bif t48 then
  (zbv n b4 false ⟨#[]⟩ 0).bind fun res=>
  (zsk res.me res.list b4.at_).bind fun res1=>
  (zil (⟨res.me,res.clock,true,res.pred,res1,res.fingers,res.store,res.pends,res.jobs,res.results,res.rid,res.jobID,res.nextBit⟩:Node) b4.at_ (⟨5,0,0,false,0,⟨#[]⟩,⟨#[]⟩,res.me,[],[]⟩:Msg) 2 0).bind fun⟨r0,r1⟩=>
  some (.inl (r1,(⟨res.me,res.clock,true,res.pred,res1,res.fingers,res.store,res.pends,res.jobs,res.results,res.rid,res.jobID,res.nextBit⟩:Node),r0,b4))
 else
  some (.inr b4)
theorem zuh{n id m t48 b4 r}:zk3 n id m t48 b4=some r->zkE n id m t48 b4=some r:=by
 unfold zk3;refine kas fun γ=>kc (fun h1=>kb fun res h2=>kb fun res1 h3=>kb fun⟨r0,r1⟩ h4=>ls [0,0,0,γ 3] ?_) fun h1=>ls [0,0,0,γ 3] ?_
 all_goals (dsimp only[R1,R2,zh5]at *;show Ifc.apart IF_ _ zH1 _=_;exact fin_)
def zoy(n:Node)(id:Int)(m:Msg)(b4:Job):Option ((Node×Job)):=
 bif yac.ieq m.kind 6 then
  bif yac.ieq b4.kind 2 then
   (zbv n b4 true b4.val 0).bind fun res=>
   some (res,b4)
  else
   znK n id m b4
 else
  znK n id m b4
theorem zBd{n id m b4 r}:zoy n id m b4=some r->zkF n id m b4=some r:=by
 unfold zoy;refine kas fun γ=>kc (fun h1=>kc (fun h2=>kb fun res h3=>ls [0,0,0,γ 3,0,0] ?_) fun h2=>ps [0,0,0,γ 3] fun⟨b2,b41⟩ γ1 h3=>ls [0,0,0,γ1 3,0,γ1 5] ?_) fun h1=>ps [0,0,0,γ 3] fun⟨b2,b41⟩ γ1 h2=>ls [0,0,0,γ1 3,0,γ1 5] ?_
 all_goals (dsimp only[R1,zh6,zh7]at *;show Ifc.apart IF_ _ (zH3 zBJ) _=_;generalize zBJ=c0 at *;exact fin_)
def zox(n:Node)(id:Int)(m:Msg)(b4:Job):Option ((Node×Job)):=
 bif yac.ieq m.kind 9 then
  bif yac.ieq b4.kind 3 then
   (zbv n b4 m.has m.val 0).bind fun res=>
   some (res,b4)
  else
   some (n,b4)
 else
  some (n,b4)
theorem zBc{n id m b4 r}:zox n id m b4=some r->znK n id m b4=some r:=by
 unfold zox;refine kas fun γ=>kc (fun h1=>kc (fun h2=>kb fun res h3=>ls [0,0,0,γ 3,0,0] ?_) fun h2=>ls [0,0,0,γ 3,0,0] ?_) fun h1=>ls [0,0,0,γ 3,0,0] ?_
 all_goals (dsimp only[R1,zh6]at *;show Ifc.apart IF_ _ zH2 _=_;exact fin_)
def ztB(n:Node)(id:Int)(m:Msg):Option ((Node×(List Out))):=
 (zqy n id).bind fun res=>
 bif yac.ilt res 0 then some (n,[])else
 (xget eJob n.jobs res).bind fun x=>
 bif x.doing then
  (zrj n id m res).bind fun r=>match r with
   | .inl (t7,b0,b2)=>
    some (b2,t7)
   | .inr (b2,b4)=>
    some (b2,[])
 else
  some (n,[])
theorem zHh{n id m r}:ztB n id m=some r->znb n id m=some r:=by
 unfold ztB;refine ka (kb fun res h1=>kc (fun h2=>l0 rfl ?_) fun h2=>kb fun x h3=>kc (fun h4=>ks [0,0,0,0] fun| .inl ⟨t7,b0,b2⟩,γ2,h5=>(l0 rfl ?_)| .inr ⟨b2,b4⟩,γ2,h5=>(l0 rfl ?_)) fun h4=>l0 rfl ?_)
 all_goals (dsimp only[R1,R2,zh8]at *;show zak IF_ (g54F zBL) _ _=_;generalize zBL=c0 at *;(try dsimp only[zad,zaa,zab,zag,zaL,eJob,zaj,zaI,eMsg,eOut,zbE,cJob,zah,cMsg,zau,capp]at *);(try simp only[List.map_cons,List.map_nil]at *);(try generalize x.doing=q0 at *);exact fin_)
def zhL(γ:Nat->Nat):Unit⊕Unit->X×St
 | .inl ()=>(.ret,⟨bd 4 (vF false::bd 21 []),[]⟩)
 | .inr ()=>(.brk 0,⟨bd 26 [],[]⟩)
instance :InjS zhL:=⟨by unfold zhL;exact ij_⟩
def znB(a:List Entry)(b:List Entry)(i:Int):Option (Unit⊕Unit):=asks (fun γ=>(lim F pr).loop [0,1,5] 0 zwk ⟨.lit 55 false (yab zaa a):: .lit 55 false (yab zaa b)::bd 3 (vI i::bd 20 []),[]⟩) zhL
def zhK(a:List Entry)(b:List Entry)(i:Int):Option (Unit⊕Unit):=
 bif yac.ilt i (xlen zaa a)then
  (xget zaa a i).bind fun x=>
  (xget zaa b i).bind fun x1=>
  bif yac.ieq x.peer.id x1.peer.id then
   bif yac.ieq x.peer.addr x1.peer.addr then
    bif yac.ieq x.misses x1.misses then znB a b (yac.iadd .i64 i 1)else
    some (.inl ())
   else
    some (.inl ())
  else
   some (.inl ())
 else
  some (.inr ())
theorem zoi{a b i r}:zhK a b i=some r->znB a b i=some r:=by
 unfold zhK;refine kas fun γ=>kc (fun h1=>kb fun x h2=>kb fun x1 h3=>kc (fun h4=>kc (fun h5=>kc (fun h6=>lg [] fun γ' h0=>?_) fun h6=>lr [] ?_) fun h5=>lr [] ?_) fun h4=>lr [] ?_) fun h1=>lr [] ?_
 all_goals (dsimp only[zhL]at *;show zaE IF_ _ _ zwk zH5 _=_;generalize zwk=c0 at *;exact fin_)
def zto(a:List Entry)(b:List Entry):Option (Bool):=
 bif yac.ieq (xlen zaa a) (xlen zaa b)then
  (znB a b 0).bind fun r=>match r with
   | .inl ()=>
    some false
   | .inr ()=>
    some true
 else
  some false
theorem zG1{a b r}:zto a b=some r->ztn a b=some r:=by
 unfold zto;refine ka (kc (fun h1=>ks [] fun| .inl _,γ1,h2=>(l0 rfl ?_)| .inr _,γ1,h2=>(l0 rfl ?_)) fun h1=>l0 rfl ?_)
 all_goals (dsimp only[R1,zhL]at *;show zak IF_ (g55F zwk) _ _=_;generalize zwk=c0 at *;exact fin_)
def zhQ(γ:Nat->Nat):Unit⊕Unit->X×St
 | .inl ()=>(.ret,⟨bd 4 (vF false::bd 21 []),[]⟩)
 | .inr ()=>(.brk 0,⟨bd 26 [],[]⟩)
instance :InjS zhQ:=⟨by unfold zhQ;exact ij_⟩
def znD(a:List Finger)(b:List Finger)(i:Int):Option (Unit⊕Unit):=asks (fun γ=>(lim F pr).loop [0,1,5] 0 zwl ⟨.lit 82 false (yab zab a):: .lit 82 false (yab zab b)::bd 3 (vI i::bd 20 []),[]⟩) zhQ
def zkW(a:List Finger)(b:List Finger)(i:Int):Option (Unit⊕Unit):=
 bif yac.ilt i (xlen zab a)then
  (xget zab a i).bind fun x=>
  (xget zab b i).bind fun x1=>
  bif yac.ieq x.bit x1.bit then
   bif yac.ieq x.peer.id x1.peer.id then
    bif yac.ieq x.peer.addr x1.peer.addr then znD a b (yac.iadd .i64 i 1)else
    some (.inl ())
   else
    some (.inl ())
  else
   some (.inl ())
 else
  some (.inr ())
theorem zt8{a b i r}:zkW a b i=some r->znD a b i=some r:=by
 unfold zkW;refine kas fun γ=>kc (fun h1=>kb fun x h2=>kb fun x1 h3=>kc (fun h4=>kc (fun h5=>kc (fun h6=>lg [] fun γ' h0=>?_) fun h6=>lr [] ?_) fun h5=>lr [] ?_) fun h4=>lr [] ?_) fun h1=>lr [] ?_
 all_goals (dsimp only[zhQ]at *;show zaE IF_ _ _ zwl zH6 _=_;generalize zwl=c0 at *;exact fin_)
def ztq(a:List Finger)(b:List Finger):Option (Bool):=
 bif yac.ieq (xlen zab a) (xlen zab b)then
  (znD a b 0).bind fun r=>match r with
   | .inl ()=>
    some false
   | .inr ()=>
    some true
 else
  some false
theorem zG4{a b r}:ztq a b=some r->zxC a b=some r:=by
 unfold ztq;refine ka (kc (fun h1=>ks [] fun| .inl _,γ1,h2=>(l0 rfl ?_)| .inr _,γ1,h2=>(l0 rfl ?_)) fun h1=>l0 rfl ?_)
 all_goals (dsimp only[R1,zhQ]at *;show zak IF_ (g56F zwl) _ _=_;generalize zwl=c0 at *;exact fin_)
def zgw(γ:Nat->Nat):Unit⊕Unit->X×St
 | .inl ()=>(.ret,⟨bd 4 (vF false::bd 21 []),[]⟩)
 | .inr ()=>(.brk 0,⟨bd 26 [],[]⟩)
instance :InjS zgw:=⟨by unfold zgw;exact ij_⟩
def zl3(a:List Pair)(b:List Pair)(i:Int):Option (Unit⊕Unit):=asks (fun γ=>(lim F pr).loop [0,1,5] 0 zwm ⟨.lit 76 false (yab zag a):: .lit 76 false (yab zag b)::bd 3 (vI i::bd 20 []),[]⟩) zgw
def zgv(a:List Pair)(b:List Pair)(i:Int):Option (Unit⊕Unit):=
 bif yac.ilt i (xlen zag a)then
  (xget zag a i).bind fun x=>
  (xget zag b i).bind fun x1=>
  bif yac.seq x.key x1.key then
   bif yac.seq x.val x1.val then zl3 a b (yac.iadd .i64 i 1)else
   some (.inl ())
  else
   some (.inl ())
 else
  some (.inr ())
theorem zm7{a b i r}:zgv a b i=some r->zl3 a b i=some r:=by
 unfold zgv;refine kas fun γ=>kc (fun h1=>kb fun x h2=>kb fun x1 h3=>kc (fun h4=>kc (fun h5=>lg [] fun γ' h0=>?_) fun h5=>lr [] ?_) fun h4=>lr [] ?_) fun h1=>lr [] ?_
 all_goals (dsimp only[zgw]at *;show zaE IF_ _ _ zwm zH7 _=_;generalize zwm=c0 at *;exact fin_)
def zq6(a:List Pair)(b:List Pair):Option (Bool):=
 bif yac.ieq (xlen zag a) (xlen zag b)then
  (zl3 a b 0).bind fun r=>match r with
   | .inl ()=>
    some false
   | .inr ()=>
    some true
 else
  some false
theorem zEj{a b r}:zq6 a b=some r->zqp a b=some r:=by
 unfold zq6;refine ka (kc (fun h1=>ks [] fun| .inl _,γ1,h2=>(l0 rfl ?_)| .inr _,γ1,h2=>(l0 rfl ?_)) fun h1=>l0 rfl ?_)
 all_goals (dsimp only[R1,zgw]at *;show zak IF_ (g57F zwm) _ _=_;generalize zwm=c0 at *;exact fin_)
def zgE(γ:Nat->Nat):Unit⊕Unit->X×St
 | .inl ()=>(.ret,⟨bd 4 (vF false::bd 21 []),[]⟩)
 | .inr ()=>(.brk 0,⟨bd 26 [],[]⟩)
instance :InjS zgE:=⟨by unfold zgE;exact ij_⟩
def zme(a:List Pend)(b:List Pend)(i:Int):Option (Unit⊕Unit):=asks (fun γ=>(lim F pr).loop [0,1,5] 0 zwn ⟨.lit 36 false (yab zaL a):: .lit 36 false (yab zaL b)::bd 3 (vI i::bd 20 []),[]⟩) zgE
def zjZ(a:List Pend)(b:List Pend)(i:Int):Option (Unit⊕Unit):=
 bif yac.ilt i (xlen zaL a)then
  (xget zaL a i).bind fun x=>
  (xget zaL b i).bind fun x1=>
  bif yac.ieq x.rid x1.rid then
   bif yac.ieq x.kind x1.kind then
    bif yac.ieq x.why x1.why then
     bif yac.ieq x.job x1.job then
      bif yac.ieq x.to_.id x1.to_.id then
       bif yac.ieq x.to_.addr x1.to_.addr then
        bif yac.ieq x.due x1.due then zme a b (yac.iadd .i64 i 1)else
        some (.inl ())
       else
        some (.inl ())
      else
       some (.inl ())
     else
      some (.inl ())
    else
     some (.inl ())
   else
    some (.inl ())
  else
   some (.inl ())
 else
  some (.inr ())
theorem zsm{a b i r}:zjZ a b i=some r->zme a b i=some r:=by
 unfold zjZ;refine kas fun γ=>kc (fun h1=>kb fun x h2=>kb fun x1 h3=>kc (fun h4=>kc (fun h5=>kc (fun h6=>kc (fun h7=>kc (fun h8=>kc (fun h9=>kc (fun h10=>lg [] fun γ' h0=>?_) fun h10=>lr [] ?_) fun h9=>lr [] ?_) fun h8=>lr [] ?_) fun h7=>lr [] ?_) fun h6=>lr [] ?_) fun h5=>lr [] ?_) fun h4=>lr [] ?_) fun h1=>lr [] ?_
 all_goals (dsimp only[zgE]at *;show zaE IF_ _ _ zwn zH8 _=_;generalize zwn=c0 at *;exact fin_)
def zrc(a:List Pend)(b:List Pend):Option (Bool):=
 bif yac.ieq (xlen zaL a) (xlen zaL b)then
  (zme a b 0).bind fun r=>match r with
   | .inl ()=>
    some false
   | .inr ()=>
    some true
 else
  some false
theorem zEt{a b r}:zrc a b=some r->zvw a b=some r:=by
 unfold zrc;refine ka (kc (fun h1=>ks [] fun| .inl _,γ1,h2=>(l0 rfl ?_)| .inr _,γ1,h2=>(l0 rfl ?_)) fun h1=>l0 rfl ?_)
 all_goals (dsimp only[R1,zgE]at *;show zak IF_ (g58F zwn) _ _=_;generalize zwn=c0 at *;exact fin_)
def zhW(a:Node)(b:Node)(γ:Nat->Nat):Bool->X×St
 |a0=>(.ret,⟨bd 4 (vF a0::bd 54 []),[.box 34 (zah a),.box 34 (zah b)]⟩)
instance {a b}:InjS (zhW a b):=⟨by unfold zhW;exact ij_⟩
def zwZ(a:Node)(b:Node):Option (Bool):=asks (fun γ=>(lim F pr).seg [4] zBM ⟨bd 2 (.bptr 0 0:: .bptr 1 0::bd 55 []),[.box 34 (zah a),.box 34 (zah b)]⟩) (zhW a b)
def zhU(a:Node)(b:Node)(γ:Nat->Nat):Unit⊕Unit->X×St
 | .inl ()=>(.ret,⟨bd 4 (vF false::bd 54 []),[.box 34 (zah a),.box 34 (zah b)]⟩)
 | .inr ()=>(.brk 0,⟨bd 2 (.bptr 0 0:: .bptr 1 0::bd 55 []),[.box 34 (zah a),.box 34 (zah b)]⟩)
instance {a b}:InjS (zhU a b):=⟨by unfold zhU;exact ij_⟩
def znF(a:Node)(b:Node)(i:Int):Option (Unit⊕Unit):=asks (fun γ=>(lim F pr).loop [5,2,3] 2 zwo ⟨bd 2 (.bptr 0 0:: .bptr 1 0::bd 1 (vI i::bd 53 [])),[.box 34 (zah a),.box 34 (zah b)]⟩) (zhU a b)
def zhV(a:Node)(b:Node)(γ:Nat->Nat):Unit⊕Unit->X×St
 | .inl ()=>(.ret,⟨bd 4 (vF false::bd 54 []),[.box 34 (zah a),.box 34 (zah b)]⟩)
 | .inr ()=>(.brk 2,⟨bd 59 [],[.box 34 (zah a),.box 34 (zah b)]⟩)
instance {a b}:InjS (zhV a b):=⟨by unfold zhV;exact ij_⟩
def znG(a:Node)(b:Node)(i:Int):Option (Unit⊕Unit):=asks (fun γ=>(lim F pr).loop [2,3,6] 2 zwp ⟨bd 2 (.bptr 0 0:: .bptr 1 0::bd 2 (vI i::bd 52 [])),[.box 34 (zah a),.box 34 (zah b)]⟩) (zhV a b)
def zoq(a:Node)(b:Node):Option (Bool):=
 (znF a b 0).bind fun r=>match r with
  | .inl ()=>
   some false
  | .inr ()=>
   (znG a b 0).bind fun r=>match r with
    | .inl ()=>
     some false
    | .inr ()=>
     some true
theorem zA3{a b r}:zoq a b=some r->zwZ a b=some r:=by
 unfold zoq;refine kas fun γ=>ks [] fun| .inl _,γ1,h1=>(ls [] ?_)| .inr _,γ1,h1=>(ks [] fun| .inl _,γ2,h2=>(ls [] ?_)| .inr _,γ2,h2=>(ls [] ?_))
 all_goals (dsimp only[zhU,zhV,zhW]at *;show Ifc.apart IF_ _ (zIb zwo zwp) _=_;generalize zwo=c0,zwp=c1 at *;exact fin_)
def zkY(a:Node)(b:Node)(i:Int):Option (Unit⊕Unit):=
 bif yac.ilt i (xlen eJob a.jobs)then
  (xget eJob a.jobs i).bind fun x=>
  (xget eJob b.jobs i).bind fun x1=>
  bif yac.ieq x.id x1.id then
   bif yac.ieq x.kind x1.kind then
    bif yac.ieq x.bit x1.bit then
     bif yac.seq x.key x1.key then
      bif yac.seq x.val x1.val then
       bif yac.ieq x.target x1.target then
        bif yac.ieq x.via.id x1.via.id then
         bif yac.ieq x.via.addr x1.via.addr then
          bif yac.ieq x.at_.id x1.at_.id then
           bif yac.ieq x.at_.addr x1.at_.addr then
            bif yac.beq x.doing x1.doing then
             bif yac.ieq x.hops x1.hops then
              bif yac.ieq x.tries x1.tries then
               bif yac.ieq x.due x1.due then znF a b (yac.iadd .i64 i 1)else
               some (.inl ())
              else
               some (.inl ())
             else
              some (.inl ())
            else
             some (.inl ())
           else
            some (.inl ())
          else
           some (.inl ())
         else
          some (.inl ())
        else
         some (.inl ())
       else
        some (.inl ())
      else
       some (.inl ())
     else
      some (.inl ())
    else
     some (.inl ())
   else
    some (.inl ())
  else
   some (.inl ())
 else
  some (.inr ())
theorem zub{a b i r}:zkY a b i=some r->znF a b i=some r:=by
 unfold zkY;refine kas fun γ=>kc (fun h1=>kb fun x h2=>kb fun x1 h3=>kc (fun h4=>kc (fun h5=>kc (fun h6=>kc (fun h7=>kc (fun h8=>kc (fun h9=>kc (fun h10=>kc (fun h11=>kc (fun h12=>kc (fun h13=>kc (fun h14=>kc (fun h15=>kc (fun h16=>kc (fun h17=>lg [] fun γ' h0=>?_) fun h17=>lr [] ?_) fun h16=>lr [] ?_) fun h15=>lr [] ?_) fun h14=>lr [] ?_) fun h13=>lr [] ?_) fun h12=>lr [] ?_) fun h11=>lr [] ?_) fun h10=>lr [] ?_) fun h9=>lr [] ?_) fun h8=>lr [] ?_) fun h7=>lr [] ?_) fun h6=>lr [] ?_) fun h5=>lr [] ?_) fun h4=>lr [] ?_) fun h1=>lr [] ?_
 all_goals (dsimp only[zhU]at *;show zaE IF_ _ _ zwo zH9 _=_;generalize zwo=c0 at *;exact fin_)
def zkZ(a:Node)(b:Node)(i:Int):Option (Unit⊕Unit):=
 bif yac.ilt i (xlen zaj a.results)then
  (xget zaj a.results i).bind fun x=>
  (xget zaj b.results i).bind fun x1=>
  bif yac.ieq x.job x1.job then
   bif yac.ieq x.kind x1.kind then
    bif yac.seq x.key x1.key then
     bif yac.seq x.val x1.val then
      bif yac.beq x.has x1.has then
       bif yac.ieq x.err x1.err then znG a b (yac.iadd .i64 i 1)else
       some (.inl ())
      else
       some (.inl ())
     else
      some (.inl ())
    else
     some (.inl ())
   else
    some (.inl ())
  else
   some (.inl ())
 else
  some (.inr ())
theorem zuc{a b i r}:zkZ a b i=some r->znG a b i=some r:=by
 unfold zkZ;refine kas fun γ=>kc (fun h1=>kb fun x h2=>kb fun x1 h3=>kc (fun h4=>kc (fun h5=>kc (fun h6=>kc (fun h7=>kc (fun h8=>kc (fun h9=>lg [] fun γ' h0=>?_) fun h9=>lr [] ?_) fun h8=>lr [] ?_) fun h7=>lr [] ?_) fun h6=>lr [] ?_) fun h5=>lr [] ?_) fun h4=>lr [] ?_) fun h1=>lr [] ?_
 all_goals (dsimp only[zhV]at *;show zaE IF_ _ _ zwp zIa _=_;generalize zwp=c0 at *;exact fin_)
def ztu(a:Node)(b:Node):Option (Bool):=
 bif yac.ieq (xlen eJob a.jobs) (xlen eJob b.jobs)then
  bif yac.ieq (xlen zaj a.results) (xlen zaj b.results)then zwZ a b else
  some false
 else
  some false
theorem zHb{a b r}:ztu a b=some r->zxD a b=some r:=by
 unfold ztu;refine ka (kc (fun h1=>kc (fun h2=>ps [] fun t4 γ1 h3=>l0 rfl ?_) fun h2=>l0 rfl ?_) fun h1=>l0 rfl ?_)
 all_goals (dsimp only[R1,zhW]at *;show zak IF_ (g59F zBM) _ _=_;generalize zBM=c0 at *;exact fin_)
def zti(a:Msg)(b:Msg):Option (Bool):=
 bif yac.ieq a.kind b.kind then
  bif yac.ieq a.rid b.rid then
   bif yac.ieq a.code b.code then
    bif yac.beq a.has b.has then
     bif yac.ieq a.id b.id then
      bif yac.seq a.key b.key then
       bif yac.seq a.val b.val then
        bif yac.ieq a.peer.id b.peer.id then
         bif yac.ieq a.peer.addr b.peer.addr then
          (zqq a.peers b.peers).bind fun res=>
          bif res then zqp a.pairs b.pairs else
          some false
         else
          some false
        else
         some false
       else
        some false
      else
       some false
     else
      some false
    else
     some false
   else
    some false
  else
   some false
 else
  some false
theorem zGX{a b r}:zti a b=some r->zxz a b=some r:=by
 unfold zti;refine ka (kc (fun h1=>kc (fun h2=>kc (fun h3=>kc (fun h4=>kc (fun h5=>kc (fun h6=>kc (fun h7=>kc (fun h8=>kc (fun h9=>kb fun res h10=>kc (fun h11=>pb fun res1 h12=>l0 rfl ?_) fun h11=>l0 rfl ?_) fun h9=>l0 rfl ?_) fun h8=>l0 rfl ?_) fun h7=>l0 rfl ?_) fun h6=>l0 rfl ?_) fun h5=>l0 rfl ?_) fun h4=>l0 rfl ?_) fun h3=>l0 rfl ?_) fun h2=>l0 rfl ?_) fun h1=>l0 rfl ?_)
 all_goals (dsimp only[R1]at *;show zak IF_ g60F _ _=_;exact fin_)
def zoe(me:Peer)(a:Peer)(b:Peer):Option (Bool):=
 (zjo me.id a.id).bind fun res=>
 (zjo me.id b.id).bind fun res1=>
 bif yac.ilt res res1 then some true else
 bif yac.ieq res res1 then some (yac.ilt a.addr b.addr)else
 some false
theorem zAR{me a b r}:zoe me a b=some r->znx me a b=some r:=by
 unfold zoe;refine ka (kb fun res h1=>kb fun res1 h2=>kc (fun h3=>l0 rfl ?_) fun h3=>kc (fun h4=>l0 rfl ?_) fun h4=>l0 rfl ?_)
 all_goals (dsimp only[R1]at *;show zak IF_ g76F _ _=_;exact fin_)
def zfn(γ:Nat->Nat):(List Entry)⊕(Int×(List Entry))->X×St
 | .inl a0=>(.ret,⟨bd 4 (.sl 1 (γ 1)::bd 40 []),[.row 55 (γ 0) false (yab zaa []),.row 55 (γ 1) false (yab zaa a0)]⟩)
 | .inr (b0,b1)=>(.nor,⟨bd 5 (.sl 1 (γ 1)::vI b0::bd 38 []),[.row 55 (γ 0) false (yab zaa []),.row 55 (γ 1) false (yab zaa b1)]⟩)
instance :InjS zfn:=⟨by unfold zfn;exact ij_⟩
def zkP(i:Int)(r1:List Entry):Option ((List Entry)⊕(Int×(List Entry))):=asks (fun γ=>(lim F pr).seg [6,5] zBN ⟨bd 5 (.sl 1 (γ 1)::vI i::bd 38 []),[.row 55 (γ 0) false (yab zaa []),.row 55 (γ 1) false (yab zaa r1)]⟩) zfn
def zl2(i:Int)(r1:List Entry):Option ((List Entry)⊕(Int×(List Entry))):=
 (xget zaa r1 i).bind fun x=>
 bif yac.ile 2 x.misses then
  (zo1 i (yac.iadd .i64 i 1) r1).bind fun r0=>
  some (.inl r0)
 else
  some (.inr (i,r1))
theorem zyO{i r1 r}:zl2 i r1=some r->zkP i r1=some r:=by
 unfold zl2;refine kas fun γ=>kb fun x h1=>kc (fun h2=>ks [γ 1] fun r0 γ1 h3=>ls [γ 0,γ1 0] ?_) fun h2=>ls [γ 0,γ 1] ?_
 all_goals (dsimp only[zf2,zfn]at *;show Ifc.apart IF_ _ zIc _=_;exact fin_)
def zpq(l:List Entry)(addr:Int):Option ((List Entry)):=
 bif zar zaa 24 [] l then
  (zeq l addr).bind fun res=>
  bif yac.ilt res 0 then some l else
  (xget zaa l res).bind fun x=>
  bif yac.ilt x.misses 0 then
   (zkP res (xset l res (⟨x.peer,0⟩:Entry))).bind fun r=>match r with
    | .inl r1=>
     some r1
    | .inr (i,r1)=>
     (xget zaa r1 i).bind fun x1=>
     some (xset r1 i (⟨x1.peer,yac.iadd .i64 x1.misses 1⟩:Entry))
  else
   (zkP res (xset l res x)).bind fun r=>match r with
    | .inl r1=>
     some r1
    | .inr (i,r1)=>
     (xget zaa r1 i).bind fun x1=>
     some (xset r1 i (⟨x1.peer,yac.iadd .i64 x1.misses 1⟩:Entry))
 else
  none
theorem zCT{l addr r}:zpq l addr=some r->zs9 l addr=some r:=by
 unfold zpq;refine ka (k1 fun h1=>kb fun res h2=>kc (fun h3=>l0 rfl ?_) fun h3=>kb fun x h4=>kc (fun h5=>ks [0,0] fun| .inl r1,γ2,h6=>(l0 rfl ?_)| .inr ⟨i,r1⟩,γ2,h6=>(kb fun x1 h7=>l0 rfl ?_)) fun h5=>ks [0,0] fun| .inl r1,γ2,h6=>(l0 rfl ?_)| .inr ⟨i,r1⟩,γ2,h6=>(kb fun x1 h7=>l0 rfl ?_))
 all_goals (dsimp only[R1,zfn]at *;show zak IF_ (g61F zBN) _ _=_;generalize zBN=c0 at *;exact fin_)
def zpd(l:List Finger)(addr:Int):Option ((List Finger)):=
 bif zar zab 24 [] l then zmF l addr else
 none
theorem zCt{l addr r}:zpd l addr=some r->zsT l addr=some r:=by
 unfold zpd;refine ka (k1 fun h1=>ps [0,0] fun r0 γ1 h2=>l0 rfl ?_)
 all_goals (dsimp only[zcq,R1]at *;show zak IF_ g62F _ _=_;exact fin_)
def zpo(l:List Entry)(addr:Int):Option ((List Entry)):=
 bif zar zaa 24 [] l then zle l addr else
 none
theorem zCR{l addr r}:zpo l addr=some r->zoQ l addr=some r:=by
 unfold zpo;refine ka (k1 fun h1=>ps [0,0] fun r0 γ1 h2=>l0 rfl ?_)
 all_goals (dsimp only[zdy,K1]at *;show zak IF_ g63F _ _=_;exact fin_)
def zoB(n:Node)(id:Int)(why:Int):Option ((Node×(List Out))):=
 (zsv n id).bind fun⟨r1,b0_node,b0_job,r2⟩=>
 bif r1 then
  (zcC why b0_node b0_job r2).bind fun r=>match r with
   | .inl (b0_node1,zaX,r11)=>
    (zaU b0_node1 zaX r2).bind fun⟨r0_0,r0_1,r0_2,r0_3,r0_4,r0_5,r0_7,r0_8,r0_9,r0_10,r0_11,r0_12,r0_13⟩=>
    some ((⟨(⟨r0_0,r0_1⟩:Peer),r0_2,r0_3,r0_4,r0_5,b0_node1.fingers,r0_7,r0_8,r0_9,r0_10,r0_11,r0_12,r0_13⟩:Node),r2)
   | .inr (b0_node1,zaX,r11,r21)=>
    (za9 b0_node1 zaX r21).bind fun r0=>
    some (r0,r21)
 else
  (zaU b0_node b0_job r2).bind fun⟨r0_0,r0_1,r0_2,r0_3,r0_4,r0_5,r0_7,r0_8,r0_9,r0_10,r0_11,r0_12,r0_13⟩=>
  some ((⟨(⟨r0_0,r0_1⟩:Peer),r0_2,r0_3,r0_4,r0_5,b0_node.fingers,r0_7,r0_8,r0_9,r0_10,r0_11,r0_12,r0_13⟩:Node),r2)
theorem zBm{n id why r}:zoB n id why=some r->zin n id why=some r:=by
 unfold zoB;refine ka (ks [] fun⟨r1,b0_node,b0_job,r2⟩ γ1 h1=>kc (fun h2=>ks [0,γ1 1,γ1 2] fun| .inl ⟨b0_node1,zaX,r11⟩,γ2,h3=>(ks [0,γ2 3,γ2 2] fun⟨r0_0,r0_1,r0_2,r0_3,r0_4,r0_5,r0_7,r0_8,r0_9,r0_10,r0_11,r0_12,r0_13⟩ γ3 h4=>l0 rfl ?_)| .inr ⟨b0_node1,zaX,r11,r21⟩,γ2,h3=>(ks [0,γ2 2] fun r0 γ3 h4=>l0 rfl ?_)) fun h2=>ks [0,γ1 1,γ1 2] fun⟨r0_0,r0_1,r0_2,r0_3,r0_4,r0_5,r0_7,r0_8,r0_9,r0_10,r0_11,r0_12,r0_13⟩ γ2 h3=>l0 rfl ?_)
 all_goals (dsimp only[R2,zjA,zbM,zbx,zbP]at *;show zak IF_ g64F _ _=_;exact fin_)
def zql(x:Entry)(b0:Int):Option (Bool):=
 some (yac.ieq x.peer.addr b0)
theorem zqm{x b0 r}:zql x b0=some r->zkQ x b0=some r:=by
 unfold zql;refine ka (l0 rfl ?_)
 all_goals (dsimp only[zfo]at *;show zak IF_ g78F _ _=_;exact fin_)
def zcc(b0:Int)(γ:Nat->Nat):Int⊕Unit->X×St
 | .inl a0=>(.ret,⟨bd 4 (vI a0::bd 14 []),[.box 23 [vH b0]]⟩)
 | .inr ()=>(.brk 0,⟨bd 19 [],[.box 23 [vH b0]]⟩)
instance {b0}:InjS (zcc b0):=⟨by unfold zcc;exact ij_⟩
def zei(s:List Entry)(b0:Int)(t8:Int):Option (Int⊕Unit):=asks (fun γ=>(lim F pr).loop [7,1,0,8] 1 zdn ⟨.lit 55 false (yab zaa s):: .fn 78 [.bptr 0 0]::bd 5 (vI (xlen zaa s)::vI t8::bd 10 []),[.box 23 [vH b0]]⟩) (zcc b0)
def zcb(s:List Entry)(b0:Int)(t8:Int):Option (Int⊕Unit):=
 bif yac.ilt t8 (xlen zaa s)then
  (xget zaa s t8).bind fun x=>
  (zkQ x b0).bind fun res=>
  bif res then some (.inl t8)else
  zei s b0 (yac.iadd .i64 t8 1)
 else
  some (.inr ())
theorem zfR{s b0 t8 r}:zcb s b0 t8=some r->zei s b0 t8=some r:=by
 unfold zcb;refine kas fun γ=>kc (fun h1=>kb fun x h2=>kb fun res h3=>kc (fun h4=>lr [] ?_) fun h4=>lg [] fun γ' h0=>?_) fun h1=>lr [] ?_
 all_goals (dsimp only[zcc,zfo]at *;show zaE IF_ _ _ zdn zuJ _=_;generalize zdn=c0 at *;exact fin_)
def zir(s:List Entry)(b0:Int):Option (Int):=
 (zei s b0 0).bind fun r=>match r with
  | .inl t4=>
   some t4
  | .inr ()=>
   some (-1)
theorem zus{s b0 r}:zir s b0=some r->zkl s b0=some r:=by
 unfold zir;refine ka (ks [] fun| .inl t4,γ1,h1=>(l0 rfl ?_)| .inr _,γ1,h1=>(l0 rfl ?_))
 all_goals (dsimp only[zc7,zcc]at *;show zak IF_ (g77F zdn) _ _=_;generalize zdn=c0 at *;exact fin_)
def zod(x:Entry)(zan:Int)(zai:Int)(za5:Int)(zaT:Int):Option (Bool):=
 znx (⟨zan,zai⟩:Peer) (⟨za5,zaT⟩:Peer) x.peer
theorem zAQ{x zan zai za5 zaT r}:zod x zan zai za5 zaT=some r->zqV x zan zai za5 zaT=some r:=by
 unfold zod;refine ka (pb fun res h1=>l0 rfl ?_)
 all_goals (dsimp only[R1,zhD]at *;show zak IF_ zLf _ _=_;exact fin_)
def zcI(zan:Int)(zai:Int)(za5:Int)(zaT:Int)(γ:Nat->Nat):Int⊕Unit->X×St
 | .inl a0=>(.ret,⟨bd 4 (vI a0::bd 14 []),[.box 25 [vU zan,vH zai],.box 25 [vU za5,vH zaT]]⟩)
 | .inr ()=>(.brk 0,⟨bd 19 [],[.box 25 [vU zan,vH zai],.box 25 [vU za5,vH zaT]]⟩)
instance {zan zai za5 zaT}:InjS (zcI zan zai za5 zaT):=⟨by unfold zcI;exact ij_⟩
def zfd(s:List Entry)(zan:Int)(zai:Int)(za5:Int)(zaT:Int)(t8:Int):Option (Int⊕Unit):=asks (fun γ=>(lim F pr).loop [7,1,0,8] 2 zdn ⟨.lit 55 false (yab zaa s):: .fn 115 [.bptr 0 0,.bptr 1 0]::bd 5 (vI (xlen zaa s)::vI t8::bd 10 []),[.box 25 [vU zan,vH zai],.box 25 [vU za5,vH zaT]]⟩) (zcI zan zai za5 zaT)
def zcH(s:List Entry)(zan:Int)(zai:Int)(za5:Int)(zaT:Int)(t8:Int):Option (Int⊕Unit):=
 bif yac.ilt t8 (xlen zaa s)then
  (xget zaa s t8).bind fun x=>
  (zqV x zan zai za5 zaT).bind fun res=>
  bif res then some (.inl t8)else
  zfd s zan zai za5 zaT (yac.iadd .i64 t8 1)
 else
  some (.inr ())
theorem zhc{s zan zai za5 zaT t8 r}:zcH s zan zai za5 zaT t8=some r->zfd s zan zai za5 zaT t8=some r:=by
 unfold zcH;refine kas fun γ=>kc (fun h1=>kb fun x h2=>kb fun res h3=>kc (fun h4=>lr [] ?_) fun h4=>lg [] fun γ' h0=>?_) fun h1=>lr [] ?_
 all_goals (dsimp only[zcI,zhD]at *;show zaE IF_ _ _ zdn zuJ _=_;generalize zdn=c0 at *;exact fin_)
def zko(s:List Entry)(zan:Int)(zai:Int)(za5:Int)(zaT:Int):Option (Int):=
 (zfd s zan zai za5 zaT 0).bind fun r=>match r with
  | .inl t4=>
   some t4
  | .inr ()=>
   some (-1)
theorem zwN{s zan zai za5 zaT r}:zko s zan zai za5 zaT=some r->zlQ s zan zai za5 zaT=some r:=by
 unfold zko;refine ka (ks [] fun| .inl t4,γ1,h1=>(l0 rfl ?_)| .inr _,γ1,h1=>(l0 rfl ?_))
 all_goals (dsimp only[zec,zcI]at *;show zak IF_ (g77F zdn) _ _=_;generalize zdn=c0 at *;exact fin_)
def zvd(p:Pend)(b0:Int)(b1:Int):Option (Bool):=
 bif yac.ieq p.why b0 then some (yac.ieq p.to_.addr b1)else
 some false
theorem zCX{p b0 b1 r}:zvd p b0 b1=some r->ztc p b0 b1=some r:=by
 unfold zvd;refine ka (kc (fun h1=>l0 rfl ?_) fun h1=>l0 rfl ?_)
 all_goals (dsimp only[zi2]at *;show zak IF_ zLy _ _=_;exact fin_)
def zdd(b0:Int)(b1:Int)(γ:Nat->Nat):Int⊕Unit->X×St
 | .inl a0=>(.ret,⟨bd 4 (vI a0::bd 14 []),[.box 3 [vI b0],.box 23 [vH b1]]⟩)
 | .inr ()=>(.brk 0,⟨bd 19 [],[.box 3 [vI b0],.box 23 [vH b1]]⟩)
instance {b0 b1}:InjS (zdd b0 b1):=⟨by unfold zdd;exact ij_⟩
def zfW(s:List Pend)(b0:Int)(b1:Int)(t8:Int):Option (Int⊕Unit):=asks (fun γ=>(lim F pr).loop [7,1,0,8] 2 zrI ⟨.lit 36 false (yab zaL s):: .fn 138 [.bptr 0 0,.bptr 1 0]::bd 5 (vI (xlen zaL s)::vI t8::bd 10 []),[.box 3 [vI b0],.box 23 [vH b1]]⟩) (zdd b0 b1)
def zdc(s:List Pend)(b0:Int)(b1:Int)(t8:Int):Option (Int⊕Unit):=
 bif yac.ilt t8 (xlen zaL s)then
  (xget zaL s t8).bind fun x=>
  (ztc x b0 b1).bind fun res=>
  bif res then some (.inl t8)else
  zfW s b0 b1 (yac.iadd .i64 t8 1)
 else
  some (.inr ())
theorem ziv{s b0 b1 t8 r}:zdc s b0 b1 t8=some r->zfW s b0 b1 t8=some r:=by
 unfold zdc;refine kas fun γ=>kc (fun h1=>kb fun x h2=>kb fun res h3=>kc (fun h4=>lr [] ?_) fun h4=>lg [] fun γ' h0=>?_) fun h1=>lr [] ?_
 all_goals (dsimp only[zdd,zi2]at *;show zaE IF_ _ _ zrI zFa _=_;generalize zrI=c0 at *;exact fin_)
def zlj(s:List Pend)(b0:Int)(b1:Int):Option (Int):=
 (zfW s b0 b1 0).bind fun r=>match r with
  | .inl t4=>
   some t4
  | .inr ()=>
   some (-1)
theorem zxf{s b0 b1 r}:zlj s b0 b1=some r->zmI s b0 b1=some r:=by
 unfold zlj;refine ka (ks [] fun| .inl t4,γ1,h1=>(l0 rfl ?_)| .inr _,γ1,h1=>(l0 rfl ?_))
 all_goals (dsimp only[zeG,zdd]at *;show zak IF_ (zLI zrI) _ _=_;generalize zrI=c0 at *;exact fin_)
def zio(s:List Pend)(b0:Int)(b1:Int):Option (Bool):=
 (zmI s b0 b1).bind fun res=>
 some (yac.ile 0 res)
theorem zuq{s b0 b1 r}:zio s b0 b1=some r->zoD s b0 b1=some r:=by
 unfold zio;refine ka (kb fun res h1=>l0 rfl ?_)
 all_goals (dsimp only[zc5,zeG]at *;show zak IF_ zLx _ _=_;exact fin_)
def zs5(m:Msg):Option (Msg):=
 bif zar zad 16 [] m.peers then
  bif zar zag 32 [] m.pairs then some m else
  none
 else
  none
theorem zGJ{m r}:zs5 m=some r->zxw m=some r:=by
 unfold zs5;refine ka (k1 fun h1=>k1 fun h2=>l0 rfl ?_)
 all_goals (dsimp only[R1]at *;show zak IF_ zLz _ _=_;exact fin_)
def zte(n:Node):Option (Int):=
 bif yac.ilt n.clock 0 then some 0 else
 bif yac.ilt 1099511627776 n.clock then some 0 else
 some n.clock
theorem zGP{n r}:zte n=some r->zxy n=some r:=by
 unfold zte;refine ka (kc (fun h1=>l0 rfl ?_) fun h1=>kc (fun h2=>l0 rfl ?_) fun h2=>l0 rfl ?_)
 all_goals (dsimp only[R1]at *;show zak IF_ g79F _ _=_;exact fin_)
def zqT(l:List Job)(id:Int):Option (Int):=
 zpY l id
theorem zD1{l id r}:zqT l id=some r->znY l id=some r:=by
 unfold zqT;refine ka (pb fun res h1=>l0 rfl ?_)
 all_goals (dsimp only[zed,R1]at *;show zak IF_ zLM _ _=_;exact fin_)
abbrev zpT:=((List Entry)×(List Entry)×(List Pair)×(List Pend)×(List Job)×(List Result)×Node×Job)
def zjB(n:Node)(γ:Nat->Nat):zpT->X×St
 |(a0,a1,a2,a3,a4,a5,a6,a7)=>(.ret,⟨bd 4 (.bptr 8 0::vF true::bd 52 []),[.box 34 (zah n),.row 55 (γ 1) true (yab zaa a0),.row 55 (γ 2) true (yab zaa a1),.row 82 (γ 3) false (yab zab a6.fingers),.row 76 (γ 4) true (yab zag a2),.row 36 (γ 5) true (yab zaL a3),.row 57 (γ 6) true (yab eJob a4),.row 74 (γ 7) true (yab zaj a5),.box 133 (capp (zau a6 (.sl 3 (γ 3))) (capp (cJob a7) ([.sl 9 (γ 9)]))),.row 78 (γ 9) false (yab eOut [])]⟩)
instance {n}:InjS (zjB n):=⟨by unfold zjB;exact ij_⟩
def zoX(n:Node)(i:Int)(r1:List Entry)(r2:List Entry)(r4:List Pair)(r5:List Pend)(r6:List Job)(r7:List Result)(b8_node:Node):Option (zpT):=asks (fun γ=>(lim F pr).seg [4,5] zx3 ⟨bd 6 (.bptr 8 0::vI i::bd 50 []),[.box 34 (zah n),.row 55 (γ 1) true (yab zaa r1),.row 55 (γ 2) true (yab zaa r2),.row 82 (γ 3) false (yab zab b8_node.fingers),.row 76 (γ 4) true (yab zag r4),.row 36 (γ 5) true (yab zaL r5),.row 57 (γ 6) true (yab eJob r6),.row 74 (γ 7) true (yab zaj r7),.box 133 (capp (zau b8_node (.sl 3 (γ 3))) (capp (cJob (⟨0,0,0,⟨#[]⟩,⟨#[]⟩,0,(⟨0,0⟩:Peer),(⟨0,0⟩:Peer),false,0,0,0⟩:Job)) ([.sl 9 (γ 9)]))),.row 78 (γ 9) false (yab eOut [])]⟩) (zjB n)
def zpU(n:Node)(i:Int)(r1:List Entry)(r2:List Entry)(r4:List Pair)(r5:List Pend)(r6:List Job)(r7:List Result)(b8_node:Node):Option (zpT):=
 (xget eJob b8_node.jobs i).bind fun x=>
 some (r1,r2,r4,r5,r6,r7,b8_node,x)
theorem zDJ{n i r1 r2 r4 r5 r6 r7 b8_node r}:zpU n i r1 r2 r4 r5 r6 r7 b8_node=some r->zoX n i r1 r2 r4 r5 r6 r7 b8_node=some r:=by
 unfold zpU;refine kas fun γ=>kb fun x h1=>ls [0,γ 1,γ 2,γ 3,γ 4,γ 5,γ 6,γ 7,0,γ 9] ?_
 all_goals (dsimp only[zjB]at *;show Ifc.apart IF_ _ zEU _=_;exact fin_)
def zv1(n:Node)(id:Int):Option ((Bool×Node×Job×(List Out))):=
 (zc1 n).bind fun⟨zaA,zao,zaB,zat,zaG,zaJ,zam,zaw,zas,zaz,zal,zaK,zaC,zap⟩=>
 (znY zaz id).bind fun res=>
 bif yac.ilt res 0 then
  some (false,(⟨(⟨zaA,zao⟩:Peer),zaB,zat,zaG,zaJ,zam,zaw,zas,zaz,zal,zaK,zaC,zap⟩:Node),(⟨0,0,0,⟨#[]⟩,⟨#[]⟩,0,(⟨0,0⟩:Peer),(⟨0,0⟩:Peer),false,0,0,0⟩:Job),[])
 else
  (xget eJob zaz res).bind fun x=>
  bif yac.ilt x.kind 1 then
   some (false,(⟨(⟨zaA,zao⟩:Peer),zaB,zat,zaG,zaJ,zam,zaw,zas,zaz,zal,zaK,zaC,zap⟩:Node),(⟨0,0,0,⟨#[]⟩,⟨#[]⟩,0,(⟨0,0⟩:Peer),(⟨0,0⟩:Peer),false,0,0,0⟩:Job),[])
  else
   bif yac.ilt 4 x.kind then
    some (false,(⟨(⟨zaA,zao⟩:Peer),zaB,zat,zaG,zaJ,zam,zaw,zas,zaz,zal,zaK,zaC,zap⟩:Node),(⟨0,0,0,⟨#[]⟩,⟨#[]⟩,0,(⟨0,0⟩:Peer),(⟨0,0⟩:Peer),false,0,0,0⟩:Job),[])
   else
    (zoX n res zaG zaJ zaw zas zaz zal (⟨(⟨zaA,zao⟩:Peer),zaB,zat,zaG,zaJ,zam,zaw,zas,zaz,zal,zaK,zaC,zap⟩:Node)).bind fun⟨r1,r2,r4,r5,r6,r7,b8_node,zIg⟩=>
    some (true,b8_node,zIg,[])
theorem zJE{n id r}:zv1 n id=some r->zsv n id=some r:=by
 unfold zv1;refine kas fun γ=>kb fun⟨zaA,zao,zaB,zat,zaG,zaJ,zam,zaw,zas,zaz,zal,zaK,zaC,zap⟩ h1=>kb fun res h2=>kc (fun h3=>lc rfl [0,0,0] ?_) fun h3=>kb fun x h4=>kc (fun h5=>lc rfl [0,0,0] ?_) fun h5=>kc (fun h6=>lc rfl [0,0,0] ?_) fun h6=>ks [0,0,0,0,0,0,0,0,0,0] fun⟨r1,r2,r4,r5,r6,r7,b8_node,zIg⟩ γ3 h7=>lc rfl [0,γ3 3,γ3 9] ?_
 all_goals (dsimp only[R1,zbr,zjA,zjB]at *;show zak IF_ (zLg zx3) _ _=_;generalize zx3=c0 at *;exact fin_)
def zpW(b0_node:Node)(b0_job:Job)(r2:List Out):Option (zlu):=
 some (b0_node.me.id,b0_node.me.addr,b0_node.clock,b0_node.joined,b0_node.pred,b0_node.list,b0_node.store,b0_node.pends,b0_node.jobs,b0_node.results,b0_node.rid,b0_node.jobID,b0_node.nextBit)
theorem zxV{b0_node b0_job r2 r}:zpW b0_node b0_job r2=some r->zaU b0_node b0_job r2=some r:=by
 unfold zpW;refine kas fun γ=>lc rfl [0,γ 1,γ 2] ?_
 all_goals (dsimp only[zbx]at *;show zak IF_ zGr _ _=_;exact fin_)
def zs0(n:Node)(j:Job):Option (zsZ):=
 (zc1 n).bind fun⟨zaA,zao,zaB,zat,zaG,zaJ,zam,zaw,zas,zaz,zal,zaK,zaC,zap⟩=>
 (znY zaz j.id).bind fun res=>
 bif yac.ile 0 res then
  (xget eJob zaz res).bind fun x=>
  some (zaA,zao,zaB,zat,zaG,zaJ,zam,zaw,zas,xset zaz res j,zal,zaK,zaC,zap)
 else
  some (zaA,zao,zaB,zat,zaG,zaJ,zam,zaw,zas,zaz,zal,zaK,zaC,zap)
theorem zGC{n j r}:zs0 n j=some r->zsY n j=some r:=by
 unfold zs0;refine ka (kb fun⟨zaA,zao,zaB,zat,zaG,zaJ,zam,zaw,zas,zaz,zal,zaK,zaC,zap⟩ h1=>kb fun res h2=>kc (fun h3=>kb fun x h4=>l0 rfl ?_) fun h3=>l0 rfl ?_)
 all_goals (dsimp only[R1,zjN,zbr]at *;show zak IF_ zMg _ _=_;exact fin_)
def zmD(b0_node:Node)(b0_job:Job)(r2:List Out):Option ((Node×(List Finger))):=
 (zsY b0_node b0_job).bind fun⟨zaA,zao,zaB,zat,zaG,zaJ,zam,zaw,zas,zaz,zal,zaK,zaC,zap⟩=>
 some ((⟨(⟨zaA,zao⟩:Peer),zaB,zat,zaG,zaJ,zam,zaw,zas,zaz,zal,zaK,zaC,zap⟩:Node),b0_node.fingers)
theorem zzc{b0_node b0_job r2 r}:zmD b0_node b0_job r2=some r->zfb b0_node b0_job r2=some r:=by
 unfold zmD;refine kas fun γ=>kb fun⟨zaA,zao,zaB,zat,zaG,zaJ,zam,zaw,zas,zaz,zal,zaK,zaC,zap⟩ h1=>lc rfl [0,γ 1,γ 2,0] ?_
 all_goals (dsimp only[zjN,zd8]at *;show zak IF_ zGu _ _=_;exact fin_)
def zoc(n:Node)(id:Int)(has:Bool)(val:ByteArray)(e_:Int):Option (Node):=
 (zc1 n).bind fun⟨zaA,zao,zaB,zat,zaG,zaJ,zam,zaw,zas,zaz,zal,zaK,zaC,zap⟩=>
 (znY zaz id).bind fun res=>
 bif yac.ilt res 0 then
  some (⟨(⟨zaA,zao⟩:Peer),zaB,zat,zaG,zaJ,zam,zaw,zas,zaz,zal,zaK,zaC,zap⟩:Node)
 else
  (xget eJob zaz res).bind fun x=>
  (zsy res (yac.iadd .i64 res 1) zaz).bind fun r0=>
  (zu0 x has val e_ zaA zao zaB zat zaK zaC zap zaG zaJ zam zaw zas r0 zal).bind fun r=>match r with
   | .inl (r7,r8)=>
    some (⟨(⟨zaA,zao⟩:Peer),zaB,zat,zaG,zaJ,zam,zaw,zas,r0,r8,zaK,zaC,zap⟩:Node)
   | .inr ()=>
    some (⟨(⟨zaA,zao⟩:Peer),zaB,zat,zaG,zaJ,zam,zaw,zas,r0,zal,zaK,zaC,zap⟩:Node)
theorem zAO{n id has val e_ r}:zoc n id has val e_=some r->zkw n id has val e_=some r:=by
 unfold zoc;refine ka (kb fun⟨zaA,zao,zaB,zat,zaG,zaJ,zam,zaw,zas,zaz,zal,zaK,zaC,zap⟩ h1=>kb fun res h2=>kc (fun h3=>l0 rfl ?_) fun h3=>kb fun x h4=>ks [0] fun r0 γ3 h5=>ks [0,0,0,0,0,0,γ3 0,0] fun| .inl ⟨r7,r8⟩,γ4,h6=>(l0 rfl ?_)| .inr _,γ4,h6=>(l0 rfl ?_))
 all_goals (dsimp only[ziF,R1,zkx,zbr]at *;show zak IF_ zLU _ _=_;exact fin_)
def zjJ(has:Bool)(val:ByteArray)(e_:Int)(b0_node:Node)(b0_job:Job)(r2:List Out):Option ((Node×(List Finger))):=
 (zkw b0_node b0_job.id has val e_).bind fun res=>
 some (res,b0_node.fingers)
theorem zv6{has val e_ b0_node b0_job r2 r}:zjJ has val e_ b0_node b0_job r2=some r->zba has val e_ b0_node b0_job r2=some r:=by
 unfold zjJ;refine kas fun γ=>kb fun res h1=>lc rfl [0,γ 1,γ 2] ?_
 all_goals (dsimp only[R1,zbg]at *;show zak IF_ zBP _ _=_;exact fin_)
def zlC(n:Node)(out:List Out)(b0_node:Node)(b0_job:Job)(r2:List Out):Option (((List Finger)×(List Out))):=
 bif zar eOut 136 r2 out then some (b0_node.fingers,(r2++out))else
 none
theorem zxY{n out b0_node b0_job r2 r}:zlC n out b0_node b0_job r2=some r->zg5 n out b0_node b0_job r2=some r:=by
 unfold zlC;refine kas fun γ=>k1 fun h1=>lc rfl [0,γ 1,(γ 2+1)] ?_
 all_goals (dsimp only[zco]at *;show zak IF_ zGx _ _=_;exact fin_)
def zqK(to_:Peer)(m:Msg)(why:Int)(b0_node:Node)(b0_job:Job)(r2:List Out):Option (zmy):=
 (zfb b0_node (⟨b0_job.id,b0_job.kind,b0_job.bit,b0_job.key,b0_job.val,b0_job.target,b0_job.via,to_,b0_job.doing,b0_job.hops,b0_job.tries,b0_job.due⟩:Job) r2).bind fun⟨b0_node1,r1⟩=>
 (zi1 b0_node1 to_ m why b0_job.id).bind fun⟨r0,r11⟩=>
 (zg5 r0 r11 b0_node1 (⟨b0_job.id,b0_job.kind,b0_job.bit,b0_job.key,b0_job.val,b0_job.target,b0_job.via,to_,b0_job.doing,b0_job.hops,b0_job.tries,b0_job.due⟩:Job) r2).bind fun⟨r12,r21⟩=>
 some (r0,(⟨b0_job.id,b0_job.kind,b0_job.bit,b0_job.key,b0_job.val,b0_job.target,b0_job.via,to_,b0_job.doing,b0_job.hops,b0_job.tries,b0_job.due⟩:Job),r1,r21)
theorem zzb{to_ m why b0_node b0_job r2 r}:zqK to_ m why b0_node b0_job r2=some r->zfa to_ m why b0_node b0_job r2=some r:=by
 unfold zqK;refine kas fun γ=>ks [0,γ 1,γ 2] fun⟨b0_node1,r1⟩ γ1 h1=>kb fun⟨r0,r11⟩ h2=>ks [0,γ1 3,γ1 2] fun⟨r12,r21⟩ γ3 h3=>lc rfl [0,γ1 1,γ3 2] ?_
 all_goals (dsimp only[R2,zd5,zd8,zco]at *;show zak IF_ zGy _ _=_;exact fin_)
def zpX(to_:Peer)(b0_node:Node)(b0_job:Job)(r2:List Out):Option (zlx):=
 zfa to_ (⟨1,0,0,false,b0_job.target,⟨#[]⟩,⟨#[]⟩,(⟨0,0⟩:Peer),[],[]⟩:Msg) 4 b0_node b0_job r2
theorem zxW{to_ b0_node b0_job r2 r}:zpX to_ b0_node b0_job r2=some r->zcD to_ b0_node b0_job r2=some r:=by
 unfold zpX;refine kas fun γ=>ps [0,γ 1,γ 2] fun⟨b0_node1,zaX,r1,r21⟩ γ1 h1=>lc rfl [0,γ1 1,γ1 2] ?_
 all_goals (dsimp only[zd5,zdl]at *;show zak IF_ zGw _ _=_;exact fin_)
abbrev zml:=(Int×Int×(List Peer))⊕((List Peer)×(List Peer))
def zfs(n:Node)(γ:Nat->Nat):zml->X×St
 | .inl (a0,a1,a2)=>(.ret,⟨bd 4 (.bptr 1 0:: .sl 4 (γ 4)::vF true::bd 49 []),[.box 34 (zah n),.box 25 [vU a0,vH a1],.row 25 (γ 2) false (yab zad []),.row 25 (γ 3) false (yab zad a2),.row 25 (γ 4) false (yab zad [])]⟩)
 | .inr (b0,b1)=>(.ret,⟨bd 4 (.bptr 1 0:: .lit 25 false (yab zad b0)::vF false::bd 49 []),[.box 34 (zah n),.box 25 [vU 0,vH 0],.row 25 (γ 2) false (yab zad []),.row 25 (γ 3) false (yab zad b1)]⟩)
instance {n}:InjS (zfs n):=⟨by unfold zfs;exact ij_⟩
def zoz(n:Node)(key:Int)(r3:List Peer):Option (zml):=asks (fun γ=>(lim F pr).seg [4,5,6] zyb ⟨bd 1 (vU key:: .bptr 0 0::bd 1 (.bptr 1 0::bd 2 (.sl 3 (γ 3)::bd 48 []))),[.box 34 (zah n),.box 25 [vU 0,vH 0],.row 25 (γ 2) false (yab zad []),.row 25 (γ 3) false (yab zad r3)]⟩) (zfs n)
def zmm(n:Node)(key:Int)(r3:List Peer):Option (zml):=
 (xget zad r3 0).bind fun x=>
 (zlN n.me.id key x.id).bind fun res=>
 bif res then some (.inl (x.id,x.addr,r3))else
 (zpI n key).bind fun res1=>
 bif res1 then some (.inl (n.me.id,n.me.addr,r3))else
 (zsU n.me n.list n.fingers key 4).bind fun res2=>
 bif yac.ilt 0 (xlen zad res2)then some (.inr (res2,r3))else
 some (.inl (n.me.id,n.me.addr,r3))
theorem zyX{n key r3 r}:zmm n key r3=some r->zoz n key r3=some r:=by
 unfold zmm;refine kas fun γ=>kb fun x h1=>kb fun res h2=>kc (fun h3=>ls [0,0,γ 2,γ 3,0] ?_) fun h3=>kb fun res1 h4=>kc (fun h5=>ls [0,0,γ 2,γ 3,0] ?_) fun h5=>kb fun res2 h6=>kc (fun h7=>ls [0,0,γ 2,γ 3] ?_) fun h7=>ls [0,0,γ 2,γ 3,0] ?_
 all_goals (dsimp only[R1,zfs]at *;show Ifc.apart IF_ _ zE6 _=_;exact fin_)
def zpH(n:Node)(key:Int):Option ((Peer×(List Peer)×Bool)):=
 (zl1 n.list).bind fun res=>
 bif yac.ieq (xlen zad res) 0 then some (n.me,[],true)else
 bif yac.ieq key n.me.id then some (n.me,[],true)else
 (zoz n key res).bind fun r=>match r with
  | .inl (za5,zaT,r3)=>
   some ((⟨za5,zaT⟩:Peer),[],true)
  | .inr (t5,r3)=>
   some ((⟨0,0⟩:Peer),t5,false)
theorem zDk{n key r}:zpH n key=some r->ztH n key=some r:=by
 unfold zpH;refine ka (kb fun res h1=>kc (fun h2=>l0 rfl ?_) fun h2=>kc (fun h3=>l0 rfl ?_) fun h3=>ks [0,0,0,0] fun| .inl ⟨za5,zaT,r3⟩,γ2,h4=>(l0 rfl ?_)| .inr ⟨t5,r3⟩,γ2,h4=>(l0 rfl ?_))
 all_goals (dsimp only[K1,R3,zfs]at *;show zak IF_ (zLE zyb) _ _=_;generalize zyb=c0 at *;exact fin_)
end Go.Ab.Tryz
