/- Our texts for this statement, merged: what its theorem leads to. -/
import Derived.Test.YtdjoeakbjackbaaGreatDoorQLx10
set_option linter.unusedVariables false
set_option linter.unusedSimpArgs false
noncomputable section
namespace Go.Ab.Tryz
open Go Go.Ab Go.Proofs
set_option maxRecDepth 10000
set_option maxHeartbeats 4000000
open Go.Ab.Ops renaming std->yac
open List renaming map->yab,map_cons->yaT,map_nil->ybW
def zjw(n:Node)(p:Pend)(m:Msg):Option (Bool):=
 (zqI n).bind fun res=>
 bif res then zfD else
 (zqH m).bind fun res1=>
 bif res1 then zfD else
 (zc1 n).bind fun⟨zaA,zao,zaB,zat,zaG,zaJ,zam,zaw,zas,zaz,zal,zaK,zaC,zap⟩=>
 (zjO (⟨(⟨zaA,zao⟩:Peer),zaB,zat,zaG,zaJ,zam,zaw,zas,zaz,zal,zaK,zaC,zap⟩:Node) p m).bind fun⟨r0,r1⟩=>
 (zpG n p m).bind fun⟨r01,r11⟩=>
 (zna r0 r01).bind fun res2=>
 bif res2 then
  (zpz r1 r11).bind fun res3=>
  bif res3 then
   (zna (⟨(⟨zaA,zao⟩:Peer),zaB,zat,zaG,zaJ,zam,zaw,zas,zaz,zal,zaK,zaC,zap⟩:Node) n).bind fun res4=>
   bif res4 then zfD else
   some false
  else
   some false
 else
  some false
theorem zvV{n p m r}:zjw n p m=some r->zpP n p m=some r:=by
 unfold zjw;refine ka (kb fun res h1=>kc (fun h2=>pb fun res1 h3=>l0 rfl ?_) fun h2=>kb fun res1 h3=>kc (fun h4=>pb fun res2 h5=>l0 rfl ?_) fun h4=>kb fun⟨zaA,zao,zaB,zat,zaG,zaJ,zam,zaw,zas,zaz,zal,zaK,zaC,zap⟩ h5=>kb fun⟨r0,r1⟩ h6=>kb fun⟨r01,r11⟩ h7=>kb fun res2 h8=>kc (fun h9=>kb fun res3 h10=>kc (fun h11=>kb fun res4 h12=>kc (fun h13=>pb fun res5 h14=>l0 rfl ?_) fun h13=>l0 rfl ?_) fun h11=>l0 rfl ?_) fun h9=>l0 rfl ?_)
 all_goals (dsimp only[R1,R2,zbr]at *;show zak IF_ g3F _ _=_;exact fin_)
def zdK(n:Node)(p:Pend)(m:Msg)(γ:Nat->Nat):Bool->X×St
 |a0=>(.ret,⟨bd 6 (vF a0::bd 178 []),[.box 34 (zah n),.box 36 [vW p.rid,vI p.kind,vI p.why,vI p.job,vU p.to_.id,vH p.to_.addr,vI p.due],.box 39 [vI m.kind,vW m.rid,vB m.code,vF m.has,vU m.id,vT m.key,vT m.val,vU m.peer.id,vH m.peer.addr,.lit 25 false (yab zad m.peers),.lit 76 false (yab zag m.pairs)]]⟩)
instance {n p m}:InjS (zdK n p m):=⟨by unfold zdK;exact ij_⟩
def zls(n:Node)(p:Pend)(m:Msg):Option (Bool):=asks (fun γ=>(lim F pr).seg [6] b5_4 ⟨bd 3 (.bptr 0 0:: .bptr 1 0:: .bptr 2 0::bd 179 []),[.box 34 (zah n),.box 36 [vW p.rid,vI p.kind,vI p.why,vI p.job,vU p.to_.id,vH p.to_.addr,vI p.due],.box 39 [vI m.kind,vW m.rid,vB m.code,vF m.has,vU m.id,vT m.key,vT m.val,vU m.peer.id,vH m.peer.addr,.lit 25 false (yab zad m.peers),.lit 76 false (yab zag m.pairs)]]⟩) (zdK n p m)
def zdI(n:Node)(p:Pend)(m:Msg)(γ:Nat->Nat):Node⊕Node->X×St
 | .inl a0=>(.ret,⟨bd 6 (vF false::bd 178 []),[.box 34 (zah n),.box 36 [vW p.rid,vI p.kind,vI p.why,vI p.job,vU p.to_.id,vH p.to_.addr,vI p.due],.box 39 [vI m.kind,vW m.rid,vB m.code,vF m.has,vU m.id,vT m.key,vT m.val,vU m.peer.id,vH m.peer.addr,.lit 25 false (yab zad m.peers),.lit 76 false (yab zag m.pairs)],.box 34 (zah a0)]⟩)
 | .inr b0=>(.brk 0,⟨bd 3 (.bptr 0 0:: .bptr 1 0::bd 2 (.bptr 3 0::bd 177 [])),[.box 34 (zah n),.box 36 [vW p.rid,vI p.kind,vI p.why,vI p.job,vU p.to_.id,vH p.to_.addr,vI p.due],.box 39 [vI m.kind,vW m.rid,vB m.code,vF m.has,vU m.id,vT m.key,vT m.val,vU m.peer.id,vH m.peer.addr,.lit 25 false (yab zad m.peers),.lit 76 false (yab zag m.pairs)],.box 34 (zah b0)]⟩)
instance {n p m}:InjS (zdI n p m):=⟨by unfold zdI;exact ij_⟩
def zbK(n:Node)(p:Pend)(m:Msg)(i:Int)(b3:Node):Option (Node⊕Node):=asks (fun γ=>(lim F pr).loop [9,4,7,3] 4 b5_2 ⟨bd 3 (.bptr 0 0:: .bptr 1 0::bd 2 (.bptr 3 0::bd 1 (vI i::bd 175 []))),[.box 34 (zah n),.box 36 [vW p.rid,vI p.kind,vI p.why,vI p.job,vU p.to_.id,vH p.to_.addr,vI p.due],.box 39 [vI m.kind,vW m.rid,vB m.code,vF m.has,vU m.id,vT m.key,vT m.val,vU m.peer.id,vH m.peer.addr,.lit 25 false (yab zad m.peers),.lit 76 false (yab zag m.pairs)],.box 34 (zah b3)]⟩) (zdI n p m)
def zdG(n:Node)(p:Pend)(m:Msg)(γ:Nat->Nat):(Int×Bool×Node)->X×St
 |(a0,a1,a2)=>(.brk 2,⟨bd 3 (.bptr 0 0:: .bptr 1 0::bd 2 (.bptr 3 0::bd 1 (vI a0::vF a1::bd 174 []))),[.box 34 (zah n),.box 36 [vW p.rid,vI p.kind,vI p.why,vI p.job,vU p.to_.id,vH p.to_.addr,vI p.due],.box 39 [vI m.kind,vW m.rid,vB m.code,vF m.has,vU m.id,vT m.key,vT m.val,vU m.peer.id,vH m.peer.addr,.lit 25 false (yab zad m.peers),.lit 76 false (yab zag m.pairs)],.box 34 (zah a2)]⟩)
instance {n p m}:InjS (zdG n p m):=⟨by unfold zdG;exact ij_⟩
def zbh(n:Node)(p:Pend)(m:Msg)(i:Int)(old:Bool)(k:Int)(b3:Node):Option ((Int×Bool×Node)):=asks (fun γ=>(lim F pr).loop [11,10,9,4,7,3] 4 b5_0 ⟨bd 3 (.bptr 0 0:: .bptr 1 0::bd 2 (.bptr 3 0::bd 1 (vI i::vF old::vI k::bd 173 []))),[.box 34 (zah n),.box 36 [vW p.rid,vI p.kind,vI p.why,vI p.job,vU p.to_.id,vH p.to_.addr,vI p.due],.box 39 [vI m.kind,vW m.rid,vB m.code,vF m.has,vU m.id,vT m.key,vT m.val,vU m.peer.id,vH m.peer.addr,.lit 25 false (yab zad m.peers),.lit 76 false (yab zag m.pairs)],.box 34 (zah b3)]⟩) (zdG n p m)
def zdH(n:Node)(p:Pend)(m:Msg)(γ:Nat->Nat):(Int×Bool×Node)->X×St
 |(a0,a1,a2)=>(.brk 4,⟨bd 3 (.bptr 0 0:: .bptr 1 0::bd 2 (.bptr 3 0::bd 1 (vI a0::vF a1::bd 174 []))),[.box 34 (zah n),.box 36 [vW p.rid,vI p.kind,vI p.why,vI p.job,vU p.to_.id,vH p.to_.addr,vI p.due],.box 39 [vI m.kind,vW m.rid,vB m.code,vF m.has,vU m.id,vT m.key,vT m.val,vU m.peer.id,vH m.peer.addr,.lit 25 false (yab zad m.peers),.lit 76 false (yab zag m.pairs)],.box 34 (zah a2)]⟩)
instance {n p m}:InjS (zdH n p m):=⟨by unfold zdH;exact ij_⟩
def za8(n:Node)(p:Pend)(m:Msg)(i:Int)(old:Bool)(k:Int)(b3:Node):Option ((Int×Bool×Node)):=asks (fun γ=>(lim F pr).loop [12,10,9,4,7,3] 4 b5_1 ⟨bd 3 (.bptr 0 0:: .bptr 1 0::bd 2 (.bptr 3 0::bd 1 (vI i::vF old::bd 1 (vI k::bd 172 [])))),[.box 34 (zah n),.box 36 [vW p.rid,vI p.kind,vI p.why,vI p.job,vU p.to_.id,vH p.to_.addr,vI p.due],.box 39 [vI m.kind,vW m.rid,vB m.code,vF m.has,vU m.id,vT m.key,vT m.val,vU m.peer.id,vH m.peer.addr,.lit 25 false (yab zad m.peers),.lit 76 false (yab zag m.pairs)],.box 34 (zah b3)]⟩) (zdH n p m)
def zdJ(n:Node)(p:Pend)(m:Msg)(γ:Nat->Nat):(Bool×Node×Node)->X×St
 |(a0,a1,a2)=>(.ret,⟨bd 6 (vF a0::bd 178 []),[.box 34 (zah n),.box 36 [vW p.rid,vI p.kind,vI p.why,vI p.job,vU p.to_.id,vH p.to_.addr,vI p.due],.box 39 [vI m.kind,vW m.rid,vB m.code,vF m.has,vU m.id,vT m.key,vT m.val,vU m.peer.id,vH m.peer.addr,.lit 25 false (yab zad m.peers),.lit 76 false (yab zag m.pairs)],.box 34 (zah a1),.box 34 (zah a2)]⟩)
instance {n p m}:InjS (zdJ n p m):=⟨by unfold zdJ;exact ij_⟩
def zdj(n:Node)(p:Pend)(m:Msg)(b3:Node)(b4:Node):Option ((Bool×Node×Node)):=asks (fun γ=>(lim F pr).seg [6] b5_3 ⟨bd 3 (.bptr 0 0::bd 3 (.bptr 3 0::bd 5 (.bptr 4 0::bd 171 []))),[.box 34 (zah n),.box 36 [vW p.rid,vI p.kind,vI p.why,vI p.job,vU p.to_.id,vH p.to_.addr,vI p.due],.box 39 [vI m.kind,vW m.rid,vB m.code,vF m.has,vU m.id,vT m.key,vT m.val,vU m.peer.id,vH m.peer.addr,.lit 25 false (yab zad m.peers),.lit 76 false (yab zag m.pairs)],.box 34 (zah b3),.box 34 (zah b4)]⟩) (zdJ n p m)
def zjy(n:Node)(p:Pend)(m:Msg):Option (Bool):=
 (zjO n p m).bind fun⟨r0,r1⟩=>
 (zbK n p m 0 r0).bind fun r=>match r with
  | .inl b3=>
   some false
  | .inr b3=>
   (zpl n p).bind fun⟨r01,r11⟩=>
   (zeq r01.list p.to_.addr).bind fun res=>
   (zeq n.list p.to_.addr).bind fun res1=>
   bif yac.ile 0 res then
    bif yac.ilt res1 0 then some false else
    (xget zaa r01.list res).bind fun x=>
    (xget zaa n.list res1).bind fun x1=>
    bif yac.ile x.misses x1.misses then
     bif yac.ieq x.peer.id x1.peer.id then
      bif yac.ieq x.peer.addr x1.peer.addr then some false else
      (zdj n p m b3 r01).bind fun⟨t6,b31,b4⟩=>
      some t6
     else
      (zdj n p m b3 r01).bind fun⟨t6,b31,b4⟩=>
      some t6
    else
     (zdj n p m b3 r01).bind fun⟨t6,b31,b4⟩=>
     some t6
   else
    (zdj n p m b3 r01).bind fun⟨t6,b31,b4⟩=>
    some t6
theorem zvX{n p m r}:zjy n p m=some r->zls n p m=some r:=by
 unfold zjy;refine kas fun γ=>kb fun⟨r0,r1⟩ h1=>ks [] fun| .inl b3,γ2,h2=>(ls [] ?_)| .inr b3,γ2,h2=>(kb fun⟨r01,r11⟩ h3=>kb fun res h4=>kb fun res1 h5=>kc (fun h6=>kc (fun h7=>ls [] ?_) fun h7=>kb fun x h8=>kb fun x1 h9=>kc (fun h10=>kc (fun h11=>kc (fun h12=>ls [] ?_) fun h12=>ks [] fun⟨t6,b31,b4⟩ γ6 h13=>ls [] ?_) fun h11=>ks [] fun⟨t6,b31,b4⟩ γ6 h12=>ls [] ?_) fun h10=>ks [] fun⟨t6,b31,b4⟩ γ6 h11=>ls [] ?_) fun h6=>ks [] fun⟨t6,b31,b4⟩ γ6 h7=>ls [] ?_)
 all_goals (dsimp only[R1,R2,zdI,zdJ,zdK]at *;show Ifc.apart IF_ _ (zLd b5_2 b5_3) _=_;generalize b5_2=c0,b5_3=c1 at *;exact fin_)
def zfC(n:Node)(p:Pend)(m:Msg)(i:Int)(b3:Node):Option (Node⊕Node):=
 bif yac.ilt i (xlen zaa b3.list)then
  (xget zaa b3.list i).bind fun x=>
  bif yac.ieq x.peer.id p.to_.id then
   bif yac.ieq x.peer.addr p.to_.addr then
    (zbh n p m i true 0 b3).bind fun⟨i1,old,b31⟩=>
    (za8 n p m i1 old 0 b31).bind fun⟨i2,old1,b32⟩=>
    bif old1 then zbK n p m (yac.iadd .i64 i2 1) b32 else
    some (.inl b32)
   else
    (zbh n p m i false 0 b3).bind fun⟨i1,old,b31⟩=>
    (za8 n p m i1 old 0 b31).bind fun⟨i2,old1,b32⟩=>
    bif old1 then zbK n p m (yac.iadd .i64 i2 1) b32 else
    some (.inl b32)
  else
   (zbh n p m i false 0 b3).bind fun⟨i1,old,b31⟩=>
   (za8 n p m i1 old 0 b31).bind fun⟨i2,old1,b32⟩=>
   bif old1 then zbK n p m (yac.iadd .i64 i2 1) b32 else
   some (.inl b32)
 else
  some (.inr b3)
theorem zn6{n p m i b3 r}:zfC n p m i b3=some r->zbK n p m i b3=some r:=by
 unfold zfC;refine kas fun γ=>kc (fun h1=>kb fun x h2=>kc (fun h3=>kc (fun h4=>ks [] fun⟨i1,old,b31⟩ γ1 h5=>ks [] fun⟨i2,old1,b32⟩ γ2 h6=>kc (fun h7=>lg [] fun γ' h0=>?_) fun h7=>lr [] ?_) fun h4=>ks [] fun⟨i1,old,b31⟩ γ1 h5=>ks [] fun⟨i2,old1,b32⟩ γ2 h6=>kc (fun h7=>lg [] fun γ' h0=>?_) fun h7=>lr [] ?_) fun h3=>ks [] fun⟨i1,old,b31⟩ γ1 h4=>ks [] fun⟨i2,old1,b32⟩ γ2 h5=>kc (fun h6=>lg [] fun γ' h0=>?_) fun h6=>lr [] ?_) fun h1=>lr [] ?_
 all_goals (dsimp only[zdG,zdH,zdI]at *;show zaE IF_ _ _ b5_2 (zLb b5_0 b5_1) _=_;generalize b5_2=c0,b5_0=c1,b5_1=c2 at *;exact fin_)
def zfA(n:Node)(p:Pend)(m:Msg)(i:Int)(old:Bool)(k:Int)(b3:Node):Option ((Int×Bool×Node)):=
 bif yac.ilt k (xlen zaa n.list)then
  bif old then zbh n p m i true (yac.iadd .i64 k 1) b3 else
  (xget zaa n.list k).bind fun x=>
  (xget zaa b3.list i).bind fun x1=>
  bif yac.ieq x.peer.id x1.peer.id then
   bif yac.ieq x.peer.addr x1.peer.addr then zbh n p m i true (yac.iadd .i64 k 1) b3 else
   zbh n p m i false (yac.iadd .i64 k 1) b3
  else
   zbh n p m i false (yac.iadd .i64 k 1) b3
 else
  some (i,old,b3)
theorem zn4{n p m i old k b3 r}:zfA n p m i old k b3=some r->zbh n p m i old k b3=some r:=by
 unfold zfA;refine kas fun γ=>kc (fun h1=>kc (fun h2=>lg [] fun γ' h0=>?_) fun h2=>kb fun x h3=>kb fun x1 h4=>kc (fun h5=>kc (fun h6=>lg [] fun γ' h0=>?_) fun h6=>lg [] fun γ' h0=>?_) fun h5=>lg [] fun γ' h0=>?_) fun h1=>lr [] ?_
 all_goals (dsimp only[zdG]at *;show zaE IF_ _ _ b5_0 zK9 _=_;generalize b5_0=c0 at *;exact fin_)
def zfB(n:Node)(p:Pend)(m:Msg)(i:Int)(old:Bool)(k:Int)(b3:Node):Option ((Int×Bool×Node)):=
 bif yac.ilt k (xlen eJob n.jobs)then
  bif old then za8 n p m i true (yac.iadd .i64 k 1) b3 else
  (xget eJob n.jobs k).bind fun x=>
  bif yac.ieq x.kind 1 then
   (xget zaa b3.list i).bind fun x1=>
   bif yac.ieq x.at_.id x1.peer.id then
    bif yac.ieq x.at_.addr x1.peer.addr then za8 n p m i true (yac.iadd .i64 k 1) b3 else
    za8 n p m i false (yac.iadd .i64 k 1) b3
   else
    za8 n p m i false (yac.iadd .i64 k 1) b3
  else
   za8 n p m i false (yac.iadd .i64 k 1) b3
 else
  some (i,old,b3)
theorem zn5{n p m i old k b3 r}:zfB n p m i old k b3=some r->za8 n p m i old k b3=some r:=by
 unfold zfB;refine kas fun γ=>kc (fun h1=>kc (fun h2=>lg [] fun γ' h0=>?_) fun h2=>kb fun x h3=>kc (fun h4=>kb fun x1 h5=>kc (fun h6=>kc (fun h7=>lg [] fun γ' h0=>?_) fun h7=>lg [] fun γ' h0=>?_) fun h6=>lg [] fun γ' h0=>?_) fun h4=>lg [] fun γ' h0=>?_) fun h1=>lr [] ?_
 all_goals (dsimp only[zdH]at *;show zaE IF_ _ _ b5_1 zLa _=_;generalize b5_1=c0 at *;exact fin_)
def zjx(n:Node)(p:Pend)(m:Msg)(b3:Node)(b4:Node):Option ((Bool×Node×Node)):=
 bif yac.ieq (xlen zaa b3.pred) (xlen zaa n.pred)then
  bif yac.ile (xlen zaa b4.pred) (xlen zaa n.pred)then
   (zfD).bind fun res=>
   some (res,b3,b4)
  else
   some (false,b3,b4)
 else
  some (false,b3,b4)
theorem zvW{n p m b3 b4 r}:zjx n p m b3 b4=some r->zdj n p m b3 b4=some r:=by
 unfold zjx;refine kas fun γ=>kc (fun h1=>kc (fun h2=>kb fun res h3=>ls [] ?_) fun h2=>ls [] ?_) fun h1=>ls [] ?_
 all_goals (dsimp only[R1,zdJ]at *;show Ifc.apart IF_ _ zLc _=_;exact fin_)
def zms(n:Node)(p:Pend)(m:Msg):Option (Bool):=
 (zqI n).bind fun res=>
 bif res then zfD else
 (zqH m).bind fun res1=>
 bif res1 then zfD else
 (zqX n.me n.list).bind fun res2=>
 bif res2 then zls n p m else
 zfD
theorem zy7{n p m r}:zms n p m=some r->zup n p m=some r:=by
 unfold zms;refine ka (kb fun res h1=>kc (fun h2=>pb fun res1 h3=>l0 rfl ?_) fun h2=>kb fun res1 h3=>kc (fun h4=>pb fun res2 h5=>l0 rfl ?_) fun h4=>kb fun res2 h5=>kc (fun h6=>ps [] fun t6 γ4 h7=>l0 rfl ?_) fun h6=>pb fun res3 h7=>l0 rfl ?_)
 all_goals (dsimp only[R1,zdK]at *;show zak IF_ (g5F b5_4) _ _=_;generalize b5_4=c0 at *;exact fin_)
def zgZ(n:Node)(γ:Nat->Nat):Bool->X×St
 |a0=>(.ret,⟨bd 2 (vF a0::bd 91 []),[.box 34 (zah n)]⟩)
instance {n}:InjS (zgZ n):=⟨by unfold zgZ;exact ij_⟩
def zpO(n:Node):Option (Bool):=asks (fun γ=>(lim F pr).seg [2] zBr ⟨bd 1 (.bptr 0 0::bd 92 []),[.box 34 (zah n)]⟩) (zgZ n)
def zgX(n:Node)(γ:Nat->Nat):Unit⊕Unit->X×St
 | .inl ()=>(.ret,⟨bd 2 (vF true::bd 91 []),[.box 34 (zah n)]⟩)
 | .inr ()=>(.brk 0,⟨bd 1 (.bptr 0 0::bd 92 []),[.box 34 (zah n)]⟩)
instance {n}:InjS (zgX n):=⟨by unfold zgX;exact ij_⟩
def zju(n:Node)(i:Int):Option (Unit⊕Unit):=asks (fun γ=>(lim F pr).loop [3,1] 1 zv9 ⟨bd 1 (.bptr 0 0::bd 1 (vI i::bd 90 [])),[.box 34 (zah n)]⟩) (zgX n)
def zgY(n:Node)(γ:Nat->Nat):Unit⊕Unit->X×St
 | .inl ()=>(.ret,⟨bd 2 (vF true::bd 91 []),[.box 34 (zah n)]⟩)
 | .inr ()=>(.brk 2,⟨bd 94 [],[.box 34 (zah n)]⟩)
instance {n}:InjS (zgY n):=⟨by unfold zgY;exact ij_⟩
def zjv(n:Node)(i:Int):Option (Unit⊕Unit):=asks (fun γ=>(lim F pr).loop [1,4] 1 zwa ⟨bd 1 (.bptr 0 0::bd 2 (vI i::bd 89 [])),[.box 34 (zah n)]⟩) (zgY n)
def znp(n:Node):Option (Bool):=
 (zju n 0).bind fun r=>match r with
  | .inl ()=>
   some true
  | .inr ()=>
   (zjv n 0).bind fun r=>match r with
    | .inl ()=>
     some true
    | .inr ()=>
     some false
theorem zz3{n r}:znp n=some r->zpO n=some r:=by
 unfold znp;refine kas fun γ=>ks [] fun| .inl _,γ1,h1=>(ls [] ?_)| .inr _,γ1,h1=>(ks [] fun| .inl _,γ2,h2=>(ls [] ?_)| .inr _,γ2,h2=>(ls [] ?_))
 all_goals (dsimp only[zgX,zgY,zgZ]at *;show Ifc.apart IF_ _ (zHB zv9 zwa) _=_;generalize zv9=c0,zwa=c1 at *;exact fin_)
def zkd(n:Node)(i:Int):Option (Unit⊕Unit):=
 bif yac.ilt i (xlen eJob n.jobs)then
  (xget eJob n.jobs i).bind fun x=>
  bif yac.ilt 300 (yac.slen x.key)then some (.inl ())else
  bif yac.ilt 700 (yac.slen x.val)then some (.inl ())else
  zju n (yac.iadd .i64 i 1)
 else
  some (.inr ())
theorem zst{n i r}:zkd n i=some r->zju n i=some r:=by
 unfold zkd;refine kas fun γ=>kc (fun h1=>kb fun x h2=>kc (fun h3=>lr [] ?_) fun h3=>kc (fun h4=>lr [] ?_) fun h4=>lg [] fun γ' h0=>?_) fun h1=>lr [] ?_
 all_goals (dsimp only[zgX]at *;show zaE IF_ _ _ zv9 zHz _=_;generalize zv9=c0 at *;exact fin_)
def zke(n:Node)(i:Int):Option (Unit⊕Unit):=
 bif yac.ilt i (xlen zaj n.results)then
  (xget zaj n.results i).bind fun x=>
  bif yac.ilt 300 (yac.slen x.key)then some (.inl ())else
  bif yac.ilt 700 (yac.slen x.val)then some (.inl ())else
  zjv n (yac.iadd .i64 i 1)
 else
  some (.inr ())
theorem zsu{n i r}:zke n i=some r->zjv n i=some r:=by
 unfold zke;refine kas fun γ=>kc (fun h1=>kb fun x h2=>kc (fun h3=>lr [] ?_) fun h3=>kc (fun h4=>lr [] ?_) fun h4=>lg [] fun γ' h0=>?_) fun h1=>lr [] ?_
 all_goals (dsimp only[zgY]at *;show zaE IF_ _ _ zwa zHA _=_;generalize zwa=c0 at *;exact fin_)
def znQ(n:Node):Option (Bool):=
 bif yac.ilt 5 (xlen zaa n.pred)then some true else
 bif yac.ilt 40 (xlen zaa n.list)then some true else
 bif yac.ilt 80 (xlen zab n.fingers)then some true else
 bif yac.ilt 100 (xlen zaL n.pends)then some true else
 bif yac.ilt 20 (xlen eJob n.jobs)then some true else
 bif yac.ilt 40 (xlen zaj n.results)then some true else
 (zvU n.store).bind fun res=>
 bif res then some true else
 zpO n
theorem zEP{n r}:znQ n=some r->zqI n=some r:=by
 unfold znQ;refine ka (kc (fun h1=>l0 rfl ?_) fun h1=>kc (fun h2=>l0 rfl ?_) fun h2=>kc (fun h3=>l0 rfl ?_) fun h3=>kc (fun h4=>l0 rfl ?_) fun h4=>kc (fun h5=>l0 rfl ?_) fun h5=>kc (fun h6=>l0 rfl ?_) fun h6=>kb fun res h7=>kc (fun h8=>l0 rfl ?_) fun h8=>ps [] fun t2 γ2 h9=>l0 rfl ?_)
 all_goals (dsimp only[R1,zgZ]at *;show zak IF_ (g12F zBr) _ _=_;generalize zBr=c0 at *;exact fin_)
def zgU(m:Msg)(γ:Nat->Nat):Unit⊕Unit->X×St
 | .inl ()=>(.ret,⟨bd 2 (vF true::bd 48 []),[.box 39 [vI m.kind,vW m.rid,vB m.code,vF m.has,vU m.id,vT m.key,vT m.val,vU m.peer.id,vH m.peer.addr,.lit 25 false (yab zad m.peers),.lit 76 false (yab zag m.pairs)]]⟩)
 | .inr ()=>(.brk 0,⟨bd 51 [],[.box 39 [vI m.kind,vW m.rid,vB m.code,vF m.has,vU m.id,vT m.key,vT m.val,vU m.peer.id,vH m.peer.addr,.lit 25 false (yab zad m.peers),.lit 76 false (yab zag m.pairs)]]⟩)
instance {m}:InjS (zgU m):=⟨by unfold zgU;exact ij_⟩
def zjt(m:Msg)(i:Int):Option (Unit⊕Unit):=asks (fun γ=>(lim F pr).loop [1,3] 1 zwb ⟨bd 1 (.bptr 0 0::bd 1 (vI i::bd 47 [])),[.box 39 [vI m.kind,vW m.rid,vB m.code,vF m.has,vU m.id,vT m.key,vT m.val,vU m.peer.id,vH m.peer.addr,.lit 25 false (yab zad m.peers),.lit 76 false (yab zag m.pairs)]]⟩) (zgU m)
def zkc(m:Msg)(i:Int):Option (Unit⊕Unit):=
 bif yac.ilt i (xlen zag m.pairs)then
  (xget zag m.pairs i).bind fun x=>
  bif yac.ilt 300 (yac.slen x.key)then some (.inl ())else
  bif yac.ilt 700 (yac.slen x.val)then some (.inl ())else
  zjt m (yac.iadd .i64 i 1)
 else
  some (.inr ())
theorem zss{m i r}:zkc m i=some r->zjt m i=some r:=by
 unfold zkc;refine kas fun γ=>kc (fun h1=>kb fun x h2=>kc (fun h3=>lr [] ?_) fun h3=>kc (fun h4=>lr [] ?_) fun h4=>lg [] fun γ' h0=>?_) fun h1=>lr [] ?_
 all_goals (dsimp only[zgU]at *;show zaE IF_ _ _ zwb zHC _=_;generalize zwb=c0 at *;exact fin_)
def zru(m:Msg):Option (Bool):=
 bif yac.ilt 300 (yac.slen m.key)then some true else
 bif yac.ilt 700 (yac.slen m.val)then some true else
 bif yac.ilt 40 (xlen zad m.peers)then some true else
 bif yac.ilt 20 (xlen zag m.pairs)then some true else
 (zjt m 0).bind fun r=>match r with
  | .inl ()=>
   some true
  | .inr ()=>
   some false
theorem zEN{m r}:zru m=some r->zqH m=some r:=by
 unfold zru;refine ka (kc (fun h1=>l0 rfl ?_) fun h1=>kc (fun h2=>l0 rfl ?_) fun h2=>kc (fun h3=>l0 rfl ?_) fun h3=>kc (fun h4=>l0 rfl ?_) fun h4=>ks [] fun| .inl _,γ1,h5=>(l0 rfl ?_)| .inr _,γ1,h5=>(l0 rfl ?_))
 all_goals (dsimp only[R1,zgU]at *;show zak IF_ (g13F zwb) _ _=_;generalize zwb=c0 at *;exact fin_)
def zqZ(n:Node):Option (zqY):=
 bif zar zaa 24 [] n.pred then
  bif zar zaa 24 [] n.list then
   bif zar zab 24 [] n.fingers then
    bif zar zag 32 [] n.store then
     bif zar zaL 56 [] n.pends then
      bif zar eJob 128 [] n.jobs then
       bif zar zaj 64 [] n.results then
        some (n.me.id,n.me.addr,n.clock,n.joined,n.pred,n.list,n.fingers,n.store,n.pends,n.jobs,n.results,n.rid,n.jobID,n.nextBit)
       else
        none
      else
       none
     else
      none
    else
     none
   else
    none
  else
   none
 else
  none
theorem zEd{n r}:zqZ n=some r->zc1 n=some r:=by
 unfold zqZ;refine ka (k1 fun h1=>k1 fun h2=>k1 fun h3=>k1 fun h4=>k1 fun h5=>k1 fun h6=>k1 fun h7=>l0 rfl ?_)
 all_goals (dsimp only[zbr]at *;show zak IF_ g15F _ _=_;exact fin_)
def zln(n:Node)(p:Pend)(m:Msg):Option ((Node×(List Out))):=
 (zc1 n).bind fun⟨zaA,zao,zaB,zat,zaG,zaJ,zam,zaw,zas,zaz,zal,zaK,zaC,zap⟩=>
 (zn3 (⟨zaA,zao⟩:Peer) zaJ p.to_).bind fun res=>
 bif yac.ieq m.kind 4 then
  bif m.has then
   bif zar zad 16 [m.peer] m.peers then
    (zoO (⟨(⟨zaA,zao⟩:Peer),zaB,zat,zaG,res,zam,zaw,zas,zaz,zal,zaK,zaC,zap⟩:Node) ([m.peer]++m.peers)).bind fun⟨r0,r0_⟩=>
    bif yac.ieq p.why 4 then
     (zkj r0 p.job (⟨m.kind,m.rid,m.code,true,m.id,m.key,m.val,m.peer,m.peers,m.pairs⟩:Msg)).bind fun⟨r01,r1⟩=>
     bif zar eOut 136 r0_ r1 then some (r01,(r0_++r1))else
     none
    else
     bif yac.ieq p.why 5 then
      (zlO r0 p.job (⟨m.kind,m.rid,m.code,true,m.id,m.key,m.val,m.peer,m.peers,m.pairs⟩:Msg)).bind fun⟨r01,r1⟩=>
      bif zar eOut 136 r0_ r1 then some (r01,(r0_++r1))else
      none
     else
      bif zar eOut 136 r0_ []then some (r0,(r0_++[]))else
      none
   else
    none
  else
   (zoO (⟨(⟨zaA,zao⟩:Peer),zaB,zat,zaG,res,zam,zaw,zas,zaz,zal,zaK,zaC,zap⟩:Node) m.peers).bind fun⟨r0,r0_⟩=>
   bif yac.ieq p.why 4 then
    (zkj r0 p.job (⟨m.kind,m.rid,m.code,false,m.id,m.key,m.val,m.peer,m.peers,m.pairs⟩:Msg)).bind fun⟨r01,r1⟩=>
    bif zar eOut 136 r0_ r1 then some (r01,(r0_++r1))else
    none
   else
    bif yac.ieq p.why 5 then
     (zlO r0 p.job (⟨m.kind,m.rid,m.code,false,m.id,m.key,m.val,m.peer,m.peers,m.pairs⟩:Msg)).bind fun⟨r01,r1⟩=>
     bif zar eOut 136 r0_ r1 then some (r01,(r0_++r1))else
     none
    else
     bif zar eOut 136 r0_ []then some (r0,(r0_++[]))else
     none
 else
  bif yac.ieq p.why 4 then
   (zkj (⟨(⟨zaA,zao⟩:Peer),zaB,zat,zaG,res,zam,zaw,zas,zaz,zal,zaK,zaC,zap⟩:Node) p.job m).bind fun⟨r0,r1⟩=>
   bif zar eOut 136 [] r1 then some (r0,([]++r1))else
   none
  else
   bif yac.ieq p.why 5 then
    (zlO (⟨(⟨zaA,zao⟩:Peer),zaB,zat,zaG,res,zam,zaw,zas,zaz,zal,zaK,zaC,zap⟩:Node) p.job m).bind fun⟨r0,r1⟩=>
    bif zar eOut 136 [] r1 then some (r0,([]++r1))else
    none
   else
    bif zar eOut 136 [] []then
     some ((⟨(⟨zaA,zao⟩:Peer),zaB,zat,zaG,res,zam,zaw,zas,zaz,zal,zaK,zaC,zap⟩:Node),([]++[]))
    else
     none
theorem zxu{n p m r}:zln n p m=some r->zjO n p m=some r:=by
 unfold zln;refine ka (kb fun⟨zaA,zao,zaB,zat,zaG,zaJ,zam,zaw,zas,zaz,zal,zaK,zaC,zap⟩ h1=>kb fun res h2=>kc (fun h3=>kc (fun h4=>k1 fun h5=>ks [] fun⟨r0,r0_⟩ γ3 h6=>kc (fun h7=>kb fun⟨r01,r1⟩ h8=>k1 fun h9=>l0 rfl ?_) fun h7=>kc (fun h8=>kb fun⟨r01,r1⟩ h9=>k1 fun h10=>l0 rfl ?_) fun h8=>k1 fun h9=>l0 rfl ?_) fun h4=>ks [] fun⟨r0,r0_⟩ γ3 h5=>kc (fun h6=>kb fun⟨r01,r1⟩ h7=>k1 fun h8=>l0 rfl ?_) fun h6=>kc (fun h7=>kb fun⟨r01,r1⟩ h8=>k1 fun h9=>l0 rfl ?_) fun h7=>k1 fun h8=>l0 rfl ?_) fun h3=>kc (fun h4=>kb fun⟨r0,r1⟩ h5=>k1 fun h6=>l0 rfl ?_) fun h4=>kc (fun h5=>kb fun⟨r0,r1⟩ h6=>k1 fun h7=>l0 rfl ?_) fun h5=>k1 fun h6=>l0 rfl ?_)
 all_goals (dsimp only[R1,R2,ziX,zbr]at *;show zak IF_ g16F _ _=_;(try dsimp only[zad,zaa,zab,zag,zaL,eJob,zaj,zaI,eMsg,eOut,zbE,cJob,zah,cMsg,zau,capp]at *);(try simp only[yaT,ybW]at *);(try generalize m.has=q0 at *);exact fin_)
def zng(n:Node)(p:Pend)(m:Msg):Option ((Node×(List Out))):=
 (zsk n.me n.list p.to_).bind fun res=>
 bif yac.ieq m.kind 4 then
  bif m.has then
   bif zar zad 16 [] [m.peer]then
    bif zar zad 16 ([]++[m.peer]) m.peers then
     (ztE (⟨n.me,n.clock,n.joined,n.pred,res,n.fingers,n.store,n.pends,n.jobs,n.results,n.rid,n.jobID,n.nextBit⟩:Node) (([]++[m.peer])++m.peers)).bind fun⟨r0,r0_⟩=>
     bif yac.ieq p.why 4 then
      (zlM r0 p.job (⟨m.kind,m.rid,m.code,true,m.id,m.key,m.val,m.peer,m.peers,m.pairs⟩:Msg)).bind fun⟨r01,r1⟩=>
      bif zar eOut 136 r0_ r1 then some (r01,(r0_++r1))else
      none
     else
      bif yac.ieq p.why 5 then
       (znb r0 p.job (⟨m.kind,m.rid,m.code,true,m.id,m.key,m.val,m.peer,m.peers,m.pairs⟩:Msg)).bind fun⟨r01,r1⟩=>
       bif zar eOut 136 r0_ r1 then some (r01,(r0_++r1))else
       none
      else
       some (r0,r0_)
    else
     none
   else
    none
  else
   bif zar zad 16 [] m.peers then
    (ztE (⟨n.me,n.clock,n.joined,n.pred,res,n.fingers,n.store,n.pends,n.jobs,n.results,n.rid,n.jobID,n.nextBit⟩:Node) ([]++m.peers)).bind fun⟨r0,r0_⟩=>
    bif yac.ieq p.why 4 then
     (zlM r0 p.job (⟨m.kind,m.rid,m.code,false,m.id,m.key,m.val,m.peer,m.peers,m.pairs⟩:Msg)).bind fun⟨r01,r1⟩=>
     bif zar eOut 136 r0_ r1 then some (r01,(r0_++r1))else
     none
    else
     bif yac.ieq p.why 5 then
      (znb r0 p.job (⟨m.kind,m.rid,m.code,false,m.id,m.key,m.val,m.peer,m.peers,m.pairs⟩:Msg)).bind fun⟨r01,r1⟩=>
      bif zar eOut 136 r0_ r1 then some (r01,(r0_++r1))else
      none
     else
      some (r0,r0_)
   else
    none
 else
  bif yac.ieq p.why 4 then
   (zlM (⟨n.me,n.clock,n.joined,n.pred,res,n.fingers,n.store,n.pends,n.jobs,n.results,n.rid,n.jobID,n.nextBit⟩:Node) p.job m).bind fun⟨r0,r1⟩=>
   bif zar eOut 136 [] r1 then some (r0,([]++r1))else
   none
  else
   bif yac.ieq p.why 5 then
    (znb (⟨n.me,n.clock,n.joined,n.pred,res,n.fingers,n.store,n.pends,n.jobs,n.results,n.rid,n.jobID,n.nextBit⟩:Node) p.job m).bind fun⟨r0,r1⟩=>
    bif zar eOut 136 [] r1 then some (r0,([]++r1))else
    none
   else
    some ((⟨n.me,n.clock,n.joined,n.pred,res,n.fingers,n.store,n.pends,n.jobs,n.results,n.rid,n.jobID,n.nextBit⟩:Node),[])
theorem zzV{n p m r}:zng n p m=some r->zpG n p m=some r:=by
 unfold zng;refine ka (kb fun res h1=>kc (fun h2=>kc (fun h3=>k1 fun h4=>k1 fun h5=>ks [] fun⟨r0,r0_⟩ γ2 h6=>kc (fun h7=>kb fun⟨r01,r1⟩ h8=>k1 fun h9=>l0 rfl ?_) fun h7=>kc (fun h8=>kb fun⟨r01,r1⟩ h9=>k1 fun h10=>l0 rfl ?_) fun h8=>l0 rfl ?_) fun h3=>k1 fun h4=>ks [] fun⟨r0,r0_⟩ γ2 h5=>kc (fun h6=>kb fun⟨r01,r1⟩ h7=>k1 fun h8=>l0 rfl ?_) fun h6=>kc (fun h7=>kb fun⟨r01,r1⟩ h8=>k1 fun h9=>l0 rfl ?_) fun h7=>l0 rfl ?_) fun h2=>kc (fun h3=>kb fun⟨r0,r1⟩ h4=>k1 fun h5=>l0 rfl ?_) fun h3=>kc (fun h4=>kb fun⟨r0,r1⟩ h5=>k1 fun h6=>l0 rfl ?_) fun h4=>l0 rfl ?_)
 all_goals (dsimp only[R1,R2,zmj]at *;show zak IF_ g17F _ _=_;(try dsimp only[zad,zaa,zab,zag,zaL,eJob,zaj,zaI,eMsg,eOut,zbE,cJob,zah,cMsg,zau,capp]at *);(try simp only[yaT,ybW]at *);(try generalize m.has=q0 at *);exact fin_)
def zhT(a:Node)(b:Node)(γ:Nat->Nat):Bool->X×St
 |a0=>(.ret,⟨bd 4 (vF a0::bd 79 []),[.box 34 (zah a),.box 34 (zah b)]⟩)
instance {a b}:InjS (zhT a b):=⟨by unfold zhT;exact ij_⟩
def zre(a:Node)(b:Node):Option (Bool):=asks (fun γ=>(lim F pr).seg [4] zBt ⟨bd 2 (.bptr 0 0:: .bptr 1 0::bd 80 []),[.box 34 (zah a),.box 34 (zah b)]⟩) (zhT a b)
def zhS(a:Node)(b:Node)(γ:Nat->Nat):Bool->X×St
 |a0=>(.ret,⟨bd 4 (vF a0::bd 79 []),[.box 34 (zah a),.box 34 (zah b)]⟩)
instance {a b}:InjS (zhS a b):=⟨by unfold zhS;exact ij_⟩
def zrd(a:Node)(b:Node):Option (Bool):=asks (fun γ=>(lim F pr).seg [4] zBs ⟨bd 2 (.bptr 0 0:: .bptr 1 0::bd 80 []),[.box 34 (zah a),.box 34 (zah b)]⟩) (zhS a b)
def zoo(a:Node)(b:Node):Option (Bool):=
 (ztn a.pred b.pred).bind fun res=>
 bif res then
  (ztn a.list b.list).bind fun res1=>
  bif res1 then
   (zxC a.fingers b.fingers).bind fun res2=>
   bif res2 then zrd a b else
   some false
  else
   some false
 else
  some false
theorem zA2{a b r}:zoo a b=some r->zre a b=some r:=by
 unfold zoo;refine kas fun γ=>kb fun res h1=>kc (fun h2=>kb fun res1 h3=>kc (fun h4=>kb fun res2 h5=>kc (fun h6=>ps [] fun t4 γ4 h7=>ls [] ?_) fun h6=>ls [] ?_) fun h4=>ls [] ?_) fun h2=>ls [] ?_
 all_goals (dsimp only[R1,zhS,zhT]at *;show Ifc.apart IF_ _ (zHE zBs) _=_;generalize zBs=c0 at *;exact fin_)
def zon(a:Node)(b:Node):Option (Bool):=
 (zqp a.store b.store).bind fun res=>
 bif res then
  (zvw a.pends b.pends).bind fun res1=>
  bif res1 then zxD a b else
  some false
 else
  some false
theorem zA1{a b r}:zon a b=some r->zrd a b=some r:=by
 unfold zon;refine kas fun γ=>kb fun res h1=>kc (fun h2=>kb fun res1 h3=>kc (fun h4=>pb fun res2 h5=>ls [] ?_) fun h4=>ls [] ?_) fun h2=>ls [] ?_
 all_goals (dsimp only[R1,zhS]at *;show Ifc.apart IF_ _ zHD _=_;exact fin_)
def ztt(a:Node)(b:Node):Option (Bool):=
 bif yac.ieq a.me.id b.me.id then
  bif yac.ieq a.me.addr b.me.addr then
   bif yac.ieq a.clock b.clock then
    bif yac.beq a.joined b.joined then
     bif yac.ieq a.rid b.rid then
      bif yac.ieq a.jobID b.jobID then
       bif yac.ieq a.nextBit b.nextBit then zre a b else
       some false
      else
       some false
     else
      some false
    else
     some false
   else
    some false
  else
   some false
 else
  some false
theorem zHa{a b r}:ztt a b=some r->zna a b=some r:=by
 unfold ztt;refine ka (kc (fun h1=>kc (fun h2=>kc (fun h3=>kc (fun h4=>kc (fun h5=>kc (fun h6=>kc (fun h7=>ps [] fun t4 γ1 h8=>l0 rfl ?_) fun h7=>l0 rfl ?_) fun h6=>l0 rfl ?_) fun h5=>l0 rfl ?_) fun h4=>l0 rfl ?_) fun h3=>l0 rfl ?_) fun h2=>l0 rfl ?_) fun h1=>l0 rfl ?_)
 all_goals (dsimp only[R1,zhT]at *;show zak IF_ (g18F zBt) _ _=_;generalize zBt=c0 at *;exact fin_)
def zhR(γ:Nat->Nat):Unit⊕Unit->X×St
 | .inl ()=>(.ret,⟨bd 4 (vF false::bd 37 []),[]⟩)
 | .inr ()=>(.brk 0,⟨bd 42 [],[]⟩)
instance :InjS zhR:=⟨by unfold zhR;exact ij_⟩
def znE(a:List Out)(b:List Out)(i:Int):Option (Unit⊕Unit):=asks (fun γ=>(lim F pr).loop [0,1,5] 0 zwc ⟨.lit 78 false (yab eOut a):: .lit 78 false (yab eOut b)::bd 3 (vI i::bd 36 []),[]⟩) zhR
def zkX(a:List Out)(b:List Out)(i:Int):Option (Unit⊕Unit):=
 bif yac.ilt i (xlen eOut a)then
  (xget eOut a i).bind fun x=>
  (xget eOut b i).bind fun x1=>
  bif yac.ieq x.to_.id x1.to_.id then
   bif yac.ieq x.to_.addr x1.to_.addr then
    (zxz x.msg x1.msg).bind fun res=>
    bif res then znE a b (yac.iadd .i64 i 1)else
    some (.inl ())
   else
    some (.inl ())
  else
   some (.inl ())
 else
  some (.inr ())
theorem zt9{a b i r}:zkX a b i=some r->znE a b i=some r:=by
 unfold zkX;refine kas fun γ=>kc (fun h1=>kb fun x h2=>kb fun x1 h3=>kc (fun h4=>kc (fun h5=>kb fun res h6=>kc (fun h7=>lg [] fun γ' h0=>?_) fun h7=>lr [] ?_) fun h5=>lr [] ?_) fun h4=>lr [] ?_) fun h1=>lr [] ?_
 all_goals (dsimp only[R1,zhR]at *;show zaE IF_ _ _ zwc zHF _=_;generalize zwc=c0 at *;exact fin_)
def zts(a:List Out)(b:List Out):Option (Bool):=
 bif yac.ieq (xlen eOut a) (xlen eOut b)then
  (znE a b 0).bind fun r=>match r with
   | .inl ()=>
    some false
   | .inr ()=>
    some true
 else
  some false
theorem zG9{a b r}:zts a b=some r->zpz a b=some r:=by
 unfold zts;refine ka (kc (fun h1=>ks [] fun| .inl _,γ1,h2=>(l0 rfl ?_)| .inr _,γ1,h2=>(l0 rfl ?_)) fun h1=>l0 rfl ?_)
 all_goals (dsimp only[R1,zhR]at *;show zak IF_ (g19F zwc) _ _=_;generalize zwc=c0 at *;exact fin_)
def zeM(me:Peer)(l:List Entry)(γ:Nat->Nat):Unit⊕Unit->X×St
 | .inl ()=>(.ret,⟨bd 4 (vF false::bd 53 []),[.box 25 [vU me.id,vH me.addr]]⟩)
 | .inr ()=>(.brk 0,⟨bd 1 (.lit 55 false (yab zaa l)::bd 56 []),[.box 25 [vU me.id,vH me.addr]]⟩)
instance {me l}:InjS (zeM me l):=⟨by unfold zeM;exact ij_⟩
def zjQ(me:Peer)(l:List Entry)(t9:Int):Option (Unit⊕Unit):=asks (fun γ=>(lim F pr).loop [8,7,2,9,1] 1 zwg ⟨bd 1 (.lit 55 false (yab zaa l):: .bptr 0 0::bd 4 (.lit 55 false (yab zaa l)::vI (xlen zaa l)::vI t9::bd 48 [])),[.box 25 [vU me.id,vH me.addr]]⟩) (zeM me l)
abbrev zlp:=(Int×Int×Int×Int)⊕(Int×Int×Int)
def zeN(me:Peer)(l:List Entry)(γ:Nat->Nat):zlp->X×St
 | .inl (a0,a1,a2,a3)=>(.nor,⟨bd 1 (.lit 55 false (yab zaa l):: .bptr 0 0::bd 4 (.lit 55 false (yab zaa l)::vI (xlen zaa l)::vI a0::bd 48 [])),[.box 25 [vU me.id,vH me.addr],.box 55 [vU a1,vH a2,vI a3]]⟩)
 | .inr (b0,b1,b2)=>(.ret,⟨bd 4 (vF false::bd 53 []),[.box 25 [vU me.id,vH me.addr],.box 55 [vU b0,vH b1,vI b2]]⟩)
instance {me l}:InjS (zeN me l):=⟨by unfold zeN;exact ij_⟩
def zjR(me:Peer)(l:List Entry)(i:Int)(t9:Int)(zbS:Int)(zbp:Int)(zcZ:Int):Option (zlp):=asks (fun γ=>(lim F pr).seg [9,8,7,2,1] zBu ⟨bd 1 (.lit 55 false (yab zaa l):: .bptr 0 0::bd 2 (vI i:: .bptr 1 0:: .lit 55 false (yab zaa l)::vI (xlen zaa l)::vI t9::bd 48 [])),[.box 25 [vU me.id,vH me.addr],.box 55 [vU zbS,vH zbp,vI zcZ]]⟩) (zeN me l)
def zeL(me:Peer)(l:List Entry)(t9:Int):Option (Unit⊕Unit):=
 bif yac.ilt t9 (xlen zaa l)then
  (xget zaa l t9).bind fun x=>
  bif yac.ilt x.misses 0 then some (.inl ())else
  bif yac.ile 3 x.misses then some (.inl ())else
  bif yac.ieq x.peer.addr me.addr then some (.inl ())else
  (zeq l x.peer.addr).bind fun res=>
  bif yac.ieq res t9 then
   (zjR me l t9 t9 x.peer.id x.peer.addr x.misses).bind fun r=>match r with
    | .inl (t91,zbS,zbp,zcZ)=>
     zjQ me l (yac.iadd .i64 t91 1)
    | .inr (zbS,zbp,zcZ)=>
     some (.inl ())
  else
   some (.inl ())
 else
  some (.inr ())
theorem zlo{me l t9 r}:zeL me l t9=some r->zjQ me l t9=some r:=by
 unfold zeL;refine kas fun γ=>kc (fun h1=>kb fun x h2=>kc (fun h3=>lr [] ?_) fun h3=>kc (fun h4=>lr [] ?_) fun h4=>kc (fun h5=>lr [] ?_) fun h5=>kb fun res h6=>kc (fun h7=>ks [] fun| .inl ⟨t91,zbS,zbp,zcZ⟩,γ2,h8=>(lg [] fun γ' h0=>?_)| .inr ⟨zbS,zbp,zcZ⟩,γ2,h8=>(lr [] ?_)) fun h7=>lr [] ?_) fun h1=>lr [] ?_
 all_goals (dsimp only[R1,zeM,zeN]at *;show zaE IF_ _ _ zwg (zHK zBu) _=_;generalize zwg=c0,zBu=c1 at *;exact fin_)
def zhm(me:Peer)(l:List Entry)(i:Int)(t9:Int)(zbS:Int)(zbp:Int)(zcZ:Int):Option (zlp):=
 bif yac.ilt 0 i then
  (xget zaa l (yac.isub .i64 i 1)).bind fun x=>
  (znx me x.peer (⟨zbS,zbp⟩:Peer)).bind fun res=>
  bif res then some (.inl (t9,zbS,zbp,zcZ))else
  some (.inr (zbS,zbp,zcZ))
 else
  some (.inl (t9,zbS,zbp,zcZ))
theorem zpr{me l i t9 zbS zbp zcZ r}:zhm me l i t9 zbS zbp zcZ=some r->zjR me l i t9 zbS zbp zcZ=some r:=by
 unfold zhm;refine kas fun γ=>kc (fun h1=>kb fun x h2=>kb fun res h3=>kc (fun h4=>ls [] ?_) fun h4=>ls [] ?_) fun h1=>ls [] ?_
 all_goals (dsimp only[R1,zeN]at *;show Ifc.apart IF_ _ zHJ _=_;exact fin_)
def zog(me:Peer)(l:List Entry):Option (Bool):=
 (zjQ me l 0).bind fun r=>match r with
  | .inl ()=>
   some false
  | .inr ()=>
   some (yac.ile (xlen zaa l) 15)
theorem zAT{me l r}:zog me l=some r->zqX me l=some r:=by
 unfold zog;refine ka (ks [] fun| .inl _,γ1,h1=>(l0 rfl ?_)| .inr _,γ1,h1=>(l0 rfl ?_))
 all_goals (dsimp only[R1,zeM]at *;show zak IF_ (g24F zwg) _ _=_;generalize zwg=c0 at *;exact fin_)
def zmT(n:Node)(p:Pend):Option ((Node×(List Out))):=
 (zc1 n).bind fun⟨zaA,zao,zaB,zat,zaG,zaJ,zam,zaw,zas,zaz,zal,zaK,zaC,zap⟩=>
 (zs9 zaJ p.to_.addr).bind fun res=>
 (zeq res p.to_.addr).bind fun res1=>
 bif yac.ilt res1 0 then
  (zsT zam p.to_.addr).bind fun res2=>
  (zoQ zaG p.to_.addr).bind fun res3=>
  bif yac.ieq p.why 4 then
   zin (⟨(⟨zaA,zao⟩:Peer),zaB,zat,res3,res,res2,zaw,zas,zaz,zal,zaK,zaC,zap⟩:Node) p.job 18
  else
   bif yac.ieq p.why 5 then
    zin (⟨(⟨zaA,zao⟩:Peer),zaB,zat,res3,res,res2,zaw,zas,zaz,zal,zaK,zaC,zap⟩:Node) p.job 18
   else
    some ((⟨(⟨zaA,zao⟩:Peer),zaB,zat,res3,res,res2,zaw,zas,zaz,zal,zaK,zaC,zap⟩:Node),[])
 else
  bif yac.ieq p.why 4 then
   zin (⟨(⟨zaA,zao⟩:Peer),zaB,zat,zaG,res,zam,zaw,zas,zaz,zal,zaK,zaC,zap⟩:Node) p.job 18
  else
   bif yac.ieq p.why 5 then
    zin (⟨(⟨zaA,zao⟩:Peer),zaB,zat,zaG,res,zam,zaw,zas,zaz,zal,zaK,zaC,zap⟩:Node) p.job 18
   else
    some ((⟨(⟨zaA,zao⟩:Peer),zaB,zat,zaG,res,zam,zaw,zas,zaz,zal,zaK,zaC,zap⟩:Node),[])
theorem zzB{n p r}:zmT n p=some r->zpl n p=some r:=by
 unfold zmT;refine ka (kb fun⟨zaA,zao,zaB,zat,zaG,zaJ,zam,zaw,zas,zaz,zal,zaK,zaC,zap⟩ h1=>kb fun res h2=>kb fun res1 h3=>kc (fun h4=>kb fun res2 h5=>kb fun res3 h6=>kc (fun h7=>pb fun⟨r0,r1⟩ h8=>l0 rfl ?_) fun h7=>kc (fun h8=>pb fun⟨r0,r1⟩ h9=>l0 rfl ?_) fun h8=>l0 rfl ?_) fun h4=>kc (fun h5=>pb fun⟨r0,r1⟩ h6=>l0 rfl ?_) fun h5=>kc (fun h6=>pb fun⟨r0,r1⟩ h7=>l0 rfl ?_) fun h6=>l0 rfl ?_)
 all_goals (dsimp only[K1,R1,R2,zbr]at *;show zak IF_ g20F _ _=_;exact fin_)
def zof(l:List Entry)(addr:Int):Option (Int):=
 zkl l addr
theorem zAS{l addr r}:zof l addr=some r->zeq l addr=some r:=by
 unfold zof;refine ka (pb fun res h1=>l0 rfl ?_)
 all_goals (dsimp only[zc7,R1]at *;show zak IF_ g25F _ _=_;exact fin_)
def zgW(γ:Nat->Nat):Unit⊕Unit->X×St
 | .inl ()=>(.ret,⟨bd 2 (vF true::bd 26 []),[]⟩)
 | .inr ()=>(.brk 0,⟨bd 29 [],[]⟩)
instance :InjS zgW:=⟨by unfold zgW;exact ij_⟩
def zmr(l:List Pair)(i:Int):Option (Unit⊕Unit):=asks (fun γ=>(lim F pr).loop [0,3] 0 zwh ⟨.lit 76 false (yab zag l)::bd 2 (vI i::bd 25 []),[]⟩) zgW
def zgV(l:List Pair)(i:Int):Option (Unit⊕Unit):=
 bif yac.ilt i (xlen zag l)then
  (xget zag l i).bind fun x=>
  bif yac.ilt 300 (yac.slen x.key)then some (.inl ())else
  bif yac.ilt 700 (yac.slen x.val)then some (.inl ())else
  zmr l (yac.iadd .i64 i 1)
 else
  some (.inr ())
theorem zno{l i r}:zgV l i=some r->zmr l i=some r:=by
 unfold zgV;refine kas fun γ=>kc (fun h1=>kb fun x h2=>kc (fun h3=>lr [] ?_) fun h3=>kc (fun h4=>lr [] ?_) fun h4=>lg [] fun γ' h0=>?_) fun h1=>lr [] ?_
 all_goals (dsimp only[zgW]at *;show zaE IF_ _ _ zwh zHL _=_;generalize zwh=c0 at *;exact fin_)
def zrv(l:List Pair):Option (Bool):=
 bif yac.ilt 100 (xlen zag l)then some true else
 (zmr l 0).bind fun r=>match r with
  | .inl ()=>
   some true
  | .inr ()=>
   some false
theorem zEO{l r}:zrv l=some r->zvU l=some r:=by
 unfold zrv;refine ka (kc (fun h1=>l0 rfl ?_) fun h1=>ks [] fun| .inl _,γ1,h2=>(l0 rfl ?_)| .inr _,γ1,h2=>(l0 rfl ?_))
 all_goals (dsimp only[R1,zgW]at *;show zak IF_ (g42F zwh) _ _=_;generalize zwh=c0 at *;exact fin_)
def zgk(me:Peer)(l:List Entry)(p:Peer)(γ:Nat->Nat):(Int×(List Entry))->X×St
 |(a0,a1)=>(.ret,⟨bd 6 (.sub 4 (γ 4) (0) (a0)::bd 57 []),[.box 25 [vU me.id,vH me.addr],.box 25 [vU p.id,vH p.addr],.row 55 (γ 2) false (yab zaa []),.row 55 (γ 3) true (yab zaa l),.row 55 (γ 4) false (yab zaa a1)]⟩)
instance {me l p}:InjS (zgk me l p):=⟨by unfold zgk;exact ij_⟩
def zi0(me:Peer)(l:List Entry)(p:Peer):Option ((Int×(List Entry))):=asks (fun γ=>(lim F pr).seg [6] zBw ⟨bd 3 (.bptr 0 0::bd 1 (.bptr 1 0::bd 1 (.sl 3 (γ 3)::bd 56 []))),[.box 25 [vU me.id,vH me.addr],.box 25 [vU p.id,vH p.addr],.row 55 (γ 2) false (yab zaa []),.row 55 (γ 3) false (yab zaa l)]⟩) (zgk me l p)
def zgj(me:Peer)(l:List Entry)(p:Peer)(γ:Nat->Nat):(Int×(List Entry))->X×St
 |(a0,a1)=>(.ret,⟨bd 6 (.sub 4 (γ 4) (0) (a0)::bd 57 []),[.box 25 [vU me.id,vH me.addr],.box 25 [vU p.id,vH p.addr],.row 55 (γ 2) false (yab zaa []),.row 55 (γ 3) true (yab zaa l),.row 55 (γ 4) false (yab zaa a1)]⟩)
instance {me l p}:InjS (zgj me l p):=⟨by unfold zgj;exact ij_⟩
def zl0(me:Peer)(l:List Entry)(p:Peer)(i:Int)(r4:List Entry):Option ((Int×(List Entry))):=asks (fun γ=>(lim F pr).seg [6] zBv ⟨bd 5 (.bptr 1 0::bd 1 (.sl 4 (γ 4)::bd 1 (vI i::bd 54 []))),[.box 25 [vU me.id,vH me.addr],.box 25 [vU p.id,vH p.addr],.row 55 (γ 2) false (yab zaa []),.row 55 (γ 3) true (yab zaa l),.row 55 (γ 4) false (yab zaa r4)]⟩) (zgj me l p)
def zjP(me:Peer)(l:List Entry)(p:Peer):Option ((Int×(List Entry))):=
 (zoQ l p.addr).bind fun res=>
 (zlQ res me.id me.addr p.id p.addr).bind fun res1=>
 bif yac.ilt res1 0 then zl0 me l p (xlen zaa res) res else
 zl0 me l p res1 res
theorem zse{me l p r}:zjP me l p=some r->zi0 me l p=some r:=by
 unfold zjP;refine kas fun γ=>kb fun res h1=>kb fun res1 h2=>kc (fun h3=>ps [0,0,γ 2,γ 3,0] fun⟨t6_hi,r4⟩ γ3 h4=>ls [0,0,γ3 2,γ3 3,γ3 4] ?_) fun h3=>ps [0,0,γ 2,γ 3,0] fun⟨t6_hi,r4⟩ γ3 h4=>ls [0,0,γ3 2,γ3 3,γ3 4] ?_
 all_goals (dsimp only[zec,K1,zgj,zgk]at *;show Ifc.apart IF_ _ (zHN zBv) _=_;generalize zBv=c0 at *;exact fin_)
def zmX(me:Peer)(l:List Entry)(p:Peer)(i:Int)(r4:List Entry):Option ((Int×(List Entry))):=
 bif zar zaa 24 r4 [(⟨p,0⟩:Entry)]then
  (xsub zaa r4 0 i).bind fun ys=>
  (xsub zaa r4 i (xlen zaa r4)).bind fun ys1=>
  bif yac.ilt (yac.isub .i64 (xlen zaa (ys++([(⟨p,0⟩:Entry)]++ys1))) 1) 15 then
   bif yac.ilt 15 (xlen zaa (ys++([(⟨p,0⟩:Entry)]++ys1)))then
    (xsub zaa (ys++([(⟨p,0⟩:Entry)]++ys1)) 0 15).bind fun ys2=>
    some (15,(ys++([(⟨p,0⟩:Entry)]++ys1)))
   else
    (xsub zaa (ys++([(⟨p,0⟩:Entry)]++ys1)) 0 (xlen zaa (ys++([(⟨p,0⟩:Entry)]++ys1)))).bind fun ys2=>
    some (xlen zaa (ys++([(⟨p,0⟩:Entry)]++ys1)),(ys++([(⟨p,0⟩:Entry)]++ys1)))
  else
   bif yac.ilt (yac.isub .i64 (xlen zaa (ys++([(⟨p,0⟩:Entry)]++ys1))) 1) (xlen zaa (ys++([(⟨p,0⟩:Entry)]++ys1)))then
    (xsub zaa (ys++([(⟨p,0⟩:Entry)]++ys1)) 0 (yac.isub .i64 (xlen zaa (ys++([(⟨p,0⟩:Entry)]++ys1))) 1)).bind fun ys2=>
    some (yac.isub .i64 (xlen zaa (ys++([(⟨p,0⟩:Entry)]++ys1))) 1,(ys++([(⟨p,0⟩:Entry)]++ys1)))
   else
    (xsub zaa (ys++([(⟨p,0⟩:Entry)]++ys1)) 0 (xlen zaa (ys++([(⟨p,0⟩:Entry)]++ys1)))).bind fun ys2=>
    some (xlen zaa (ys++([(⟨p,0⟩:Entry)]++ys1)),(ys++([(⟨p,0⟩:Entry)]++ys1)))
 else
  none
theorem zzH{me l p i r4 r}:zmX me l p i r4=some r->zl0 me l p i r4=some r:=by
 unfold zmX;refine kas fun γ=>k1 fun h1=>kb fun ys h2=>kb fun ys1 h3=>kc (fun h4=>kc (fun h5=>kb fun ys2 h6=>ls [0,0,γ 2,γ 3,((γ 4)+1)] ?_) fun h5=>kb fun ys2 h6=>ls [0,0,γ 2,γ 3,((γ 4)+1)] ?_) fun h4=>kc (fun h5=>kb fun ys2 h6=>ls [0,0,γ 2,γ 3,((γ 4)+1)] ?_) fun h5=>kb fun ys2 h6=>ls [0,0,γ 2,γ 3,((γ 4)+1)] ?_
 all_goals (dsimp only[zgj]at *;show Ifc.apart IF_ _ zHM _=_;exact fin_)
def zqW(me:Peer)(l:List Entry)(p:Peer):Option ((List Entry)):=
 bif zar zaa 24 [] l then
  bif yac.ieq p.addr me.addr then some l else
  (zeq l p.addr).bind fun res=>
  bif yac.ile 0 res then
   (xget zaa l res).bind fun x=>
   bif yac.ieq x.peer.id p.id then
    bif yac.ieq x.peer.addr p.addr then some (xset l res (⟨x.peer,0⟩:Entry))else
    (zi0 me l p).bind fun⟨t6_hi,r4⟩=>
    (xsub zaa r4 0 t6_hi).bind fun ys=>
    some ys
   else
    (zi0 me l p).bind fun⟨t6_hi,r4⟩=>
    (xsub zaa r4 0 t6_hi).bind fun ys=>
    some ys
  else
   (zi0 me l p).bind fun⟨t6_hi,r4⟩=>
   (xsub zaa r4 0 t6_hi).bind fun ys=>
   some ys
 else
  none
theorem zEc{me l p r}:zqW me l p=some r->zn3 me l p=some r:=by
 unfold zqW;refine ka (k1 fun h1=>kc (fun h2=>l0 rfl ?_) fun h2=>kb fun res h3=>kc (fun h4=>kb fun x h5=>kc (fun h6=>kc (fun h7=>l0 rfl ?_) fun h7=>ks [0,0,0,0] fun⟨t6_hi,r4⟩ γ2 h8=>kb fun ys h9=>l0 rfl ?_) fun h6=>ks [0,0,0,0] fun⟨t6_hi,r4⟩ γ2 h7=>kb fun ys h8=>l0 rfl ?_) fun h4=>ks [0,0,0,0] fun⟨t6_hi,r4⟩ γ2 h5=>kb fun ys h6=>l0 rfl ?_)
 all_goals (dsimp only[R1,zgk]at *;show zak IF_ (g49F zBw) _ _=_;generalize zBw=c0 at *;exact fin_)
def zmS(x:Entry)(zan:Int)(zai:Int):Option (Bool):=
 bif yac.ieq x.peer.id zan then
  bif yac.ieq x.peer.addr zai then some true else
  some false
 else
  some false
theorem zzA{x zan zai r}:zmS x zan zai=some r->zpj x zan zai=some r:=by
 unfold zmS;refine ka (kc (fun h1=>kc (fun h2=>l0 rfl ?_) fun h2=>l0 rfl ?_) fun h1=>l0 rfl ?_)
 all_goals (dsimp only[zgi]at *;show zak IF_ g71F _ _=_;exact fin_)
def zcg(zan:Int)(zai:Int)(γ:Nat->Nat):Int⊕Unit->X×St
 | .inl a0=>(.ret,⟨bd 4 (vI a0::bd 14 []),[.box 25 [vU zan,vH zai]]⟩)
 | .inr ()=>(.brk 0,⟨bd 19 [],[.box 25 [vU zan,vH zai]]⟩)
instance {zan zai}:InjS (zcg zan zai):=⟨by unfold zcg;exact ij_⟩
def zek(s:List Entry)(zan:Int)(zai:Int)(t8:Int):Option (Int⊕Unit):=asks (fun γ=>(lim F pr).loop [7,1,0,8] 1 zdn ⟨.lit 55 false (yab zaa s):: .fn 71 [.bptr 0 0]::bd 5 (vI (xlen zaa s)::vI t8::bd 10 []),[.box 25 [vU zan,vH zai]]⟩) (zcg zan zai)
def zcf(s:List Entry)(zan:Int)(zai:Int)(t8:Int):Option (Int⊕Unit):=
 bif yac.ilt t8 (xlen zaa s)then
  (xget zaa s t8).bind fun x=>
  (zpj x zan zai).bind fun res=>
  bif res then some (.inl t8)else
  zek s zan zai (yac.iadd .i64 t8 1)
 else
  some (.inr ())
theorem zfT{s zan zai t8 r}:zcf s zan zai t8=some r->zek s zan zai t8=some r:=by
 unfold zcf;refine kas fun γ=>kc (fun h1=>kb fun x h2=>kb fun res h3=>kc (fun h4=>lr [] ?_) fun h4=>lg [] fun γ' h0=>?_) fun h1=>lr [] ?_
 all_goals (dsimp only[zcg,zgi]at *;show zaE IF_ _ _ zdn zuJ _=_;generalize zdn=c0 at *;exact fin_)
def zit(s:List Entry)(zan:Int)(zai:Int):Option (Int):=
 (zek s zan zai 0).bind fun r=>match r with
  | .inl t4=>
   some t4
  | .inr ()=>
   some (-1)
theorem zuu{s zan zai r}:zit s zan zai=some r->zkn s zan zai=some r:=by
 unfold zit;refine ka (ks [] fun| .inl t4,γ1,h1=>(l0 rfl ?_)| .inr _,γ1,h1=>(l0 rfl ?_))
 all_goals (dsimp only[zc9,zcg]at *;show zak IF_ (g77F zdn) _ _=_;generalize zdn=c0 at *;exact fin_)
def zha(s:List Entry)(zan:Int)(zai:Int):Option (Bool):=
 (zkn s zan zai).bind fun res=>
 some (yac.ile 0 res)
theorem zsx{s zan zai r}:zha s zan zai=some r->ziD s zan zai=some r:=by
 unfold zha;refine ka (kb fun res h1=>l0 rfl ?_)
 all_goals (dsimp only[zcG,zc9]at *;show zak IF_ g70F _ _=_;exact fin_)
def ztd(l:List Pend)(why:Int)(addr:Int):Option (Bool):=
 zoD l why addr
theorem zGO{l why addr r}:ztd l why addr=some r->zxx l why addr=some r:=by
 unfold ztd;refine ka (pb fun res h1=>l0 rfl ?_)
 all_goals (dsimp only[zc5,R1]at *;show zak IF_ g72F _ _=_;exact fin_)
def ztb(n:Node)(to_:Peer)(m:Msg)(why:Int)(job:Int):Option ((Node×(List Out))):=
 (zc1 n).bind fun⟨zaA,zao,zaB,zat,zaG,zaJ,zam,zaw,zas,zaz,zal,zaK,zaC,zap⟩=>
 bif yac.ile 64 (xlen zaL zas)then
  some ((⟨(⟨zaA,zao⟩:Peer),zaB,zat,zaG,zaJ,zam,zaw,zas,zaz,zal,zaK,zaC,zap⟩:Node),[])
 else
  (zxw m).bind fun res=>
  (zxy (⟨(⟨zaA,zao⟩:Peer),zaB,zat,zaG,zaJ,zam,zaw,zas,zaz,zal,yac.iadd .u32 zaK 1,zaC,zap⟩:Node)).bind fun res1=>
  bif zar zaL 56 zas [(⟨yac.iadd .u32 zaK 1,res.kind,why,job,to_,yac.iadd .i64 res1 8⟩:Pend)]then
   some ((⟨(⟨zaA,zao⟩:Peer),zaB,zat,zaG,zaJ,zam,zaw,(zas++[(⟨yac.iadd .u32 zaK 1,res.kind,why,job,to_,yac.iadd .i64 res1 8⟩:Pend)]),zaz,zal,yac.iadd .u32 zaK 1,zaC,zap⟩:Node),[(⟨to_,(⟨res.kind,yac.iadd .u32 zaK 1,res.code,res.has,res.id,res.key,res.val,res.peer,res.peers,res.pairs⟩:Msg)⟩:Out)])
  else
   none
theorem zGN{n to_ m why job r}:ztb n to_ m why job=some r->zi1 n to_ m why job=some r:=by
 unfold ztb;refine ka (kb fun⟨zaA,zao,zaB,zat,zaG,zaJ,zam,zaw,zas,zaz,zal,zaK,zaC,zap⟩ h1=>kc (fun h2=>l0 rfl ?_) fun h2=>kb fun res h3=>kb fun res1 h4=>k1 fun h5=>l0 rfl ?_)
 all_goals (dsimp only[R1,R2,zbr]at *;show zak IF_ g73F _ _=_;exact fin_)
end Go.Ab.Tryz
