/- Our texts for this statement, merged: what its theorem leads to. -/
import Derived.Test.YtdjoeakbjackbaaGreatDoorQLx10
set_option linter.unusedVariables false
set_option linter.unusedSimpArgs false
noncomputable section
namespace Go.Ab.Tryz
open Go Go.Ab Go.Proofs
set_option maxRecDepth 10000
set_option maxHeartbeats 4000000
open Go.Ab.Ops renaming std->yac
open List renaming map->yab
def zoh(a:Int)(x:Int)(b:Int):Option (Bool):=
 bif yac.ieq a b then some (!(yac.ieq x a))else
 bif yac.ieq x b then some false else
 zps a x b
theorem zAU{a x b r}:zoh a x b=some r->zny a x b=some r:=by
 unfold zoh;refine ka (kc (fun h1=>l0 rfl ?_) fun h1=>kc (fun h2=>l0 rfl ?_) fun h2=>pb fun res h3=>l0 rfl ?_)
 all_goals (dsimp only[R1]at *;show zak IF_ zLp _ _=_;exact fin_)
def zvD(n:Node)(j:Job)(has:Bool)(val:ByteArray)(e_:Int):Option (Node):=
 ztw n j.id has val e_
theorem zDf{n j has val e_ r}:zvD n j has val e_=some r->zbv n j has val e_=some r:=by
 unfold zvD;refine ka (pb fun res h1=>l0 rfl ?_)
 all_goals (dsimp only[R1]at *;show zak IF_ zLq _ _=_;exact fin_)
def zyU(n:Node)(j:Job)(to_:Peer):Option ((Node×(List Out))):=
 (zgF n (⟨j.id,j.kind,j.bit,j.key,j.val,j.target,j.via,to_,j.doing,j.hops,j.tries,j.due⟩:Job)).bind fun res=>
 zil res to_ (⟨1,0,0,false,j.target,⟨#[]⟩,⟨#[]⟩,(⟨0,0⟩:Peer),[],[]⟩:Msg) 4 j.id
theorem zHj{n j to_ r}:zyU n j to_=some r->zjn n j to_=some r:=by
 unfold zyU;refine ka (kb fun res h1=>pb fun⟨r0,r1⟩ h2=>l0 rfl ?_)
 all_goals (dsimp only[R1,R2]at *;show zak IF_ zLr _ _=_;exact fin_)
def zgx(γ:Nat->Nat):Unit⊕Unit->X×St
 | .inl ()=>(.ret,⟨bd 4 (vF false::bd 21 []),[]⟩)
 | .inr ()=>(.brk 0,⟨bd 26 [],[]⟩)
instance :InjS zgx:=⟨by unfold zgx;exact ij_⟩
def zi6(a:List Peer)(b:List Peer)(i:Int):Option (Unit⊕Unit):=asks (fun γ=>(lim F pr).loop [0,1,5] 0 zrE ⟨.lit 25 false (yab zad a):: .lit 25 false (yab zad b)::bd 3 (vI i::bd 20 []),[]⟩) zgx
def zcA(a:List Peer)(b:List Peer)(i:Int):Option (Unit⊕Unit):=
 bif yac.ilt i (xlen zad a)then
  (xget zad a i).bind fun x=>
  (xget zad b i).bind fun x1=>
  bif yac.ieq x.id x1.id then
   bif yac.ieq x.addr x1.addr then zi6 a b (yac.iadd .i64 i 1)else
   some (.inl ())
  else
   some (.inl ())
 else
  some (.inr ())
theorem zex{a b i r}:zcA a b i=some r->zi6 a b i=some r:=by
 unfold zcA;refine kas fun γ=>kc (fun h1=>kb fun x h2=>kb fun x1 h3=>kc (fun h4=>kc (fun h5=>lg [] fun γ' h0=>?_) fun h5=>lr [] ?_) fun h4=>lr [] ?_) fun h1=>lr [] ?_
 all_goals (dsimp only[zgx]at *;show zaE IF_ _ _ zrE zE1 _=_;generalize zrE=c0 at *;exact fin_)
def znz(a:List Peer)(b:List Peer):Option (Bool):=
 bif yac.ieq (xlen zad a) (xlen zad b)then
  (zi6 a b 0).bind fun r=>match r with
   | .inl ()=>
    some false
   | .inr ()=>
    some true
 else
  some false
theorem zwY{a b r}:znz a b=some r->zqq a b=some r:=by
 unfold znz;refine ka (kc (fun h1=>ks [] fun| .inl _,γ1,h2=>(l0 rfl ?_)| .inr _,γ1,h2=>(l0 rfl ?_)) fun h1=>l0 rfl ?_)
 all_goals (dsimp only[R1,zgx]at *;show zak IF_ (zLs zrE) _ _=_;generalize zrE=c0 at *;exact fin_)
def zrn(a:Int)(b:Int):Option (Int):=
 some (yac.isub .u64 b a)
theorem zw6{a b r}:zrn a b=some r->zjo a b=some r:=by
 unfold zrn;refine ka (l0 rfl ?_)
 all_goals (dsimp only[R1]at *;show zak IF_ zLA _ _=_;exact fin_)
def zmG(i:Int)(j:Int)(r0:List Entry):Option ((List Entry)):=
 (xsub zaa r0 i j).bind fun ys=>
 (xsub zaa r0 j (xlen zaa r0)).bind fun ys1=>
 bif yac.ieq i j then some r0 else
 (xsub zaa r0 0 i).bind fun ys2=>
 bif yac.ieq 0 0 then
  bif yac.ile (xlen zaa ys1) (yac.isub .i64 (xlen zaa r0) i)then
   (xsub zaa (xput r0 i ys1) 0 (yac.iadd .i64 i (xlen zaa ys1))).bind fun ys3=>
   (xsub zaa (xput r0 i ys1) (xlen zaa ys3) (xlen zaa r0)).bind fun ys4=>
   (xsub zaa (xfil (xput r0 i ys1) (xlen zaa ys3) (xlen zaa r0) (⟨(⟨0,0⟩:Peer),0⟩:Entry)) 0 (yac.iadd .i64 i (xlen zaa ys1))).bind fun ys5=>
   some ys5
  else
   none
 else
  none
theorem zzd{i j r0 r}:zmG i j r0=some r->zo1 i j r0=some r:=by
 unfold zmG;refine kas fun γ=>kb fun ys h1=>kb fun ys1 h2=>kc (fun h3=>lc rfl [γ 0] ?_) fun h3=>kb fun ys2 h4=>k1 fun h5=>k1 fun h6=>kb fun ys3 h7=>kb fun ys4 h8=>kb fun ys5 h9=>lc rfl [(γ 0+1)] ?_
 all_goals (dsimp only[zf2]at *;show zak IF_ zLt _ _=_;exact fin_)
def zr9(f:Finger)(b0:Int):Option (Bool):=
 some (yac.ieq f.peer.addr b0)
theorem zzr{f b0 r}:zr9 f b0=some r->zlT f b0=some r:=by
 unfold zr9;refine ka (l0 rfl ?_)
 all_goals (dsimp only[zev]at *;show zak IF_ zLu _ _=_;exact fin_)
def zb4(r0:List Finger)(b1:Int)(γ:Nat->Nat):Int⊕Unit->X×St
 | .inl a0=>(.ret,⟨bd 4 (vI a0::bd 14 []),[.row 82 (γ 0) false (yab zab r0),.box 23 [vH b1]]⟩)
 | .inr ()=>(.brk 0,⟨bd 19 [],[.row 82 (γ 0) false (yab zab r0),.box 23 [vH b1]]⟩)
instance {r0 b1}:InjS (zb4 r0 b1):=⟨by unfold zb4;exact ij_⟩
def zd0(r0:List Finger)(b1:Int)(t8:Int):Option (Int⊕Unit):=askg (fun γ=>(lim F pr).loop [7,1,0,8] 2 zch ⟨.sl 0 (γ 0):: .fn 134 [.bptr 1 0]::bd 5 (vI (xlen zab r0)::vI t8::bd 10 []),[.row 82 (γ 0) false (yab zab r0),.box 23 [vH b1]]⟩) (zb4 r0 b1)
def zb3(r0:List Finger)(b1:Int)(t8:Int):Option (Int⊕Unit):=
 bif yac.ilt t8 (xlen zab r0)then
  (xget zab r0 t8).bind fun x=>
  (zlT x b1).bind fun res=>
  bif res then some (.inl t8)else
  zd0 r0 b1 (yac.iadd .i64 t8 1)
 else
  some (.inr ())
theorem ze3{r0 b1 t8 r}:zb3 r0 b1 t8=some r->zd0 r0 b1 t8=some r:=by
 unfold zb3;refine kag fun γ=>kc (fun h1=>kb fun x h2=>kb fun res h3=>kc (fun h4=>l2 ?_) fun h4=>lh [γ 0] fun h0=>?_) fun h1=>l2 ?_
 all_goals (dsimp only[zb4,zev]at *;show zaE IF_ _ _ zch zrN _=_;generalize zch=c0 at *;exact fin_)
def zhf(r0:List Finger)(b1:Int):Option (Int):=
 (zd0 r0 b1 0).bind fun r=>match r with
  | .inl t4=>
   some t4
  | .inr ()=>
   some (-1)
theorem zsB{r0 b1 r}:zhf r0 b1=some r->ziI r0 b1=some r:=by
 unfold zhf;refine kag fun γ=>kg [γ 0] fun| .inl t4,h1=>(l0 rfl ?_)| .inr _,h1=>(l0 rfl ?_)
 all_goals (dsimp only[zcL,zb4]at *;show zak IF_ (zyz zch) _ _=_;generalize zch=c0 at *;exact fin_)
def zbH(b1:Int)(γ:Nat->Nat):(Int×(List Finger))->X×St
 |(a0,a1)=>(.brk 0,⟨.sl 0 (γ 0)::bd 4 (vI a0::bd 36 []),[.row 82 (γ 0) false (yab zab a1),.box 23 [vH b1],.row 82 (γ 2) false (yab zab [])]⟩)
instance {b1}:InjS (zbH b1):=⟨by unfold zbH;exact ij_⟩
def zb9(b1:Int)(i:Int)(j:Int)(r0':List Finger):Option ((Int×(List Finger))):=asks (fun γ=>(lim F pr).loop [1,6,0,5] 3 ziO ⟨.sl 0 (γ 0):: .fn 134 [.bptr 1 0]::bd 3 (vI i::vI j::bd 35 []),[.row 82 (γ 0) false (yab zab r0'),.box 23 [vH b1],.row 82 (γ 2) false (yab zab [])]⟩) (zbH b1)
def zeE(b1:Int)(i:Int)(j:Int)(r0':List Finger):Option ((Int×(List Finger))):=
 bif yac.ilt j (xlen zab r0')then
  (xget zab r0' j).bind fun x=>
  (zlT x b1).bind fun res=>
  bif res then zb9 b1 i (yac.iadd .i64 j 1) r0' else
  (xget zab r0' i).bind fun x1=>
  zb9 b1 (yac.iadd .i64 i 1) (yac.iadd .i64 j 1) (xset r0' i x)
 else
  some (i,r0')
theorem zo0{b1 i j r0' r}:zeE b1 i j r0'=some r->zb9 b1 i j r0'=some r:=by
 unfold zeE;refine kas fun γ=>kc (fun h1=>kb fun x h2=>kb fun res h3=>kc (fun h4=>lg [γ 0,0,γ 2] fun γ' h0=>?_) fun h4=>kb fun x1 h5=>lg [γ 0,0,γ 2] fun γ' h0=>?_) fun h1=>lr [γ 0,0,γ 2] ?_
 all_goals (dsimp only[zbH,zev]at *;show zaE IF_ _ _ ziO zzg _=_;generalize ziO=c0 at *;exact fin_)
def zf1(r0:List Finger)(b1:Int):Option ((List Finger)):=
 (ziI r0 b1).bind fun res=>
 bif yac.ieq res (-1)then some r0 else
 (zb9 b1 res (yac.iadd .i64 res 1) r0).bind fun⟨i,r0'⟩=>
 (xsub zab r0' i (xlen zab r0')).bind fun ys=>
 (xsub zab (xfil r0' i (xlen zab r0') (⟨0,(⟨0,0⟩:Peer)⟩:Finger)) 0 i).bind fun ys1=>
 bif yac.ieq 0 0 then some ys1 else
 none
theorem zrx{r0 b1 r}:zf1 r0 b1=some r->zmF r0 b1=some r:=by
 unfold zf1;refine kas fun γ=>kg [γ 0,0] fun res h1=>kc (fun h2=>lc rfl [γ 0,0] ?_) fun h2=>ks [γ 0,0,0] fun⟨i,r0'⟩ γ2 h3=>kb fun ys h4=>kb fun ys1 h5=>k1 fun h6=>lc rfl [((γ2 0)+1),0] ?_
 all_goals (dsimp only[zcq,zbH,zcL]at *;show zak IF_ (zGs ziO) _ _=_;generalize ziO=c0 at *;exact fin_)
def zsf(x:Entry)(b0:Int):Option (Bool):=
 some (yac.ieq x.peer.addr b0)
theorem zmZ{x b0 r}:zsf x b0=some r->zgl x b0=some r:=by
 unfold zsf;refine ka (l0 rfl ?_)
 all_goals (dsimp only[zew]at *;show zak IF_ zLw _ _=_;exact fin_)
def zce(b0:Int)(γ:Nat->Nat):Int⊕Unit->X×St
 | .inl a0=>(.ret,⟨bd 4 (vI a0::bd 14 []),[.box 23 [vH b0]]⟩)
 | .inr ()=>(.brk 0,⟨bd 19 [],[.box 23 [vH b0]]⟩)
instance {b0}:InjS (zce b0):=⟨by unfold zce;exact ij_⟩
def zej(s:List Entry)(b0:Int)(t8:Int):Option (Int⊕Unit):=asks (fun γ=>(lim F pr).loop [7,1,0,8] 1 zdn ⟨.lit 55 false (yab zaa s):: .fn 136 [.bptr 0 0]::bd 5 (vI (xlen zaa s)::vI t8::bd 10 []),[.box 23 [vH b0]]⟩) (zce b0)
def zcd(s:List Entry)(b0:Int)(t8:Int):Option (Int⊕Unit):=
 bif yac.ilt t8 (xlen zaa s)then
  (xget zaa s t8).bind fun x=>
  (zgl x b0).bind fun res=>
  bif res then some (.inl t8)else
  zej s b0 (yac.iadd .i64 t8 1)
 else
  some (.inr ())
theorem zfS{s b0 t8 r}:zcd s b0 t8=some r->zej s b0 t8=some r:=by
 unfold zcd;refine kas fun γ=>kc (fun h1=>kb fun x h2=>kb fun res h3=>kc (fun h4=>lr [] ?_) fun h4=>lg [] fun γ' h0=>?_) fun h1=>lr [] ?_
 all_goals (dsimp only[zce,zew]at *;show zaE IF_ _ _ zdn zuJ _=_;generalize zdn=c0 at *;exact fin_)
def zis(s:List Entry)(b0:Int):Option (Int):=
 (zej s b0 0).bind fun r=>match r with
  | .inl t4=>
   some t4
  | .inr ()=>
   some (-1)
theorem zut{s b0 r}:zis s b0=some r->zkm s b0=some r:=by
 unfold zis;refine ka (ks [] fun| .inl t4,γ1,h1=>(l0 rfl ?_)| .inr _,γ1,h1=>(l0 rfl ?_))
 all_goals (dsimp only[zc8,zce]at *;show zak IF_ (g77F zdn) _ _=_;generalize zdn=c0 at *;exact fin_)
def zcp(b1:Int)(γ:Nat->Nat):(Int×(List Entry))->X×St
 |(a0,a1)=>(.brk 0,⟨.sl 0 (γ 0)::bd 4 (vI a0::bd 36 []),[.row 55 (γ 0) false (yab zaa a1),.box 23 [vH b1],.row 55 (γ 2) false (yab zaa [])]⟩)
instance {b1}:InjS (zcp b1):=⟨by unfold zcp;exact ij_⟩
def zb8(b1:Int)(i:Int)(j:Int)(r0':List Entry):Option ((Int×(List Entry))):=asks (fun γ=>(lim F pr).loop [1,6,0,5] 3 zrF ⟨.sl 0 (γ 0):: .fn 136 [.bptr 1 0]::bd 3 (vI i::vI j::bd 35 []),[.row 55 (γ 0) false (yab zaa r0'),.box 23 [vH b1],.row 55 (γ 2) false (yab zaa [])]⟩) (zcp b1)
def zbG(b1:Int)(i:Int)(j:Int)(r0':List Entry):Option ((Int×(List Entry))):=
 bif yac.ilt j (xlen zaa r0')then
  (xget zaa r0' j).bind fun x=>
  (zgl x b1).bind fun res=>
  bif res then zb8 b1 i (yac.iadd .i64 j 1) r0' else
  (xget zaa r0' i).bind fun x1=>
  zb8 b1 (yac.iadd .i64 i 1) (yac.iadd .i64 j 1) (xset r0' i x)
 else
  some (i,r0')
theorem zdX{b1 i j r0' r}:zbG b1 i j r0'=some r->zb8 b1 i j r0'=some r:=by
 unfold zbG;refine kas fun γ=>kc (fun h1=>kb fun x h2=>kb fun res h3=>kc (fun h4=>lg [γ 0,0,γ 2] fun γ' h0=>?_) fun h4=>kb fun x1 h5=>lg [γ 0,0,γ 2] fun γ' h0=>?_) fun h1=>lr [γ 0,0,γ 2] ?_
 all_goals (dsimp only[zcp,zew]at *;show zaE IF_ _ _ zrF zE2 _=_;generalize zrF=c0 at *;exact fin_)
def ziE(r0:List Entry)(b1:Int):Option ((List Entry)):=
 (zkm r0 b1).bind fun res=>
 bif yac.ieq res (-1)then some r0 else
 (zb8 b1 res (yac.iadd .i64 res 1) r0).bind fun⟨i,r0'⟩=>
 (xsub zaa r0' i (xlen zaa r0')).bind fun ys=>
 (xsub zaa (xfil r0' i (xlen zaa r0') (⟨(⟨0,0⟩:Peer),0⟩:Entry)) 0 i).bind fun ys1=>
 bif yac.ieq 0 0 then some ys1 else
 none
theorem zuv{r0 b1 r}:ziE r0 b1=some r->zle r0 b1=some r:=by
 unfold ziE;refine kas fun γ=>kb fun res h1=>kc (fun h2=>lc rfl [γ 0,0] ?_) fun h2=>ks [γ 0,0,0] fun⟨i,r0'⟩ γ2 h3=>kb fun ys h4=>kb fun ys1 h5=>k1 fun h6=>lc rfl [((γ2 0)+1),0] ?_
 all_goals (dsimp only[zdy,zcp,zc8]at *;show zak IF_ (zLv zrF) _ _=_;generalize zrF=c0 at *;exact fin_)
def ztZ(j:Job)(b0:Int):Option (Bool):=
 some (yac.ieq j.id b0)
theorem zAN{j b0 r}:ztZ j b0=some r->zqS j b0=some r:=by
 unfold ztZ;refine ka (l0 rfl ?_)
 all_goals (dsimp only[zhC]at *;show zak IF_ zMf _ _=_;exact fin_)
def zcN(b0:Int)(γ:Nat->Nat):Int⊕Unit->X×St
 | .inl a0=>(.ret,⟨bd 4 (vI a0::bd 14 []),[.box 3 [vI b0]]⟩)
 | .inr ()=>(.brk 0,⟨bd 19 [],[.box 3 [vI b0]]⟩)
instance {b0}:InjS (zcN b0):=⟨by unfold zcN;exact ij_⟩
def zfe(s:List Job)(b0:Int)(t8:Int):Option (Int⊕Unit):=asks (fun γ=>(lim F pr).loop [7,1,0,8] 1 zrY ⟨.lit 57 false (yab eJob s):: .fn 256 [.bptr 0 0]::bd 5 (vI (xlen eJob s)::vI t8::bd 10 []),[.box 3 [vI b0]]⟩) (zcN b0)
def zcM(s:List Job)(b0:Int)(t8:Int):Option (Int⊕Unit):=
 bif yac.ilt t8 (xlen eJob s)then
  (xget eJob s t8).bind fun x=>
  (zqS x b0).bind fun res=>
  bif res then some (.inl t8)else
  zfe s b0 (yac.iadd .i64 t8 1)
 else
  some (.inr ())
theorem zhg{s b0 t8 r}:zcM s b0 t8=some r->zfe s b0 t8=some r:=by
 unfold zcM;refine kas fun γ=>kc (fun h1=>kb fun x h2=>kb fun res h3=>kc (fun h4=>lr [] ?_) fun h4=>lg [] fun γ' h0=>?_) fun h1=>lr [] ?_
 all_goals (dsimp only[zcN,zhC]at *;show zaE IF_ _ _ zrY zFv _=_;generalize zrY=c0 at *;exact fin_)
def zkp(s:List Job)(b0:Int):Option (Int):=
 (zfe s b0 0).bind fun r=>match r with
  | .inl t4=>
   some t4
  | .inr ()=>
   some (-1)
theorem zwO{s b0 r}:zkp s b0=some r->zpY s b0=some r:=by
 unfold zkp;refine ka (ks [] fun| .inl t4,γ1,h1=>(l0 rfl ?_)| .inr _,γ1,h1=>(l0 rfl ?_))
 all_goals (dsimp only[zed,zcN]at *;show zak IF_ (zMe zrY) _ _=_;generalize zrY=c0 at *;exact fin_)
def zo2(i:Int)(j:Int)(r0:List Job):Option ((List Job)):=
 (xsub eJob r0 i j).bind fun ys=>
 (xsub eJob r0 j (xlen eJob r0)).bind fun ys1=>
 bif yac.ieq i j then some r0 else
 (xsub eJob r0 0 i).bind fun ys2=>
 bif yac.ieq 0 0 then
  bif yac.ile (xlen eJob ys1) (yac.isub .i64 (xlen eJob r0) i)then
   (xsub eJob (xput r0 i ys1) 0 (yac.iadd .i64 i (xlen eJob ys1))).bind fun ys3=>
   (xsub eJob (xput r0 i ys1) (xlen eJob ys3) (xlen eJob r0)).bind fun ys4=>
   (xsub eJob (xfil (xput r0 i ys1) (xlen eJob ys3) (xlen eJob r0) (⟨0,0,0,⟨#[]⟩,⟨#[]⟩,0,(⟨0,0⟩:Peer),(⟨0,0⟩:Peer),false,0,0,0⟩:Job)) 0 (yac.iadd .i64 i (xlen eJob ys1))).bind fun ys5=>
   some ys5
  else
   none
 else
  none
theorem zBV{i j r0 r}:zo2 i j r0=some r->zsy i j r0=some r:=by
 unfold zo2;refine kas fun γ=>kb fun ys h1=>kb fun ys1 h2=>kc (fun h3=>lc rfl [γ 0] ?_) fun h3=>kb fun ys2 h4=>k1 fun h5=>k1 fun h6=>kb fun ys3 h7=>kb fun ys4 h8=>kb fun ys5 h9=>lc rfl [(γ 0+1)] ?_
 all_goals (dsimp only[ziF]at *;show zak IF_ zMk _ _=_;exact fin_)
def zgh(j:Job)(has:Bool)(val:ByteArray)(e_:Int)(zbf:Int)(zaZ:Int)(zbd:Int)(za3:Bool)(zbC:Int)(zbe:Int)(za0:Int)(r1:List Entry)(r2:List Entry)(r3:List Finger)(r4:List Pair)(r5:List Pend)(r6:List Job)(r7:List Result)(γ:Nat->Nat):(List Result)->X×St
 |a0=>(.nor,⟨bd 53 [],[.box 34 [vU zbf,vH zaZ,vI zbd,vF za3,.sl 1 (γ 1),.sl 2 (γ 2),.sl 3 (γ 3),.sl 4 (γ 4),.sl 5 (γ 5),.sl 6 (γ 6),.sl 9 (γ 9),vW zbC,vI zbe,vI za0],.row 55 (γ 1) false (yab zaa r1),.row 55 (γ 2) false (yab zaa r2),.row 82 (γ 3) false (yab zab r3),.row 76 (γ 4) false (yab zag r4),.row 36 (γ 5) false (yab zaL r5),.row 57 (γ 6) false (yab eJob r6),.row 74 (γ 7) false (yab zaj (r7++[(⟨j.id,j.kind,j.key,val,has,e_⟩:Result)])),.box 57 (cJob j),.row 74 (γ 9) false (yab zaj a0)]⟩)
instance {j has val e_ zbf zaZ zbd za3 zbC zbe za0 r1 r2 r3 r4 r5 r6 r7}:InjS (zgh j has val e_ zbf zaZ zbd za3 zbC zbe za0 r1 r2 r3 r4 r5 r6 r7):=⟨by unfold zgh;exact ij_⟩
def zlU(j:Job)(has:Bool)(val:ByteArray)(e_:Int)(zbf:Int)(zaZ:Int)(zbd:Int)(za3:Bool)(zbC:Int)(zbe:Int)(za0:Int)(r1:List Entry)(r2:List Entry)(r3:List Finger)(r4:List Pair)(r5:List Pend)(r6:List Job)(r7:List Result):Option ((List Result)):=asks (fun γ=>(lim F pr).seg [] zx9 ⟨.bptr 0 0::bd 1 (vF has::vT val::vI e_::bd 1 (.bptr 8 0::bd 46 [])),[.box 34 [vU zbf,vH zaZ,vI zbd,vF za3,.sl 1 (γ 1),.sl 2 (γ 2),.sl 3 (γ 3),.sl 4 (γ 4),.sl 5 (γ 5),.sl 6 (γ 6),.sl 7 (γ 7),vW zbC,vI zbe,vI za0],.row 55 (γ 1) false (yab zaa r1),.row 55 (γ 2) false (yab zaa r2),.row 82 (γ 3) false (yab zab r3),.row 76 (γ 4) false (yab zag r4),.row 36 (γ 5) false (yab zaL r5),.row 57 (γ 6) false (yab eJob r6),.row 74 (γ 7) false (yab zaj r7),.box 57 (cJob j)]⟩) (zgh j has val e_ zbf zaZ zbd za3 zbC zbe za0 r1 r2 r3 r4 r5 r6 r7)
def zsb(j:Job)(has:Bool)(val:ByteArray)(e_:Int)(zbf:Int)(zaZ:Int)(zbd:Int)(za3:Bool)(zbC:Int)(zbe:Int)(za0:Int)(r1:List Entry)(r2:List Entry)(r3:List Finger)(r4:List Pair)(r5:List Pend)(r6:List Job)(r7:List Result):Option ((List Result)):=
 bif zar zaj 64 r7 [(⟨j.id,j.kind,j.key,val,has,e_⟩:Result)]then
  bif yac.ilt 0 (yac.isub .i64 (xlen zaj (r7++[(⟨j.id,j.kind,j.key,val,has,e_⟩:Result)])) 16)then
   (xsub zaj (r7++[(⟨j.id,j.kind,j.key,val,has,e_⟩:Result)]) (yac.isub .i64 (xlen zaj (r7++[(⟨j.id,j.kind,j.key,val,has,e_⟩:Result)])) 16) (xlen zaj (r7++[(⟨j.id,j.kind,j.key,val,has,e_⟩:Result)]))).bind fun ys=>
   bif zar zaj 64 [] ys then some ys else
   none
  else
   (xsub zaj (r7++[(⟨j.id,j.kind,j.key,val,has,e_⟩:Result)]) 0 (xlen zaj (r7++[(⟨j.id,j.kind,j.key,val,has,e_⟩:Result)]))).bind fun ys=>
   bif zar zaj 64 [] ys then some ys else
   none
 else
  none
theorem zzy{j has val e_ zbf zaZ zbd za3 zbC zbe za0 r1 r2 r3 r4 r5 r6 r7 r}:zsb j has val e_ zbf zaZ zbd za3 zbC zbe za0 r1 r2 r3 r4 r5 r6 r7=some r->zlU j has val e_ zbf zaZ zbd za3 zbC zbe za0 r1 r2 r3 r4 r5 r6 r7=some r:=by
 unfold zsb;refine kas fun γ=>k1 fun h1=>kc (fun h2=>kb fun ys h3=>k1 fun h4=>ls [0,γ 1,γ 2,γ 3,γ 4,γ 5,γ 6,((γ 7)+1),0,0] ?_) fun h2=>kb fun ys h3=>k1 fun h4=>ls [0,γ 1,γ 2,γ 3,γ 4,γ 5,γ 6,((γ 7)+1),0,0] ?_
 all_goals (dsimp only[zgh]at *;show Ifc.apart IF_ _ zE3 _=_;exact fin_)
def zqU(j:Job)(has:Bool)(val:ByteArray)(e_:Int)(zbf:Int)(zaZ:Int)(zbd:Int)(za3:Bool)(zbC:Int)(zbe:Int)(za0:Int)(r1:List Entry)(r2:List Entry)(r3:List Finger)(r4:List Pair)(r5:List Pend)(r6:List Job)(r7:List Result):Option (((List Result)×(List Result))⊕Unit):=
 bif yac.ieq j.kind 2 then
  (zlU j has val e_ zbf zaZ zbd za3 zbC zbe za0 r1 r2 r3 r4 r5 r6 r7).bind fun r9=>
  some (.inl ((r7++[(⟨j.id,j.kind,j.key,val,has,e_⟩:Result)]),r9))
 else
  bif yac.ieq j.kind 3 then
   (zlU j has val e_ zbf zaZ zbd za3 zbC zbe za0 r1 r2 r3 r4 r5 r6 r7).bind fun r9=>
   some (.inl ((r7++[(⟨j.id,j.kind,j.key,val,has,e_⟩:Result)]),r9))
  else
   some (.inr ())
theorem zD2{j has val e_ zbf zaZ zbd za3 zbC zbe za0 r1 r2 r3 r4 r5 r6 r7 r}:zqU j has val e_ zbf zaZ zbd za3 zbC zbe za0 r1 r2 r3 r4 r5 r6 r7=some r->zu0 j has val e_ zbf zaZ zbd za3 zbC zbe za0 r1 r2 r3 r4 r5 r6 r7=some r:=by
 unfold zqU;refine kas fun γ=>kc (fun h1=>ks [0,γ 1,γ 2,γ 3,γ 4,γ 5,γ 6,γ 7] fun r9 γ1 h2=>lc rfl [0,γ1 1,γ1 2,γ1 3,γ1 4,γ1 5,γ1 6,γ1 7,γ1 9] ?_) fun h1=>kc (fun h2=>ks [0,γ 1,γ 2,γ 3,γ 4,γ 5,γ 6,γ 7] fun r9 γ1 h3=>lc rfl [0,γ1 1,γ1 2,γ1 3,γ1 4,γ1 5,γ1 6,γ1 7,γ1 9] ?_) fun h2=>lc rfl [0,γ 1,γ 2,γ 3,γ 4,γ 5,γ 6,γ 7] ?_
 all_goals (dsimp only[zkx,zgh]at *;show zak IF_ (zLB zx9) _ _=_;generalize zx9=c0 at *;exact fin_)
def zpp(l:List Entry):Option ((List Peer)):=
 zvc l
theorem zCS{l r}:zpp l=some r->zl1 l=some r:=by
 unfold zpp;refine ka (pb fun res h1=>l0 rfl ?_)
 all_goals (dsimp only[K1]at *;show zak IF_ g98F _ _=_;exact fin_)
def zro(a:Int)(x:Int)(b:Int):Option (Bool):=
 bif yac.ieq a b then some true else
 bif yac.ieq x b then some true else
 zgO a x b
theorem zEz{a x b r}:zro a x b=some r->zlN a x b=some r:=by
 unfold zro;refine ka (kc (fun h1=>l0 rfl ?_) fun h1=>kc (fun h2=>l0 rfl ?_) fun h2=>pb fun res h3=>l0 rfl ?_)
 all_goals (dsimp only[R1]at *;show zak IF_ zL3 _ _=_;exact fin_)
def znj(n:Node)(key:Int):Option (Bool):=
 bif yac.ilt 0 (xlen zaa n.pred)then
  (xget zaa n.pred 0).bind fun x=>
  bif yac.ile x.misses 0 then zlN x.peer.id key n.me.id else
  some false
 else
  some false
theorem zzW{n key r}:znj n key=some r->zpI n key=some r:=by
 unfold znj;refine ka (kc (fun h1=>kb fun x h2=>kc (fun h3=>pb fun res h4=>l0 rfl ?_) fun h3=>l0 rfl ?_) fun h1=>l0 rfl ?_)
 all_goals (dsimp only[R1]at *;show zak IF_ zL4 _ _=_;exact fin_)
def zfh(me:Peer)(key:Int)(most:Int)(γ:Nat->Nat):(List Peer)->X×St
 |a0=>(.brk 0,⟨bd 3 (vU key::vI most:: .bptr 0 0::bd 5 (.sl 2 (γ 2)::bd 63 [])),[.box 25 [vU me.id,vH me.addr],.row 25 (γ 1) false (yab zad []),.row 25 (γ 2) false (yab zad a0)]⟩)
instance {me key most}:InjS (zfh me key most):=⟨by unfold zfh;exact ij_⟩
def zkM(me:Peer)(f:List Finger)(key:Int)(most:Int)(t22:Int)(r2:List Peer):Option ((List Peer)):=asks (fun γ=>(lim F pr).loop [21,20,22,11,3,5,4] 3 zrO ⟨bd 3 (vU key::vI most:: .bptr 0 0::bd 5 (.sl 2 (γ 2)::bd 8 (.lit 82 false (yab zab f)::vI (xlen zab f)::vI t22::bd 52 []))),[.box 25 [vU me.id,vH me.addr],.row 25 (γ 1) false (yab zad []),.row 25 (γ 2) false (yab zad r2)]⟩) (zfh me key most)
def zfi(me:Peer)(most:Int)(γ:Nat->Nat):((List Peer)×(List Peer))->X×St
 |(a0,a1)=>(.brk 2,⟨bd 4 (vI most:: .bptr 0 0::bd 8 (.sl 3 (γ 3)::bd 60 [])),[.box 25 [vU me.id,vH me.addr],.row 25 (γ 1) false (yab zad []),.row 25 (γ 2) true (yab zad a0),.row 25 (γ 3) false (yab zad a1)]⟩)
instance {me most}:InjS (zfi me most):=⟨by unfold zfi;exact ij_⟩
def zc0(me:Peer)(key:Int)(most:Int)(t32:List Peer)(t33:Int)(t34:Int)(r2:List Peer)(r3:List Peer):Option (((List Peer)×(List Peer))):=asks (fun γ=>(lim F pr).loop [33,32,11,3,34,5,14,4] 4 zrP ⟨bd 3 (vU key::vI most:: .bptr 0 0::bd 5 (.sl 2 (γ 2)::bd 2 (.sl 3 (γ 3)::bd 17 (.lit 25 false (yab zad t32)::vI t33::vI t34::bd 40 [])))),[.box 25 [vU me.id,vH me.addr],.row 25 (γ 1) false (yab zad []),.row 25 (γ 2) true (yab zad r2),.row 25 (γ 3) false (yab zad r3)]⟩) (zfi me most)
def ziw(me:Peer)(f:List Finger)(key:Int)(most:Int)(t22:Int)(r2:List Peer):Option ((List Peer)):=
 bif yac.ilt t22 (xlen zab f)then
  (xget zab f t22).bind fun x=>
  bif zar zad 16 r2 [x.peer]then
   zkM me f key most (yac.iadd .i64 t22 1) (r2++[x.peer])
  else
   none
 else
  some r2
theorem zqd{me f key most t22 r2 r}:ziw me f key most t22 r2=some r->zkM me f key most t22 r2=some r:=by
 unfold ziw;refine kas fun γ=>kc (fun h1=>kb fun x h2=>k1 fun h3=>lg [0,γ 1,((γ 2)+1)] fun γ' h0=>?_) fun h1=>lr [0,γ 1,γ 2] ?_
 all_goals (dsimp only[zfh]at *;show zaE IF_ _ _ zrO zFj _=_;generalize zrO=c0 at *;exact fin_)
def zix(me:Peer)(key:Int)(most:Int)(t32:List Peer)(t33:Int)(t34:Int)(r2:List Peer)(r3:List Peer):Option (((List Peer)×(List Peer))):=
 bif yac.ilt t34 t33 then
  (xget zad t32 t34).bind fun x=>
  (zmH r2 x.id x.addr).bind fun res=>
  bif yac.ieq res t34 then
   bif yac.ieq x.addr me.addr then zc0 me key most t32 t33 (yac.iadd .i64 t34 1) r2 r3 else
   (zgO me.id x.id key).bind fun res1=>
   bif res1 then
    bif zar zad 16 r3 [x]then
     zc0 me key most t32 t33 (yac.iadd .i64 t34 1) r2 (r3++[x])
    else
     none
   else
    zc0 me key most t32 t33 (yac.iadd .i64 t34 1) r2 r3
  else
   zc0 me key most t32 t33 (yac.iadd .i64 t34 1) r2 r3
 else
  some (r2,r3)
theorem zqe{me key most t32 t33 t34 r2 r3 r}:zix me key most t32 t33 t34 r2 r3=some r->zc0 me key most t32 t33 t34 r2 r3=some r:=by
 unfold zix;refine kas fun γ=>kc (fun h1=>kb fun x h2=>kb fun res h3=>kc (fun h4=>kc (fun h5=>lg [0,γ 1,γ 2,γ 3] fun γ' h0=>?_) fun h5=>kb fun res1 h6=>kc (fun h7=>k1 fun h8=>lg [0,γ 1,γ 2,((γ 3)+1)] fun γ' h0=>?_) fun h7=>lg [0,γ 1,γ 2,γ 3] fun γ' h0=>?_) fun h4=>lg [0,γ 1,γ 2,γ 3] fun γ' h0=>?_) fun h1=>lr [0,γ 1,γ 2,γ 3] ?_
 all_goals (dsimp only[zeF,R1,zfi]at *;show zaE IF_ _ _ zrP zFk _=_;generalize zrP=c0 at *;exact fin_)
def zpf(me:Peer)(l:List Entry)(f:List Finger)(key:Int)(most:Int):Option ((List Peer)):=
 (zl1 l).bind fun res=>
 (zkM me f key most 0 res).bind fun r2=>
 (zc0 me key most r2 (xlen zad r2) 0 r2 []).bind fun⟨r21,r3⟩=>
 (xsrt zad me.id r3).bind fun out=>
 bif yac.ilt most 0 then
  bif yac.ilt 0 (xlen zad out)then
   (xsub zad out 0 0).bind fun ys=>
   some ys
  else
   (xsub zad out 0 (xlen zad out)).bind fun ys=>
   some ys
 else
  bif yac.ilt most (xlen zad out)then
   (xsub zad out 0 most).bind fun ys=>
   some ys
  else
   (xsub zad out 0 (xlen zad out)).bind fun ys=>
   some ys
theorem zCu{me l f key most r}:zpf me l f key most=some r->zsU me l f key most=some r:=by
 unfold zpf;refine ka (kb fun res h1=>ks [0,0,0] fun r2 γ2 h2=>ks [0,γ2 1,γ2 2,0] fun⟨r21,r3⟩ γ3 h3=>kb fun out h4=>kc (fun h5=>kc (fun h6=>kb fun ys h7=>l0 rfl ?_) fun h6=>kb fun ys h7=>l0 rfl ?_) fun h5=>kc (fun h6=>kb fun ys h7=>l0 rfl ?_) fun h6=>kb fun ys h7=>l0 rfl ?_)
 all_goals (dsimp only[K1,R1,zfh,zfi]at *;show zak IF_ (zL5 zrO zrP) _ _=_;generalize zrO=c0,zrP=c1 at *;exact fin_)
def ztX(f:Finger)(b0:Int):Option (Bool):=
 some (yac.ieq f.bit b0)
theorem zAL{f b0 r}:ztX f b0=some r->zqO f b0=some r:=by
 unfold ztX;refine ka (l0 rfl ?_)
 all_goals (dsimp only[zhz]at *;show zak IF_ zMt _ _=_;exact fin_)
def zb0(r0:List Finger)(b1:Int)(γ:Nat->Nat):Int⊕Unit->X×St
 | .inl a0=>(.ret,⟨bd 4 (vI a0::bd 14 []),[.row 82 (γ 0) false (yab zab r0),.box 3 [vI b1]]⟩)
 | .inr ()=>(.brk 0,⟨bd 19 [],[.row 82 (γ 0) false (yab zab r0),.box 3 [vI b1]]⟩)
instance {r0 b1}:InjS (zb0 r0 b1):=⟨by unfold zb0;exact ij_⟩
def zdY(r0:List Finger)(b1:Int)(t8:Int):Option (Int⊕Unit):=askg (fun γ=>(lim F pr).loop [7,1,0,8] 2 zch ⟨.sl 0 (γ 0):: .fn 280 [.bptr 1 0]::bd 5 (vI (xlen zab r0)::vI t8::bd 10 []),[.row 82 (γ 0) false (yab zab r0),.box 3 [vI b1]]⟩) (zb0 r0 b1)
def zbZ(r0:List Finger)(b1:Int)(t8:Int):Option (Int⊕Unit):=
 bif yac.ilt t8 (xlen zab r0)then
  (xget zab r0 t8).bind fun x=>
  (zqO x b1).bind fun res=>
  bif res then some (.inl t8)else
  zdY r0 b1 (yac.iadd .i64 t8 1)
 else
  some (.inr ())
theorem ze1{r0 b1 t8 r}:zbZ r0 b1 t8=some r->zdY r0 b1 t8=some r:=by
 unfold zbZ;refine kag fun γ=>kc (fun h1=>kb fun x h2=>kb fun res h3=>kc (fun h4=>l2 ?_) fun h4=>lh [γ 0] fun h0=>?_) fun h1=>l2 ?_
 all_goals (dsimp only[zb0,zhz]at *;show zaE IF_ _ _ zch zrN _=_;generalize zch=c0 at *;exact fin_)
def zhd(r0:List Finger)(b1:Int):Option (Int):=
 (zdY r0 b1 0).bind fun r=>match r with
  | .inl t4=>
   some t4
  | .inr ()=>
   some (-1)
theorem zsz{r0 b1 r}:zhd r0 b1=some r->ziG r0 b1=some r:=by
 unfold zhd;refine kag fun γ=>kg [γ 0] fun| .inl t4,h1=>(l0 rfl ?_)| .inr _,h1=>(l0 rfl ?_)
 all_goals (dsimp only[zcJ,zb0]at *;show zak IF_ (zyz zch) _ _=_;generalize zch=c0 at *;exact fin_)
def ztY(f:Finger)(b0:Int):Option (Bool):=
 some (yac.ilt b0 f.bit)
theorem zAM{f b0 r}:ztY f b0=some r->zqP f b0=some r:=by
 unfold ztY;refine ka (l0 rfl ?_)
 all_goals (dsimp only[zhA]at *;show zak IF_ zMu _ _=_;exact fin_)
def zb2(r0:List Finger)(b1:Int)(γ:Nat->Nat):Int⊕Unit->X×St
 | .inl a0=>(.ret,⟨bd 4 (vI a0::bd 14 []),[.row 82 (γ 0) false (yab zab r0),.box 3 [vI b1]]⟩)
 | .inr ()=>(.brk 0,⟨bd 19 [],[.row 82 (γ 0) false (yab zab r0),.box 3 [vI b1]]⟩)
instance {r0 b1}:InjS (zb2 r0 b1):=⟨by unfold zb2;exact ij_⟩
def zdZ(r0:List Finger)(b1:Int)(t8:Int):Option (Int⊕Unit):=askg (fun γ=>(lim F pr).loop [7,1,0,8] 2 zch ⟨.sl 0 (γ 0):: .fn 281 [.bptr 1 0]::bd 5 (vI (xlen zab r0)::vI t8::bd 10 []),[.row 82 (γ 0) false (yab zab r0),.box 3 [vI b1]]⟩) (zb2 r0 b1)
def zb1(r0:List Finger)(b1:Int)(t8:Int):Option (Int⊕Unit):=
 bif yac.ilt t8 (xlen zab r0)then
  (xget zab r0 t8).bind fun x=>
  (zqP x b1).bind fun res=>
  bif res then some (.inl t8)else
  zdZ r0 b1 (yac.iadd .i64 t8 1)
 else
  some (.inr ())
theorem ze2{r0 b1 t8 r}:zb1 r0 b1 t8=some r->zdZ r0 b1 t8=some r:=by
 unfold zb1;refine kag fun γ=>kc (fun h1=>kb fun x h2=>kb fun res h3=>kc (fun h4=>l2 ?_) fun h4=>lh [γ 0] fun h0=>?_) fun h1=>l2 ?_
 all_goals (dsimp only[zb2,zhA]at *;show zaE IF_ _ _ zch zrN _=_;generalize zch=c0 at *;exact fin_)
def zhe(r0:List Finger)(b1:Int):Option (Int):=
 (zdZ r0 b1 0).bind fun r=>match r with
  | .inl t4=>
   some t4
  | .inr ()=>
   some (-1)
theorem zsA{r0 b1 r}:zhe r0 b1=some r->ziH r0 b1=some r:=by
 unfold zhe;refine kag fun γ=>kg [γ 0] fun| .inl t4,h1=>(l0 rfl ?_)| .inr _,h1=>(l0 rfl ?_)
 all_goals (dsimp only[zcK,zb2]at *;show zak IF_ (zyz zch) _ _=_;generalize zch=c0 at *;exact fin_)
def zgQ(key:ByteArray)(γ:Nat->Nat):(List Pair)->X×St
 |a0=>(.ret,⟨bd 6 (.sl 2 (γ 2)::vI 0::bd 45 []),[.box 9 [vT key],.row 76 (γ 1) false (yab zag []),.row 76 (γ 2) false (yab zag a0)]⟩)
instance {key}:InjS (zgQ key):=⟨by unfold zgQ;exact ij_⟩
def zpL(l:List Pair)(key:ByteArray)(val:ByteArray):Option ((List Pair)):=asks (fun γ=>(lim F pr).seg [6,7] zyj ⟨bd 2 (vT val::bd 1 (.bptr 0 0::bd 3 (.sl 2 (γ 2)::bd 44 []))),[.box 9 [vT key],.row 76 (γ 1) false (yab zag []),.row 76 (γ 2) false (yab zag l)]⟩) (zgQ key)
def znl(l:List Pair)(key:ByteArray)(val:ByteArray):Option ((List Pair)):=
 (zlg l key).bind fun res=>
 bif yac.ilt res 0 then
  bif zar zag 32 l [(⟨key,val⟩:Pair)]then
   (xsub zag l 0 (xlen zag l)).bind fun ys=>
   (xsub zag l (xlen zag l) (xlen zag l)).bind fun ys1=>
   some (ys++([(⟨key,val⟩:Pair)]++ys1))
  else
   none
 else
  bif zar zag 32 l [(⟨key,val⟩:Pair)]then
   (xsub zag l 0 res).bind fun ys=>
   (xsub zag l res (xlen zag l)).bind fun ys1=>
   some (ys++([(⟨key,val⟩:Pair)]++ys1))
  else
   none
theorem zz0{l key val r}:znl l key val=some r->zpL l key val=some r:=by
 unfold znl;refine kas fun γ=>kb fun res h1=>kc (fun h2=>k1 fun h3=>kb fun ys h4=>kb fun ys1 h5=>ls [0,γ 1,((γ 2)+1)] ?_) fun h2=>k1 fun h3=>kb fun ys h4=>kb fun ys1 h5=>ls [0,γ 1,((γ 2)+1)] ?_
 all_goals (dsimp only[zdA,zgQ]at *;show Ifc.apart IF_ _ zFq _=_;exact fin_)
def zrq(l:List Pair)(key:ByteArray)(val:ByteArray):Option (((List Pair)×Int)):=
 bif zar zag 32 [] l then
  (znP l key).bind fun res=>
  (zzF key).bind fun res1=>
  bif res1 then
   bif yac.ilt 512 (yac.slen val)then some (l,5)else
   bif yac.ile 0 res then
    (xget zag l res).bind fun x=>
    some (xset l res (⟨x.key,val⟩:Pair),0)
   else
    bif yac.ile 64 (xlen zag l)then some (l,10)else
    (zpL l key val).bind fun r2=>
    some (r2,0)
  else
   some (l,7)
 else
  none
theorem zEJ{l key val r}:zrq l key val=some r->zvO l key val=some r:=by
 unfold zrq;refine ka (k1 fun h1=>kb fun res h2=>kb fun res1 h3=>kc (fun h4=>kc (fun h5=>l0 rfl ?_) fun h5=>kc (fun h6=>kb fun x h7=>l0 rfl ?_) fun h6=>kc (fun h7=>l0 rfl ?_) fun h7=>ks [0,0,0] fun r2 γ3 h8=>l0 rfl ?_) fun h4=>l0 rfl ?_)
 all_goals (dsimp only[R1,R2,zgQ]at *;show zak IF_ (zL9 zyj) _ _=_;generalize zyj=c0 at *;exact fin_)
abbrev zmo:=(Node×(List Entry)×(List Entry)×(List Finger)×(List Pair)×(List Pend)×(List Job)×(List Result)×(List Out))
def zfu(to_:Peer)(γ:Nat->Nat):zmo->X×St
 |(a0,a1,a2,a3,a4,a5,a6,a7,a8)=>(.brk 0,⟨bd 4 (.bptr 0 0::bd 3 (.bptr 2 0::bd 1 (.sl 11 (γ 11)::bd 29 []))),[.box 34 (zah a0),.box 25 [vU to_.id,vH to_.addr],.box 34 ([vU 0,vH 0,vI 0,vF false,.lit 0 true [],.lit 0 true [],.lit 0 true [],.lit 0 true [],.lit 0 true [],.lit 0 true [],.lit 0 true [],vW 0,vI 0,vI 0]),.row 78 (γ 3) false (yab eOut []),.row 55 (γ 4) true (yab zaa a1),.row 55 (γ 5) true (yab zaa a2),.row 82 (γ 6) true (yab zab a3),.row 76 (γ 7) true (yab zag a4),.row 36 (γ 8) true (yab zaL a5),.row 57 (γ 9) true (yab eJob a6),.row 74 (γ 10) true (yab zaj a7),.row 78 (γ 11) false (yab eOut a8)]⟩)
instance {to_}:InjS (zfu to_):=⟨by unfold zfu;exact ij_⟩
def zla(to_:Peer)(fresh:Bool)(t18:List (List Pair))(t19:Int)(t20:Int)(b0:Node)(r4:List Entry)(r5:List Entry)(r6:List Finger)(r7:List Pair)(r8:List Pend)(r9:List Job)(r10:List Result)(r11:List Out):Option (zmo):=asks (fun γ=>(lim F pr).loop [19,18,5,3,20,4,10,8] 12 zwu ⟨bd 3 (vF fresh:: .bptr 0 0:: .bptr 1 0::bd 2 (.bptr 2 0::bd 1 (.sl 11 (γ 11)::bd 7 (.lit 28 false (yab (eL 76 zag) t18)::vI t19::vI t20::bd 19 [])))),[.box 34 (zah b0),.box 25 [vU to_.id,vH to_.addr],.box 34 ([vU 0,vH 0,vI 0,vF false,.lit 0 true [],.lit 0 true [],.lit 0 true [],.lit 0 true [],.lit 0 true [],.lit 0 true [],.lit 0 true [],vW 0,vI 0,vI 0]),.row 78 (γ 3) false (yab eOut []),.row 55 (γ 4) true (yab zaa r4),.row 55 (γ 5) true (yab zaa r5),.row 82 (γ 6) true (yab zab r6),.row 76 (γ 7) true (yab zag r7),.row 36 (γ 8) true (yab zaL r8),.row 57 (γ 9) true (yab eJob r9),.row 74 (γ 10) true (yab zaj r10),.row 78 (γ 11) false (yab eOut r11)]⟩) (zfu to_)
def ziA(to_:Peer)(fresh:Bool)(t18:List (List Pair))(t19:Int)(t20:Int)(b0:Node)(r4:List Entry)(r5:List Entry)(r6:List Finger)(r7:List Pair)(r8:List Pend)(r9:List Job)(r10:List Result)(r11:List Out):Option (zmo):=
 bif yac.ilt t20 t19 then
  (xget (eL 76 zag) t18 t20).bind fun x=>
  (zi1 b0 to_ (⟨10,0,0,fresh,0,⟨#[]⟩,⟨#[]⟩,(⟨0,0⟩:Peer),[],x⟩:Msg) 6 0).bind fun⟨r0,r1⟩=>
  bif zar eOut 136 r11 r1 then
   zla to_ fresh t18 t19 (yac.iadd .i64 t20 1) r0 r4 r5 r6 r7 r8 r9 r10 (r11++r1)
  else
   none
 else
  some (b0,r4,r5,r6,r7,r8,r9,r10,r11)
theorem zqC{to_ fresh t18 t19 t20 b0 r4 r5 r6 r7 r8 r9 r10 r11 r}:ziA to_ fresh t18 t19 t20 b0 r4 r5 r6 r7 r8 r9 r10 r11=some r->zla to_ fresh t18 t19 t20 b0 r4 r5 r6 r7 r8 r9 r10 r11=some r:=by
 unfold ziA;refine kas fun γ=>kc (fun h1=>kb fun x h2=>kb fun⟨r0,r1⟩ h3=>k1 fun h4=>lg [0,0,0,γ 3,γ 4,γ 5,γ 6,γ 7,γ 8,γ 9,γ 10,((γ 11)+1)] fun γ' h0=>?_) fun h1=>lr [0,0,0,γ 3,γ 4,γ 5,γ 6,γ 7,γ 8,γ 9,γ 10,γ 11] ?_
 all_goals (dsimp only[R2,zfu]at *;show zaE IF_ _ _ zwu zIi _=_;generalize zwu=c0 at *;exact fin_)
def zpJ(n:Node)(to_:Peer)(l:List Pair)(fresh:Bool):Option ((Node×(List Out))):=
 (zc1 n).bind fun⟨zaA,zao,zaB,zat,zaG,zaJ,zam,zaw,zas,zaz,zal,zaK,zaC,zap⟩=>
 (xcut zag 76 l).bind fun cs=>
 (zla to_ fresh cs (xlen (eL 76 zag) cs) 0 (⟨(⟨zaA,zao⟩:Peer),zaB,zat,zaG,zaJ,zam,zaw,zas,zaz,zal,zaK,zaC,zap⟩:Node) zaG zaJ zam zaw zas zaz zal []).bind fun⟨b0,r4,r5,r6,r7,r8,r9,r10,r11⟩=>
 some (b0,r11)
theorem zDo{n to_ l fresh r}:zpJ n to_ l fresh=some r->ztJ n to_ l fresh=some r:=by
 unfold zpJ;refine ka (kb fun⟨zaA,zao,zaB,zat,zaG,zaJ,zam,zaw,zas,zaz,zal,zaK,zaC,zap⟩ h1=>kb fun cs h2=>ks [0,0,0,0,0,0,0,0,0,0,0,0] fun⟨b0,r4,r5,r6,r7,r8,r9,r10,r11⟩ γ2 h3=>l0 rfl ?_)
 all_goals (dsimp only[R2,zbr,zfu]at *;show zak IF_ (g99F zwu) _ _=_;generalize zwu=c0 at *;exact fin_)
def zuo(l:List Pair)(key:ByteArray):Option (Int):=
 zo3 l key
theorem zBl{l key r}:zuo l key=some r->znP l key=some r:=by
 unfold zuo;refine ka (pb fun res h1=>l0 rfl ?_)
 all_goals (dsimp only[zdB,R1]at *;show zak IF_ zMj _ _=_;exact fin_)
def ztf(a:Int)(b:Int):Option (Int):=
 bif yac.ile a b then some (yac.isub .u64 b a)else
 some (yac.iadd .u64 (yac.isub .u64 18446744073709551615 (yac.isub .u64 a b)) 1)
theorem zGT{a b r}:ztf a b=some r->zm1 a b=some r:=by
 unfold ztf;refine ka (kc (fun h1=>l0 rfl ?_) fun h1=>l0 rfl ?_)
 all_goals (dsimp only[R1]at *;show zak IF_ zLV _ _=_;exact fin_)
def zhY(γ:Nat->Nat):Int⊕Unit->X×St
 | .inl a0=>(.ret,⟨bd 4 (vI a0::bd 15 []),[]⟩)
 | .inr ()=>(.brk 0,⟨bd 20 [],[]⟩)
instance :InjS zhY:=⟨by unfold zhY;exact ij_⟩
def znH(l:List Job)(id:Int)(i:Int):Option (Int⊕Unit):=asks (fun γ=>(lim F pr).loop [0,1,5] 0 zrK ⟨.lit 57 false (yab eJob l)::vI id::bd 3 (vI i::bd 14 []),[]⟩) zhY
def zhX(l:List Job)(id:Int)(i:Int):Option (Int⊕Unit):=
 bif yac.ilt i (xlen eJob l)then
  (xget eJob l i).bind fun x=>
  bif yac.ieq x.id id then some (.inl i)else
  znH l id (yac.iadd .i64 i 1)
 else
  some (.inr ())
theorem zor{l id i r}:zhX l id i=some r->znH l id i=some r:=by
 unfold zhX;refine kas fun γ=>kc (fun h1=>kb fun x h2=>kc (fun h3=>lr [] ?_) fun h3=>lg [] fun γ' h0=>?_) fun h1=>lr [] ?_
 all_goals (dsimp only[zhY]at *;show zaE IF_ _ _ zrK zFd _=_;generalize zrK=c0 at *;exact fin_)
def ztv(l:List Job)(id:Int):Option (Int):=
 (znH l id 0).bind fun r=>match r with
  | .inl t4=>
   some t4
  | .inr ()=>
   some (-1)
theorem zHc{l id r}:ztv l id=some r->zpA l id=some r:=by
 unfold ztv;refine ka (ks [] fun| .inl t4,γ1,h1=>(l0 rfl ?_)| .inr _,γ1,h1=>(l0 rfl ?_))
 all_goals (dsimp only[R1,zhY]at *;show zak IF_ (zLW zrK) _ _=_;generalize zrK=c0 at *;exact fin_)
def zjj(n:Node)(j:Job)(γ:Nat->Nat):(List Job)->X×St
 |a0=>(.brk 0,⟨bd 2 (.bptr 0 0::bd 1 (.bptr 2 0::bd 1 (.sl 3 (γ 3)::bd 31 []))),[.box 34 (zah n),.box 57 (cJob j),.box 34 ([vU 0,vH 0,vI 0,vF false,.lit 0 true [],.lit 0 true [],.lit 0 true [],.lit 0 true [],.lit 0 true [],.lit 0 true [],.lit 0 true [],vW 0,vI 0,vI 0]),.row 57 (γ 3) false (yab eJob a0)]⟩)
instance {n j}:InjS (zjj n j):=⟨by unfold zjj;exact ij_⟩
def zj0(n:Node)(j:Job)(at_:Int)(i:Int)(r3:List Job):Option ((List Job)):=asks (fun γ=>(lim F pr).loop [5,3,7,6,2,4] 4 zrL ⟨bd 2 (.bptr 0 0:: .bptr 1 0:: .bptr 2 0::vI at_:: .sl 3 (γ 3)::vI i::bd 30 []),[.box 34 (zah n),.box 57 (cJob j),.box 34 ([vU 0,vH 0,vI 0,vF false,.lit 0 true [],.lit 0 true [],.lit 0 true [],.lit 0 true [],.lit 0 true [],.lit 0 true [],.lit 0 true [],vW 0,vI 0,vI 0]),.row 57 (γ 3) false (yab eJob r3)]⟩) (zjj n j)
def zmf(n:Node)(j:Job)(at_:Int)(i:Int)(r3:List Job):Option ((List Job)):=
 bif yac.ilt i (xlen eJob n.jobs)then
  bif yac.ieq i at_ then
   bif zar eJob 128 r3 [j]then zj0 n j at_ (yac.iadd .i64 i 1) (r3++[j])else
   none
  else
   (xget eJob n.jobs i).bind fun x=>
   bif zar eJob 128 r3 [x]then zj0 n j at_ (yac.iadd .i64 i 1) (r3++[x])else
   none
 else
  some r3
theorem zvy{n j at_ i r3 r}:zmf n j at_ i r3=some r->zj0 n j at_ i r3=some r:=by
 unfold zmf;refine kas fun γ=>kc (fun h1=>kc (fun h2=>k1 fun h3=>lg [0,0,0,((γ 3)+1)] fun γ' h0=>?_) fun h2=>kb fun x h3=>k1 fun h4=>lg [0,0,0,((γ 3)+1)] fun γ' h0=>?_) fun h1=>lr [0,0,0,γ 3] ?_
 all_goals (dsimp only[zjj]at *;show zaE IF_ _ _ zrL zFe _=_;generalize zrL=c0 at *;exact fin_)
def zvx(n:Node)(j:Job):Option (Node):=
 (zpA n.jobs j.id).bind fun res=>
 (zj0 n j res 0 []).bind fun r3=>
 some (⟨n.me,n.clock,n.joined,n.pred,n.list,n.fingers,n.store,n.pends,r3,n.results,n.rid,n.jobID,n.nextBit⟩:Node)
theorem zJh{n j r}:zvx n j=some r->zgF n j=some r:=by
 unfold zvx;refine ka (kb fun res h1=>ks [0,0,0,0] fun r3 γ2 h2=>l0 rfl ?_)
 all_goals (dsimp only[R1,zjj]at *;show zak IF_ (zLX zrL) _ _=_;generalize zrL=c0 at *;exact fin_)
def ztD(n:Node)(j:Job):Option ((Node×(List Out))):=
 bif yac.ieq j.kind 1 then
  zjn n (⟨j.id,j.kind,j.bit,j.key,j.val,j.target,j.via,j.at_,false,0,j.tries,j.due⟩:Job) j.via
 else
  (zxF n j.target).bind fun⟨r0,r1,r2⟩=>
  bif r2 then
   zwI n (⟨j.id,j.kind,j.bit,j.key,j.val,j.target,j.via,j.at_,false,0,j.tries,j.due⟩:Job) r0
  else
   (xget zad r1 0).bind fun x=>
   zjn n (⟨j.id,j.kind,j.bit,j.key,j.val,j.target,j.via,j.at_,false,1,j.tries,j.due⟩:Job) x
theorem zHk{n j r}:ztD n j=some r->znf n j=some r:=by
 unfold ztD;refine ka (kc (fun h1=>pb fun⟨r0,r1⟩ h2=>l0 rfl ?_) fun h1=>kb fun⟨r0,r1,r2⟩ h2=>kc (fun h3=>pb fun⟨r01,r11⟩ h4=>l0 rfl ?_) fun h3=>kb fun x h4=>pb fun⟨r01,r11⟩ h5=>l0 rfl ?_)
 all_goals (dsimp only[R2,R3]at *;show zak IF_ zLY _ _=_;exact fin_)
abbrev zpF:=((List Out)×Node×Int×ByteArray×ByteArray)
def zjk(n:Node)(j:Job)(to_:Peer)(γ:Nat->Nat):zpF->X×St
 |(a0,a1,a2,a3,a4)=>(.ret,⟨bd 6 (.bptr 3 0:: .lit 78 false (yab eOut a0)::bd 29 []),[.box 34 (zah n),.box 57 (cJob (⟨j.id,j.kind,j.bit,j.key,j.val,j.target,j.via,to_,true,j.hops,j.tries,j.due⟩:Job)),.box 25 [vU to_.id,vH to_.addr],.box 34 (zah a1),.row 78 (γ 4) false (yab eOut []),.box 39 ([vI a2,vW 0,vB 0,vF false,vU 0,vT a3,vT a4,vU 0,vH 0,.lit 0 true [],.lit 0 true []])]⟩)
instance {n j to_}:InjS (zjk n j to_):=⟨by unfold zjk;exact ij_⟩
def zoT(n:Node)(j:Job)(to_:Peer)(zf7:Int)(ziT:ByteArray)(ziU:ByteArray):Option (zpF):=asks (fun γ=>(lim F pr).seg [6,7] zyf ⟨bd 3 (.bptr 0 0:: .bptr 1 0:: .bptr 2 0:: .bptr 3 0::bd 1 (.bptr 5 0::bd 28 [])),[.box 34 (zah n),.box 57 (cJob (⟨j.id,j.kind,j.bit,j.key,j.val,j.target,j.via,to_,true,j.hops,j.tries,j.due⟩:Job)),.box 25 [vU to_.id,vH to_.addr],.box 34 ([vU 0,vH 0,vI 0,vF false,.lit 0 true [],.lit 0 true [],.lit 0 true [],.lit 0 true [],.lit 0 true [],.lit 0 true [],.lit 0 true [],vW 0,vI 0,vI 0]),.row 78 (γ 4) false (yab eOut []),.box 39 ([vI zf7,vW 0,vB 0,vF false,vU 0,vT ziT,vT ziU,vU 0,vH 0,.lit 0 true [],.lit 0 true []])]⟩) (zjk n j to_)
def zvA(n:Node)(j:Job)(to_:Peer)(zf7:Int)(ziT:ByteArray)(ziU:ByteArray):Option (zpF):=
 bif yac.ieq j.kind 3 then
  (zgF n (⟨j.id,j.kind,j.bit,j.key,j.val,j.target,j.via,to_,true,j.hops,j.tries,j.due⟩:Job)).bind fun res=>
  (zil res to_ (⟨8,0,0,false,0,j.key,⟨#[]⟩,(⟨0,0⟩:Peer),[],[]⟩:Msg) 5 j.id).bind fun⟨r0,r1⟩=>
  some (r1,r0,8,j.key,⟨#[]⟩)
 else
  (zgF n (⟨j.id,j.kind,j.bit,j.key,j.val,j.target,j.via,to_,true,j.hops,j.tries,j.due⟩:Job)).bind fun res=>
  (zil res to_ (⟨zf7,0,0,false,0,ziT,ziU,(⟨0,0⟩:Peer),[],[]⟩:Msg) 5 j.id).bind fun⟨r0,r1⟩=>
  some (r1,r0,zf7,ziT,ziU)
theorem zDe{n j to_ zf7 ziT ziU r}:zvA n j to_ zf7 ziT ziU=some r->zoT n j to_ zf7 ziT ziU=some r:=by
 unfold zvA;refine kas fun γ=>kc (fun h1=>kb fun res h2=>kb fun⟨r0,r1⟩ h3=>ls [0,0,0,0,γ 4] ?_) fun h1=>kb fun res h2=>kb fun⟨r0,r1⟩ h3=>ls [0,0,0,0,γ 4] ?_
 all_goals (dsimp only[R1,R2,zjk]at *;show Ifc.apart IF_ _ zFf _=_;exact fin_)
def zvz(n:Node)(j:Job)(to_:Peer):Option ((Node×(List Out))):=
 bif yac.ieq j.kind 2 then
  (zoT n j to_ 7 j.key j.val).bind fun⟨t7,b3,zf7,ziT,ziU⟩=>
  some (b3,t7)
 else
  (zoT n j to_ 3 ⟨#[]⟩ ⟨#[]⟩).bind fun⟨t7,b3,zf7,ziT,ziU⟩=>
  some (b3,t7)
theorem zJi{n j to_ r}:zvz n j to_=some r->zwH n j to_=some r:=by
 unfold zvz;refine ka (kc (fun h1=>ks [0,0,0,0,0] fun⟨t7,b3,zf7,ziT,ziU⟩ γ1 h2=>l0 rfl ?_) fun h1=>ks [0,0,0,0,0] fun⟨t7,b3,zf7,ziT,ziU⟩ γ1 h2=>l0 rfl ?_)
 all_goals (dsimp only[R2,zjk]at *;show zak IF_ (zLZ zyf) _ _=_;generalize zyf=c0 at *;exact fin_)
def zh3(γ:Nat->Nat):(Node×(List Out)×(List Peer))->X×St
 |(a0,a1,a2)=>(.brk 0,⟨bd 3 (.bptr 0 0::bd 2 (.bptr 1 0::bd 4 (.sl 3 (γ 3)::bd 50 []))),[.box 34 (zah a0),.box 34 ([vU 0,vH 0,vI 0,vF false,.lit 0 true [],.lit 0 true [],.lit 0 true [],.lit 0 true [],.lit 0 true [],.lit 0 true [],.lit 0 true [],vW 0,vI 0,vI 0]),.row 78 (γ 2) false (yab eOut []),.row 78 (γ 3) false (yab eOut a1),.row 25 (γ 4) false (yab zad a2)]⟩)
instance :InjS zh3:=⟨by unfold zh3;exact ij_⟩
def znJ(key:ByteArray)(val:ByteArray)(i:Int)(b0:Node)(r3:List Out)(r4:List Peer):Option ((Node×(List Out)×(List Peer))):=asks (fun γ=>(lim F pr).loop [12,1,2,13,3,11,6] 5 zrJ ⟨bd 1 (vT key::vT val:: .bptr 0 0::bd 2 (.bptr 1 0::bd 4 (.sl 3 (γ 3):: .sl 4 (γ 4)::vI i::bd 48 []))),[.box 34 (zah b0),.box 34 ([vU 0,vH 0,vI 0,vF false,.lit 0 true [],.lit 0 true [],.lit 0 true [],.lit 0 true [],.lit 0 true [],.lit 0 true [],.lit 0 true [],vW 0,vI 0,vI 0]),.row 78 (γ 2) false (yab eOut []),.row 78 (γ 3) false (yab eOut r3),.row 25 (γ 4) false (yab zad r4)]⟩) zh3
def zh4(key:ByteArray)(val:ByteArray)(γ:Nat->Nat):(Int×Node×(List Out)×(List Peer))->X×St
 |(a0,a1,a2,a3)=>(.nor,⟨bd 1 (vT key::vT val:: .bptr 0 0::bd 2 (.bptr 1 0::bd 4 (.sl 3 (γ 3):: .sl 4 (γ 4)::vI a0::bd 48 []))),[.box 34 (zah a1),.box 34 ([vU 0,vH 0,vI 0,vF false,.lit 0 true [],.lit 0 true [],.lit 0 true [],.lit 0 true [],.lit 0 true [],.lit 0 true [],.lit 0 true [],vW 0,vI 0,vI 0]),.row 78 (γ 2) false (yab eOut []),.row 78 (γ 3) false (yab eOut a2),.row 25 (γ 4) false (yab zad a3)]⟩)
instance {key val}:InjS (zh4 key val):=⟨by unfold zh4;exact ij_⟩
def zri(key:ByteArray)(val:ByteArray)(i:Int)(b0:Node)(r3:List Out)(r4:List Peer):Option ((Int×Node×(List Out)×(List Peer))):=asks (fun γ=>(lim F pr).seg [12,1,2,13,3,11,6] zye ⟨bd 1 (vT key::vT val:: .bptr 0 0::bd 2 (.bptr 1 0::bd 4 (.sl 3 (γ 3):: .sl 4 (γ 4)::vI i::bd 48 []))),[.box 34 (zah b0),.box 34 ([vU 0,vH 0,vI 0,vF false,.lit 0 true [],.lit 0 true [],.lit 0 true [],.lit 0 true [],.lit 0 true [],.lit 0 true [],.lit 0 true [],vW 0,vI 0,vI 0]),.row 78 (γ 2) false (yab eOut []),.row 78 (γ 3) false (yab eOut r3),.row 25 (γ 4) false (yab zad r4)]⟩) (zh4 key val)
def zk2(key:ByteArray)(val:ByteArray)(i:Int)(b0:Node)(r3:List Out)(r4:List Peer):Option ((Node×(List Out)×(List Peer))):=
 bif yac.ilt i (xlen zad r4)then
  bif yac.ilt i 2 then
   (zri key val i b0 r3 r4).bind fun⟨i1,b01,r31,r41⟩=>
   znJ key val i1 b01 r31 r41
  else
   some (b0,r3,r4)
 else
  some (b0,r3,r4)
theorem zug{key val i b0 r3 r4 r}:zk2 key val i b0 r3 r4=some r->znJ key val i b0 r3 r4=some r:=by
 unfold zk2;refine kas fun γ=>kc (fun h1=>kc (fun h2=>ks [0,0,γ 2,γ 3,γ 4] fun⟨i1,b01,r31,r41⟩ γ1 h3=>lg [0,0,γ1 2,γ1 3,γ1 4] fun γ' h0=>?_) fun h2=>lr [0,0,γ 2,γ 3,γ 4] ?_) fun h1=>lr [0,0,γ 2,γ 3,γ 4] ?_
 all_goals (dsimp only[zh3,zh4]at *;show zaE IF_ _ _ zrJ (zFc zye) _=_;generalize zrJ=c0,zye=c1 at *;exact fin_)
def zow(key:ByteArray)(val:ByteArray)(i:Int)(b0:Node)(r3:List Out)(r4:List Peer):Option ((Int×Node×(List Out)×(List Peer))):=
 (xget zad r4 i).bind fun x=>
 (zxG b0 x [(⟨key,val⟩:Pair)] true).bind fun⟨r0,r1⟩=>
 bif zar eOut 136 r3 r1 then some (yac.iadd .i64 i 1,r0,(r3++r1),r4)else
 none
theorem zBb{key val i b0 r3 r4 r}:zow key val i b0 r3 r4=some r->zri key val i b0 r3 r4=some r:=by
 unfold zow;refine kas fun γ=>kb fun x h1=>kb fun⟨r0,r1⟩ h2=>k1 fun h3=>ls [0,0,γ 2,((γ 3)+1),γ 4] ?_
 all_goals (dsimp only[R2,zh4]at *;show Ifc.apart IF_ _ zFb _=_;exact fin_)
def ztA(n:Node)(key:ByteArray)(val:ByteArray):Option ((Node×(List Out)×Int)):=
 (zzQ n.store key val).bind fun⟨r0,r1⟩=>
 bif yac.ieq r1 0 then
  (zpu n.list).bind fun res=>
  (znJ key val 0 (⟨n.me,n.clock,n.joined,n.pred,n.list,n.fingers,r0,n.pends,n.jobs,n.results,n.rid,n.jobID,n.nextBit⟩:Node) [] res).bind fun⟨b0,r3,r4⟩=>
  some (b0,r3,0)
 else
  some (n,[],r1)
theorem zHg{n key val r}:ztA n key val=some r->zxH n key val=some r:=by
 unfold ztA;refine ka (kb fun⟨r0,r1⟩ h1=>kc (fun h2=>kb fun res h3=>ks [0,0,0,0,0] fun⟨b0,r3,r4⟩ γ3 h4=>l0 rfl ?_) fun h2=>l0 rfl ?_)
 all_goals (dsimp only[K1,R2,R3,zh3]at *;show zak IF_ (zLL zrJ) _ _=_;generalize zrJ=c0 at *;exact fin_)
end Go.Ab.Tryz
