/- Our texts for this statement, merged: what its theorem leads to. -/
import Derived.Test.YtdjoeakbjackbaaGreatDoorQLm9
set_option linter.unusedVariables false
set_option linter.unusedSimpArgs false
noncomputable section
namespace Go.Ab.Tryz
open Go Go.Ab Go.Proofs
set_option maxRecDepth 10000
set_option maxHeartbeats 4000000
open Go.Ab.Ops renaming std->yab
open List renaming map->yac
def zkp(i:Int)(j:Int)(r0:List Entry):Option ((List Entry)):=
 (xsub zab r0 i j).bind fun ys=>
 (xsub zab r0 j (xlen zab r0)).bind fun ys1=>
 bif yab.ieq i j then some r0 else
 (xsub zab r0 0 i).bind fun ys2=>
 bif yab.ieq 0 0 then
  bif yab.ile (xlen zab ys1) (yab.isub .i64 (xlen zab r0) i)then
   (xsub zab (xput r0 i ys1) 0 (yab.iadd .i64 i (xlen zab ys1))).bind fun ys3=>
   (xsub zab (xput r0 i ys1) (xlen zab ys3) (xlen zab r0)).bind fun ys4=>
   (xsub zab (xfil (xput r0 i ys1) (xlen zab ys3) (xlen zab r0) (⟨(⟨0,0⟩:Peer),0⟩:Entry)) 0 (yab.iadd .i64 i (xlen zab ys1))).bind fun ys5=>
   some ys5
  else
   none
 else
  none
theorem zvQ{i j r0 r}:zkp i j r0=some r->zmt i j r0=some r:=by
 unfold zkp;refine kas fun γ=>kb fun ys h1=>kb fun ys1 h2=>kc (fun h3=>lc rfl [γ 0] ?_) fun h3=>kb fun ys2 h4=>k1 fun h5=>k1 fun h6=>kb fun ys3 h7=>kb fun ys4 h8=>kb fun ys5 h9=>lc rfl [(γ 0+1)] ?_
 all_goals (dsimp only[ze0]at *;show zah IF_ zGL _ _=_;exact fin_)
def znC(x:Entry)(b0:Int):Option (Bool):=
 some (yab.ieq x.peer.addr b0)
theorem znD{x b0 r}:znC x b0=some r->ziO x b0=some r:=by
 unfold znC;refine ka (l0 rfl ?_)
 all_goals (dsimp only[zev]at *;show zah IF_ g78F _ _=_;exact fin_)
def zbV(b0:Int)(γ:Nat->Nat):Int⊕Unit->X×St
 | .inl a0=>(.ret,⟨bd 4 (vI a0::bd 14 []),[.box 23 [vH b0]]⟩)
 | .inr ()=>(.brk 0,⟨bd 19 [],[.box 23 [vH b0]]⟩)
instance {b0}:InjS (zbV b0):=⟨by unfold zbV;exact ij_⟩
def zdB(s:List Entry)(b0:Int)(t8:Int):Option (Int⊕Unit):=asks (fun γ=>(lim F pr).loop [7,1,0,8] 1 zeU ⟨.lit 55 false (yac zab s):: .fn 78 [.bptr 0 0]::bd 5 (vI (xlen zab s)::vI t8::bd 10 []),[.box 23 [vH b0]]⟩) (zbV b0)
def zbU(s:List Entry)(b0:Int)(t8:Int):Option (Int⊕Unit):=
 bif yab.ilt t8 (xlen zab s)then
  (xget zab s t8).bind fun x=>
  (ziO x b0).bind fun res=>
  bif res then some (.inl t8)else
  zdB s b0 (yab.iadd .i64 t8 1)
 else
  some (.inr ())
theorem zeN{s b0 t8 r}:zbU s b0 t8=some r->zdB s b0 t8=some r:=by
 unfold zbU;refine kas fun γ=>kc (fun h1=>kb fun x h2=>kb fun res h3=>kc (fun h4=>lr [] ?_) fun h4=>lg [] fun γ' h0=>?_) fun h1=>lr [] ?_
 all_goals (dsimp only[zbV,zev]at *;show zaz IF_ _ _ zeU zu8 _=_;generalize zeU=c0 at *;exact fin_)
def zgZ(s:List Entry)(b0:Int):Option (Int):=
 (zdB s b0 0).bind fun r=>match r with
  | .inl t4=>
   some t4
  | .inr ()=>
   some (-1)
theorem zrs{s b0 r}:zgZ s b0=some r->zil s b0=some r:=by
 unfold zgZ;refine ka (ks [] fun| .inl t4,γ1,h1=>(l0 rfl ?_)| .inr _,γ1,h1=>(l0 rfl ?_))
 all_goals (dsimp only[zcB,zbV]at *;show zah IF_ (g77F zeU) _ _=_;generalize zeU=c0 at *;exact fin_)
def zpd(f:Finger)(b0:Int):Option (Bool):=
 some (yab.ieq f.peer.addr b0)
theorem zv2{f b0 r}:zpd f b0=some r->zjI f b0=some r:=by
 unfold zpd;refine ka (l0 rfl ?_)
 all_goals (dsimp only[zdM]at *;show zah IF_ zGM _ _=_;exact fin_)
def zbO(r0:List Finger)(b1:Int)(γ:Nat->Nat):Int⊕Unit->X×St
 | .inl a0=>(.ret,⟨bd 4 (vI a0::bd 14 []),[.row 82 (γ 0) false (yac zaa r0),.box 23 [vH b1]]⟩)
 | .inr ()=>(.brk 0,⟨bd 19 [],[.row 82 (γ 0) false (yac zaa r0),.box 23 [vH b1]]⟩)
instance {r0 b1}:InjS (zbO r0 b1):=⟨by unfold zbO;exact ij_⟩
def zdi(r0:List Finger)(b1:Int)(t8:Int):Option (Int⊕Unit):=askg (fun γ=>(lim F pr).loop [7,1,0,8] 2 zb0 ⟨.sl 0 (γ 0):: .fn 134 [.bptr 1 0]::bd 5 (vI (xlen zaa r0)::vI t8::bd 10 []),[.row 82 (γ 0) false (yac zaa r0),.box 23 [vH b1]]⟩) (zbO r0 b1)
def zbN(r0:List Finger)(b1:Int)(t8:Int):Option (Int⊕Unit):=
 bif yab.ilt t8 (xlen zaa r0)then
  (xget zaa r0 t8).bind fun x=>
  (zjI x b1).bind fun res=>
  bif res then some (.inl t8)else
  zdi r0 b1 (yab.iadd .i64 t8 1)
 else
  some (.inr ())
theorem zee{r0 b1 t8 r}:zbN r0 b1 t8=some r->zdi r0 b1 t8=some r:=by
 unfold zbN;refine kag fun γ=>kc (fun h1=>kb fun x h2=>kb fun res h3=>kc (fun h4=>l2 ?_) fun h4=>lh [γ 0] fun h0=>?_) fun h1=>l2 ?_
 all_goals (dsimp only[zbO,zdM]at *;show zaz IF_ _ _ zb0 zoT _=_;generalize zb0=c0 at *;exact fin_)
def zfV(r0:List Finger)(b1:Int):Option (Int):=
 (zdi r0 b1 0).bind fun r=>match r with
  | .inl t4=>
   some t4
  | .inr ()=>
   some (-1)
theorem zpA{r0 b1 r}:zfV r0 b1=some r->zhf r0 b1=some r:=by
 unfold zfV;refine kag fun γ=>kg [γ 0] fun| .inl t4,h1=>(l0 rfl ?_)| .inr _,h1=>(l0 rfl ?_)
 all_goals (dsimp only[zcp,zbO]at *;show zah IF_ (zvg zb0) _ _=_;generalize zb0=c0 at *;exact fin_)
def zbu(b1:Int)(γ:Nat->Nat):(Int×(List Finger))->X×St
 |(a0,a1)=>(.brk 0,⟨.sl 0 (γ 0)::bd 4 (vI a0::bd 36 []),[.row 82 (γ 0) false (yac zaa a1),.box 23 [vH b1],.row 82 (γ 2) false (yac zaa [])]⟩)
instance {b1}:InjS (zbu b1):=⟨by unfold zbu;exact ij_⟩
def zbS(b1:Int)(i:Int)(j:Int)(r0':List Finger):Option ((Int×(List Finger))):=asks (fun γ=>(lim F pr).loop [1,6,0,5] 3 zhk ⟨.sl 0 (γ 0):: .fn 134 [.bptr 1 0]::bd 3 (vI i::vI j::bd 35 []),[.row 82 (γ 0) false (yac zaa r0'),.box 23 [vH b1],.row 82 (γ 2) false (yac zaa [])]⟩) (zbu b1)
def zdR(b1:Int)(i:Int)(j:Int)(r0':List Finger):Option ((Int×(List Finger))):=
 bif yab.ilt j (xlen zaa r0')then
  (xget zaa r0' j).bind fun x=>
  (zjI x b1).bind fun res=>
  bif res then zbS b1 i (yab.iadd .i64 j 1) r0' else
  (xget zaa r0' i).bind fun x1=>
  zbS b1 (yab.iadd .i64 i 1) (yab.iadd .i64 j 1) (xset r0' i x)
 else
  some (i,r0')
theorem zms{b1 i j r0' r}:zdR b1 i j r0'=some r->zbS b1 i j r0'=some r:=by
 unfold zdR;refine kas fun γ=>kc (fun h1=>kb fun x h2=>kb fun res h3=>kc (fun h4=>lg [γ 0,0,γ 2] fun γ' h0=>?_) fun h4=>kb fun x1 h5=>lg [γ 0,0,γ 2] fun γ' h0=>?_) fun h1=>lr [γ 0,0,γ 2] ?_
 all_goals (dsimp only[zbu,zdM]at *;show zaz IF_ _ _ zhk zvS _=_;generalize zhk=c0 at *;exact fin_)
def zeZ(r0:List Finger)(b1:Int):Option ((List Finger)):=
 (zhf r0 b1).bind fun res=>
 bif yab.ieq res (-1)then some r0 else
 (zbS b1 res (yab.iadd .i64 res 1) r0).bind fun⟨i,r0'⟩=>
 (xsub zaa r0' i (xlen zaa r0')).bind fun ys=>
 (xsub zaa (xfil r0' i (xlen zaa r0') (⟨0,(⟨0,0⟩:Peer)⟩:Finger)) 0 i).bind fun ys1=>
 bif yab.ieq 0 0 then some ys1 else
 none
theorem zoD{r0 b1 r}:zeZ r0 b1=some r->zko r0 b1=some r:=by
 unfold zeZ;refine kas fun γ=>kg [γ 0,0] fun res h1=>kc (fun h2=>lc rfl [γ 0,0] ?_) fun h2=>ks [γ 0,0,0] fun⟨i,r0'⟩ γ2 h3=>kb fun ys h4=>kb fun ys1 h5=>k1 fun h6=>lc rfl [((γ2 0)+1),0] ?_
 all_goals (dsimp only[zb9,zbu,zcp]at *;show zah IF_ (zCf zhk) _ _=_;generalize zhk=c0 at *;exact fin_)
def zph(x:Entry)(b0:Int):Option (Bool):=
 some (yab.ieq x.peer.addr b0)
theorem zkH{x b0 r}:zph x b0=some r->zfg x b0=some r:=by
 unfold zph;refine ka (l0 rfl ?_)
 all_goals (dsimp only[zdN]at *;show zah IF_ zGO _ _=_;exact fin_)
def zbX(b0:Int)(γ:Nat->Nat):Int⊕Unit->X×St
 | .inl a0=>(.ret,⟨bd 4 (vI a0::bd 14 []),[.box 23 [vH b0]]⟩)
 | .inr ()=>(.brk 0,⟨bd 19 [],[.box 23 [vH b0]]⟩)
instance {b0}:InjS (zbX b0):=⟨by unfold zbX;exact ij_⟩
def zdC(s:List Entry)(b0:Int)(t8:Int):Option (Int⊕Unit):=asks (fun γ=>(lim F pr).loop [7,1,0,8] 1 zeU ⟨.lit 55 false (yac zab s):: .fn 136 [.bptr 0 0]::bd 5 (vI (xlen zab s)::vI t8::bd 10 []),[.box 23 [vH b0]]⟩) (zbX b0)
def zbW(s:List Entry)(b0:Int)(t8:Int):Option (Int⊕Unit):=
 bif yab.ilt t8 (xlen zab s)then
  (xget zab s t8).bind fun x=>
  (zfg x b0).bind fun res=>
  bif res then some (.inl t8)else
  zdC s b0 (yab.iadd .i64 t8 1)
 else
  some (.inr ())
theorem zeO{s b0 t8 r}:zbW s b0 t8=some r->zdC s b0 t8=some r:=by
 unfold zbW;refine kas fun γ=>kc (fun h1=>kb fun x h2=>kb fun res h3=>kc (fun h4=>lr [] ?_) fun h4=>lg [] fun γ' h0=>?_) fun h1=>lr [] ?_
 all_goals (dsimp only[zbX,zdN]at *;show zaz IF_ _ _ zeU zu8 _=_;generalize zeU=c0 at *;exact fin_)
def zg0(s:List Entry)(b0:Int):Option (Int):=
 (zdC s b0 0).bind fun r=>match r with
  | .inl t4=>
   some t4
  | .inr ()=>
   some (-1)
theorem zrt{s b0 r}:zg0 s b0=some r->zim s b0=some r:=by
 unfold zg0;refine ka (ks [] fun| .inl t4,γ1,h1=>(l0 rfl ?_)| .inr _,γ1,h1=>(l0 rfl ?_))
 all_goals (dsimp only[zcC,zbX]at *;show zah IF_ (g77F zeU) _ _=_;generalize zeU=c0 at *;exact fin_)
def zb8(b1:Int)(γ:Nat->Nat):(Int×(List Entry))->X×St
 |(a0,a1)=>(.brk 0,⟨.sl 0 (γ 0)::bd 4 (vI a0::bd 36 []),[.row 55 (γ 0) false (yac zab a1),.box 23 [vH b1],.row 55 (γ 2) false (yac zab [])]⟩)
instance {b1}:InjS (zb8 b1):=⟨by unfold zb8;exact ij_⟩
def zbR(b1:Int)(i:Int)(j:Int)(r0':List Entry):Option ((Int×(List Entry))):=asks (fun γ=>(lim F pr).loop [1,6,0,5] 3 zoJ ⟨.sl 0 (γ 0):: .fn 136 [.bptr 1 0]::bd 3 (vI i::vI j::bd 35 []),[.row 55 (γ 0) false (yac zab r0'),.box 23 [vH b1],.row 55 (γ 2) false (yac zab [])]⟩) (zb8 b1)
def zbs(b1:Int)(i:Int)(j:Int)(r0':List Entry):Option ((Int×(List Entry))):=
 bif yab.ilt j (xlen zab r0')then
  (xget zab r0' j).bind fun x=>
  (zfg x b1).bind fun res=>
  bif res then zbR b1 i (yab.iadd .i64 j 1) r0' else
  (xget zab r0' i).bind fun x1=>
  zbR b1 (yab.iadd .i64 i 1) (yab.iadd .i64 j 1) (xset r0' i x)
 else
  some (i,r0')
theorem zdf{b1 i j r0' r}:zbs b1 i j r0'=some r->zbR b1 i j r0'=some r:=by
 unfold zbs;refine kas fun γ=>kc (fun h1=>kb fun x h2=>kb fun res h3=>kc (fun h4=>lg [γ 0,0,γ 2] fun γ' h0=>?_) fun h4=>kb fun x1 h5=>lg [γ 0,0,γ 2] fun γ' h0=>?_) fun h1=>lr [γ 0,0,γ 2] ?_
 all_goals (dsimp only[zb8,zdN]at *;show zaz IF_ _ _ zoJ zAP _=_;generalize zoJ=c0 at *;exact fin_)
def zhb(r0:List Entry)(b1:Int):Option ((List Entry)):=
 (zim r0 b1).bind fun res=>
 bif yab.ieq res (-1)then some r0 else
 (zbR b1 res (yab.iadd .i64 res 1) r0).bind fun⟨i,r0'⟩=>
 (xsub zab r0' i (xlen zab r0')).bind fun ys=>
 (xsub zab (xfil r0' i (xlen zab r0') (⟨(⟨0,0⟩:Peer),0⟩:Entry)) 0 i).bind fun ys1=>
 bif yab.ieq 0 0 then some ys1 else
 none
theorem zrv{r0 b1 r}:zhb r0 b1=some r->zja r0 b1=some r:=by
 unfold zhb;refine kas fun γ=>kb fun res h1=>kc (fun h2=>lc rfl [γ 0,0] ?_) fun h2=>ks [γ 0,0,0] fun⟨i,r0'⟩ γ2 h3=>kb fun ys h4=>kb fun ys1 h5=>k1 fun h6=>lc rfl [((γ2 0)+1),0] ?_
 all_goals (dsimp only[zcW,zb8,zcC]at *;show zah IF_ (zGN zoJ) _ _=_;generalize zoJ=c0 at *;exact fin_)
def zn6(l:List Job)(id:Int):Option (Int):=
 znh l id
theorem zzV{l id r}:zn6 l id=some r->zlA l id=some r:=by
 unfold zn6;refine ka (pb fun res h1=>l0 rfl ?_)
 all_goals (dsimp only[zdw,R1]at *;show zah IF_ zG4 _ _=_;exact fin_)
abbrev znc:=((List Entry)×(List Entry)×(List Pair)×(List Pend)×(List Job)×(List Result)×Node×Job)
def zhQ(n:Node)(γ:Nat->Nat):znc->X×St
 |(a0,a1,a2,a3,a4,a5,a6,a7)=>(.ret,⟨bd 4 (.bptr 8 0::vF true::bd 52 []),[.box 34 (zal n),.row 55 (γ 1) true (yac zab a0),.row 55 (γ 2) true (yac zab a1),.row 82 (γ 3) false (yac zaa a6.fingers),.row 76 (γ 4) true (yac zag a2),.row 36 (γ 5) true (yac zaI a3),.row 57 (γ 6) true (yac eJob a4),.row 74 (γ 7) true (yac zaf a5),.box 133 (capp (zaL a6 (.sl 3 (γ 3))) (capp (cJob a7) ([.sl 9 (γ 9)]))),.row 78 (γ 9) false (yac eOut [])]⟩)
instance {n}:InjS (zhQ n):=⟨by unfold zhQ;exact ij_⟩
def zmp(n:Node)(i:Int)(r1:List Entry)(r2:List Entry)(r4:List Pair)(r5:List Pend)(r6:List Job)(r7:List Result)(b8_node:Node):Option (znc):=asks (fun γ=>(lim F pr).seg [4,5] zuK ⟨bd 6 (.bptr 8 0::vI i::bd 50 []),[.box 34 (zal n),.row 55 (γ 1) true (yac zab r1),.row 55 (γ 2) true (yac zab r2),.row 82 (γ 3) false (yac zaa b8_node.fingers),.row 76 (γ 4) true (yac zag r4),.row 36 (γ 5) true (yac zaI r5),.row 57 (γ 6) true (yac eJob r6),.row 74 (γ 7) true (yac zaf r7),.box 133 (capp (zaL b8_node (.sl 3 (γ 3))) (capp (cJob (⟨0,0,0,⟨#[]⟩,⟨#[]⟩,0,(⟨0,0⟩:Peer),(⟨0,0⟩:Peer),false,0,0,0⟩:Job)) ([.sl 9 (γ 9)]))),.row 78 (γ 9) false (yac eOut [])]⟩) (zhQ n)
def znd(n:Node)(i:Int)(r1:List Entry)(r2:List Entry)(r4:List Pair)(r5:List Pend)(r6:List Job)(r7:List Result)(b8_node:Node):Option (znc):=
 (xget eJob b8_node.jobs i).bind fun x=>
 some (r1,r2,r4,r5,r6,r7,b8_node,x)
theorem zzE{n i r1 r2 r4 r5 r6 r7 b8_node r}:znd n i r1 r2 r4 r5 r6 r7 b8_node=some r->zmp n i r1 r2 r4 r5 r6 r7 b8_node=some r:=by
 unfold znd;refine kas fun γ=>kb fun x h1=>ls [0,γ 1,γ 2,γ 3,γ 4,γ 5,γ 6,γ 7,0,γ 9] ?_
 all_goals (dsimp only[zhQ]at *;show Ifc.apart IF_ _ zAH _=_;exact fin_)
def zsR(n:Node)(id:Int):Option ((Bool×Node×Job×(List Out))):=
 (zdJ n).bind fun⟨zaD,zan,zaB,zas,zaF,zaH,zam,zav,zaq,zax,zak,zaM,zaC,zao⟩=>
 (zlA zax id).bind fun res=>
 bif yab.ilt res 0 then
  some (false,(⟨(⟨zaD,zan⟩:Peer),zaB,zas,zaF,zaH,zam,zav,zaq,zax,zak,zaM,zaC,zao⟩:Node),(⟨0,0,0,⟨#[]⟩,⟨#[]⟩,0,(⟨0,0⟩:Peer),(⟨0,0⟩:Peer),false,0,0,0⟩:Job),[])
 else
  (xget eJob zax res).bind fun x=>
  bif yab.ilt x.kind 1 then
   some (false,(⟨(⟨zaD,zan⟩:Peer),zaB,zas,zaF,zaH,zam,zav,zaq,zax,zak,zaM,zaC,zao⟩:Node),(⟨0,0,0,⟨#[]⟩,⟨#[]⟩,0,(⟨0,0⟩:Peer),(⟨0,0⟩:Peer),false,0,0,0⟩:Job),[])
  else
   bif yab.ilt 4 x.kind then
    some (false,(⟨(⟨zaD,zan⟩:Peer),zaB,zas,zaF,zaH,zam,zav,zaq,zax,zak,zaM,zaC,zao⟩:Node),(⟨0,0,0,⟨#[]⟩,⟨#[]⟩,0,(⟨0,0⟩:Peer),(⟨0,0⟩:Peer),false,0,0,0⟩:Job),[])
   else
    (zmp n res zaF zaH zav zaq zax zak (⟨(⟨zaD,zan⟩:Peer),zaB,zas,zaF,zaH,zam,zav,zaq,zax,zak,zaM,zaC,zao⟩:Node)).bind fun⟨r1,r2,r4,r5,r6,r7,b8_node,zDL⟩=>
    some (true,b8_node,zDL,[])
theorem zE4{n id r}:zsR n id=some r->zwG n id=some r:=by
 unfold zsR;refine kas fun γ=>kb fun⟨zaD,zan,zaB,zas,zaF,zaH,zam,zav,zaq,zax,zak,zaM,zaC,zao⟩ h1=>kb fun res h2=>kc (fun h3=>lc rfl [0,0,0] ?_) fun h3=>kb fun x h4=>kc (fun h5=>lc rfl [0,0,0] ?_) fun h5=>kc (fun h6=>lc rfl [0,0,0] ?_) fun h6=>ks [0,0,0,0,0,0,0,0,0,0] fun⟨r1,r2,r4,r5,r6,r7,b8_node,zDL⟩ γ3 h7=>lc rfl [0,γ3 3,γ3 9] ?_
 all_goals (dsimp only[R1,zbC,zlH,zhQ]at *;show zah IF_ (zGB zuK) _ _=_;generalize zuK=c0 at *;exact fin_)
def zpX(n:Node)(j:Job):Option (zpW):=
 (zdJ n).bind fun⟨zaD,zan,zaB,zas,zaF,zaH,zam,zav,zaq,zax,zak,zaM,zaC,zao⟩=>
 (zlA zax j.id).bind fun res=>
 bif yab.ile 0 res then
  (xget eJob zax res).bind fun x=>
  some (zaD,zan,zaB,zas,zaF,zaH,zam,zav,zaq,xset zax res j,zak,zaM,zaC,zao)
 else
  some (zaD,zan,zaB,zas,zaF,zaH,zam,zav,zaq,zax,zak,zaM,zaC,zao)
theorem zCo{n j r}:zpX n j=some r->zpV n j=some r:=by
 unfold zpX;refine ka (kb fun⟨zaD,zan,zaB,zas,zaF,zaH,zam,zav,zaq,zax,zak,zaM,zaC,zao⟩ h1=>kb fun res h2=>kc (fun h3=>kb fun x h4=>l0 rfl ?_) fun h3=>l0 rfl ?_)
 all_goals (dsimp only[R1,zh2,zbC]at *;show zah IF_ zHz _ _=_;exact fin_)
def zkm(b0_node:Node)(b0_job:Job)(r2:List Out):Option ((Node×(List Finger))):=
 (zpV b0_node b0_job).bind fun⟨zaD,zan,zaB,zas,zaF,zaH,zam,zav,zaq,zax,zak,zaM,zaC,zao⟩=>
 some ((⟨(⟨zaD,zan⟩:Peer),zaB,zas,zaF,zaH,zam,zav,zaq,zax,zak,zaM,zaC,zao⟩:Node),b0_node.fingers)
theorem zvP{b0_node b0_job r2 r}:zkm b0_node b0_job r2=some r->zel b0_node b0_job r2=some r:=by
 unfold zkm;refine kas fun γ=>kb fun⟨zaD,zan,zaB,zas,zaF,zaH,zam,zav,zaq,zax,zak,zaM,zaC,zao⟩ h1=>lc rfl [0,γ 1,γ 2,0] ?_
 all_goals (dsimp only[zh2,zdp]at *;show zah IF_ zCh _ _=_;exact fin_)
def zlM(n:Node)(id:Int)(has:Bool)(val:ByteArray)(e_:Int):Option (Node):=
 (zdJ n).bind fun⟨zaD,zan,zaB,zas,zaF,zaH,zam,zav,zaq,zax,zak,zaM,zaC,zao⟩=>
 (zlA zax id).bind fun res=>
 bif yab.ilt res 0 then
  some (⟨(⟨zaD,zan⟩:Peer),zaB,zas,zaF,zaH,zam,zav,zaq,zax,zak,zaM,zaC,zao⟩:Node)
 else
  (xget eJob zax res).bind fun x=>
  (zpx res (yab.iadd .i64 res 1) zax).bind fun r0=>
  (zrY x has val e_ zaD zan zaB zas zaM zaC zao zaF zaH zam zav zaq r0 zak).bind fun r=>match r with
   | .inl (r7,r8)=>
    some (⟨(⟨zaD,zan⟩:Peer),zaB,zas,zaF,zaH,zam,zav,zaq,r0,r8,zaM,zaC,zao⟩:Node)
   | .inr ()=>
    some (⟨(⟨zaD,zan⟩:Peer),zaB,zas,zaF,zaH,zam,zav,zaq,r0,zak,zaM,zaC,zao⟩:Node)
theorem zxi{n id has val e_ r}:zlM n id has val e_=some r->ziv n id has val e_=some r:=by
 unfold zlM;refine ka (kb fun⟨zaD,zan,zaB,zas,zaF,zaH,zam,zav,zaq,zax,zak,zaM,zaC,zao⟩ h1=>kb fun res h2=>kc (fun h3=>l0 rfl ?_) fun h3=>kb fun x h4=>ks [0] fun r0 γ3 h5=>ks [0,0,0,0,0,0,γ3 0,0] fun| .inl ⟨r7,r8⟩,γ4,h6=>(l0 rfl ?_)| .inr _,γ4,h6=>(l0 rfl ?_))
 all_goals (dsimp only[zhc,R1,ziw,zbC]at *;show zah IF_ zHd _ _=_;exact fin_)
def zhW(has:Bool)(val:ByteArray)(e_:Int)(b0_node:Node)(b0_job:Job)(r2:List Out):Option ((Node×(List Finger))):=
 (ziv b0_node b0_job.id has val e_).bind fun res=>
 some (res,b0_node.fingers)
theorem zsV{has val e_ b0_node b0_job r2 r}:zhW has val e_ b0_node b0_job r2=some r->zb6 has val e_ b0_node b0_job r2=some r:=by
 unfold zhW;refine kas fun γ=>kb fun res h1=>lc rfl [0,γ 1,γ 2] ?_
 all_goals (dsimp only[R1,zbA]at *;show zah IF_ zxX _ _=_;exact fin_)
def zjs(n:Node)(out:List Out)(b0_node:Node)(b0_job:Job)(r2:List Out):Option (((List Finger)×(List Out))):=
 bif zaA eOut 136 r2 out then some (b0_node.fingers,(r2++out))else
 none
theorem zuD{n out b0_node b0_job r2 r}:zjs n out b0_node b0_job r2=some r->zfN n out b0_node b0_job r2=some r:=by
 unfold zjs;refine kas fun γ=>k1 fun h1=>lc rfl [0,γ 1,(γ 2+1)] ?_
 all_goals (dsimp only[zb7]at *;show zah IF_ zHc _ _=_;exact fin_)
def znY(to_:Peer)(m:Msg)(why:Int)(b0_node:Node)(b0_job:Job)(r2:List Out):Option (zkh):=
 (zel b0_node (⟨b0_job.id,b0_job.kind,b0_job.bit,b0_job.key,b0_job.val,b0_job.target,b0_job.via,to_,b0_job.doing,b0_job.hops,b0_job.tries,b0_job.due⟩:Job) r2).bind fun⟨b0_node1,r1⟩=>
 (zjh b0_node1 to_ m why b0_job.id).bind fun⟨r0,r11⟩=>
 (zfN r0 r11 b0_node1 (⟨b0_job.id,b0_job.kind,b0_job.bit,b0_job.key,b0_job.val,b0_job.target,b0_job.via,to_,b0_job.doing,b0_job.hops,b0_job.tries,b0_job.due⟩:Job) r2).bind fun⟨r12,r21⟩=>
 some (r0,(⟨b0_job.id,b0_job.kind,b0_job.bit,b0_job.key,b0_job.val,b0_job.target,b0_job.via,to_,b0_job.doing,b0_job.hops,b0_job.tries,b0_job.due⟩:Job),r1,r21)
theorem zvO{to_ m why b0_node b0_job r2 r}:znY to_ m why b0_node b0_job r2=some r->zek to_ m why b0_node b0_job r2=some r:=by
 unfold znY;refine kas fun γ=>ks [0,γ 1,γ 2] fun⟨b0_node1,r1⟩ γ1 h1=>kb fun⟨r0,r11⟩ h2=>ks [0,γ1 3,γ1 2] fun⟨r12,r21⟩ γ3 h3=>lc rfl [0,γ1 1,γ3 2] ?_
 all_goals (dsimp only[R2,zdn,zdp,zb7]at *;show zah IF_ zCj _ _=_;exact fin_)
def zng(to_:Peer)(b0_node:Node)(b0_job:Job)(r2:List Out):Option (zjo):=
 zek to_ (⟨1,0,0,false,b0_job.target,⟨#[]⟩,⟨#[]⟩,(⟨0,0⟩:Peer),[],[]⟩:Msg) 4 b0_node b0_job r2
theorem zuB{to_ b0_node b0_job r2 r}:zng to_ b0_node b0_job r2=some r->zk5 to_ b0_node b0_job r2=some r:=by
 unfold zng;refine kas fun γ=>ps [0,γ 1,γ 2] fun⟨b0_node1,zbf,r1,r21⟩ γ1 h1=>lc rfl [0,γ1 1,γ1 2] ?_
 all_goals (dsimp only[zdn,zd3]at *;show zah IF_ zCi _ _=_;exact fin_)
abbrev zj7:=(Int×Int×(List Peer))⊕((List Peer)×(List Peer))
def zez(n:Node)(γ:Nat->Nat):zj7->X×St
 | .inl (a0,a1,a2)=>(.ret,⟨bd 4 (.bptr 1 0:: .sl 4 (γ 4)::vF true::bd 49 []),[.box 34 (zal n),.box 25 [vU a0,vH a1],.row 25 (γ 2) false (yac zad []),.row 25 (γ 3) false (yac zad a2),.row 25 (γ 4) false (yac zad [])]⟩)
 | .inr (b0,b1)=>(.ret,⟨bd 4 (.bptr 1 0:: .lit 25 false (yac zad b0)::vF false::bd 49 []),[.box 34 (zal n),.box 25 [vU 0,vH 0],.row 25 (γ 2) false (yac zad []),.row 25 (γ 3) false (yac zad b1)]⟩)
instance {n}:InjS (zez n):=⟨by unfold zez;exact ij_⟩
def zl6(n:Node)(key:Int)(r3:List Peer):Option (zj7):=asks (fun γ=>(lim F pr).seg [4,5,6] zuS ⟨bd 1 (vU key:: .bptr 0 0::bd 1 (.bptr 1 0::bd 2 (.sl 3 (γ 3)::bd 48 []))),[.box 34 (zal n),.box 25 [vU 0,vH 0],.row 25 (γ 2) false (yac zad []),.row 25 (γ 3) false (yac zad r3)]⟩) (zez n)
def zj8(n:Node)(key:Int)(r3:List Peer):Option (zj7):=
 (xget zad r3 0).bind fun x=>
 (zjD n.me.id key x.id).bind fun res=>
 bif res then some (.inl (x.id,x.addr,r3))else
 (zm5 n key).bind fun res1=>
 bif res1 then some (.inl (n.me.id,n.me.addr,r3))else
 (zpS n.me n.list n.fingers key 4).bind fun res2=>
 bif yab.ilt 0 (xlen zad res2)then some (.inr (res2,r3))else
 some (.inl (n.me.id,n.me.addr,r3))
theorem zvA{n key r3 r}:zj8 n key r3=some r->zl6 n key r3=some r:=by
 unfold zj8;refine kas fun γ=>kb fun x h1=>kb fun res h2=>kc (fun h3=>ls [0,0,γ 2,γ 3,0] ?_) fun h3=>kb fun res1 h4=>kc (fun h5=>ls [0,0,γ 2,γ 3,0] ?_) fun h5=>kb fun res2 h6=>kc (fun h7=>ls [0,0,γ 2,γ 3] ?_) fun h7=>ls [0,0,γ 2,γ 3,0] ?_
 all_goals (dsimp only[R1,zez]at *;show Ifc.apart IF_ _ zAT _=_;exact fin_)
def zm4(n:Node)(key:Int):Option ((Peer×(List Peer)×Bool)):=
 (zjO n.list).bind fun res=>
 bif yab.ieq (xlen zad res) 0 then some (n.me,[],true)else
 bif yab.ieq key n.me.id then some (n.me,[],true)else
 (zl6 n key res).bind fun r=>match r with
  | .inl (zuW,zoO,r3)=>
   some ((⟨zuW,zoO⟩:Peer),[],true)
  | .inr (t5,r3)=>
   some ((⟨0,0⟩:Peer),t5,false)
theorem zzh{n key r}:zm4 n key=some r->zqK n key=some r:=by
 unfold zm4;refine ka (kb fun res h1=>kc (fun h2=>l0 rfl ?_) fun h2=>kc (fun h3=>l0 rfl ?_) fun h3=>ks [0,0,0,0] fun| .inl ⟨zuW,zoO,r3⟩,γ2,h4=>(l0 rfl ?_)| .inr ⟨t5,r3⟩,γ2,h4=>(l0 rfl ?_))
 all_goals (dsimp only[K1,R3,zez]at *;show zah IF_ (zGW zuS) _ _=_;generalize zuS=c0 at *;exact fin_)
def zir(b0_node:Node)(b0_job:Job)(r2:List Out):Option ((Node×(List Finger))):=
 (zpV b0_node b0_job).bind fun⟨zaD,zan,zaB,zas,zaF,zaH,zam,zav,zaq,zax,zak,zaM,zaC,zao⟩=>
 some ((⟨(⟨zaD,zan⟩:Peer),zaB,zas,zaF,zaH,zam,zav,zaq,zax,zak,zaM,zaC,zao⟩:Node),b0_node.fingers)
theorem ztx{b0_node b0_job r2 r}:zir b0_node b0_job r2=some r->zdo b0_node b0_job r2=some r:=by
 unfold zir;refine kas fun γ=>kb fun⟨zaD,zan,zaB,zas,zaF,zaH,zam,zav,zaq,zax,zak,zaM,zaC,zao⟩ h1=>lc rfl [0,γ 1,γ 2,0] ?_
 all_goals (dsimp only[zh2,zcw]at *;show zah IF_ zCh _ _=_;exact fin_)
def zkf(to_:Peer)(b0_node:Node)(b0_job:Job)(r2:List Out):Option (zke):=
 bif yab.ieq b0_job.kind 2 then
  zek to_ (⟨7,0,0,false,0,b0_job.key,b0_job.val,(⟨0,0⟩:Peer),[],[]⟩:Msg) 5 b0_node (⟨b0_job.id,b0_job.kind,b0_job.bit,b0_job.key,b0_job.val,b0_job.target,b0_job.via,b0_job.at_,true,b0_job.hops,b0_job.tries,b0_job.due⟩:Job) r2
 else
  bif yab.ieq b0_job.kind 3 then
   zek to_ (⟨8,0,0,false,0,b0_job.key,⟨#[]⟩,(⟨0,0⟩:Peer),[],[]⟩:Msg) 5 b0_node (⟨b0_job.id,b0_job.kind,b0_job.bit,b0_job.key,b0_job.val,b0_job.target,b0_job.via,b0_job.at_,true,b0_job.hops,b0_job.tries,b0_job.due⟩:Job) r2
  else
   zek to_ (⟨3,0,0,false,0,⟨#[]⟩,⟨#[]⟩,(⟨0,0⟩:Peer),[],[]⟩:Msg) 5 b0_node (⟨b0_job.id,b0_job.kind,b0_job.bit,b0_job.key,b0_job.val,b0_job.target,b0_job.via,b0_job.at_,true,b0_job.hops,b0_job.tries,b0_job.due⟩:Job) r2
theorem zvN{to_ b0_node b0_job r2 r}:zkf to_ b0_node b0_job r2=some r->zi8 to_ b0_node b0_job r2=some r:=by
 unfold zkf;refine kas fun γ=>kc (fun h1=>ps [0,γ 1,γ 2] fun⟨b0_node1,zbf,r1,r21⟩ γ1 h2=>lc rfl [0,γ1 1,γ1 2] ?_) fun h1=>kc (fun h2=>ps [0,γ 1,γ 2] fun⟨b0_node1,zbf,r1,r21⟩ γ1 h3=>lc rfl [0,γ1 1,γ1 2] ?_) fun h2=>ps [0,γ 1,γ 2] fun⟨b0_node1,zbf,r1,r21⟩ γ1 h3=>lc rfl [0,γ1 1,γ1 2] ?_
 all_goals (dsimp only[zdm,zdn]at *;show zah IF_ zG6 _ _=_;exact fin_)
def zkk(f:Finger)(b1_node:Node)(b1_job:Job)(r3:List Out):Option (Bool):=
 some (yab.ieq f.bit b1_job.bit)
theorem zkl{f b1_node b1_job r3 r}:zkk f b1_node b1_job r3=some r->zdb f b1_node b1_job r3=some r:=by
 unfold zkk;refine kag fun γ=>l0 rfl ?_
 all_goals (dsimp only[zbH]at *;show zah IF_ zHA _ _=_;exact fin_)
def zcb(b2_node:Node)(zaO:Job)(r3:List Out)(γ:Nat->Nat):Int⊕Unit->X×St
 | .inl a0=>(.ret,⟨bd 4 (vI a0::bd 14 []),[.row 82 (γ 0) false (yac zaa b2_node.fingers),.box 129 [.bptr 2 0],.box 133 (capp (zaL b2_node (.sl 0 (γ 0))) (capp (cJob zaO) ([.sl 3 (γ 3)]))),.row 78 (γ 3) false (yac eOut r3)]⟩)
 | .inr ()=>(.brk 0,⟨bd 19 [],[.row 82 (γ 0) false (yac zaa b2_node.fingers),.box 129 [.bptr 2 0],.box 133 (capp (zaL b2_node (.sl 0 (γ 0))) (capp (cJob zaO) ([.sl 3 (γ 3)]))),.row 78 (γ 3) false (yac eOut r3)]⟩)
instance {b2_node zaO r3}:InjS (zcb b2_node zaO r3):=⟨by unfold zcb;exact ij_⟩
def zd7(b2_node:Node)(zaO:Job)(r3:List Out)(t8:Int):Option (Int⊕Unit):=askg (fun γ=>(lim F pr).loop [7,1,0,8] 4 zb0 ⟨.sl 0 (γ 0):: .fn 259 [.bptr 1 0]::bd 5 (vI (xlen zaa b2_node.fingers)::vI t8::bd 10 []),[.row 82 (γ 0) false (yac zaa b2_node.fingers),.box 129 [.bptr 2 0],.box 133 (capp (zaL b2_node (.sl 0 (γ 0))) (capp (cJob zaO) ([.sl 3 (γ 3)]))),.row 78 (γ 3) false (yac eOut r3)]⟩) (zcb b2_node zaO r3)
def zca(b2_node:Node)(zaO:Job)(r3:List Out)(t8:Int):Option (Int⊕Unit):=
 bif yab.ilt t8 (xlen zaa b2_node.fingers)then
  (xget zaa b2_node.fingers t8).bind fun x=>
  (zdb x b2_node zaO r3).bind fun res=>
  bif res then some (.inl t8)else
  zd7 b2_node zaO r3 (yab.iadd .i64 t8 1)
 else
  some (.inr ())
theorem ze1{b2_node zaO r3 t8 r}:zca b2_node zaO r3 t8=some r->zd7 b2_node zaO r3 t8=some r:=by
 unfold zca;refine kag fun γ=>kc (fun h1=>kb fun x h2=>kg [0,0,γ 0,γ 3] fun res h3=>kc (fun h4=>l2 ?_) fun h4=>lh [γ 0,0,0,γ 3] fun h0=>?_) fun h1=>l2 ?_
 all_goals (dsimp only[zcb,zbH]at *;show zaz IF_ _ _ zb0 zoT _=_;generalize zb0=c0 at *;exact fin_)
def zhg(b2_node:Node)(zaO:Job)(r3:List Out):Option (Int):=
 (zd7 b2_node zaO r3 0).bind fun r=>match r with
  | .inl t4=>
   some t4
  | .inr ()=>
   some (-1)
theorem zrw{b2_node zaO r3 r}:zhg b2_node zaO r3=some r->zjb b2_node zaO r3=some r:=by
 unfold zhg;refine kag fun γ=>kg [γ 0,0,0,γ 3] fun| .inl t4,h1=>(l0 rfl ?_)| .inr _,h1=>(l0 rfl ?_)
 all_goals (dsimp only[zcX,zcb]at *;show zah IF_ (zvg zb0) _ _=_;generalize zb0=c0 at *;exact fin_)
def zbT(zaO:Job)(r3:List Out)(γ:Nat->Nat):(Int×Node)->X×St
 |(a0,a1)=>(.brk 0,⟨.sl 0 (γ 0)::bd 4 (vI a0::bd 36 []),[.row 82 (γ 0) false (yac zaa a1.fingers),.box 129 [.bptr 2 0],.box 133 (capp (zaL a1 (.sl 0 (γ 0))) (capp (cJob zaO) ([.sl 3 (γ 3)]))),.row 78 (γ 3) false (yac eOut r3),.row 82 (γ 4) false (yac zaa [])]⟩)
instance {zaO r3}:InjS (zbT zaO r3):=⟨by unfold zbT;exact ij_⟩
def zbD(zaO:Job)(r3:List Out)(i:Int)(j:Int)(b2_node':Node):Option ((Int×Node)):=asks (fun γ=>(lim F pr).loop [1,6,0,5] 5 zhk ⟨.sl 0 (γ 0):: .fn 259 [.bptr 1 0]::bd 3 (vI i::vI j::bd 35 []),[.row 82 (γ 0) false (yac zaa b2_node'.fingers),.box 129 [.bptr 2 0],.box 133 (capp (zaL b2_node' (.sl 0 (γ 0))) (capp (cJob zaO) ([.sl 3 (γ 3)]))),.row 78 (γ 3) false (yac eOut r3),.row 82 (γ 4) false (yac zaa [])]⟩) (zbT zaO r3)
def zbm(zaO:Job)(r3:List Out)(i:Int)(j:Int)(b2_node':Node):Option ((Int×Node)):=
 bif yab.ilt j (xlen zaa b2_node'.fingers)then
  (xget zaa b2_node'.fingers j).bind fun x=>
  (zdb x b2_node' zaO r3).bind fun res=>
  bif res then zbD zaO r3 i (yab.iadd .i64 j 1) b2_node' else
  (xget zaa b2_node'.fingers i).bind fun x1=>
  zbD zaO r3 (yab.iadd .i64 i 1) (yab.iadd .i64 j 1) (⟨b2_node'.me,b2_node'.clock,b2_node'.joined,b2_node'.pred,b2_node'.list,xset b2_node'.fingers i x,b2_node'.store,b2_node'.pends,b2_node'.jobs,b2_node'.results,b2_node'.rid,b2_node'.jobID,b2_node'.nextBit⟩:Node)
 else
  some (i,b2_node')
theorem zcM{zaO r3 i j b2_node' r}:zbm zaO r3 i j b2_node'=some r->zbD zaO r3 i j b2_node'=some r:=by
 unfold zbm;refine kas fun γ=>kc (fun h1=>kb fun x h2=>kg [0,0,γ 0,γ 3] fun res h3=>kc (fun h4=>lg [γ 0,0,0,γ 3,γ 4] fun γ' h0=>?_) fun h4=>kb fun x1 h5=>lg [γ 0,0,0,γ 3,γ 4] fun γ' h0=>?_) fun h1=>lr [γ 0,0,0,γ 3,γ 4] ?_
 all_goals (dsimp only[zbT,zbH]at *;show zaz IF_ _ _ zhk zvS _=_;generalize zhk=c0 at *;exact fin_)
def zgY(b2_node:Node)(zaO:Job)(r3:List Out):Option (zgX):=
 (zjb b2_node zaO r3).bind fun res=>
 bif yab.ieq res (-1)then
  some (b2_node.fingers,b2_node.me.id,b2_node.me.addr,b2_node.clock,b2_node.joined,b2_node.pred,b2_node.list,b2_node.store,b2_node.pends,b2_node.jobs,b2_node.results,b2_node.rid,b2_node.jobID,b2_node.nextBit)
 else
  (zbD zaO r3 res (yab.iadd .i64 res 1) b2_node).bind fun⟨i,b2_node'⟩=>
  (xsub zaa b2_node'.fingers i (xlen zaa b2_node'.fingers)).bind fun ys=>
  (xsub zaa (xfil b2_node'.fingers i (xlen zaa b2_node'.fingers) (⟨0,(⟨0,0⟩:Peer)⟩:Finger)) 0 i).bind fun ys1=>
  bif yab.ieq 0 0 then
   some (ys1,b2_node'.me.id,b2_node'.me.addr,b2_node'.clock,b2_node'.joined,b2_node'.pred,b2_node'.list,b2_node'.store,b2_node'.pends,b2_node'.jobs,b2_node'.results,b2_node'.rid,b2_node'.jobID,b2_node'.nextBit)
  else
   none
theorem zrr{b2_node zaO r3 r}:zgY b2_node zaO r3=some r->zik b2_node zaO r3=some r:=by
 unfold zgY;refine kas fun γ=>kg [γ 0,0,0,γ 3] fun res h1=>kc (fun h2=>lc rfl [γ 0,0,0,γ 3,0,0,0,0,0,0,0,0,0,0,0,0,0,0,0,0,0,0,0,0,0,0,0,0,0,0,0,0,0,0,0,0,0,0,0,0,γ 0] ?_) fun h2=>ks [γ 0,0,0,γ 3,0] fun⟨i,b2_node'⟩ γ2 h3=>kb fun ys h4=>kb fun ys1 h5=>k1 fun h6=>lc rfl [((γ2 0)+1),0,0,γ2 3,0,0,0,0,0,0,0,0,0,0,0,0,0,0,0,0,0,0,0,0,0,0,0,0,0,0,0,0,0,0,0,0,0,0,0,0,γ2 0] ?_
 all_goals (dsimp only[zcA,zbT,zcX]at *;show zah IF_ (zCf zhk) _ _=_;generalize zhk=c0 at *;exact fin_)
def zfc(bit:Int)(p:Peer)(γ:Nat->Nat):(List Finger)->X×St
 |a0=>(.ret,⟨bd 6 (.sl 3 (γ 3)::bd 37 []),[.box 3 [vI bit],.box 25 [vU p.id,vH p.addr],.row 82 (γ 2) false (yac zaa []),.row 82 (γ 3) false (yac zaa a0)]⟩)
instance {bit p}:InjS (zfc bit p):=⟨by unfold zfc;exact ij_⟩
def zrS(l:List Finger)(bit:Int)(p:Peer):Option ((List Finger)):=asks (fun γ=>(lim F pr).seg [6] zu2 ⟨bd 4 (.bptr 0 0:: .bptr 1 0::bd 1 (.sl 3 (γ 3)::bd 36 [])),[.box 3 [vI bit],.box 25 [vU p.id,vH p.addr],.row 82 (γ 2) false (yac zaa []),.row 82 (γ 3) false (yac zaa l)]⟩) (zfc bit p)
def zky(l:List Finger)(bit:Int)(p:Peer):Option ((List Finger)):=
 (zhd l bit).bind fun res=>
 bif yab.ile 0 res then
  (xget zaa l res).bind fun x=>
  some (xset l res (⟨x.bit,p⟩:Finger))
 else
  (zhe l bit).bind fun res1=>
  bif yab.ilt res1 0 then
   bif zaA zaa 24 l [(⟨bit,p⟩:Finger)]then
    (xsub zaa l 0 (xlen zaa l)).bind fun ys=>
    (xsub zaa l (xlen zaa l) (xlen zaa l)).bind fun ys1=>
    some (ys++([(⟨bit,p⟩:Finger)]++ys1))
   else
    none
  else
   bif zaA zaa 24 l [(⟨bit,p⟩:Finger)]then
    (xsub zaa l 0 res1).bind fun ys=>
    (xsub zaa l res1 (xlen zaa l)).bind fun ys1=>
    some (ys++([(⟨bit,p⟩:Finger)]++ys1))
   else
    none
theorem zv4{l bit p r}:zky l bit p=some r->zrS l bit p=some r:=by
 unfold zky;refine kas fun γ=>kg [γ 3,0] fun res h1=>kc (fun h2=>kb fun x h3=>ls [0,0,γ 2,γ 3] ?_) fun h2=>kg [γ 3,0] fun res1 h3=>kc (fun h4=>k1 fun h5=>kb fun ys h6=>kb fun ys1 h7=>ls [0,0,γ 2,((γ 3)+1)] ?_) fun h4=>k1 fun h5=>kb fun ys h6=>kb fun ys1 h7=>ls [0,0,γ 2,((γ 3)+1)] ?_
 all_goals (dsimp only[zcn,zco,zfc]at *;show Ifc.apart IF_ _ zBk _=_;exact fin_)
def zn4(l:List Finger)(bit:Int)(p:Peer):Option ((List Finger)):=
 bif zaA zaa 24 [] l then
  bif yab.ilt bit 0 then some l else
  bif yab.ilt 63 bit then some l else
  zrS l bit p
 else
  none
theorem zzS{l bit p r}:zn4 l bit p=some r->zrR l bit p=some r:=by
 unfold zn4;refine ka (k1 fun h1=>kc (fun h2=>l0 rfl ?_) fun h2=>kc (fun h3=>l0 rfl ?_) fun h3=>ps [0,0,0,0] fun r3 γ1 h4=>l0 rfl ?_)
 all_goals (dsimp only[R1,zfc]at *;show zah IF_ (zHB zu2) _ _=_;generalize zu2=c0 at *;exact fin_)
def zkn(has:Bool)(val:ByteArray)(e_:Int)(b0_node:Node)(b0_job:Job)(r1:List Out):Option (Node):=
 ziv b0_node b0_job.id has val e_
theorem zqP{has val e_ b0_node b0_job r1 r}:zkn has val e_ b0_node b0_job r1=some r->zde has val e_ b0_node b0_job r1=some r:=by
 unfold zkn;refine kas fun γ=>pb fun res h1=>lc rfl [0,γ 1] ?_
 all_goals (dsimp only[R1,zbI]at *;show zah IF_ zxX _ _=_;exact fin_)
def zeL(owner:Peer)(mine:Bool)(b0_node:Node)(b0_job:Job)(r2:List Out):Option ((Node×(List Finger))):=
 bif mine then
  (zik b0_node b0_job r2).bind fun⟨r0,zqU,znk,zqS,zpa,zrH,zrG,zqW,zqV,zrF,znm,zty,zqT,znl⟩=>
  zb6 false ⟨#[]⟩ 0 (⟨(⟨zqU,znk⟩:Peer),zqS,zpa,zrH,zrG,r0,zqW,zqV,zrF,znm,zty,zqT,znl⟩:Node) b0_job r2
 else
  (zrR b0_node.fingers b0_job.bit owner).bind fun res=>
  (zde false ⟨#[]⟩ 0 (⟨b0_node.me,b0_node.clock,b0_node.joined,b0_node.pred,b0_node.list,res,b0_node.store,b0_node.pends,b0_node.jobs,b0_node.results,b0_node.rid,b0_node.jobID,b0_node.nextBit⟩:Node) b0_job r2).bind fun b0_node1=>
  some (b0_node1,b0_node.fingers)
theorem zlK{owner mine b0_node b0_job r2 r}:zeL owner mine b0_node b0_job r2=some r->zjm owner mine b0_node b0_job r2=some r:=by
 unfold zeL;refine kas fun γ=>kc (fun h1=>ks [γ 1,0,0,γ 2] fun⟨r0,zqU,znk,zqS,zpa,zrH,zrG,zqW,zqV,zrF,znm,zty,zqT,znl⟩ γ1 h2=>ps [0,γ1 0,γ1 3] fun⟨b0_node1,r1⟩ γ2 h3=>lc rfl [0,γ2 1,γ2 2] ?_) fun h1=>kb fun res h2=>ks [0,γ 2] fun b0_node1 γ2 h3=>lc rfl [0,γ 1,γ2 1] ?_
 all_goals (dsimp only[zcA,R1,zdc,zbI,zbA]at *;show zah IF_ zG7 _ _=_;exact fin_)
abbrev zkb:=(Node×(List Entry)×(List Entry)×(List Finger)×(List Pair)×(List Pend)×(List Job)×(List Result)×(List Peer)×(List Out))
def zeC(γ:Nat->Nat):zkb->X×St
 |(a0,a1,a2,a3,a4,a5,a6,a7,a8,a9)=>(.brk 0,⟨bd 3 (.bptr 0 0::bd 2 (.bptr 1 0::bd 5 (.sl 11 (γ 11)::bd 50 []))),[.box 34 (zal a0),.box 34 ([vU 0,vH 0,vI 0,vF false,.lit 0 true [],.lit 0 true [],.lit 0 true [],.lit 0 true [],.lit 0 true [],.lit 0 true [],.lit 0 true [],vW 0,vI 0,vI 0]),.row 78 (γ 2) false (yac eOut []),.row 55 (γ 3) true (yac zab a1),.row 55 (γ 4) true (yac zab a2),.row 82 (γ 5) true (yac zaa a3),.row 76 (γ 6) true (yac zag a4),.row 36 (γ 7) true (yac zaI a5),.row 57 (γ 8) true (yac eJob a6),.row 74 (γ 9) true (yac zaf a7),.row 25 (γ 10) true (yac zad a8),.row 78 (γ 11) false (yac eOut a9)]⟩)
instance :InjS zeC:=⟨by unfold zeC;exact ij_⟩
def zej(key:ByteArray)(val:ByteArray)(t40:List Peer)(t41:Int)(t42:Int)(b0:Node)(r3:List Entry)(r4:List Entry)(r5:List Finger)(r6:List Pair)(r7:List Pend)(r8:List Job)(r9:List Result)(r10:List Peer)(r11:List Out):Option (zkb):=asks (fun γ=>(lim F pr).loop [41,40,1,2,42,3,12,6] 12 zoZ ⟨bd 1 (vT key::vT val:: .bptr 0 0::bd 2 (.bptr 1 0::bd 5 (.sl 11 (γ 11)::bd 27 (.lit 25 false (yac zad t40)::vI t41::vI t42::bd 20 [])))),[.box 34 (zal b0),.box 34 ([vU 0,vH 0,vI 0,vF false,.lit 0 true [],.lit 0 true [],.lit 0 true [],.lit 0 true [],.lit 0 true [],.lit 0 true [],.lit 0 true [],vW 0,vI 0,vI 0]),.row 78 (γ 2) false (yac eOut []),.row 55 (γ 3) true (yac zab r3),.row 55 (γ 4) true (yac zab r4),.row 82 (γ 5) true (yac zaa r5),.row 76 (γ 6) true (yac zag r6),.row 36 (γ 7) true (yac zaI r7),.row 57 (γ 8) true (yac eJob r8),.row 74 (γ 9) true (yac zaf r9),.row 25 (γ 10) true (yac zad r10),.row 78 (γ 11) false (yac eOut r11)]⟩) zeC
def zg9(key:ByteArray)(val:ByteArray)(t40:List Peer)(t41:Int)(t42:Int)(b0:Node)(r3:List Entry)(r4:List Entry)(r5:List Finger)(r6:List Pair)(r7:List Pend)(r8:List Job)(r9:List Result)(r10:List Peer)(r11:List Out):Option (zkb):=
 bif yab.ilt t42 t41 then
  (xget zad t40 t42).bind fun x=>
  (zqM b0 x [(⟨key,val⟩:Pair)] true).bind fun⟨r0,r1⟩=>
  bif zaA eOut 136 r11 r1 then
   zej key val t40 t41 (yab.iadd .i64 t42 1) r0 r3 r4 r5 r6 r7 r8 r9 r10 (r11++r1)
  else
   none
 else
  some (b0,r3,r4,r5,r6,r7,r8,r9,r10,r11)
theorem znR{key val t40 t41 t42 b0 r3 r4 r5 r6 r7 r8 r9 r10 r11 r}:zg9 key val t40 t41 t42 b0 r3 r4 r5 r6 r7 r8 r9 r10 r11=some r->zej key val t40 t41 t42 b0 r3 r4 r5 r6 r7 r8 r9 r10 r11=some r:=by
 unfold zg9;refine kas fun γ=>kc (fun h1=>kb fun x h2=>kb fun⟨r0,r1⟩ h3=>k1 fun h4=>lg [0,0,γ 2,γ 3,γ 4,γ 5,γ 6,γ 7,γ 8,γ 9,γ 10,((γ 11)+1)] fun γ' h0=>?_) fun h1=>lr [0,0,γ 2,γ 3,γ 4,γ 5,γ 6,γ 7,γ 8,γ 9,γ 10,γ 11] ?_
 all_goals (dsimp only[R2,zeC]at *;show zaz IF_ _ _ zoZ zBd _=_;generalize zoZ=c0 at *;exact fin_)
def zm7(n:Node)(key:ByteArray)(val:ByteArray):Option ((Node×(List Out)×Int)):=
 (zdJ n).bind fun⟨zaD,zan,zaB,zas,zaF,zaH,zam,zav,zaq,zax,zak,zaM,zaC,zao⟩=>
 (zsG zav key val).bind fun⟨r0,r1⟩=>
 bif yab.ieq r1 0 then
  (zjO zaH).bind fun res=>
  bif yab.ilt 2 (xlen zad res)then
   (xsub zad res 0 2).bind fun ys=>
   (zej key val ys (xlen zad ys) 0 (⟨(⟨zaD,zan⟩:Peer),zaB,zas,zaF,zaH,zam,r0,zaq,zax,zak,zaM,zaC,zao⟩:Node) zaF zaH zam zav zaq zax zak res []).bind fun⟨b0,r3,r4,r5,r6,r7,r8,r9,r10,r11⟩=>
   some (b0,r11,0)
  else
   (xsub zad res 0 (xlen zad res)).bind fun ys=>
   (zej key val ys (xlen zad ys) 0 (⟨(⟨zaD,zan⟩:Peer),zaB,zas,zaF,zaH,zam,r0,zaq,zax,zak,zaM,zaC,zao⟩:Node) zaF zaH zam zav zaq zax zak res []).bind fun⟨b0,r3,r4,r5,r6,r7,r8,r9,r10,r11⟩=>
   some (b0,r11,0)
 else
  some ((⟨(⟨zaD,zan⟩:Peer),zaB,zas,zaF,zaH,zam,zav,zaq,zax,zak,zaM,zaC,zao⟩:Node),[],r1)
theorem zzm{n key val r}:zm7 n key val=some r->zqN n key val=some r:=by
 unfold zm7;refine ka (kb fun⟨zaD,zan,zaB,zas,zaF,zaH,zam,zav,zaq,zax,zak,zaM,zaC,zao⟩ h1=>kb fun⟨r0,r1⟩ h2=>kc (fun h3=>kb fun res h4=>kc (fun h5=>kb fun ys h6=>ks [0,0,0,0,0,0,0,0,0,0,0,0] fun⟨b0,r3,r4,r5,r6,r7,r8,r9,r10,r11⟩ γ4 h7=>l0 rfl ?_) fun h5=>kb fun ys h6=>ks [0,0,0,0,0,0,0,0,0,0,0,0] fun⟨b0,r3,r4,r5,r6,r7,r8,r9,r10,r11⟩ γ4 h7=>l0 rfl ?_) fun h3=>l0 rfl ?_)
 all_goals (dsimp only[K1,R2,R3,zbC,zeC]at *;show zah IF_ (zHr zoZ) _ _=_;generalize zoZ=c0 at *;exact fin_)
def zf7(has:Bool)(val:ByteArray)(e_:Int)(b0_node:Node)(b0_job:Job)(r2:List Out):Option ((Node×(List Finger))):=
 (ziv b0_node b0_job.id has val e_).bind fun res=>
 some (res,b0_node.fingers)
theorem zqQ{has val e_ b0_node b0_job r2 r}:zf7 has val e_ b0_node b0_job r2=some r->zhV has val e_ b0_node b0_job r2=some r:=by
 unfold zf7;refine kas fun γ=>kb fun res h1=>lc rfl [0,γ 1,γ 2] ?_
 all_goals (dsimp only[R1,zcv]at *;show zah IF_ zxX _ _=_;exact fin_)
def zjp(b0_node:Node)(b0_job:Job)(r2:List Out):Option ((Node×(List Finger)×(List Out))):=
 (zqN b0_node b0_job.key b0_job.val).bind fun⟨r0,r1,r21⟩=>
 bif yab.ieq r21 0 then
  (zfN r0 r1 b0_node b0_job r2).bind fun⟨r11,r22⟩=>
  (zde true b0_job.val 0 r0 b0_job r22).bind fun b0_node1=>
  some (b0_node1,r11,r22)
 else
  (zhV false ⟨#[]⟩ r21 b0_node b0_job r2).bind fun⟨b0_node1,r11⟩=>
  some (b0_node1,r11,r2)
theorem zuC{b0_node b0_job r2 r}:zjp b0_node b0_job r2=some r->zk6 b0_node b0_job r2=some r:=by
 unfold zjp;refine kas fun γ=>kb fun⟨r0,r1,r21⟩ h1=>kc (fun h2=>ks [0,γ 1,γ 2] fun⟨r11,r22⟩ γ2 h3=>ks [0,γ2 2] fun b0_node1 γ3 h4=>lc rfl [0,γ2 1,γ3 1] ?_) fun h2=>ks [0,γ 1,γ 2] fun⟨b0_node1,r11⟩ γ2 h3=>lc rfl [0,γ2 1,γ2 2] ?_
 all_goals (dsimp only[R3,zd4,zbI,zcv,zb7]at *;show zah IF_ zG8 _ _=_;exact fin_)
def zlq(l:List Pair)(key:ByteArray):Option ((ByteArray×Bool)):=
 (zlr l key).bind fun res=>
 bif yab.ilt res 0 then some (⟨#[]⟩,false)else
 (xget zag l res).bind fun x=>
 some (x.val,true)
theorem zAw{l key r}:zlq l key=some r->zsF l key=some r:=by
 unfold zlq;refine ka (kb fun res h1=>kc (fun h2=>l0 rfl ?_) fun h2=>kb fun x h3=>l0 rfl ?_)
 all_goals (dsimp only[R1,R2]at *;show zah IF_ zG9 _ _=_;exact fin_)
abbrev zhT:=(Node×Job×(List Finger)×(List Out))
def zda(owner:Peer)(γ:Nat->Nat):zhT->X×St
 |(a0,a1,a2,a3)=>(.nor,⟨bd 87 [],[.box 133 (capp (zal a0) (capp (cJob a1) ([.sl 2 (γ 2)]))),.row 82 (γ 1) true (yac zaa a2),.row 78 (γ 2) false (yac eOut a3),.box 25 [vU owner.id,vH owner.addr]]⟩)
instance {owner}:InjS (zda owner):=⟨by unfold zda;exact ij_⟩
def zf5(owner:Peer)(b0_node:Node)(b0_job:Job)(r2:List Out)(t19:Bool):Option (zhT):=asks (fun γ=>(lim F pr).seg [] zuN ⟨.bptr 0 0::bd 2 (.bptr 3 0::vF (yab.ieq owner.addr b0_node.me.addr)::bd 14 (vF t19::bd 67 [])),[.box 133 (capp (zaL b0_node (.sl 1 (γ 1))) (capp (cJob b0_job) ([.sl 2 (γ 2)]))),.row 82 (γ 1) false (yac zaa b0_node.fingers),.row 78 (γ 2) false (yac eOut r2),.box 25 [vU owner.id,vH owner.addr]]⟩) (zda owner)
abbrev zhS:=(Node×Job×(List Finger)×(List Out))
def zc8(owner:Peer)(γ:Nat->Nat):zhS->X×St
 |(a0,a1,a2,a3)=>(.nor,⟨bd 87 [],[.box 133 (capp (zal a0) (capp (cJob a1) ([.sl 2 (γ 2)]))),.row 82 (γ 1) true (yac zaa a2),.row 78 (γ 2) false (yac eOut a3),.box 25 [vU owner.id,vH owner.addr]]⟩)
instance {owner}:InjS (zc8 owner):=⟨by unfold zc8;exact ij_⟩
def zf4(owner:Peer)(b0_node:Node)(b0_job:Job)(r2:List Out)(mine:Bool)(t47:Bool):Option (zhS):=asks (fun γ=>(lim F pr).seg [] zuM ⟨.bptr 0 0::bd 2 (.bptr 3 0::vF mine::bd 42 (vF t47::bd 39 [])),[.box 133 (capp (zaL b0_node (.sl 1 (γ 1))) (capp (cJob b0_job) ([.sl 2 (γ 2)]))),.row 82 (γ 1) false (yac zaa b0_node.fingers),.row 78 (γ 2) false (yac eOut r2),.box 25 [vU owner.id,vH owner.addr]]⟩) (zc8 owner)
abbrev zhR:=(Node×Job×(List Finger)×(List Out))
def zc6(owner:Peer)(γ:Nat->Nat):zhR->X×St
 |(a0,a1,a2,a3)=>(.nor,⟨bd 87 [],[.box 133 (capp (zal a0) (capp (cJob a1) ([.sl 2 (γ 2)]))),.row 82 (γ 1) true (yac zaa a2),.row 78 (γ 2) false (yac eOut a3),.box 25 [vU owner.id,vH owner.addr]]⟩)
instance {owner}:InjS (zc6 owner):=⟨by unfold zc6;exact ij_⟩
def zf3(owner:Peer)(b0_node:Node)(b0_job:Job)(r2:List Out)(t59:Bool):Option (zhR):=asks (fun γ=>(lim F pr).seg [] zuL ⟨.bptr 0 0::bd 2 (.bptr 3 0::bd 55 (vF t59::bd 27 [])),[.box 133 (capp (zaL b0_node (.sl 1 (γ 1))) (capp (cJob b0_job) ([.sl 2 (γ 2)]))),.row 82 (γ 1) false (yac zaa b0_node.fingers),.row 78 (γ 2) false (yac eOut r2),.box 25 [vU owner.id,vH owner.addr]]⟩) (zc6 owner)
def zbz(owner:Peer)(b0_node:Node)(b0_job:Job)(r2:List Out)(t19:Bool):Option (zhT):=
 bif t19 then zi8 b0_job.via b0_node b0_job r2 else
 bif yab.ieq b0_job.kind 4 then
  (zjm owner (yab.ieq owner.addr b0_node.me.addr) b0_node b0_job r2).bind fun⟨b0_node1,r1⟩=>
  some (b0_node1,b0_job,r1,r2)
 else
  bif yab.ieq b0_job.kind 2 then
   zf4 owner b0_node b0_job r2 (yab.ieq owner.addr b0_node.me.addr) (yab.ieq owner.addr b0_node.me.addr)
  else
   zf4 owner b0_node b0_job r2 (yab.ieq owner.addr b0_node.me.addr) false
theorem zc9{owner b0_node b0_job r2 t19 r}:zbz owner b0_node b0_job r2 t19=some r->zf5 owner b0_node b0_job r2 t19=some r:=by
 unfold zbz;refine kas fun γ=>kc (fun h1=>ps [0,γ 1,γ 2] fun⟨b0_node1,zbf,r1,r21⟩ γ1 h2=>ls [0,γ1 1,γ1 2] ?_) fun h1=>kc (fun h2=>ks [0,γ 1,γ 2] fun⟨b0_node1,r1⟩ γ1 h3=>ls [0,γ1 1,γ1 2] ?_) fun h2=>kc (fun h3=>ps [0,γ 1,γ 2] fun⟨zmy,zoF,r1,r2'⟩ γ1 h4=>ls [0,γ1 1,γ1 2] ?_) fun h3=>ps [0,γ 1,γ 2] fun⟨zmy,zoF,r1,r2'⟩ γ1 h4=>ls [0,γ1 1,γ1 2] ?_
 all_goals (dsimp only[zdm,zc8,zda,zdc]at *;show Ifc.apart IF_ _ (zAK zuM) _=_;generalize zuM=c0 at *;exact fin_)
def zby(owner:Peer)(b0_node:Node)(b0_job:Job)(r2:List Out)(mine:Bool)(t47:Bool):Option (zhS):=
 bif t47 then
  (zk6 b0_node b0_job r2).bind fun⟨b0_node1,r1,r21⟩=>
  some (b0_node1,b0_job,r1,r21)
 else
  bif yab.ieq b0_job.kind 3 then zf3 owner b0_node b0_job r2 mine else
  zf3 owner b0_node b0_job r2 false
theorem zc7{owner b0_node b0_job r2 mine t47 r}:zby owner b0_node b0_job r2 mine t47=some r->zf4 owner b0_node b0_job r2 mine t47=some r:=by
 unfold zby;refine kas fun γ=>kc (fun h1=>ks [0,γ 1,γ 2] fun⟨b0_node1,r1,r21⟩ γ1 h2=>ls [0,γ1 1,γ1 2] ?_) fun h1=>kc (fun h2=>ps [0,γ 1,γ 2] fun⟨zmy,zoF,r1,r2'⟩ γ1 h3=>ls [0,γ1 1,γ1 2] ?_) fun h2=>ps [0,γ 1,γ 2] fun⟨zmy,zoF,r1,r2'⟩ γ1 h3=>ls [0,γ1 1,γ1 2] ?_
 all_goals (dsimp only[zc6,zc8,zd4]at *;show Ifc.apart IF_ _ (zAJ zuL) _=_;generalize zuL=c0 at *;exact fin_)
def zeK(owner:Peer)(b0_node:Node)(b0_job:Job)(r2:List Out)(t59:Bool):Option (zhR):=
 bif t59 then
  (zsF b0_node.store b0_job.key).bind fun⟨r0,r1⟩=>
  (zb6 r1 r0 0 b0_node b0_job r2).bind fun⟨b0_node1,r11⟩=>
  some (b0_node1,b0_job,r11,r2)
 else
  zi8 owner b0_node b0_job r2
theorem zlJ{owner b0_node b0_job r2 t59 r}:zeK owner b0_node b0_job r2 t59=some r->zf3 owner b0_node b0_job r2 t59=some r:=by
 unfold zeK;refine kas fun γ=>kc (fun h1=>kb fun⟨r0,r1⟩ h2=>ks [0,γ 1,γ 2] fun⟨b0_node1,r11⟩ γ2 h3=>ls [0,γ2 1,γ2 2] ?_) fun h1=>ps [0,γ 1,γ 2] fun⟨b0_node1,zbf,r1,r21⟩ γ1 h2=>ls [0,γ1 1,γ1 2] ?_
 all_goals (dsimp only[R2,zdm,zc6,zbA]at *;show Ifc.apart IF_ _ zAI _=_;exact fin_)
def zeI(owner:Peer)(b0_node:Node)(b0_job:Job)(r2:List Out):Option (zki):=
 bif yab.ieq b0_job.kind 1 then
  zf5 owner b0_node b0_job r2 (yab.ieq owner.addr b0_node.me.addr)
 else
  zf5 owner b0_node b0_job r2 false
theorem zkj{owner b0_node b0_job r2 r}:zeI owner b0_node b0_job r2=some r->zi9 owner b0_node b0_job r2=some r:=by
 unfold zeI;refine kas fun γ=>kc (fun h1=>ps [0,γ 1,γ 2] fun⟨zmy,zoF,r1,r2'⟩ γ1 h2=>lc rfl [0,γ1 1,γ1 2] ?_) fun h1=>ps [0,γ 1,γ 2] fun⟨zmy,zoF,r1,r2'⟩ γ1 h2=>lc rfl [0,γ1 1,γ1 2] ?_
 all_goals (dsimp only[zeJ,zda]at *;show zah IF_ (zGD zuN) _ _=_;generalize zuN=c0 at *;exact fin_)
end Go.Ab.Tryz
