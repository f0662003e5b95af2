/- Our texts for this statement, merged: what its theorem leads to. -/
import Derived.Test.YtdjoeakbjackbaaGreatDoorQLm9
set_option linter.unusedVariables false
set_option linter.unusedSimpArgs false
noncomputable section
namespace Go.Ab.Tryz
open Go Go.Ab Go.Proofs
set_option maxRecDepth 10000
set_option maxHeartbeats 4000000
open Go.Ab.Ops renaming std->yab
open List renaming map->yac
def zip(n:Node)(p:Pend)(l:List Peer):Option (Bool):=
 (zsN n).bind fun res=>
 bif res then znW else
 bif yab.ilt 60 (xlen zad l)then znW else
 (zmM n p).bind fun⟨r0,r1⟩=>
 (zqI n p).bind fun⟨r01,r11⟩=>
 (zpZ n l).bind fun⟨r02,r0_⟩=>
 (zun n l).bind fun⟨r03,r0_1⟩=>
 (zkT r0 r01).bind fun res1=>
 bif res1 then
  (zkS r1 r11).bind fun res2=>
  bif res2 then
   (zkT r02 r03).bind fun res3=>
   bif res3 then
    (zkS r0_ r0_1).bind fun res4=>
    bif res4 then znW else
    some false
   else
    some false
  else
   some false
 else
  some false
theorem ztv{n p l r}:zip n p l=some r->znV n p l=some r:=by
 unfold zip;refine ka (kb fun res h1=>kc (fun h2=>pb fun res1 h3=>l0 rfl ?_) fun h2=>kc (fun h3=>pb fun res1 h4=>l0 rfl ?_) fun h3=>kb fun⟨r0,r1⟩ h4=>kb fun⟨r01,r11⟩ h5=>ks [] fun⟨r02,r0_⟩ γ4 h6=>ks [] fun⟨r03,r0_1⟩ γ5 h7=>kb fun res1 h8=>kc (fun h9=>kb fun res2 h10=>kc (fun h11=>kb fun res3 h12=>kc (fun h13=>kb fun res4 h14=>kc (fun h15=>pb fun res5 h16=>l0 rfl ?_) fun h15=>l0 rfl ?_) fun h13=>l0 rfl ?_) fun h11=>l0 rfl ?_) fun h9=>l0 rfl ?_)
 all_goals (dsimp only[R1,R2,zhr,zj5]at *;show zah IF_ g4F _ _=_;exact fin_)
def zfM(n:Node)(γ:Nat->Nat):Bool->X×St
 |a0=>(.ret,⟨bd 2 (vF a0::bd 91 []),[.box 34 (zal n)]⟩)
instance {n}:InjS (zfM n):=⟨by unfold zfM;exact ij_⟩
def znb(n:Node):Option (Bool):=asks (fun γ=>(lim F pr).seg [2] zxQ ⟨bd 1 (.bptr 0 0::bd 92 []),[.box 34 (zal n)]⟩) (zfM n)
def zfK(n:Node)(γ:Nat->Nat):Unit⊕Unit->X×St
 | .inl ()=>(.ret,⟨bd 2 (vF true::bd 91 []),[.box 34 (zal n)]⟩)
 | .inr ()=>(.brk 0,⟨bd 1 (.bptr 0 0::bd 92 []),[.box 34 (zal n)]⟩)
instance {n}:InjS (zfK n):=⟨by unfold zfK;exact ij_⟩
def zhO(n:Node)(i:Int):Option (Unit⊕Unit):=asks (fun γ=>(lim F pr).loop [3,1] 1 zsX ⟨bd 1 (.bptr 0 0::bd 1 (vI i::bd 90 [])),[.box 34 (zal n)]⟩) (zfK n)
def zfL(n:Node)(γ:Nat->Nat):Unit⊕Unit->X×St
 | .inl ()=>(.ret,⟨bd 2 (vF true::bd 91 []),[.box 34 (zal n)]⟩)
 | .inr ()=>(.brk 2,⟨bd 94 [],[.box 34 (zal n)]⟩)
instance {n}:InjS (zfL n):=⟨by unfold zfL;exact ij_⟩
def zhP(n:Node)(i:Int):Option (Unit⊕Unit):=asks (fun γ=>(lim F pr).loop [1,4] 1 zsY ⟨bd 1 (.bptr 0 0::bd 2 (vI i::bd 89 [])),[.box 34 (zal n)]⟩) (zfL n)
def zk2(n:Node):Option (Bool):=
 (zhO n 0).bind fun r=>match r with
  | .inl ()=>
   some true
  | .inr ()=>
   (zhP n 0).bind fun r=>match r with
    | .inl ()=>
     some true
    | .inr ()=>
     some false
theorem zwD{n r}:zk2 n=some r->znb n=some r:=by
 unfold zk2;refine kas fun γ=>ks [] fun| .inl _,γ1,h1=>(ls [] ?_)| .inr _,γ1,h1=>(ks [] fun| .inl _,γ2,h2=>(ls [] ?_)| .inr _,γ2,h2=>(ls [] ?_))
 all_goals (dsimp only[zfK,zfL,zfM]at *;show Ifc.apart IF_ _ (zDo zsX zsY) _=_;generalize zsX=c0,zsY=c1 at *;exact fin_)
def zig(n:Node)(i:Int):Option (Unit⊕Unit):=
 bif yab.ilt i (xlen eJob n.jobs)then
  (xget eJob n.jobs i).bind fun x=>
  bif yab.ilt 300 (yab.slen x.key)then some (.inl ())else
  bif yab.ilt 700 (yab.slen x.val)then some (.inl ())else
  zhO n (yab.iadd .i64 i 1)
 else
  some (.inr ())
theorem zpt{n i r}:zig n i=some r->zhO n i=some r:=by
 unfold zig;refine kas fun γ=>kc (fun h1=>kb fun x h2=>kc (fun h3=>lr [] ?_) fun h3=>kc (fun h4=>lr [] ?_) fun h4=>lg [] fun γ' h0=>?_) fun h1=>lr [] ?_
 all_goals (dsimp only[zfK]at *;show zaz IF_ _ _ zsX zDm _=_;generalize zsX=c0 at *;exact fin_)
def zih(n:Node)(i:Int):Option (Unit⊕Unit):=
 bif yab.ilt i (xlen zaf n.results)then
  (xget zaf n.results i).bind fun x=>
  bif yab.ilt 300 (yab.slen x.key)then some (.inl ())else
  bif yab.ilt 700 (yab.slen x.val)then some (.inl ())else
  zhP n (yab.iadd .i64 i 1)
 else
  some (.inr ())
theorem zpu{n i r}:zih n i=some r->zhP n i=some r:=by
 unfold zih;refine kas fun γ=>kc (fun h1=>kb fun x h2=>kc (fun h3=>lr [] ?_) fun h3=>kc (fun h4=>lr [] ?_) fun h4=>lg [] fun γ' h0=>?_) fun h1=>lr [] ?_
 all_goals (dsimp only[zfL]at *;show zaz IF_ _ _ zsY zDn _=_;generalize zsY=c0 at *;exact fin_)
def zls(n:Node):Option (Bool):=
 bif yab.ilt 5 (xlen zab n.pred)then some true else
 bif yab.ilt 40 (xlen zab n.list)then some true else
 bif yab.ilt 80 (xlen zaa n.fingers)then some true else
 bif yab.ilt 100 (xlen zaI n.pends)then some true else
 bif yab.ilt 20 (xlen eJob n.jobs)then some true else
 bif yab.ilt 40 (xlen zaf n.results)then some true else
 (zsM n.store).bind fun res=>
 bif res then some true else
 znb n
theorem zAC{n r}:zls n=some r->zsN n=some r:=by
 unfold zls;refine ka (kc (fun h1=>l0 rfl ?_) fun h1=>kc (fun h2=>l0 rfl ?_) fun h2=>kc (fun h3=>l0 rfl ?_) fun h3=>kc (fun h4=>l0 rfl ?_) fun h4=>kc (fun h5=>l0 rfl ?_) fun h5=>kc (fun h6=>l0 rfl ?_) fun h6=>kb fun res h7=>kc (fun h8=>l0 rfl ?_) fun h8=>ps [] fun t2 γ2 h9=>l0 rfl ?_)
 all_goals (dsimp only[R1,zfM]at *;show zah IF_ (g12F zxQ) _ _=_;generalize zxQ=c0 at *;exact fin_)
def zkD(n:Node)(p:Pend):Option ((Node×(List Out))):=
 (zdJ n).bind fun⟨zaD,zan,zaB,zas,zaF,zaH,zam,zav,zaq,zax,zak,zaM,zaC,zao⟩=>
 (zp9 zaH p.to_.addr).bind fun res=>
 (zlc res p.to_.addr).bind fun res1=>
 bif yab.ilt res1 0 then
  (zpR zam p.to_.addr).bind fun res2=>
  (zp8 zaF p.to_.addr).bind fun res3=>
  bif yab.ieq p.why 4 then
   zgV (⟨(⟨zaD,zan⟩:Peer),zaB,zas,res3,res,res2,zav,zaq,zax,zak,zaM,zaC,zao⟩:Node) p.job 18
  else
   bif yab.ieq p.why 5 then
    zgV (⟨(⟨zaD,zan⟩:Peer),zaB,zas,res3,res,res2,zav,zaq,zax,zak,zaM,zaC,zao⟩:Node) p.job 18
   else
    some ((⟨(⟨zaD,zan⟩:Peer),zaB,zas,res3,res,res2,zav,zaq,zax,zak,zaM,zaC,zao⟩:Node),[])
 else
  bif yab.ieq p.why 4 then
   zgV (⟨(⟨zaD,zan⟩:Peer),zaB,zas,zaF,res,zam,zav,zaq,zax,zak,zaM,zaC,zao⟩:Node) p.job 18
  else
   bif yab.ieq p.why 5 then
    zgV (⟨(⟨zaD,zan⟩:Peer),zaB,zas,zaF,res,zam,zav,zaq,zax,zak,zaM,zaC,zao⟩:Node) p.job 18
   else
    some ((⟨(⟨zaD,zan⟩:Peer),zaB,zas,zaF,res,zam,zav,zaq,zax,zak,zaM,zaC,zao⟩:Node),[])
theorem zwb{n p r}:zkD n p=some r->zmM n p=some r:=by
 unfold zkD;refine ka (kb fun⟨zaD,zan,zaB,zas,zaF,zaH,zam,zav,zaq,zax,zak,zaM,zaC,zao⟩ h1=>kb fun res h2=>kb fun res1 h3=>kc (fun h4=>kb fun res2 h5=>kb fun res3 h6=>kc (fun h7=>pb fun⟨r0,r1⟩ h8=>l0 rfl ?_) fun h7=>kc (fun h8=>pb fun⟨r0,r1⟩ h9=>l0 rfl ?_) fun h8=>l0 rfl ?_) fun h4=>kc (fun h5=>pb fun⟨r0,r1⟩ h6=>l0 rfl ?_) fun h5=>kc (fun h6=>pb fun⟨r0,r1⟩ h7=>l0 rfl ?_) fun h6=>l0 rfl ?_)
 all_goals (dsimp only[K1,R1,R2,zbC]at *;show zah IF_ g20F _ _=_;exact fin_)
def zm3(n:Node)(p:Pend):Option ((Node×(List Out))):=
 (zud n.list p.to_.addr).bind fun res=>
 (zlF res p.to_.addr).bind fun res1=>
 bif yab.ilt res1 0 then
  (zue n.fingers p.to_.addr).bind fun res2=>
  (zuc n.pred p.to_.addr).bind fun res3=>
  bif yab.ieq p.why 4 then
   zia (⟨n.me,n.clock,n.joined,res3,res,res2,n.store,n.pends,n.jobs,n.results,n.rid,n.jobID,n.nextBit⟩:Node) p.job 18
  else
   bif yab.ieq p.why 5 then
    zia (⟨n.me,n.clock,n.joined,res3,res,res2,n.store,n.pends,n.jobs,n.results,n.rid,n.jobID,n.nextBit⟩:Node) p.job 18
   else
    some ((⟨n.me,n.clock,n.joined,res3,res,res2,n.store,n.pends,n.jobs,n.results,n.rid,n.jobID,n.nextBit⟩:Node),[])
 else
  bif yab.ieq p.why 4 then
   zia (⟨n.me,n.clock,n.joined,n.pred,res,n.fingers,n.store,n.pends,n.jobs,n.results,n.rid,n.jobID,n.nextBit⟩:Node) p.job 18
  else
   bif yab.ieq p.why 5 then
    zia (⟨n.me,n.clock,n.joined,n.pred,res,n.fingers,n.store,n.pends,n.jobs,n.results,n.rid,n.jobID,n.nextBit⟩:Node) p.job 18
   else
    some ((⟨n.me,n.clock,n.joined,n.pred,res,n.fingers,n.store,n.pends,n.jobs,n.results,n.rid,n.jobID,n.nextBit⟩:Node),[])
theorem zze{n p r}:zm3 n p=some r->zqI n p=some r:=by
 unfold zm3;refine ka (kb fun res h1=>kb fun res1 h2=>kc (fun h3=>kb fun res2 h4=>kb fun res3 h5=>kc (fun h6=>pb fun⟨r0,r1⟩ h7=>l0 rfl ?_) fun h6=>kc (fun h7=>pb fun⟨r0,r1⟩ h8=>l0 rfl ?_) fun h7=>l0 rfl ?_) fun h3=>kc (fun h4=>pb fun⟨r0,r1⟩ h5=>l0 rfl ?_) fun h4=>kc (fun h5=>pb fun⟨r0,r1⟩ h6=>l0 rfl ?_) fun h5=>l0 rfl ?_)
 all_goals (dsimp only[R1,R2]at *;show zah IF_ g21F _ _=_;exact fin_)
def zn9(n:Node):Option (zn8):=
 bif zaA zab 24 [] n.pred then
  bif zaA zab 24 [] n.list then
   bif zaA zaa 24 [] n.fingers then
    bif zaA zag 32 [] n.store then
     bif zaA zaI 56 [] n.pends then
      bif zaA eJob 128 [] n.jobs then
       bif zaA zaf 64 [] n.results then
        some (n.me.id,n.me.addr,n.clock,n.joined,n.pred,n.list,n.fingers,n.store,n.pends,n.jobs,n.results,n.rid,n.jobID,n.nextBit)
       else
        none
      else
       none
     else
      none
    else
     none
   else
    none
  else
   none
 else
  none
theorem zz3{n r}:zn9 n=some r->zdJ n=some r:=by
 unfold zn9;refine ka (k1 fun h1=>k1 fun h2=>k1 fun h3=>k1 fun h4=>k1 fun h5=>k1 fun h6=>k1 fun h7=>l0 rfl ?_)
 all_goals (dsimp only[zbC]at *;show zah IF_ g15F _ _=_;exact fin_)
def zkC(x:Entry)(zau:Int)(zaj:Int):Option (Bool):=
 bif yab.ieq x.peer.id zau then
  bif yab.ieq x.peer.addr zaj then some true else
  some false
 else
  some false
theorem zwa{x zau zaj r}:zkC x zau zaj=some r->zmK x zau zaj=some r:=by
 unfold zkC;refine ka (kc (fun h1=>kc (fun h2=>l0 rfl ?_) fun h2=>l0 rfl ?_) fun h1=>l0 rfl ?_)
 all_goals (dsimp only[zff]at *;show zah IF_ g71F _ _=_;exact fin_)
def zbZ(zau:Int)(zaj:Int)(γ:Nat->Nat):Int⊕Unit->X×St
 | .inl a0=>(.ret,⟨bd 4 (vI a0::bd 14 []),[.box 25 [vU zau,vH zaj]]⟩)
 | .inr ()=>(.brk 0,⟨bd 19 [],[.box 25 [vU zau,vH zaj]]⟩)
instance {zau zaj}:InjS (zbZ zau zaj):=⟨by unfold zbZ;exact ij_⟩
def zdD(s:List Entry)(zau:Int)(zaj:Int)(t8:Int):Option (Int⊕Unit):=asks (fun γ=>(lim F pr).loop [7,1,0,8] 1 zeU ⟨.lit 55 false (yac zab s):: .fn 71 [.bptr 0 0]::bd 5 (vI (xlen zab s)::vI t8::bd 10 []),[.box 25 [vU zau,vH zaj]]⟩) (zbZ zau zaj)
def zbY(s:List Entry)(zau:Int)(zaj:Int)(t8:Int):Option (Int⊕Unit):=
 bif yab.ilt t8 (xlen zab s)then
  (xget zab s t8).bind fun x=>
  (zmK x zau zaj).bind fun res=>
  bif res then some (.inl t8)else
  zdD s zau zaj (yab.iadd .i64 t8 1)
 else
  some (.inr ())
theorem zeP{s zau zaj t8 r}:zbY s zau zaj t8=some r->zdD s zau zaj t8=some r:=by
 unfold zbY;refine kas fun γ=>kc (fun h1=>kb fun x h2=>kb fun res h3=>kc (fun h4=>lr [] ?_) fun h4=>lg [] fun γ' h0=>?_) fun h1=>lr [] ?_
 all_goals (dsimp only[zbZ,zff]at *;show zaz IF_ _ _ zeU zu8 _=_;generalize zeU=c0 at *;exact fin_)
def zg1(s:List Entry)(zau:Int)(zaj:Int):Option (Int):=
 (zdD s zau zaj 0).bind fun r=>match r with
  | .inl t4=>
   some t4
  | .inr ()=>
   some (-1)
theorem zru{s zau zaj r}:zg1 s zau zaj=some r->zin s zau zaj=some r:=by
 unfold zg1;refine ka (ks [] fun| .inl t4,γ1,h1=>(l0 rfl ?_)| .inr _,γ1,h1=>(l0 rfl ?_))
 all_goals (dsimp only[zcD,zbZ]at *;show zah IF_ (g77F zeU) _ _=_;generalize zeU=c0 at *;exact fin_)
def zfR(s:List Entry)(zau:Int)(zaj:Int):Option (Bool):=
 (zin s zau zaj).bind fun res=>
 some (yab.ile 0 res)
theorem zpw{s zau zaj r}:zfR s zau zaj=some r->zha s zau zaj=some r:=by
 unfold zfR;refine ka (kb fun res h1=>l0 rfl ?_)
 all_goals (dsimp only[zcm,zcD]at *;show zah IF_ g70F _ _=_;exact fin_)
def zqd(l:List Pend)(why:Int)(addr:Int):Option (Bool):=
 zl9 l why addr
theorem zCz{l why addr r}:zqd l why addr=some r->zt9 l why addr=some r:=by
 unfold zqd;refine ka (pb fun res h1=>l0 rfl ?_)
 all_goals (dsimp only[zcz,R1]at *;show zah IF_ g72F _ _=_;exact fin_)
def zqb(n:Node)(to_:Peer)(m:Msg)(why:Int)(job:Int):Option ((Node×(List Out))):=
 (zdJ n).bind fun⟨zaD,zan,zaB,zas,zaF,zaH,zam,zav,zaq,zax,zak,zaM,zaC,zao⟩=>
 bif yab.ile 64 (xlen zaI zaq)then
  some ((⟨(⟨zaD,zan⟩:Peer),zaB,zas,zaF,zaH,zam,zav,zaq,zax,zak,zaM,zaC,zao⟩:Node),[])
 else
  (zt8 m).bind fun res=>
  (zua (⟨(⟨zaD,zan⟩:Peer),zaB,zas,zaF,zaH,zam,zav,zaq,zax,zak,yab.iadd .u32 zaM 1,zaC,zao⟩:Node)).bind fun res1=>
  bif zaA zaI 56 zaq [(⟨yab.iadd .u32 zaM 1,res.kind,why,job,to_,yab.iadd .i64 res1 8⟩:Pend)]then
   some ((⟨(⟨zaD,zan⟩:Peer),zaB,zas,zaF,zaH,zam,zav,(zaq++[(⟨yab.iadd .u32 zaM 1,res.kind,why,job,to_,yab.iadd .i64 res1 8⟩:Pend)]),zax,zak,yab.iadd .u32 zaM 1,zaC,zao⟩:Node),[(⟨to_,(⟨res.kind,yab.iadd .u32 zaM 1,res.code,res.has,res.id,res.key,res.val,res.peer,res.peers,res.pairs⟩:Msg)⟩:Out)])
  else
   none
theorem zCy{n to_ m why job r}:zqb n to_ m why job=some r->zjh n to_ m why job=some r:=by
 unfold zqb;refine ka (kb fun⟨zaD,zan,zaB,zas,zaF,zaH,zam,zav,zaq,zax,zak,zaM,zaC,zao⟩ h1=>kc (fun h2=>l0 rfl ?_) fun h2=>kb fun res h3=>kb fun res1 h4=>k1 fun h5=>l0 rfl ?_)
 all_goals (dsimp only[R1,R2,zbC]at *;show zah IF_ g73F _ _=_;exact fin_)
abbrev zjK:=(Node×(List Entry)×(List Entry)×(List Finger)×(List Pair)×(List Pend)×(List Job)×(List Result)×(List Out))
def zet(γ:Nat->Nat):zjK->X×St
 |(a0,a1,a2,a3,a4,a5,a6,a7,a8)=>(.brk 0,⟨bd 2 (.bptr 0 0::bd 1 (.bptr 1 0::bd 1 (.sl 10 (γ 10)::bd 47 []))),[.box 34 (zal a0),.box 34 ([vU 0,vH 0,vI 0,vF false,.lit 0 true [],.lit 0 true [],.lit 0 true [],.lit 0 true [],.lit 0 true [],.lit 0 true [],.lit 0 true [],vW 0,vI 0,vI 0]),.row 78 (γ 2) false (yac eOut []),.row 55 (γ 3) true (yac zab a1),.row 55 (γ 4) true (yac zab a2),.row 82 (γ 5) true (yac zaa a3),.row 76 (γ 6) true (yac zag a4),.row 36 (γ 7) true (yac zaI a5),.row 57 (γ 8) true (yac eJob a6),.row 74 (γ 9) true (yac zaf a7),.row 78 (γ 10) false (yac eOut a8)]⟩)
instance :InjS zet:=⟨by unfold zet;exact ij_⟩
def zdq(l:List Peer)(t16:Int)(b0:Node)(r3:List Entry)(r4:List Entry)(r5:List Finger)(r6:List Pair)(r7:List Pend)(r8:List Job)(r9:List Result)(r10:List Out):Option (zjK):=asks (fun γ=>(lim F pr).loop [15,14,16,2,6,4] 11 zs0 ⟨bd 2 (.bptr 0 0::bd 1 (.bptr 1 0::bd 1 (.sl 10 (γ 10)::bd 7 (.lit 25 false (yac zad l)::vI (xlen zad l)::vI t16::bd 37 [])))),[.box 34 (zal b0),.box 34 ([vU 0,vH 0,vI 0,vF false,.lit 0 true [],.lit 0 true [],.lit 0 true [],.lit 0 true [],.lit 0 true [],.lit 0 true [],.lit 0 true [],vW 0,vI 0,vI 0]),.row 78 (γ 2) false (yac eOut []),.row 55 (γ 3) true (yac zab r3),.row 55 (γ 4) true (yac zab r4),.row 82 (γ 5) true (yac zaa r5),.row 76 (γ 6) true (yac zag r6),.row 36 (γ 7) true (yac zaI r7),.row 57 (γ 8) true (yac eJob r8),.row 74 (γ 9) true (yac zaf r9),.row 78 (γ 10) false (yac eOut r10)]⟩) zet
def zg6(l:List Peer)(t16:Int)(b0:Node)(r3:List Entry)(r4:List Entry)(r5:List Finger)(r6:List Pair)(r7:List Pend)(r8:List Job)(r9:List Result)(r10:List Out):Option (zjK):=
 bif yab.ilt t16 (xlen zad l)then
  (xget zad l t16).bind fun x=>
  (zha b0.list x.id x.addr).bind fun res=>
  bif yab.ieq x.addr b0.me.addr then
   zdq l (yab.iadd .i64 t16 1) b0 r3 r4 r5 r6 r7 r8 r9 r10
  else
   bif res then
    zdq l (yab.iadd .i64 t16 1) b0 r3 r4 r5 r6 r7 r8 r9 r10
   else
    (zt9 b0.pends 3 x.addr).bind fun res1=>
    bif res1 then
     zdq l (yab.iadd .i64 t16 1) b0 r3 r4 r5 r6 r7 r8 r9 r10
    else
     (zjh b0 x (⟨11,0,0,false,0,⟨#[]⟩,⟨#[]⟩,(⟨0,0⟩:Peer),[],[]⟩:Msg) 3 0).bind fun⟨r0,r1⟩=>
     bif zaA eOut 136 r10 r1 then
      zdq l (yab.iadd .i64 t16 1) r0 r3 r4 r5 r6 r7 r8 r9 (r10++r1)
     else
      none
 else
  some (b0,r3,r4,r5,r6,r7,r8,r9,r10)
theorem znA{l t16 b0 r3 r4 r5 r6 r7 r8 r9 r10 r}:zg6 l t16 b0 r3 r4 r5 r6 r7 r8 r9 r10=some r->zdq l t16 b0 r3 r4 r5 r6 r7 r8 r9 r10=some r:=by
 unfold zg6;refine kas fun γ=>kc (fun h1=>kb fun x h2=>kb fun res h3=>kc (fun h4=>lg [0,0,γ 2,γ 3,γ 4,γ 5,γ 6,γ 7,γ 8,γ 9,γ 10] fun γ' h0=>?_) fun h4=>kc (fun h5=>lg [0,0,γ 2,γ 3,γ 4,γ 5,γ 6,γ 7,γ 8,γ 9,γ 10] fun γ' h0=>?_) fun h5=>kb fun res1 h6=>kc (fun h7=>lg [0,0,γ 2,γ 3,γ 4,γ 5,γ 6,γ 7,γ 8,γ 9,γ 10] fun γ' h0=>?_) fun h7=>kb fun⟨r0,r1⟩ h8=>k1 fun h9=>lg [0,0,γ 2,γ 3,γ 4,γ 5,γ 6,γ 7,γ 8,γ 9,((γ 10)+1)] fun γ' h0=>?_) fun h1=>lr [0,0,γ 2,γ 3,γ 4,γ 5,γ 6,γ 7,γ 8,γ 9,γ 10] ?_
 all_goals (dsimp only[zcm,R1,R2,zet]at *;show zaz IF_ _ _ zs0 zDs _=_;generalize zs0=c0 at *;exact fin_)
def zmL(n:Node)(l:List Peer):Option ((Node×(List Out))):=
 (zdJ n).bind fun⟨zaD,zan,zaB,zas,zaF,zaH,zam,zav,zaq,zax,zak,zaM,zaC,zao⟩=>
 (zdq l 0 (⟨(⟨zaD,zan⟩:Peer),zaB,zas,zaF,zaH,zam,zav,zaq,zax,zak,zaM,zaC,zao⟩:Node) zaF zaH zam zav zaq zax zak []).bind fun⟨b0,r3,r4,r5,r6,r7,r8,r9,r10⟩=>
 some (b0,r10)
theorem zyK{n l r}:zmL n l=some r->zpZ n l=some r:=by
 unfold zmL;refine kas fun γ=>kb fun⟨zaD,zan,zaB,zas,zaF,zaH,zam,zav,zaq,zax,zak,zaM,zaC,zao⟩ h1=>ks [0,0,0,0,0,0,0,0,0,0,0] fun⟨b0,r3,r4,r5,r6,r7,r8,r9,r10⟩ γ2 h2=>lc rfl [0] ?_
 all_goals (dsimp only[zhr,zet,zbC]at *;show zah IF_ (g22F zs0) _ _=_;generalize zs0=c0 at *;exact fin_)
def zhE(γ:Nat->Nat):Unit⊕Unit->X×St
 | .inl ()=>(.ret,⟨bd 6 (vF true::bd 24 []),[]⟩)
 | .inr ()=>(.brk 0,⟨bd 31 [],[]⟩)
instance :InjS zhE:=⟨by unfold zhE;exact ij_⟩
def zjY(l:List Pend)(why:Int)(addr:Int)(i:Int):Option (Unit⊕Unit):=asks (fun γ=>(lim F pr).loop [1,0,2,7] 0 zte ⟨.lit 36 false (yac zaI l)::vI why::vH addr::bd 4 (vI i::bd 23 []),[]⟩) zhE
def zjZ(l:List Pend)(why:Int)(addr:Int)(i:Int):Option (Unit⊕Unit):=
 bif yab.ilt i (xlen zaI l)then
  (xget zaI l i).bind fun x=>
  bif yab.ieq x.why why then
   bif yab.ieq x.to_.addr addr then some (.inl ())else
   zjY l why addr (yab.iadd .i64 i 1)
  else
   zjY l why addr (yab.iadd .i64 i 1)
 else
  some (.inr ())
theorem zsn{l why addr i r}:zjZ l why addr i=some r->zjY l why addr i=some r:=by
 unfold zjZ;refine kas fun γ=>kc (fun h1=>kb fun x h2=>kc (fun h3=>kc (fun h4=>lr [] ?_) fun h4=>lg [] fun γ' h0=>?_) fun h3=>lg [] fun γ' h0=>?_) fun h1=>lr [] ?_
 all_goals (dsimp only[zhE]at *;show zaz IF_ _ _ zte zDK _=_;generalize zte=c0 at *;exact fin_)
def zsm(l:List Pend)(why:Int)(addr:Int):Option (Bool):=
 (zjY l why addr 0).bind fun r=>match r with
  | .inl ()=>
   some true
  | .inr ()=>
   some false
theorem zEE{l why addr r}:zsm l why addr=some r->zwq l why addr=some r:=by
 unfold zsm;refine ka (ks [] fun| .inl _,γ1,h1=>(l0 rfl ?_)| .inr _,γ1,h1=>(l0 rfl ?_))
 all_goals (dsimp only[R1,zhE]at *;show zah IF_ (g74F zte) _ _=_;generalize zte=c0 at *;exact fin_)
def zsl(n:Node)(to_:Peer)(m:Msg)(why:Int)(job:Int):Option ((Node×(List Out))):=
 bif yab.ilt 63 (xlen zaI n.pends)then some (n,[])else
 bif zaA zaI 56 [] n.pends then
  (zwr (⟨n.me,n.clock,n.joined,n.pred,n.list,n.fingers,n.store,n.pends,n.jobs,n.results,yab.iadd .u32 n.rid 1,n.jobID,n.nextBit⟩:Node)).bind fun res=>
  bif zaA zaI 56 n.pends [(⟨yab.iadd .u32 n.rid 1,m.kind,why,job,to_,yab.iadd .i64 res 8⟩:Pend)]then
   some ((⟨n.me,n.clock,n.joined,n.pred,n.list,n.fingers,n.store,(n.pends++[(⟨yab.iadd .u32 n.rid 1,m.kind,why,job,to_,yab.iadd .i64 res 8⟩:Pend)]),n.jobs,n.results,yab.iadd .u32 n.rid 1,n.jobID,n.nextBit⟩:Node),[(⟨to_,(⟨m.kind,yab.iadd .u32 n.rid 1,m.code,m.has,m.id,m.key,m.val,m.peer,m.peers,m.pairs⟩:Msg)⟩:Out)])
  else
   none
 else
  none
theorem zED{n to_ m why job r}:zsl n to_ m why job=some r->zh7 n to_ m why job=some r:=by
 unfold zsl;refine ka (kc (fun h1=>l0 rfl ?_) fun h1=>k1 fun h2=>kb fun res h3=>k1 fun h4=>l0 rfl ?_)
 all_goals (dsimp only[R1,R2]at *;show zah IF_ g75F _ _=_;exact fin_)
def zgN(γ:Nat->Nat):(Node×(List Out))->X×St
 |(a0,a1)=>(.brk 0,⟨bd 2 (.bptr 0 0::bd 1 (.bptr 1 0::bd 1 (.sl 3 (γ 3)::bd 69 []))),[.box 34 (zal a0),.box 34 ([vU 0,vH 0,vI 0,vF false,.lit 0 true [],.lit 0 true [],.lit 0 true [],.lit 0 true [],.lit 0 true [],.lit 0 true [],.lit 0 true [],vW 0,vI 0,vI 0]),.row 78 (γ 2) false (yac eOut []),.row 78 (γ 3) false (yac eOut a1)]⟩)
instance :InjS zgN:=⟨by unfold zgN;exact ij_⟩
def zcS(l:List Peer)(i:Int)(b0:Node)(r3:List Out):Option ((Node×(List Out))):=asks (fun γ=>(lim F pr).loop [1,7,2,6,4] 4 zs2 ⟨bd 1 (.lit 25 false (yac zad l):: .bptr 0 0::bd 1 (.bptr 1 0::bd 1 (.sl 3 (γ 3)::vI i::bd 68 []))),[.box 34 (zal b0),.box 34 ([vU 0,vH 0,vI 0,vF false,.lit 0 true [],.lit 0 true [],.lit 0 true [],.lit 0 true [],.lit 0 true [],.lit 0 true [],.lit 0 true [],vW 0,vI 0,vI 0]),.row 78 (γ 2) false (yac eOut []),.row 78 (γ 3) false (yac eOut r3)]⟩) zgN
def zgM(l:List Peer)(γ:Nat->Nat):(Int×Bool×Node×(List Out))->X×St
 |(a0,a1,a2,a3)=>(.brk 2,⟨bd 1 (.lit 25 false (yac zad l):: .bptr 0 0::bd 1 (.bptr 1 0::bd 1 (.sl 3 (γ 3)::vI a0::vF a1::bd 67 []))),[.box 34 (zal a2),.box 34 ([vU 0,vH 0,vI 0,vF false,.lit 0 true [],.lit 0 true [],.lit 0 true [],.lit 0 true [],.lit 0 true [],.lit 0 true [],.lit 0 true [],vW 0,vI 0,vI 0]),.row 78 (γ 2) false (yac eOut []),.row 78 (γ 3) false (yac eOut a3)]⟩)
instance {l}:InjS (zgM l):=⟨by unfold zgM;exact ij_⟩
def zcR(l:List Peer)(i:Int)(known:Bool)(k:Int)(b0:Node)(r3:List Out):Option ((Int×Bool×Node×(List Out))):=asks (fun γ=>(lim F pr).loop [9,8,7,1,2,6,4] 4 zs1 ⟨bd 1 (.lit 25 false (yac zad l):: .bptr 0 0::bd 1 (.bptr 1 0::bd 1 (.sl 3 (γ 3)::vI i::vF known::vI k::bd 66 []))),[.box 34 (zal b0),.box 34 ([vU 0,vH 0,vI 0,vF false,.lit 0 true [],.lit 0 true [],.lit 0 true [],.lit 0 true [],.lit 0 true [],.lit 0 true [],.lit 0 true [],vW 0,vI 0,vI 0]),.row 78 (γ 2) false (yac eOut []),.row 78 (γ 3) false (yac eOut r3)]⟩) (zgM l)
def zi4(l:List Peer)(i:Int)(b0:Node)(r3:List Out):Option ((Node×(List Out))):=
 bif yab.ilt i (xlen zad l)then
  (xget zad l i).bind fun x=>
  bif yab.ieq x.addr b0.me.addr then
   (zcR l i true 0 b0 r3).bind fun⟨i1,known,b01,r31⟩=>
   bif known then zcS l (yab.iadd .i64 i1 1) b01 r31 else
   (xget zad l i1).bind fun x1=>
   (zh7 b01 x1 (⟨11,0,0,false,0,⟨#[]⟩,⟨#[]⟩,(⟨0,0⟩:Peer),[],[]⟩:Msg) 3 0).bind fun⟨r0,r1⟩=>
   bif zaA eOut 136 r31 r1 then zcS l (yab.iadd .i64 i1 1) r0 (r31++r1)else
   none
  else
   (zwq b0.pends 3 x.addr).bind fun res=>
   (zcR l i res 0 b0 r3).bind fun⟨i1,known,b01,r31⟩=>
   bif known then zcS l (yab.iadd .i64 i1 1) b01 r31 else
   (xget zad l i1).bind fun x1=>
   (zh7 b01 x1 (⟨11,0,0,false,0,⟨#[]⟩,⟨#[]⟩,(⟨0,0⟩:Peer),[],[]⟩:Msg) 3 0).bind fun⟨r0,r1⟩=>
   bif zaA eOut 136 r31 r1 then zcS l (yab.iadd .i64 i1 1) r0 (r31++r1)else
   none
 else
  some (b0,r3)
theorem zrl{l i b0 r3 r}:zi4 l i b0 r3=some r->zcS l i b0 r3=some r:=by
 unfold zi4;refine kas fun γ=>kc (fun h1=>kb fun x h2=>kc (fun h3=>ks [0,0,γ 2,γ 3] fun⟨i1,known,b01,r31⟩ γ1 h4=>kc (fun h5=>lg [0,0,γ1 2,γ1 3] fun γ' h0=>?_) fun h5=>kb fun x1 h6=>kb fun⟨r0,r1⟩ h7=>k1 fun h8=>lg [0,0,γ1 2,((γ1 3)+1)] fun γ' h0=>?_) fun h3=>kb fun res h4=>ks [0,0,γ 2,γ 3] fun⟨i1,known,b01,r31⟩ γ2 h5=>kc (fun h6=>lg [0,0,γ2 2,γ2 3] fun γ' h0=>?_) fun h6=>kb fun x1 h7=>kb fun⟨r0,r1⟩ h8=>k1 fun h9=>lg [0,0,γ2 2,((γ2 3)+1)] fun γ' h0=>?_) fun h1=>lr [0,0,γ 2,γ 3] ?_
 all_goals (dsimp only[R1,R2,zgM,zgN]at *;show zaz IF_ _ _ zs2 (zDu zs1) _=_;generalize zs2=c0,zs1=c1 at *;exact fin_)
def zi3(l:List Peer)(i:Int)(known:Bool)(k:Int)(b0:Node)(r3:List Out):Option ((Int×Bool×Node×(List Out))):=
 bif yab.ilt k (xlen zab b0.list)then
  bif known then zcR l i true (yab.iadd .i64 k 1) b0 r3 else
  (xget zab b0.list k).bind fun x=>
  (xget zad l i).bind fun x1=>
  bif yab.ieq x.peer.id x1.id then
   bif yab.ieq x.peer.addr x1.addr then zcR l i true (yab.iadd .i64 k 1) b0 r3 else
   zcR l i false (yab.iadd .i64 k 1) b0 r3
  else
   zcR l i false (yab.iadd .i64 k 1) b0 r3
 else
  some (i,known,b0,r3)
theorem zrk{l i known k b0 r3 r}:zi3 l i known k b0 r3=some r->zcR l i known k b0 r3=some r:=by
 unfold zi3;refine kas fun γ=>kc (fun h1=>kc (fun h2=>lg [0,0,γ 2,γ 3] fun γ' h0=>?_) fun h2=>kb fun x h3=>kb fun x1 h4=>kc (fun h5=>kc (fun h6=>lg [0,0,γ 2,γ 3] fun γ' h0=>?_) fun h6=>lg [0,0,γ 2,γ 3] fun γ' h0=>?_) fun h5=>lg [0,0,γ 2,γ 3] fun γ' h0=>?_) fun h1=>lr [0,0,γ 2,γ 3] ?_
 all_goals (dsimp only[zgM]at *;show zaz IF_ _ _ zs1 zDt _=_;generalize zs1=c0 at *;exact fin_)
def zqH(n:Node)(l:List Peer):Option ((Node×(List Out))):=
 zcS l 0 n []
theorem zC8{n l r}:zqH n l=some r->zun n l=some r:=by
 unfold zqH;refine kas fun γ=>ps [0,0,0,0] fun⟨b0,r3⟩ γ1 h1=>lc rfl [0] ?_
 all_goals (dsimp only[zj5,zgN]at *;show zah IF_ (g23F zs2) _ _=_;generalize zs2=c0 at *;exact fin_)
def zgz(a:Node)(b:Node)(γ:Nat->Nat):Bool->X×St
 |a0=>(.ret,⟨bd 4 (vF a0::bd 79 []),[.box 34 (zal a),.box 34 (zal b)]⟩)
instance {a b}:InjS (zgz a b):=⟨by unfold zgz;exact ij_⟩
def zoo(a:Node)(b:Node):Option (Bool):=asks (fun γ=>(lim F pr).seg [4] zxS ⟨bd 2 (.bptr 0 0:: .bptr 1 0::bd 80 []),[.box 34 (zal a),.box 34 (zal b)]⟩) (zgz a b)
def zgy(a:Node)(b:Node)(γ:Nat->Nat):Bool->X×St
 |a0=>(.ret,⟨bd 4 (vF a0::bd 79 []),[.box 34 (zal a),.box 34 (zal b)]⟩)
instance {a b}:InjS (zgy a b):=⟨by unfold zgy;exact ij_⟩
def zon(a:Node)(b:Node):Option (Bool):=asks (fun γ=>(lim F pr).seg [4] zxR ⟨bd 2 (.bptr 0 0:: .bptr 1 0::bd 80 []),[.box 34 (zal a),.box 34 (zal b)]⟩) (zgy a b)
def zlY(a:Node)(b:Node):Option (Bool):=
 (zqp a.pred b.pred).bind fun res=>
 bif res then
  (zqp a.list b.list).bind fun res1=>
  bif res1 then
   (zug a.fingers b.fingers).bind fun res2=>
   bif res2 then zon a b else
   some false
  else
   some false
 else
  some false
theorem zxs{a b r}:zlY a b=some r->zoo a b=some r:=by
 unfold zlY;refine kas fun γ=>kb fun res h1=>kc (fun h2=>kb fun res1 h3=>kc (fun h4=>kb fun res2 h5=>kc (fun h6=>ps [] fun t4 γ4 h7=>ls [] ?_) fun h6=>ls [] ?_) fun h4=>ls [] ?_) fun h2=>ls [] ?_
 all_goals (dsimp only[R1,zgy,zgz]at *;show Ifc.apart IF_ _ (zDq zxR) _=_;generalize zxR=c0 at *;exact fin_)
def zlX(a:Node)(b:Node):Option (Bool):=
 (znG a.store b.store).bind fun res=>
 bif res then
  (zsp a.pends b.pends).bind fun res1=>
  bif res1 then zuh a b else
  some false
 else
  some false
theorem zxr{a b r}:zlX a b=some r->zon a b=some r:=by
 unfold zlX;refine kas fun γ=>kb fun res h1=>kc (fun h2=>kb fun res1 h3=>kc (fun h4=>pb fun res2 h5=>ls [] ?_) fun h4=>ls [] ?_) fun h2=>ls [] ?_
 all_goals (dsimp only[R1,zgy]at *;show Ifc.apart IF_ _ zDp _=_;exact fin_)
def zqw(a:Node)(b:Node):Option (Bool):=
 bif yab.ieq a.me.id b.me.id then
  bif yab.ieq a.me.addr b.me.addr then
   bif yab.ieq a.clock b.clock then
    bif yab.beq a.joined b.joined then
     bif yab.ieq a.rid b.rid then
      bif yab.ieq a.jobID b.jobID then
       bif yab.ieq a.nextBit b.nextBit then zoo a b else
       some false
      else
       some false
     else
      some false
    else
     some false
   else
    some false
  else
   some false
 else
  some false
theorem zCX{a b r}:zqw a b=some r->zkT a b=some r:=by
 unfold zqw;refine ka (kc (fun h1=>kc (fun h2=>kc (fun h3=>kc (fun h4=>kc (fun h5=>kc (fun h6=>kc (fun h7=>ps [] fun t4 γ1 h8=>l0 rfl ?_) fun h7=>l0 rfl ?_) fun h6=>l0 rfl ?_) fun h5=>l0 rfl ?_) fun h4=>l0 rfl ?_) fun h3=>l0 rfl ?_) fun h2=>l0 rfl ?_) fun h1=>l0 rfl ?_)
 all_goals (dsimp only[R1,zgz]at *;show zah IF_ (g18F zxS) _ _=_;generalize zxS=c0 at *;exact fin_)
def zgx(γ:Nat->Nat):Unit⊕Unit->X×St
 | .inl ()=>(.ret,⟨bd 4 (vF false::bd 37 []),[]⟩)
 | .inr ()=>(.brk 0,⟨bd 42 [],[]⟩)
instance :InjS zgx:=⟨by unfold zgx;exact ij_⟩
def zlj(a:List Out)(b:List Out)(i:Int):Option (Unit⊕Unit):=asks (fun γ=>(lim F pr).loop [0,1,5] 0 zsZ ⟨.lit 78 false (yac eOut a):: .lit 78 false (yac eOut b)::bd 3 (vI i::bd 36 []),[]⟩) zgx
def ziW(a:List Out)(b:List Out)(i:Int):Option (Unit⊕Unit):=
 bif yab.ilt i (xlen eOut a)then
  (xget eOut a i).bind fun x=>
  (xget eOut b i).bind fun x1=>
  bif yab.ieq x.to_.id x1.to_.id then
   bif yab.ieq x.to_.addr x1.to_.addr then
    (zub x.msg x1.msg).bind fun res=>
    bif res then zlj a b (yab.iadd .i64 i 1)else
    some (.inl ())
   else
    some (.inl ())
  else
   some (.inl ())
 else
  some (.inr ())
theorem zra{a b i r}:ziW a b i=some r->zlj a b i=some r:=by
 unfold ziW;refine kas fun γ=>kc (fun h1=>kb fun x h2=>kb fun x1 h3=>kc (fun h4=>kc (fun h5=>kb fun res h6=>kc (fun h7=>lg [] fun γ' h0=>?_) fun h7=>lr [] ?_) fun h5=>lr [] ?_) fun h4=>lr [] ?_) fun h1=>lr [] ?_
 all_goals (dsimp only[R1,zgx]at *;show zaz IF_ _ _ zsZ zDr _=_;generalize zsZ=c0 at *;exact fin_)
def zqv(a:List Out)(b:List Out):Option (Bool):=
 bif yab.ieq (xlen eOut a) (xlen eOut b)then
  (zlj a b 0).bind fun r=>match r with
   | .inl ()=>
    some false
   | .inr ()=>
    some true
 else
  some false
theorem zCW{a b r}:zqv a b=some r->zkS a b=some r:=by
 unfold zqv;refine ka (kc (fun h1=>ks [] fun| .inl _,γ1,h2=>(l0 rfl ?_)| .inr _,γ1,h2=>(l0 rfl ?_)) fun h1=>l0 rfl ?_)
 all_goals (dsimp only[R1,zgx]at *;show zah IF_ (g19F zsZ) _ _=_;generalize zsZ=c0 at *;exact fin_)
def zfJ(γ:Nat->Nat):Unit⊕Unit->X×St
 | .inl ()=>(.ret,⟨bd 2 (vF true::bd 26 []),[]⟩)
 | .inr ()=>(.brk 0,⟨bd 29 [],[]⟩)
instance :InjS zfJ:=⟨by unfold zfJ;exact ij_⟩
def zkd(l:List Pair)(i:Int):Option (Unit⊕Unit):=asks (fun γ=>(lim F pr).loop [0,3] 0 zs3 ⟨.lit 76 false (yac zag l)::bd 2 (vI i::bd 25 []),[]⟩) zfJ
def zfI(l:List Pair)(i:Int):Option (Unit⊕Unit):=
 bif yab.ilt i (xlen zag l)then
  (xget zag l i).bind fun x=>
  bif yab.ilt 300 (yab.slen x.key)then some (.inl ())else
  bif yab.ilt 700 (yab.slen x.val)then some (.inl ())else
  zkd l (yab.iadd .i64 i 1)
 else
  some (.inr ())
theorem zk1{l i r}:zfI l i=some r->zkd l i=some r:=by
 unfold zfI;refine kas fun γ=>kc (fun h1=>kb fun x h2=>kc (fun h3=>lr [] ?_) fun h3=>kc (fun h4=>lr [] ?_) fun h4=>lg [] fun γ' h0=>?_) fun h1=>lr [] ?_
 all_goals (dsimp only[zfJ]at *;show zaz IF_ _ _ zs3 zDv _=_;generalize zs3=c0 at *;exact fin_)
def zoC(l:List Pair):Option (Bool):=
 bif yab.ilt 100 (xlen zag l)then some true else
 (zkd l 0).bind fun r=>match r with
  | .inl ()=>
   some true
  | .inr ()=>
   some false
theorem zAB{l r}:zoC l=some r->zsM l=some r:=by
 unfold zoC;refine ka (kc (fun h1=>l0 rfl ?_) fun h1=>ks [] fun| .inl _,γ1,h2=>(l0 rfl ?_)| .inr _,γ1,h2=>(l0 rfl ?_))
 all_goals (dsimp only[R1,zfJ]at *;show zah IF_ (g42F zs3) _ _=_;generalize zs3=c0 at *;exact fin_)
def zeu(γ:Nat->Nat):(List Entry)⊕(Int×(List Entry))->X×St
 | .inl a0=>(.ret,⟨bd 4 (.sl 1 (γ 1)::bd 40 []),[.row 55 (γ 0) false (yac zab []),.row 55 (γ 1) false (yac zab a0)]⟩)
 | .inr (b0,b1)=>(.nor,⟨bd 5 (.sl 1 (γ 1)::vI b0::bd 38 []),[.row 55 (γ 0) false (yac zab []),.row 55 (γ 1) false (yac zab b1)]⟩)
instance :InjS zeu:=⟨by unfold zeu;exact ij_⟩
def ziN(i:Int)(r1:List Entry):Option ((List Entry)⊕(Int×(List Entry))):=asks (fun γ=>(lim F pr).seg [6,5] zxU ⟨bd 5 (.sl 1 (γ 1)::vI i::bd 38 []),[.row 55 (γ 0) false (yac zab []),.row 55 (γ 1) false (yac zab r1)]⟩) zeu
def zjP(i:Int)(r1:List Entry):Option ((List Entry)⊕(Int×(List Entry))):=
 (xget zab r1 i).bind fun x=>
 bif yab.ile 2 x.misses then
  (zmt i (yab.iadd .i64 i 1) r1).bind fun r0=>
  some (.inl r0)
 else
  some (.inr (i,r1))
theorem zvt{i r1 r}:zjP i r1=some r->ziN i r1=some r:=by
 unfold zjP;refine kas fun γ=>kb fun x h1=>kc (fun h2=>ks [γ 1] fun r0 γ1 h3=>ls [γ 0,γ1 0] ?_) fun h2=>ls [γ 0,γ 1] ?_
 all_goals (dsimp only[ze0,zeu]at *;show Ifc.apart IF_ _ zDD _=_;exact fin_)
def zmR(l:List Entry)(addr:Int):Option ((List Entry)):=
 bif zaA zab 24 [] l then
  (zlc l addr).bind fun res=>
  bif yab.ilt res 0 then some l else
  (xget zab l res).bind fun x=>
  bif yab.ilt x.misses 0 then
   (ziN res (xset l res (⟨x.peer,0⟩:Entry))).bind fun r=>match r with
    | .inl r1=>
     some r1
    | .inr (i,r1)=>
     (xget zab r1 i).bind fun x1=>
     some (xset r1 i (⟨x1.peer,yab.iadd .i64 x1.misses 1⟩:Entry))
  else
   (ziN res (xset l res x)).bind fun r=>match r with
    | .inl r1=>
     some r1
    | .inr (i,r1)=>
     (xget zab r1 i).bind fun x1=>
     some (xset r1 i (⟨x1.peer,yab.iadd .i64 x1.misses 1⟩:Entry))
 else
  none
theorem zyT{l addr r}:zmR l addr=some r->zp9 l addr=some r:=by
 unfold zmR;refine ka (k1 fun h1=>kb fun res h2=>kc (fun h3=>l0 rfl ?_) fun h3=>kb fun x h4=>kc (fun h5=>ks [0,0] fun| .inl r1,γ2,h6=>(l0 rfl ?_)| .inr ⟨i,r1⟩,γ2,h6=>(kb fun x1 h7=>l0 rfl ?_)) fun h5=>ks [0,0] fun| .inl r1,γ2,h6=>(l0 rfl ?_)| .inr ⟨i,r1⟩,γ2,h6=>(kb fun x1 h7=>l0 rfl ?_))
 all_goals (dsimp only[R1,zeu]at *;show zah IF_ (g61F zxU) _ _=_;generalize zxU=c0 at *;exact fin_)
def zlN(l:List Entry)(addr:Int):Option (Int):=
 zil l addr
theorem zxl{l addr r}:zlN l addr=some r->zlc l addr=some r:=by
 unfold zlN;refine ka (pb fun res h1=>l0 rfl ?_)
 all_goals (dsimp only[zcB,R1]at *;show zah IF_ g25F _ _=_;exact fin_)
def zmF(l:List Finger)(addr:Int):Option ((List Finger)):=
 bif zaA zaa 24 [] l then zko l addr else
 none
theorem zyw{l addr r}:zmF l addr=some r->zpR l addr=some r:=by
 unfold zmF;refine ka (k1 fun h1=>ps [0,0] fun r0 γ1 h2=>l0 rfl ?_)
 all_goals (dsimp only[zb9,R1]at *;show zah IF_ g62F _ _=_;exact fin_)
def zmP(l:List Entry)(addr:Int):Option ((List Entry)):=
 bif zaA zab 24 [] l then zja l addr else
 none
theorem zyR{l addr r}:zmP l addr=some r->zp8 l addr=some r:=by
 unfold zmP;refine ka (k1 fun h1=>ps [0,0] fun r0 γ1 h2=>l0 rfl ?_)
 all_goals (dsimp only[zcW,K1]at *;show zah IF_ g63F _ _=_;exact fin_)
def zl8(n:Node)(id:Int)(why:Int):Option ((Node×(List Out))):=
 (zwG n id).bind fun⟨r1,b0_node,b0_job,r2⟩=>
 bif r1 then
  (zk4 why b0_node b0_job r2).bind fun r=>match r with
   | .inl (b0_node1,zbf,r11)=>
    (zij b0_node1 zbf r2).bind fun⟨r0_0,r0_1,r0_2,r0_3,r0_4,r0_5,r0_7,r0_8,r0_9,r0_10,r0_11,r0_12,r0_13⟩=>
    some ((⟨(⟨r0_0,r0_1⟩:Peer),r0_2,r0_3,r0_4,r0_5,b0_node1.fingers,r0_7,r0_8,r0_9,r0_10,r0_11,r0_12,r0_13⟩:Node),r2)
   | .inr (b0_node1,zbf,r11,r21)=>
    (zjk b0_node1 zbf r21).bind fun r0=>
    some (r0,r21)
 else
  (zij b0_node b0_job r2).bind fun⟨r0_0,r0_1,r0_2,r0_3,r0_4,r0_5,r0_7,r0_8,r0_9,r0_10,r0_11,r0_12,r0_13⟩=>
  some ((⟨(⟨r0_0,r0_1⟩:Peer),r0_2,r0_3,r0_4,r0_5,b0_node.fingers,r0_7,r0_8,r0_9,r0_10,r0_11,r0_12,r0_13⟩:Node),r2)
theorem zxM{n id why r}:zl8 n id why=some r->zgV n id why=some r:=by
 unfold zl8;refine ka (ks [] fun⟨r1,b0_node,b0_job,r2⟩ γ1 h1=>kc (fun h2=>ks [0,γ1 1,γ1 2] fun| .inl ⟨b0_node1,zbf,r11⟩,γ2,h3=>(ks [0,γ2 3,γ2 2] fun⟨r0_0,r0_1,r0_2,r0_3,r0_4,r0_5,r0_7,r0_8,r0_9,r0_10,r0_11,r0_12,r0_13⟩ γ3 h4=>l0 rfl ?_)| .inr ⟨b0_node1,zbf,r11,r21⟩,γ2,h3=>(ks [0,γ2 2] fun r0 γ3 h4=>l0 rfl ?_)) fun h2=>ks [0,γ1 1,γ1 2] fun⟨r0_0,r0_1,r0_2,r0_3,r0_4,r0_5,r0_7,r0_8,r0_9,r0_10,r0_11,r0_12,r0_13⟩ γ2 h3=>l0 rfl ?_)
 all_goals (dsimp only[R2,zlH,zc5,zd0,zd1]at *;show zah IF_ g64F _ _=_;exact fin_)
def zgj(γ:Nat->Nat):(List Entry)->X×St
 |a0=>(.brk 0,⟨bd 6 (.sl 1 (γ 1)::bd 44 []),[.row 55 (γ 0) false (yac zab []),.row 55 (γ 1) false (yac zab a0)]⟩)
instance :InjS zgj:=⟨by unfold zgj;exact ij_⟩
def zcl(l:List Entry)(at_:Int)(i:Int)(r1:List Entry):Option ((List Entry)):=asks (fun γ=>(lim F pr).loop [0,5,7,6] 2 zta ⟨.lit 55 false (yac zab l)::bd 4 (vI at_:: .sl 1 (γ 1)::vI i::bd 43 []),[.row 55 (γ 0) false (yac zab []),.row 55 (γ 1) false (yac zab r1)]⟩) zgj
abbrev zlR:=(Int×Int×(List Entry)×Int×Int×Int)⊕(Int×Int×(List Entry)×Int×Int×Int)
def zgn(l:List Entry)(γ:Nat->Nat):zlR->X×St
 | .inl (a0,a1,a2,a3,a4,a5)=>(.nor,⟨.lit 55 false (yac zab l)::bd 4 (vI a0:: .sl 1 (γ 1)::vI a1::bd 43 []),[.row 55 (γ 0) false (yac zab []),.row 55 (γ 1) false (yac zab a2),.box 55 [vU a3,vH a4,vI a5]]⟩)
 | .inr (b0,b1,b2,b3,b4,b5)=>(.brk 1,⟨.lit 55 false (yac zab l)::bd 4 (vI b0:: .sl 1 (γ 1)::vI b1::bd 43 []),[.row 55 (γ 0) false (yac zab []),.row 55 (γ 1) false (yac zab b2),.box 55 [vU b3,vH b4,vI b5]]⟩)
instance {l}:InjS (zgn l):=⟨by unfold zgn;exact ij_⟩
def ziA(l:List Entry)(at_:Int)(i:Int)(r1:List Entry)(zaS:Int)(zaJ:Int)(zaT:Int):Option (zlR):=asks (fun γ=>(lim F pr).seg [7,0,5,6] zxW ⟨.lit 55 false (yac zab l)::bd 4 (vI at_:: .sl 1 (γ 1)::vI i:: .bptr 2 0::bd 42 []),[.row 55 (γ 0) false (yac zab []),.row 55 (γ 1) false (yac zab r1),.box 55 [vU zaS,vH zaJ,vI zaT]]⟩) (zgn l)
abbrev zlP:=(Int×Int×(List Entry)×Int×Int×Int)⊕(Int×Int×(List Entry)×Int×Int×Int)
def zgl(l:List Entry)(γ:Nat->Nat):zlP->X×St
 | .inl (a0,a1,a2,a3,a4,a5)=>(.nor,⟨.lit 55 false (yac zab l)::bd 4 (vI a0:: .sl 1 (γ 1)::vI a1:: .bptr 2 0::bd 42 []),[.row 55 (γ 0) false (yac zab []),.row 55 (γ 1) false (yac zab a2),.box 55 [vU a3,vH a4,vI a5]]⟩)
 | .inr (b0,b1,b2,b3,b4,b5)=>(.brk 1,⟨.lit 55 false (yac zab l)::bd 4 (vI b0:: .sl 1 (γ 1)::vI b1::bd 43 []),[.row 55 (γ 0) false (yac zab []),.row 55 (γ 1) false (yac zab b2),.box 55 [vU b3,vH b4,vI b5]]⟩)
instance {l}:InjS (zgl l):=⟨by unfold zgl;exact ij_⟩
def zgS(l:List Entry)(at_:Int)(i:Int)(t38:Bool)(r1:List Entry)(zaS:Int)(zaJ:Int)(zaT:Int):Option (zlP):=asks (fun γ=>(lim F pr).seg [6,8,7,0,5] zxV ⟨.lit 55 false (yac zab l)::bd 4 (vI at_:: .sl 1 (γ 1)::vI i:: .bptr 2 0::bd 29 (vF t38::bd 12 [])),[.row 55 (γ 0) false (yac zab []),.row 55 (γ 1) false (yac zab r1),.box 55 [vU zaS,vH zaJ,vI zaT]]⟩) (zgl l)
def ziR(l:List Entry)(at_:Int)(i:Int)(r1:List Entry):Option ((List Entry)):=
 bif yab.ilt i (xlen zab l)then
  (xget zab l i).bind fun x=>
  bif yab.ieq i at_ then
   bif yab.ilt x.misses 0 then
    (ziA l at_ i r1 x.peer.id x.peer.addr 0).bind fun r=>match r with
     | .inl (at_1,i1,r11,zaS,zaJ,zaT)=>
      zcl l at_1 (yab.iadd .i64 i1 1) r11
     | .inr (at_1,i1,r11,zaS,zaJ,zaT)=>
      zcl l at_1 (yab.iadd .i64 i1 1) r11
   else
    (ziA l at_ i r1 x.peer.id x.peer.addr x.misses).bind fun r=>match r with
     | .inl (at_1,i1,r11,zaS,zaJ,zaT)=>
      zcl l at_1 (yab.iadd .i64 i1 1) r11
     | .inr (at_1,i1,r11,zaS,zaJ,zaT)=>
      zcl l at_1 (yab.iadd .i64 i1 1) r11
  else
   (ziA l at_ i r1 x.peer.id x.peer.addr x.misses).bind fun r=>match r with
    | .inl (at_1,i1,r11,zaS,zaJ,zaT)=>
     zcl l at_1 (yab.iadd .i64 i1 1) r11
    | .inr (at_1,i1,r11,zaS,zaJ,zaT)=>
     zcl l at_1 (yab.iadd .i64 i1 1) r11
 else
  some r1
theorem zq4{l at_ i r1 r}:ziR l at_ i r1=some r->zcl l at_ i r1=some r:=by
 unfold ziR;refine kas fun γ=>kc (fun h1=>kb fun x h2=>kc (fun h3=>kc (fun h4=>ks [γ 0,γ 1] fun| .inl ⟨at_1,i1,r11,zaS,zaJ,zaT⟩,γ1,h5=>(lg [γ1 0,γ1 1] fun γ' h0=>?_)| .inr ⟨at_1,i1,r11,zaS,zaJ,zaT⟩,γ1,h5=>(lg [γ1 0,γ1 1] fun γ' h0=>?_)) fun h4=>ks [γ 0,γ 1] fun| .inl ⟨at_1,i1,r11,zaS,zaJ,zaT⟩,γ1,h5=>(lg [γ1 0,γ1 1] fun γ' h0=>?_)| .inr ⟨at_1,i1,r11,zaS,zaJ,zaT⟩,γ1,h5=>(lg [γ1 0,γ1 1] fun γ' h0=>?_)) fun h3=>ks [γ 0,γ 1] fun| .inl ⟨at_1,i1,r11,zaS,zaJ,zaT⟩,γ1,h4=>(lg [γ1 0,γ1 1] fun γ' h0=>?_)| .inr ⟨at_1,i1,r11,zaS,zaJ,zaT⟩,γ1,h4=>(lg [γ1 0,γ1 1] fun γ' h0=>?_)) fun h1=>lr [γ 0,γ 1] ?_
 all_goals (dsimp only[zgj,zgn]at *;show zaz IF_ _ _ zta (zDG zxW) _=_;generalize zta=c0,zxW=c1 at *;exact fin_)
def zgm(l:List Entry)(at_:Int)(i:Int)(r1:List Entry)(zaS:Int)(zaJ:Int)(zaT:Int):Option (zlR):=
 bif yab.ieq i at_ then
  (zgS l at_ i (yab.ilt zaT 2) r1 zaS zaJ zaT).bind fun r=>match r with
   | .inl (at_1,i1,r11,zbd,za2,zbk)=>
    bif zaA zab 24 r11 [(⟨(⟨zbd,za2⟩:Peer),zbk⟩:Entry)]then
     some (.inl (at_1,i1,(r11++[(⟨(⟨zbd,za2⟩:Peer),zbk⟩:Entry)]),zbd,za2,zbk))
    else
     none
   | .inr (at_1,i1,r11,zbd,za2,zbk)=>
    some (.inr (at_1,i1,r11,zbd,za2,zbk))
 else
  (zgS l at_ i false r1 zaS zaJ zaT).bind fun r=>match r with
   | .inl (at_1,i1,r11,zbd,za2,zbk)=>
    bif zaA zab 24 r11 [(⟨(⟨zbd,za2⟩:Peer),zbk⟩:Entry)]then
     some (.inl (at_1,i1,(r11++[(⟨(⟨zbd,za2⟩:Peer),zbk⟩:Entry)]),zbd,za2,zbk))
    else
     none
   | .inr (at_1,i1,r11,zbd,za2,zbk)=>
    some (.inr (at_1,i1,r11,zbd,za2,zbk))
theorem zxn{l at_ i r1 zaS zaJ zaT r}:zgm l at_ i r1 zaS zaJ zaT=some r->ziA l at_ i r1 zaS zaJ zaT=some r:=by
 unfold zgm;refine kas fun γ=>kc (fun h1=>ks [γ 0,γ 1] fun| .inl ⟨at_1,i1,r11,zbd,za2,zbk⟩,γ1,h2=>(k1 fun h3=>ls [γ1 0,((γ1 1)+1)] ?_)| .inr ⟨at_1,i1,r11,zbd,za2,zbk⟩,γ1,h2=>(ls [γ1 0,γ1 1] ?_)) fun h1=>ks [γ 0,γ 1] fun| .inl ⟨at_1,i1,r11,zbd,za2,zbk⟩,γ1,h2=>(k1 fun h3=>ls [γ1 0,((γ1 1)+1)] ?_)| .inr ⟨at_1,i1,r11,zbd,za2,zbk⟩,γ1,h2=>(ls [γ1 0,γ1 1] ?_)
 all_goals (dsimp only[zgl,zgn]at *;show Ifc.apart IF_ _ (zDF zxV) _=_;generalize zxV=c0 at *;exact fin_)
def zgk(l:List Entry)(at_:Int)(i:Int)(t38:Bool)(r1:List Entry)(zaS:Int)(zaJ:Int)(zaT:Int):Option (zlP):=
 bif t38 then
  some (.inl (at_,i,r1,zaS,zaJ,yab.iadd .i64 zaT 1))
 else
  bif yab.ieq i at_ then
   some (.inr (at_,i,r1,zaS,zaJ,zaT))
  else
   some (.inl (at_,i,r1,zaS,zaJ,zaT))
theorem zlQ{l at_ i t38 r1 zaS zaJ zaT r}:zgk l at_ i t38 r1 zaS zaJ zaT=some r->zgS l at_ i t38 r1 zaS zaJ zaT=some r:=by
 unfold zgk;refine kas fun γ=>kc (fun h1=>ls [γ 0,γ 1] ?_) fun h1=>kc (fun h2=>ls [γ 0,γ 1] ?_) fun h2=>ls [γ 0,γ 1] ?_
 all_goals (dsimp only[zgl]at *;show Ifc.apart IF_ _ zDE _=_;exact fin_)
def zqo(l:List Entry)(addr:Int):Option ((List Entry)):=
 (zlF l addr).bind fun res=>
 zcl l res 0 []
theorem zCM{l addr r}:zqo l addr=some r->zud l addr=some r:=by
 unfold zqo;refine ka (kb fun res h1=>ps [0,0] fun r1 γ2 h2=>l0 rfl ?_)
 all_goals (dsimp only[R1,zgj]at *;show zah IF_ (g65F zta) _ _=_;generalize zta=c0 at *;exact fin_)
end Go.Ab.Tryz
