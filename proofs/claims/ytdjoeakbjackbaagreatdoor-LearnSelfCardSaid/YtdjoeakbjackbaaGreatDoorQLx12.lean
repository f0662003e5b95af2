/- Our texts for this statement, merged: what its theorem leads to. -/
import Derived.Test.YtdjoeakbjackbaaGreatDoorQLx10
set_option linter.unusedVariables false
set_option linter.unusedSimpArgs false
noncomputable section
namespace Go.Ab.Tryz
open Go Go.Ab Go.Proofs
set_option maxRecDepth 10000
set_option maxHeartbeats 4000000
open Go.Ab.Ops renaming std->yac
open List renaming map->yab,map_cons->yaT,map_nil->ybW
abbrev zlW:=(Node×(List Entry)×(List Entry)×(List Finger)×(List Pair)×(List Pend)×(List Job)×(List Result)×(List Out))
def zfm(γ:Nat->Nat):zlW->X×St
 |(a0,a1,a2,a3,a4,a5,a6,a7,a8)=>(.brk 0,⟨bd 2 (.bptr 0 0::bd 1 (.bptr 1 0::bd 1 (.sl 10 (γ 10)::bd 47 []))),[.box 34 (zah a0),.box 34 ([vU 0,vH 0,vI 0,vF false,.lit 0 true [],.lit 0 true [],.lit 0 true [],.lit 0 true [],.lit 0 true [],.lit 0 true [],.lit 0 true [],vW 0,vI 0,vI 0]),.row 78 (γ 2) false (yab eOut []),.row 55 (γ 3) true (yab zaa a1),.row 55 (γ 4) true (yab zaa a2),.row 82 (γ 5) true (yab zab a3),.row 76 (γ 6) true (yab zag a4),.row 36 (γ 7) true (yab zaL a5),.row 57 (γ 8) true (yab eJob a6),.row 74 (γ 9) true (yab zaj a7),.row 78 (γ 10) false (yab eOut a8)]⟩)
instance :InjS zfm:=⟨by unfold zfm;exact ij_⟩
def zd9(l:List Peer)(t16:Int)(b0:Node)(r3:List Entry)(r4:List Entry)(r5:List Finger)(r6:List Pair)(r7:List Pend)(r8:List Job)(r9:List Result)(r10:List Out):Option (zlW):=asks (fun γ=>(lim F pr).loop [15,14,16,2,6,4] 11 zwd ⟨bd 2 (.bptr 0 0::bd 1 (.bptr 1 0::bd 1 (.sl 10 (γ 10)::bd 7 (.lit 25 false (yab zad l)::vI (xlen zad l)::vI t16::bd 37 [])))),[.box 34 (zah b0),.box 34 ([vU 0,vH 0,vI 0,vF false,.lit 0 true [],.lit 0 true [],.lit 0 true [],.lit 0 true [],.lit 0 true [],.lit 0 true [],.lit 0 true [],vW 0,vI 0,vI 0]),.row 78 (γ 2) false (yab eOut []),.row 55 (γ 3) true (yab zaa r3),.row 55 (γ 4) true (yab zaa r4),.row 82 (γ 5) true (yab zab r5),.row 76 (γ 6) true (yab zag r6),.row 36 (γ 7) true (yab zaL r7),.row 57 (γ 8) true (yab eJob r8),.row 74 (γ 9) true (yab zaj r9),.row 78 (γ 10) false (yab eOut r10)]⟩) zfm
def ziy(l:List Peer)(t16:Int)(b0:Node)(r3:List Entry)(r4:List Entry)(r5:List Finger)(r6:List Pair)(r7:List Pend)(r8:List Job)(r9:List Result)(r10:List Out):Option (zlW):=
 bif yac.ilt t16 (xlen zad l)then
  (xget zad l t16).bind fun x=>
  (ziD b0.list x.id x.addr).bind fun res=>
  bif yac.ieq x.addr b0.me.addr then
   zd9 l (yac.iadd .i64 t16 1) b0 r3 r4 r5 r6 r7 r8 r9 r10
  else
   bif res then
    zd9 l (yac.iadd .i64 t16 1) b0 r3 r4 r5 r6 r7 r8 r9 r10
   else
    (zxx b0.pends 3 x.addr).bind fun res1=>
    bif res1 then
     zd9 l (yac.iadd .i64 t16 1) b0 r3 r4 r5 r6 r7 r8 r9 r10
    else
     (zi1 b0 x (⟨11,0,0,false,0,⟨#[]⟩,⟨#[]⟩,(⟨0,0⟩:Peer),[],[]⟩:Msg) 3 0).bind fun⟨r0,r1⟩=>
     bif zar eOut 136 r10 r1 then
      zd9 l (yac.iadd .i64 t16 1) r0 r3 r4 r5 r6 r7 r8 r9 (r10++r1)
     else
      none
 else
  some (b0,r3,r4,r5,r6,r7,r8,r9,r10)
theorem zqi{l t16 b0 r3 r4 r5 r6 r7 r8 r9 r10 r}:ziy l t16 b0 r3 r4 r5 r6 r7 r8 r9 r10=some r->zd9 l t16 b0 r3 r4 r5 r6 r7 r8 r9 r10=some r:=by
 unfold ziy;refine kas fun γ=>kc (fun h1=>kb fun x h2=>kb fun res h3=>kc (fun h4=>lg [0,0,γ 2,γ 3,γ 4,γ 5,γ 6,γ 7,γ 8,γ 9,γ 10] fun γ' h0=>?_) fun h4=>kc (fun h5=>lg [0,0,γ 2,γ 3,γ 4,γ 5,γ 6,γ 7,γ 8,γ 9,γ 10] fun γ' h0=>?_) fun h5=>kb fun res1 h6=>kc (fun h7=>lg [0,0,γ 2,γ 3,γ 4,γ 5,γ 6,γ 7,γ 8,γ 9,γ 10] fun γ' h0=>?_) fun h7=>kb fun⟨r0,r1⟩ h8=>k1 fun h9=>lg [0,0,γ 2,γ 3,γ 4,γ 5,γ 6,γ 7,γ 8,γ 9,((γ 10)+1)] fun γ' h0=>?_) fun h1=>lr [0,0,γ 2,γ 3,γ 4,γ 5,γ 6,γ 7,γ 8,γ 9,γ 10] ?_
 all_goals (dsimp only[zcG,R1,R2,zfm]at *;show zaE IF_ _ _ zwd zHG _=_;generalize zwd=c0 at *;exact fin_)
def zpk(n:Node)(l:List Peer):Option ((Node×(List Out))):=
 (zc1 n).bind fun⟨zaA,zao,zaB,zat,zaG,zaJ,zam,zaw,zas,zaz,zal,zaK,zaC,zap⟩=>
 (zd9 l 0 (⟨(⟨zaA,zao⟩:Peer),zaB,zat,zaG,zaJ,zam,zaw,zas,zaz,zal,zaK,zaC,zap⟩:Node) zaG zaJ zam zaw zas zaz zal []).bind fun⟨b0,r3,r4,r5,r6,r7,r8,r9,r10⟩=>
 some (b0,r10)
theorem zCI{n l r}:zpk n l=some r->zoO n l=some r:=by
 unfold zpk;refine kas fun γ=>kb fun⟨zaA,zao,zaB,zat,zaG,zaJ,zam,zaw,zas,zaz,zal,zaK,zaC,zap⟩ h1=>ks [0,0,0,0,0,0,0,0,0,0,0] fun⟨b0,r3,r4,r5,r6,r7,r8,r9,r10⟩ γ2 h2=>lc rfl [0] ?_
 all_goals (dsimp only[ziX,zfm,zbr]at *;show zak IF_ (g22F zwd) _ _=_;generalize zwd=c0 at *;exact fin_)
abbrev zfI:=((List Out)×Bool×Node×Node×Job×(List Finger)×(List Out))⊕(((List Out)×Bool×Node×Node×Job×(List Finger)×(List Out))⊕((List Out)×Bool×Node×Node×Job×(List Out)))
def zfK(n:Node)(id:Int)(m:Msg)(γ:Nat->Nat):zfI->X×St
 | .inl (a0,a1,a2,a3,a4,a5,a6)=>(.ret,⟨bd 6 (.bptr 2 0:: .lit 78 false (yab eOut a0)::bd 67 []),[.box 34 (zah n),.box 39 [vI m.kind,vW m.rid,vB m.code,vF a1,vU m.id,vT m.key,vT m.val,vU m.peer.id,vH m.peer.addr,.lit 25 false (yab zad m.peers),.lit 76 false (yab zag m.pairs)],.box 34 (zah a2),.row 78 (γ 3) false (yab eOut []),.box 133 (capp (zau a3 (.sl 7 (γ 7))) (capp (cJob a4) ([.sl 6 (γ 6)]))),.row 82 (γ 5) true (yab zab a5),.row 78 (γ 6) true (yab eOut a6),.row 82 (γ 7) true (yab zab a3.fingers)]⟩)
 | .inr (.inl (b0,b1,b2,b3,b4,b5,b6))=>(.ret,⟨bd 6 (.bptr 2 0:: .lit 78 false (yab eOut b0)::bd 67 []),[.box 34 (zah n),.box 39 [vI m.kind,vW m.rid,vB m.code,vF b1,vU m.id,vT m.key,vT m.val,vU m.peer.id,vH m.peer.addr,.lit 25 false (yab zad m.peers),.lit 76 false (yab zag m.pairs)],.box 34 (zah b2),.row 78 (γ 3) false (yab eOut []),.box 133 (capp (zah b3) (capp (cJob b4) ([.sl 6 (γ 6)]))),.row 82 (γ 5) true (yab zab b5),.row 78 (γ 6) true (yab eOut b6)]⟩)
 | .inr (.inr (c0,c1,c2,c3,c4,c5))=>(.ret,⟨bd 6 (.bptr 2 0:: .lit 78 false (yab eOut c0)::bd 67 []),[.box 34 (zah n),.box 39 [vI m.kind,vW m.rid,vB m.code,vF c1,vU m.id,vT m.key,vT m.val,vU m.peer.id,vH m.peer.addr,.lit 25 false (yab zad m.peers),.lit 76 false (yab zag m.pairs)],.box 34 (zah c2),.row 78 (γ 3) false (yab eOut []),.box 133 (capp (zau c3 (.sl 5 (γ 5))) (capp (cJob c4) ([.sl 6 (γ 6)]))),.row 82 (γ 5) true (yab zab c3.fingers),.row 78 (γ 6) true (yab eOut c5)]⟩)
instance {n id m}:InjS (zfK n id m):=⟨by unfold zfK;exact ij_⟩
def zoC(n:Node)(id:Int)(m:Msg)(b4_node:Node)(b4_job:Job)(r6:List Out):Option (zfI):=asks (fun γ=>(lim F pr).seg [6,7] zBy ⟨bd 5 (.bptr 1 0:: .bptr 2 0::bd 1 (.bptr 4 0::bd 66 [])),[.box 34 (zah n),.box 39 [vI m.kind,vW m.rid,vB m.code,vF m.has,vU m.id,vT m.key,vT m.val,vU m.peer.id,vH m.peer.addr,.lit 25 false (yab zad m.peers),.lit 76 false (yab zag m.pairs)],.box 34 ([vU 0,vH 0,vI 0,vF false,.lit 0 true [],.lit 0 true [],.lit 0 true [],.lit 0 true [],.lit 0 true [],.lit 0 true [],.lit 0 true [],vW 0,vI 0,vI 0]),.row 78 (γ 3) false (yab eOut []),.box 133 (capp (zau b4_node (.sl 5 (γ 5))) (capp (cJob b4_job) ([.sl 6 (γ 6)]))),.row 82 (γ 5) false (yab zab b4_node.fingers),.row 78 (γ 6) false (yab eOut r6)]⟩) (zfK n id m)
abbrev zfF:=(Bool×Node×Job×(List Finger)×(List Out))⊕((Bool×Node×Job×(List Out))⊕(Node×Job×(List Finger)×(List Out)))
def zfH(n:Node)(id:Int)(m:Msg)(γ:Nat->Nat):zfF->X×St
 | .inl (a0,a1,a2,a3,a4)=>(.nor,⟨bd 6 (.bptr 2 0::bd 1 (.bptr 4 0::bd 66 [])),[.box 34 (zah n),.box 39 [vI m.kind,vW m.rid,vB m.code,vF a0,vU m.id,vT m.key,vT m.val,vU m.peer.id,vH m.peer.addr,.lit 25 false (yab zad m.peers),.lit 76 false (yab zag m.pairs)],.box 34 ([vU 0,vH 0,vI 0,vF false,.lit 0 true [],.lit 0 true [],.lit 0 true [],.lit 0 true [],.lit 0 true [],.lit 0 true [],.lit 0 true [],vW 0,vI 0,vI 0]),.row 78 (γ 3) false (yab eOut []),.box 133 (capp (zah a1) (capp (cJob a2) ([.sl 6 (γ 6)]))),.row 82 (γ 5) true (yab zab a3),.row 78 (γ 6) false (yab eOut a4)]⟩)
 | .inr (.inl (b0,b1,b2,b3))=>(.nor,⟨bd 6 (.bptr 2 0::bd 1 (.bptr 4 0::bd 66 [])),[.box 34 (zah n),.box 39 [vI m.kind,vW m.rid,vB m.code,vF b0,vU m.id,vT m.key,vT m.val,vU m.peer.id,vH m.peer.addr,.lit 25 false (yab zad m.peers),.lit 76 false (yab zag m.pairs)],.box 34 ([vU 0,vH 0,vI 0,vF false,.lit 0 true [],.lit 0 true [],.lit 0 true [],.lit 0 true [],.lit 0 true [],.lit 0 true [],.lit 0 true [],vW 0,vI 0,vI 0]),.row 78 (γ 3) false (yab eOut []),.box 133 (capp (zau b1 (.sl 5 (γ 5))) (capp (cJob b2) ([.sl 6 (γ 6)]))),.row 82 (γ 5) false (yab zab b1.fingers),.row 78 (γ 6) false (yab eOut b3)]⟩)
 | .inr (.inr (c0,c1,c2,c3))=>(.nor,⟨bd 6 (.bptr 2 0::bd 1 (.bptr 4 0::bd 66 [])),[.box 34 (zah n),.box 39 [vI m.kind,vW m.rid,vB m.code,vF false,vU m.id,vT m.key,vT m.val,vU m.peer.id,vH m.peer.addr,.lit 25 false (yab zad m.peers),.lit 76 false (yab zag m.pairs)],.box 34 ([vU 0,vH 0,vI 0,vF false,.lit 0 true [],.lit 0 true [],.lit 0 true [],.lit 0 true [],.lit 0 true [],.lit 0 true [],.lit 0 true [],vW 0,vI 0,vI 0]),.row 78 (γ 3) false (yab eOut []),.box 133 (capp (zau c0 (.sl 7 (γ 7))) (capp (cJob c1) ([.sl 6 (γ 6)]))),.row 82 (γ 5) true (yab zab c2),.row 78 (γ 6) false (yab eOut c3),.row 82 (γ 7) false (yab zab c0.fingers)]⟩)
instance {n id m}:InjS (zfH n id m):=⟨by unfold zfH;exact ij_⟩
def zie(n:Node)(id:Int)(m:Msg)(t38:Bool)(za1:Bool)(b4_node:Node)(b4_job:Job)(r6:List Out):Option (zfF):=asks (fun γ=>(lim F pr).seg [8,6] zBx ⟨bd 5 (.bptr 1 0:: .bptr 2 0::bd 1 (.bptr 4 0::bd 29 (vF t38::bd 36 []))),[.box 34 (zah n),.box 39 [vI m.kind,vW m.rid,vB m.code,vF za1,vU m.id,vT m.key,vT m.val,vU m.peer.id,vH m.peer.addr,.lit 25 false (yab zad m.peers),.lit 76 false (yab zag m.pairs)],.box 34 ([vU 0,vH 0,vI 0,vF false,.lit 0 true [],.lit 0 true [],.lit 0 true [],.lit 0 true [],.lit 0 true [],.lit 0 true [],.lit 0 true [],vW 0,vI 0,vI 0]),.row 78 (γ 3) false (yab eOut []),.box 133 (capp (zau b4_node (.sl 5 (γ 5))) (capp (cJob b4_job) ([.sl 6 (γ 6)]))),.row 82 (γ 5) false (yab zab b4_node.fingers),.row 78 (γ 6) false (yab eOut r6)]⟩) (zfH n id m)
def zcV(n:Node)(id:Int)(m:Msg)(b4_node:Node)(b4_job:Job)(r6:List Out):Option (zfI):=
 bif yac.ieq m.kind 12 then
  (zcC (yac.iwrap .i64 m.code) b4_node b4_job r6).bind fun r=>match r with
   | .inl (b0_node,b0_job,r1)=>
    (zaU b0_node b0_job r6).bind fun⟨r0_0,r0_1,r0_2,r0_3,r0_4,r0_5,r0_7,r0_8,r0_9,r0_10,r0_11,r0_12,r0_13⟩=>
    some (.inl (r6,m.has,(⟨(⟨r0_0,r0_1⟩:Peer),r0_2,r0_3,r0_4,r0_5,b0_node.fingers,r0_7,r0_8,r0_9,r0_10,r0_11,r0_12,r0_13⟩:Node),b0_node,b0_job,r1,r6))
   | .inr (b0_node,b0_job,r1,r2)=>
    (za9 b0_node b0_job r2).bind fun r0=>
    some (.inr (.inl (r2,m.has,r0,b0_node,b0_job,r1,r2)))
 else
  bif yac.ieq m.kind 2 then
   bif m.has then
    (zie n id m (yac.ilt 0 (xlen zad m.peers)) true b4_node b4_job r6).bind fun r=>match r with
     | .inl (za1,b4_node1,zaD,r5,r61)=>
      (za9 b4_node1 zaD r61).bind fun r0=>
      some (.inr (.inl (r61,za1,r0,b4_node1,zaD,r5,r61)))
     | .inr (.inl (za1,b4_node1,zaD,r61))=>
      (zaU b4_node1 zaD r61).bind fun⟨r0_0,r0_1,r0_2,r0_3,r0_4,r0_5,r0_7,r0_8,r0_9,r0_10,r0_11,r0_12,r0_13⟩=>
      some (.inr (.inr (r61,za1,(⟨(⟨r0_0,r0_1⟩:Peer),r0_2,r0_3,r0_4,r0_5,b4_node1.fingers,r0_7,r0_8,r0_9,r0_10,r0_11,r0_12,r0_13⟩:Node),b4_node1,zaD,r61)))
     | .inr (.inr (b4_node1,zaD,r5,r61))=>
      (zaU b4_node1 zaD r61).bind fun⟨r0_0,r0_1,r0_2,r0_3,r0_4,r0_5,r0_7,r0_8,r0_9,r0_10,r0_11,r0_12,r0_13⟩=>
      some (.inl (r61,false,(⟨(⟨r0_0,r0_1⟩:Peer),r0_2,r0_3,r0_4,r0_5,b4_node1.fingers,r0_7,r0_8,r0_9,r0_10,r0_11,r0_12,r0_13⟩:Node),b4_node1,zaD,r5,r61))
   else
    (zie n id m false false b4_node b4_job r6).bind fun r=>match r with
     | .inl (za1,b4_node1,zaD,r5,r61)=>
      (za9 b4_node1 zaD r61).bind fun r0=>
      some (.inr (.inl (r61,za1,r0,b4_node1,zaD,r5,r61)))
     | .inr (.inl (za1,b4_node1,zaD,r61))=>
      (zaU b4_node1 zaD r61).bind fun⟨r0_0,r0_1,r0_2,r0_3,r0_4,r0_5,r0_7,r0_8,r0_9,r0_10,r0_11,r0_12,r0_13⟩=>
      some (.inr (.inr (r61,za1,(⟨(⟨r0_0,r0_1⟩:Peer),r0_2,r0_3,r0_4,r0_5,b4_node1.fingers,r0_7,r0_8,r0_9,r0_10,r0_11,r0_12,r0_13⟩:Node),b4_node1,zaD,r61)))
     | .inr (.inr (b4_node1,zaD,r5,r61))=>
      (zaU b4_node1 zaD r61).bind fun⟨r0_0,r0_1,r0_2,r0_3,r0_4,r0_5,r0_7,r0_8,r0_9,r0_10,r0_11,r0_12,r0_13⟩=>
      some (.inl (r61,false,(⟨(⟨r0_0,r0_1⟩:Peer),r0_2,r0_3,r0_4,r0_5,b4_node1.fingers,r0_7,r0_8,r0_9,r0_10,r0_11,r0_12,r0_13⟩:Node),b4_node1,zaD,r5,r61))
  else
   (zie n id m false m.has b4_node b4_job r6).bind fun r=>match r with
    | .inl (za1,b4_node1,zaD,r5,r61)=>
     (za9 b4_node1 zaD r61).bind fun r0=>
     some (.inr (.inl (r61,za1,r0,b4_node1,zaD,r5,r61)))
    | .inr (.inl (za1,b4_node1,zaD,r61))=>
     (zaU b4_node1 zaD r61).bind fun⟨r0_0,r0_1,r0_2,r0_3,r0_4,r0_5,r0_7,r0_8,r0_9,r0_10,r0_11,r0_12,r0_13⟩=>
     some (.inr (.inr (r61,za1,(⟨(⟨r0_0,r0_1⟩:Peer),r0_2,r0_3,r0_4,r0_5,b4_node1.fingers,r0_7,r0_8,r0_9,r0_10,r0_11,r0_12,r0_13⟩:Node),b4_node1,zaD,r61)))
    | .inr (.inr (b4_node1,zaD,r5,r61))=>
     (zaU b4_node1 zaD r61).bind fun⟨r0_0,r0_1,r0_2,r0_3,r0_4,r0_5,r0_7,r0_8,r0_9,r0_10,r0_11,r0_12,r0_13⟩=>
     some (.inl (r61,false,(⟨(⟨r0_0,r0_1⟩:Peer),r0_2,r0_3,r0_4,r0_5,b4_node1.fingers,r0_7,r0_8,r0_9,r0_10,r0_11,r0_12,r0_13⟩:Node),b4_node1,zaD,r5,r61))
theorem zfJ{n id m b4_node b4_job r6 r}:zcV n id m b4_node b4_job r6=some r->zoC n id m b4_node b4_job r6=some r:=by
 unfold zcV;refine kas fun γ=>kc (fun h1=>ks [0,γ 5,γ 6] fun| .inl ⟨b0_node,b0_job,r1⟩,γ1,h2=>(ks [0,γ1 3,γ1 2] fun⟨r0_0,r0_1,r0_2,r0_3,r0_4,r0_5,r0_7,r0_8,r0_9,r0_10,r0_11,r0_12,r0_13⟩ γ2 h3=>ls [0,0,0,γ 3,0,γ1 1,γ2 2,γ2 1] ?_)| .inr ⟨b0_node,b0_job,r1,r2⟩,γ1,h2=>(ks [0,γ1 2] fun r0 γ2 h3=>ls [0,0,0,γ 3,0,γ1 1,γ2 1] ?_)) fun h1=>kc (fun h2=>kc (fun h3=>ks [0,0,0,γ 3,0,γ 5,γ 6] fun| .inl ⟨za1,b4_node1,zaD,r5,r61⟩,γ1,h4=>(ks [0,γ1 6] fun r0 γ2 h5=>ls [0,0,0,γ1 3,0,γ1 5,γ2 1] ?_)| .inr (.inl ⟨za1,b4_node1,zaD,r61⟩),γ1,h4=>(ks [0,γ1 5,γ1 6] fun⟨r0_0,r0_1,r0_2,r0_3,r0_4,r0_5,r0_7,r0_8,r0_9,r0_10,r0_11,r0_12,r0_13⟩ γ2 h5=>ls [0,0,0,γ1 3,0,γ2 1,γ2 2] ?_)| .inr (.inr ⟨b4_node1,zaD,r5,r61⟩),γ1,h4=>(ks [0,γ1 7,γ1 6] fun⟨r0_0,r0_1,r0_2,r0_3,r0_4,r0_5,r0_7,r0_8,r0_9,r0_10,r0_11,r0_12,r0_13⟩ γ2 h5=>ls [0,0,0,γ1 3,0,γ1 5,γ2 2,γ2 1] ?_)) fun h3=>ks [0,0,0,γ 3,0,γ 5,γ 6] fun| .inl ⟨za1,b4_node1,zaD,r5,r61⟩,γ1,h4=>(ks [0,γ1 6] fun r0 γ2 h5=>ls [0,0,0,γ1 3,0,γ1 5,γ2 1] ?_)| .inr (.inl ⟨za1,b4_node1,zaD,r61⟩),γ1,h4=>(ks [0,γ1 5,γ1 6] fun⟨r0_0,r0_1,r0_2,r0_3,r0_4,r0_5,r0_7,r0_8,r0_9,r0_10,r0_11,r0_12,r0_13⟩ γ2 h5=>ls [0,0,0,γ1 3,0,γ2 1,γ2 2] ?_)| .inr (.inr ⟨b4_node1,zaD,r5,r61⟩),γ1,h4=>(ks [0,γ1 7,γ1 6] fun⟨r0_0,r0_1,r0_2,r0_3,r0_4,r0_5,r0_7,r0_8,r0_9,r0_10,r0_11,r0_12,r0_13⟩ γ2 h5=>ls [0,0,0,γ1 3,0,γ1 5,γ2 2,γ2 1] ?_)) fun h2=>ks [0,0,0,γ 3,0,γ 5,γ 6] fun| .inl ⟨za1,b4_node1,zaD,r5,r61⟩,γ1,h3=>(ks [0,γ1 6] fun r0 γ2 h4=>ls [0,0,0,γ1 3,0,γ1 5,γ2 1] ?_)| .inr (.inl ⟨za1,b4_node1,zaD,r61⟩),γ1,h3=>(ks [0,γ1 5,γ1 6] fun⟨r0_0,r0_1,r0_2,r0_3,r0_4,r0_5,r0_7,r0_8,r0_9,r0_10,r0_11,r0_12,r0_13⟩ γ2 h4=>ls [0,0,0,γ1 3,0,γ2 1,γ2 2] ?_)| .inr (.inr ⟨b4_node1,zaD,r5,r61⟩),γ1,h3=>(ks [0,γ1 7,γ1 6] fun⟨r0_0,r0_1,r0_2,r0_3,r0_4,r0_5,r0_7,r0_8,r0_9,r0_10,r0_11,r0_12,r0_13⟩ γ2 h4=>ls [0,0,0,γ1 3,0,γ1 5,γ2 2,γ2 1] ?_)
 all_goals (dsimp only[zfH,zfK,zbM,zbx,zbP]at *;show Ifc.apart IF_ _ (zHP zBx) _=_;generalize zBx=c0 at *;(try dsimp only[zad,zaa,zab,zag,zaL,eJob,zaj,zaI,eMsg,eOut,zbE,cJob,zah,cMsg,zau,capp]at *);(try simp only[yaT,ybW]at *);(try generalize m.has=q0 at *);exact fin_)
def zcU(n:Node)(id:Int)(m:Msg)(t38:Bool)(za1:Bool)(b4_node:Node)(b4_job:Job)(r6:List Out):Option (zfF):=
 bif t38 then
  (xget zad m.peers 0).bind fun x=>
  (zig x b4_node b4_job r6).bind fun⟨b0_node,b0_job,r1,r2⟩=>
  some (.inl (za1,b0_node,b0_job,r1,r2))
 else
  bif yac.ieq m.kind 2 then
   bif za1 then some (.inr (.inl (true,b4_node,b4_job,r6)))else
   (zhu m.peers b4_node b4_job r6).bind fun r=>match r with
    | .inl (b0_node,b0_job,r1)=>
     some (.inr (.inr (b0_node,b0_job,r1,r6)))
    | .inr (b0_node,b0_job,r1,r2)=>
     some (.inl (false,b0_node,b0_job,r1,r2))
  else
   some (.inr (.inl (za1,b4_node,b4_job,r6)))
theorem zfG{n id m t38 za1 b4_node b4_job r6 r}:zcU n id m t38 za1 b4_node b4_job r6=some r->zie n id m t38 za1 b4_node b4_job r6=some r:=by
 unfold zcU;refine kas fun γ=>kc (fun h1=>kb fun x h2=>ks [0,γ 5,γ 6] fun⟨b0_node,b0_job,r1,r2⟩ γ1 h3=>ls [0,0,0,γ 3,0,γ1 1,γ1 2] ?_) fun h1=>kc (fun h2=>kc (fun h3=>ls [0,0,0,γ 3,0,γ 5,γ 6] ?_) fun h3=>ks [0,γ 5,γ 6] fun| .inl ⟨b0_node,b0_job,r1⟩,γ1,h4=>(ls [0,0,0,γ 3,0,γ1 1,γ1 2,γ1 3] ?_)| .inr ⟨b0_node,b0_job,r1,r2⟩,γ1,h4=>(ls [0,0,0,γ 3,0,γ1 1,γ1 2] ?_)) fun h2=>ls [0,0,0,γ 3,0,γ 5,γ 6] ?_
 all_goals (dsimp only[zfH,zd6,zdU]at *;show Ifc.apart IF_ _ zHO _=_;exact fin_)
def zpR(n:Node)(id:Int)(m:Msg):Option ((Node×(List Out))):=
 (zsv n id).bind fun⟨r1,b0_node,b0_job,r2⟩=>
 bif r1 then
  bif b0_job.doing then
   (zaU b0_node (⟨b0_job.id,b0_job.kind,b0_job.bit,b0_job.key,b0_job.val,b0_job.target,b0_job.via,b0_job.at_,true,b0_job.hops,b0_job.tries,b0_job.due⟩:Job) r2).bind fun⟨r0_0,r0_1,r0_2,r0_3,r0_4,r0_5,r0_7,r0_8,r0_9,r0_10,r0_11,r0_12,r0_13⟩=>
   some ((⟨(⟨r0_0,r0_1⟩:Peer),r0_2,r0_3,r0_4,r0_5,b0_node.fingers,r0_7,r0_8,r0_9,r0_10,r0_11,r0_12,r0_13⟩:Node),r2)
  else
   (zoC n id m b0_node (⟨b0_job.id,b0_job.kind,b0_job.bit,b0_job.key,b0_job.val,b0_job.target,b0_job.via,b0_job.at_,false,b0_job.hops,b0_job.tries,b0_job.due⟩:Job) r2).bind fun r=>match r with
    | .inl (t7,za1,b2,b4_node,b4_job,r5,r6)=>
     some (b2,t7)
    | .inr (.inl (t7,za1,b2,b4_node,b4_job,r5,r6))=>
     some (b2,t7)
    | .inr (.inr (t7,za1,b2,b4_node,b4_job,r6))=>
     some (b2,t7)
 else
  (zaU b0_node b0_job r2).bind fun⟨r0_0,r0_1,r0_2,r0_3,r0_4,r0_5,r0_7,r0_8,r0_9,r0_10,r0_11,r0_12,r0_13⟩=>
  some ((⟨(⟨r0_0,r0_1⟩:Peer),r0_2,r0_3,r0_4,r0_5,b0_node.fingers,r0_7,r0_8,r0_9,r0_10,r0_11,r0_12,r0_13⟩:Node),r2)
theorem zDF{n id m r}:zpR n id m=some r->zkj n id m=some r:=by
 unfold zpR;refine ka (ks [] fun⟨r1,b0_node,b0_job,r2⟩ γ1 h1=>kc (fun h2=>kc (fun h3=>ks [0,γ1 1,γ1 2] fun⟨r0_0,r0_1,r0_2,r0_3,r0_4,r0_5,r0_7,r0_8,r0_9,r0_10,r0_11,r0_12,r0_13⟩ γ2 h4=>l0 rfl ?_) fun h3=>ks [0,0,0,0,0,γ1 1,γ1 2] fun| .inl ⟨t7,za1,b2,b4_node,b4_job,r5,r6⟩,γ2,h4=>(l0 rfl ?_)| .inr (.inl ⟨t7,za1,b2,b4_node,b4_job,r5,r6⟩),γ2,h4=>(l0 rfl ?_)| .inr (.inr ⟨t7,za1,b2,b4_node,b4_job,r6⟩),γ2,h4=>(l0 rfl ?_)) fun h2=>ks [0,γ1 1,γ1 2] fun⟨r0_0,r0_1,r0_2,r0_3,r0_4,r0_5,r0_7,r0_8,r0_9,r0_10,r0_11,r0_12,r0_13⟩ γ2 h3=>l0 rfl ?_)
 all_goals (dsimp only[R2,zfK,zjA,zbx]at *;show zak IF_ (g50F zBy) _ _=_;generalize zBy=c0 at *;(try dsimp only[zad,zaa,zab,zag,zaL,eJob,zaj,zaI,eMsg,eOut,zbE,cJob,zah,cMsg,zau,capp]at *);(try simp only[yaT,ybW]at *);(try generalize b0_job.doing=q0 at *);exact fin_)
abbrev zg2:=((List Out)×Node×Node×Job×(List Finger)×(List Out))⊕(((List Out)×Node×Node×Job×(List Finger)×(List Out))⊕((List Out)×Node×Node×Job×(List Out)))
def zg4(n:Node)(id:Int)(m:Msg)(γ:Nat->Nat):zg2->X×St
 | .inl (a0,a1,a2,a3,a4,a5)=>(.ret,⟨bd 6 (.bptr 2 0:: .lit 78 false (yab eOut a0)::bd 80 []),[.box 34 (zah n),.box 39 [vI m.kind,vW m.rid,vB m.code,vF m.has,vU m.id,vT m.key,vT m.val,vU m.peer.id,vH m.peer.addr,.lit 25 false (yab zad m.peers),.lit 76 false (yab zag m.pairs)],.box 34 (zah a1),.row 78 (γ 3) false (yab eOut []),.box 133 (capp (zau a2 (.sl 7 (γ 7))) (capp (cJob a3) ([.sl 6 (γ 6)]))),.row 82 (γ 5) true (yab zab a4),.row 78 (γ 6) true (yab eOut a5),.row 82 (γ 7) true (yab zab a2.fingers)]⟩)
 | .inr (.inl (b0,b1,b2,b3,b4,b5))=>(.ret,⟨bd 6 (.bptr 2 0:: .lit 78 false (yab eOut b0)::bd 80 []),[.box 34 (zah n),.box 39 [vI m.kind,vW m.rid,vB m.code,vF m.has,vU m.id,vT m.key,vT m.val,vU m.peer.id,vH m.peer.addr,.lit 25 false (yab zad m.peers),.lit 76 false (yab zag m.pairs)],.box 34 (zah b1),.row 78 (γ 3) false (yab eOut []),.box 133 (capp (zah b2) (capp (cJob b3) ([.sl 6 (γ 6)]))),.row 82 (γ 5) true (yab zab b4),.row 78 (γ 6) true (yab eOut b5)]⟩)
 | .inr (.inr (c0,c1,c2,c3,c4))=>(.ret,⟨bd 6 (.bptr 2 0:: .lit 78 false (yab eOut c0)::bd 80 []),[.box 34 (zah n),.box 39 [vI m.kind,vW m.rid,vB m.code,vF m.has,vU m.id,vT m.key,vT m.val,vU m.peer.id,vH m.peer.addr,.lit 25 false (yab zad m.peers),.lit 76 false (yab zag m.pairs)],.box 34 (zah c1),.row 78 (γ 3) false (yab eOut []),.box 133 (capp (zau c2 (.sl 5 (γ 5))) (capp (cJob c3) ([.sl 6 (γ 6)]))),.row 82 (γ 5) true (yab zab c2.fingers),.row 78 (γ 6) true (yab eOut c4)]⟩)
instance {n id m}:InjS (zg4 n id m):=⟨by unfold zg4;exact ij_⟩
def zpQ(n:Node)(id:Int)(m:Msg)(b4_node:Node)(b4_job:Job)(r6:List Out):Option (zg2):=asks (fun γ=>(lim F pr).seg [6,7] zBB ⟨bd 5 (.bptr 1 0:: .bptr 2 0::bd 1 (.bptr 4 0::bd 79 [])),[.box 34 (zah n),.box 39 [vI m.kind,vW m.rid,vB m.code,vF m.has,vU m.id,vT m.key,vT m.val,vU m.peer.id,vH m.peer.addr,.lit 25 false (yab zad m.peers),.lit 76 false (yab zag m.pairs)],.box 34 ([vU 0,vH 0,vI 0,vF false,.lit 0 true [],.lit 0 true [],.lit 0 true [],.lit 0 true [],.lit 0 true [],.lit 0 true [],.lit 0 true [],vW 0,vI 0,vI 0]),.row 78 (γ 3) false (yab eOut []),.box 133 (capp (zau b4_node (.sl 5 (γ 5))) (capp (cJob b4_job) ([.sl 6 (γ 6)]))),.row 82 (γ 5) false (yab zab b4_node.fingers),.row 78 (γ 6) false (yab eOut r6)]⟩) (zg4 n id m)
abbrev zkh:=(Node×Job×(List Finger)×(List Out))⊕(Node×Job×(List Out))
def zg1(n:Node)(id:Int)(m:Msg)(γ:Nat->Nat):zkh->X×St
 | .inl (a0,a1,a2,a3)=>(.nor,⟨bd 6 (.bptr 2 0::bd 1 (.bptr 4 0::bd 79 [])),[.box 34 (zah n),.box 39 [vI m.kind,vW m.rid,vB m.code,vF m.has,vU m.id,vT m.key,vT m.val,vU m.peer.id,vH m.peer.addr,.lit 25 false (yab zad m.peers),.lit 76 false (yab zag m.pairs)],.box 34 ([vU 0,vH 0,vI 0,vF false,.lit 0 true [],.lit 0 true [],.lit 0 true [],.lit 0 true [],.lit 0 true [],.lit 0 true [],.lit 0 true [],vW 0,vI 0,vI 0]),.row 78 (γ 3) false (yab eOut []),.box 133 (capp (zah a0) (capp (cJob a1) ([.sl 6 (γ 6)]))),.row 82 (γ 5) true (yab zab a2),.row 78 (γ 6) false (yab eOut a3)]⟩)
 | .inr (b0,b1,b2)=>(.nor,⟨bd 6 (.bptr 2 0::bd 1 (.bptr 4 0::bd 79 [])),[.box 34 (zah n),.box 39 [vI m.kind,vW m.rid,vB m.code,vF m.has,vU m.id,vT m.key,vT m.val,vU m.peer.id,vH m.peer.addr,.lit 25 false (yab zad m.peers),.lit 76 false (yab zag m.pairs)],.box 34 ([vU 0,vH 0,vI 0,vF false,.lit 0 true [],.lit 0 true [],.lit 0 true [],.lit 0 true [],.lit 0 true [],.lit 0 true [],.lit 0 true [],vW 0,vI 0,vI 0]),.row 78 (γ 3) false (yab eOut []),.box 133 (capp (zau b0 (.sl 5 (γ 5))) (capp (cJob b1) ([.sl 6 (γ 6)]))),.row 82 (γ 5) false (yab zab b0.fingers),.row 78 (γ 6) false (yab eOut b2)]⟩)
instance {n id m}:InjS (zg1 n id m):=⟨by unfold zg1;exact ij_⟩
def zmu(n:Node)(id:Int)(m:Msg)(k:Int)(t45:Bool)(b4_node:Node)(b4_job:Job)(r6:List Out):Option (zkh):=asks (fun γ=>(lim F pr).seg [8,6] zBA ⟨bd 5 (.bptr 1 0:: .bptr 2 0::bd 1 (.bptr 4 0::bd 1 (vI k::bd 34 (vF t45::bd 42 [])))),[.box 34 (zah n),.box 39 [vI m.kind,vW m.rid,vB m.code,vF m.has,vU m.id,vT m.key,vT m.val,vU m.peer.id,vH m.peer.addr,.lit 25 false (yab zad m.peers),.lit 76 false (yab zag m.pairs)],.box 34 ([vU 0,vH 0,vI 0,vF false,.lit 0 true [],.lit 0 true [],.lit 0 true [],.lit 0 true [],.lit 0 true [],.lit 0 true [],.lit 0 true [],vW 0,vI 0,vI 0]),.row 78 (γ 3) false (yab eOut []),.box 133 (capp (zau b4_node (.sl 5 (γ 5))) (capp (cJob b4_job) ([.sl 6 (γ 6)]))),.row 82 (γ 5) false (yab zab b4_node.fingers),.row 78 (γ 6) false (yab eOut r6)]⟩) (zg1 n id m)
abbrev zkf:=(Node×Job×(List Finger)×(List Out))⊕(Node×Job×(List Out))
def zg0(n:Node)(id:Int)(m:Msg)(γ:Nat->Nat):zkf->X×St
 | .inl (a0,a1,a2,a3)=>(.nor,⟨bd 6 (.bptr 2 0::bd 1 (.bptr 4 0::bd 79 [])),[.box 34 (zah n),.box 39 [vI m.kind,vW m.rid,vB m.code,vF m.has,vU m.id,vT m.key,vT m.val,vU m.peer.id,vH m.peer.addr,.lit 25 false (yab zad m.peers),.lit 76 false (yab zag m.pairs)],.box 34 ([vU 0,vH 0,vI 0,vF false,.lit 0 true [],.lit 0 true [],.lit 0 true [],.lit 0 true [],.lit 0 true [],.lit 0 true [],.lit 0 true [],vW 0,vI 0,vI 0]),.row 78 (γ 3) false (yab eOut []),.box 133 (capp (zah a0) (capp (cJob a1) ([.sl 6 (γ 6)]))),.row 82 (γ 5) true (yab zab a2),.row 78 (γ 6) false (yab eOut a3)]⟩)
 | .inr (b0,b1,b2)=>(.nor,⟨bd 6 (.bptr 2 0::bd 1 (.bptr 4 0::bd 79 [])),[.box 34 (zah n),.box 39 [vI m.kind,vW m.rid,vB m.code,vF m.has,vU m.id,vT m.key,vT m.val,vU m.peer.id,vH m.peer.addr,.lit 25 false (yab zad m.peers),.lit 76 false (yab zag m.pairs)],.box 34 ([vU 0,vH 0,vI 0,vF false,.lit 0 true [],.lit 0 true [],.lit 0 true [],.lit 0 true [],.lit 0 true [],.lit 0 true [],.lit 0 true [],vW 0,vI 0,vI 0]),.row 78 (γ 3) false (yab eOut []),.box 133 (capp (zau b0 (.sl 5 (γ 5))) (capp (cJob b1) ([.sl 6 (γ 6)]))),.row 82 (γ 5) false (yab zab b0.fingers),.row 78 (γ 6) false (yab eOut b2)]⟩)
instance {n id m}:InjS (zg0 n id m):=⟨by unfold zg0;exact ij_⟩
def zmt(n:Node)(id:Int)(m:Msg)(k:Int)(t55:Bool)(b4_node:Node)(b4_job:Job)(r6:List Out):Option (zkf):=asks (fun γ=>(lim F pr).seg [8,6] zBz ⟨bd 5 (.bptr 1 0:: .bptr 2 0::bd 1 (.bptr 4 0::bd 1 (vI k::bd 44 (vF t55::bd 32 [])))),[.box 34 (zah n),.box 39 [vI m.kind,vW m.rid,vB m.code,vF m.has,vU m.id,vT m.key,vT m.val,vU m.peer.id,vH m.peer.addr,.lit 25 false (yab zad m.peers),.lit 76 false (yab zag m.pairs)],.box 34 ([vU 0,vH 0,vI 0,vF false,.lit 0 true [],.lit 0 true [],.lit 0 true [],.lit 0 true [],.lit 0 true [],.lit 0 true [],.lit 0 true [],vW 0,vI 0,vI 0]),.row 78 (γ 3) false (yab eOut []),.box 133 (capp (zau b4_node (.sl 5 (γ 5))) (capp (cJob b4_job) ([.sl 6 (γ 6)]))),.row 82 (γ 5) false (yab zab b4_node.fingers),.row 78 (γ 6) false (yab eOut r6)]⟩) (zg0 n id m)
def zdk(n:Node)(id:Int)(m:Msg)(b4_node:Node)(b4_job:Job)(r6:List Out):Option (zg2):=
 bif yac.ieq m.kind 12 then
  (zcC (yac.iwrap .i64 m.code) b4_node b4_job r6).bind fun r=>match r with
   | .inl (b0_node,b0_job,r1)=>
    (zaU b0_node b0_job r6).bind fun⟨r0_0,r0_1,r0_2,r0_3,r0_4,r0_5,r0_7,r0_8,r0_9,r0_10,r0_11,r0_12,r0_13⟩=>
    some (.inl (r6,(⟨(⟨r0_0,r0_1⟩:Peer),r0_2,r0_3,r0_4,r0_5,b0_node.fingers,r0_7,r0_8,r0_9,r0_10,r0_11,r0_12,r0_13⟩:Node),b0_node,b0_job,r1,r6))
   | .inr (b0_node,b0_job,r1,r2)=>
    (za9 b0_node b0_job r2).bind fun r0=>
    some (.inr (.inl (r2,r0,b0_node,b0_job,r1,r2)))
 else
  bif yac.ieq m.kind 4 then
   (zmu n id m b4_job.kind (yac.ieq b4_job.kind 1) b4_node b4_job r6).bind fun r=>match r with
    | .inl (b4_node1,zaD,r5,r61)=>
     (za9 b4_node1 zaD r61).bind fun r0=>
     some (.inr (.inl (r61,r0,b4_node1,zaD,r5,r61)))
    | .inr (b4_node1,zaD,r61)=>
     (zaU b4_node1 zaD r61).bind fun⟨r0_0,r0_1,r0_2,r0_3,r0_4,r0_5,r0_7,r0_8,r0_9,r0_10,r0_11,r0_12,r0_13⟩=>
     some (.inr (.inr (r61,(⟨(⟨r0_0,r0_1⟩:Peer),r0_2,r0_3,r0_4,r0_5,b4_node1.fingers,r0_7,r0_8,r0_9,r0_10,r0_11,r0_12,r0_13⟩:Node),b4_node1,zaD,r61)))
  else
   (zmu n id m b4_job.kind false b4_node b4_job r6).bind fun r=>match r with
    | .inl (b4_node1,zaD,r5,r61)=>
     (za9 b4_node1 zaD r61).bind fun r0=>
     some (.inr (.inl (r61,r0,b4_node1,zaD,r5,r61)))
    | .inr (b4_node1,zaD,r61)=>
     (zaU b4_node1 zaD r61).bind fun⟨r0_0,r0_1,r0_2,r0_3,r0_4,r0_5,r0_7,r0_8,r0_9,r0_10,r0_11,r0_12,r0_13⟩=>
     some (.inr (.inr (r61,(⟨(⟨r0_0,r0_1⟩:Peer),r0_2,r0_3,r0_4,r0_5,b4_node1.fingers,r0_7,r0_8,r0_9,r0_10,r0_11,r0_12,r0_13⟩:Node),b4_node1,zaD,r61)))
theorem zg3{n id m b4_node b4_job r6 r}:zdk n id m b4_node b4_job r6=some r->zpQ n id m b4_node b4_job r6=some r:=by
 unfold zdk;refine kas fun γ=>kc (fun h1=>ks [0,γ 5,γ 6] fun| .inl ⟨b0_node,b0_job,r1⟩,γ1,h2=>(ks [0,γ1 3,γ1 2] fun⟨r0_0,r0_1,r0_2,r0_3,r0_4,r0_5,r0_7,r0_8,r0_9,r0_10,r0_11,r0_12,r0_13⟩ γ2 h3=>ls [0,0,0,γ 3,0,γ1 1,γ2 2,γ2 1] ?_)| .inr ⟨b0_node,b0_job,r1,r2⟩,γ1,h2=>(ks [0,γ1 2] fun r0 γ2 h3=>ls [0,0,0,γ 3,0,γ1 1,γ2 1] ?_)) fun h1=>kc (fun h2=>ks [0,0,0,γ 3,0,γ 5,γ 6] fun| .inl ⟨b4_node1,zaD,r5,r61⟩,γ1,h3=>(ks [0,γ1 6] fun r0 γ2 h4=>ls [0,0,0,γ1 3,0,γ1 5,γ2 1] ?_)| .inr ⟨b4_node1,zaD,r61⟩,γ1,h3=>(ks [0,γ1 5,γ1 6] fun⟨r0_0,r0_1,r0_2,r0_3,r0_4,r0_5,r0_7,r0_8,r0_9,r0_10,r0_11,r0_12,r0_13⟩ γ2 h4=>ls [0,0,0,γ1 3,0,γ2 1,γ2 2] ?_)) fun h2=>ks [0,0,0,γ 3,0,γ 5,γ 6] fun| .inl ⟨b4_node1,zaD,r5,r61⟩,γ1,h3=>(ks [0,γ1 6] fun r0 γ2 h4=>ls [0,0,0,γ1 3,0,γ1 5,γ2 1] ?_)| .inr ⟨b4_node1,zaD,r61⟩,γ1,h3=>(ks [0,γ1 5,γ1 6] fun⟨r0_0,r0_1,r0_2,r0_3,r0_4,r0_5,r0_7,r0_8,r0_9,r0_10,r0_11,r0_12,r0_13⟩ γ2 h4=>ls [0,0,0,γ1 3,0,γ2 1,γ2 2] ?_)
 all_goals (dsimp only[zg1,zg4,zbM,zbx,zbP]at *;show Ifc.apart IF_ _ (zHS zBA) _=_;generalize zBA=c0 at *;exact fin_)
def zeC(n:Node)(id:Int)(m:Msg)(k:Int)(t45:Bool)(b4_node:Node)(b4_job:Job)(r6:List Out):Option (zkh):=
 bif t45 then
  (zly b4_node b4_job r6).bind fun⟨b0_node,r1,r2⟩=>
  some (.inl (b0_node,b4_job,r1,r2))
 else
  bif yac.ieq m.kind 6 then zmt n id m k (yac.ieq k 2) b4_node b4_job r6 else
  zmt n id m k false b4_node b4_job r6
theorem zki{n id m k t45 b4_node b4_job r6 r}:zeC n id m k t45 b4_node b4_job r6=some r->zmu n id m k t45 b4_node b4_job r6=some r:=by
 unfold zeC;refine kas fun γ=>kc (fun h1=>ks [0,γ 5,γ 6] fun⟨b0_node,r1,r2⟩ γ1 h2=>ls [0,0,0,γ 3,0,γ1 1,γ1 2] ?_) fun h1=>kc (fun h2=>ps [0,0,0,γ 3,0,γ 5,γ 6] fun| .inl ⟨b4_node1,zaD,r5,r61⟩,γ1,h3=>(ls [0,0,0,γ1 3,0,γ1 5,γ1 6] ?_)| .inr ⟨b4_node1,zaD,r61⟩,γ1,h3=>(ls [0,0,0,γ1 3,0,γ1 5,γ1 6] ?_)) fun h2=>ps [0,0,0,γ 3,0,γ 5,γ 6] fun| .inl ⟨b4_node1,zaD,r5,r61⟩,γ1,h3=>(ls [0,0,0,γ1 3,0,γ1 5,γ1 6] ?_)| .inr ⟨b4_node1,zaD,r61⟩,γ1,h3=>(ls [0,0,0,γ1 3,0,γ1 5,γ1 6] ?_)
 all_goals (dsimp only[zg0,zg1,zdT]at *;show Ifc.apart IF_ _ (zHR zBz) _=_;generalize zBz=c0 at *;exact fin_)
def zeB(n:Node)(id:Int)(m:Msg)(k:Int)(t55:Bool)(b4_node:Node)(b4_job:Job)(r6:List Out):Option (zkf):=
 bif t55 then
  (zba true b4_job.val 0 b4_node b4_job r6).bind fun⟨b0_node,r1⟩=>
  some (.inl (b0_node,b4_job,r1,r6))
 else
  bif yac.ieq m.kind 9 then
   bif yac.ieq k 3 then
    (zba m.has m.val 0 b4_node b4_job r6).bind fun⟨b0_node,r1⟩=>
    some (.inl (b0_node,b4_job,r1,r6))
   else
    some (.inr (b4_node,b4_job,r6))
  else
   some (.inr (b4_node,b4_job,r6))
theorem zkg{n id m k t55 b4_node b4_job r6 r}:zeB n id m k t55 b4_node b4_job r6=some r->zmt n id m k t55 b4_node b4_job r6=some r:=by
 unfold zeB;refine kas fun γ=>kc (fun h1=>ks [0,γ 5,γ 6] fun⟨b0_node,r1⟩ γ1 h2=>ls [0,0,0,γ 3,0,γ1 1,γ1 2] ?_) fun h1=>kc (fun h2=>kc (fun h3=>ks [0,γ 5,γ 6] fun⟨b0_node,r1⟩ γ1 h4=>ls [0,0,0,γ 3,0,γ1 1,γ1 2] ?_) fun h3=>ls [0,0,0,γ 3,0,γ 5,γ 6] ?_) fun h2=>ls [0,0,0,γ 3,0,γ 5,γ 6] ?_
 all_goals (dsimp only[zg0,zbg]at *;show Ifc.apart IF_ _ zHQ _=_;exact fin_)
def zrw(n:Node)(id:Int)(m:Msg):Option ((Node×(List Out))):=
 (zsv n id).bind fun⟨r1,b0_node,b0_job,r2⟩=>
 bif r1 then
  bif b0_job.doing then
   (zpQ n id m b0_node (⟨b0_job.id,b0_job.kind,b0_job.bit,b0_job.key,b0_job.val,b0_job.target,b0_job.via,b0_job.at_,true,b0_job.hops,b0_job.tries,b0_job.due⟩:Job) r2).bind fun r=>match r with
    | .inl (t7,b2,b4_node,b4_job,r5,r6)=>
     some (b2,t7)
    | .inr (.inl (t7,b2,b4_node,b4_job,r5,r6))=>
     some (b2,t7)
    | .inr (.inr (t7,b2,b4_node,b4_job,r6))=>
     some (b2,t7)
  else
   (zaU b0_node (⟨b0_job.id,b0_job.kind,b0_job.bit,b0_job.key,b0_job.val,b0_job.target,b0_job.via,b0_job.at_,false,b0_job.hops,b0_job.tries,b0_job.due⟩:Job) r2).bind fun⟨r0_0,r0_1,r0_2,r0_3,r0_4,r0_5,r0_7,r0_8,r0_9,r0_10,r0_11,r0_12,r0_13⟩=>
   some ((⟨(⟨r0_0,r0_1⟩:Peer),r0_2,r0_3,r0_4,r0_5,b0_node.fingers,r0_7,r0_8,r0_9,r0_10,r0_11,r0_12,r0_13⟩:Node),r2)
 else
  (zaU b0_node b0_job r2).bind fun⟨r0_0,r0_1,r0_2,r0_3,r0_4,r0_5,r0_7,r0_8,r0_9,r0_10,r0_11,r0_12,r0_13⟩=>
  some ((⟨(⟨r0_0,r0_1⟩:Peer),r0_2,r0_3,r0_4,r0_5,b0_node.fingers,r0_7,r0_8,r0_9,r0_10,r0_11,r0_12,r0_13⟩:Node),r2)
theorem zEQ{n id m r}:zrw n id m=some r->zlO n id m=some r:=by
 unfold zrw;refine ka (ks [] fun⟨r1,b0_node,b0_job,r2⟩ γ1 h1=>kc (fun h2=>kc (fun h3=>ks [0,0,0,0,0,γ1 1,γ1 2] fun| .inl ⟨t7,b2,b4_node,b4_job,r5,r6⟩,γ2,h4=>(l0 rfl ?_)| .inr (.inl ⟨t7,b2,b4_node,b4_job,r5,r6⟩),γ2,h4=>(l0 rfl ?_)| .inr (.inr ⟨t7,b2,b4_node,b4_job,r6⟩),γ2,h4=>(l0 rfl ?_)) fun h3=>ks [0,γ1 1,γ1 2] fun⟨r0_0,r0_1,r0_2,r0_3,r0_4,r0_5,r0_7,r0_8,r0_9,r0_10,r0_11,r0_12,r0_13⟩ γ2 h4=>l0 rfl ?_) fun h2=>ks [0,γ1 1,γ1 2] fun⟨r0_0,r0_1,r0_2,r0_3,r0_4,r0_5,r0_7,r0_8,r0_9,r0_10,r0_11,r0_12,r0_13⟩ γ2 h3=>l0 rfl ?_)
 all_goals (dsimp only[R2,zg4,zjA,zbx]at *;show zak IF_ (g51F zBB) _ _=_;generalize zBB=c0 at *;(try dsimp only[zad,zaa,zab,zag,zaL,eJob,zaj,zaI,eMsg,eOut,zbE,cJob,zah,cMsg,zau,capp]at *);(try simp only[yaT,ybW]at *);(try generalize b0_job.doing=q0 at *);exact fin_)
def zi9(me:Peer)(l:List Entry)(p:Peer)(γ:Nat->Nat):(List Entry)⊕Unit->X×St
 | .inl a0=>(.ret,⟨bd 6 (.sl 3 (γ 3)::bd 85 []),[.box 25 [vU me.id,vH me.addr],.box 25 [vU p.id,vH p.addr],.row 55 (γ 2) false (yab zaa []),.row 55 (γ 3) false (yab zaa a0)]⟩)
 | .inr ()=>(.nor,⟨bd 1 (.lit 55 false (yab zaa l)::bd 1 (.bptr 0 0::bd 1 (.bptr 1 0::bd 86 []))),[.box 25 [vU me.id,vH me.addr],.box 25 [vU p.id,vH p.addr],.row 55 (γ 2) false (yab zaa [])]⟩)
instance {me l p}:InjS (zi9 me l p):=⟨by unfold zi9;exact ij_⟩
def zho(me:Peer)(l:List Entry)(p:Peer)(at_:Int)(t33:Bool):Option ((List Entry)⊕Unit):=asks (fun γ=>(lim F pr).seg [1,3,5] zBC ⟨bd 1 (.lit 55 false (yab zaa l)::bd 1 (.bptr 0 0::bd 1 (.bptr 1 0::bd 1 (vI at_::bd 25 (vF t33::bd 58 []))))),[.box 25 [vU me.id,vH me.addr],.box 25 [vU p.id,vH p.addr],.row 55 (γ 2) false (yab zaa [])]⟩) (zi9 me l p)
def zjb(me:Peer)(p:Peer)(γ:Nat->Nat):(Int×(List Entry))⊕(List Entry)->X×St
 | .inl (a0,a1)=>(.ret,⟨bd 6 (.sub 3 (γ 3) (0) (a0)::bd 85 []),[.box 25 [vU me.id,vH me.addr],.box 25 [vU p.id,vH p.addr],.row 55 (γ 2) false (yab zaa []),.row 55 (γ 3) false (yab zaa a1)]⟩)
 | .inr b0=>(.ret,⟨bd 6 (.sl 3 (γ 3)::bd 85 []),[.box 25 [vU me.id,vH me.addr],.box 25 [vU p.id,vH p.addr],.row 55 (γ 2) false (yab zaa []),.row 55 (γ 3) false (yab zaa b0)]⟩)
instance {me p}:InjS (zjb me p):=⟨by unfold zjb;exact ij_⟩
def zjV(me:Peer)(l:List Entry)(p:Peer):Option ((Int×(List Entry))⊕(List Entry)):=asks (fun γ=>(lim F pr).seg [6] zBE ⟨bd 1 (.lit 55 false (yab zaa l)::bd 1 (.bptr 0 0::bd 1 (.bptr 1 0::bd 86 []))),[.box 25 [vU me.id,vH me.addr],.box 25 [vU p.id,vH p.addr],.row 55 (γ 2) false (yab zaa [])]⟩) (zjb me p)
def zi8(me:Peer)(p:Peer)(γ:Nat->Nat):(Bool×(List Entry))->X×St
 |(a0,a1)=>(.brk 0,⟨bd 5 (.bptr 1 0::bd 4 (.sl 3 (γ 3)::vF a0::bd 80 [])),[.box 25 [vU me.id,vH me.addr],.box 25 [vU p.id,vH p.addr],.row 55 (γ 2) false (yab zaa []),.row 55 (γ 3) false (yab zaa a1)]⟩)
instance {me p}:InjS (zi8 me p):=⟨by unfold zi8;exact ij_⟩
def zhn(me:Peer)(p:Peer)(rest:List Entry)(put_:Bool)(i:Int)(r3:List Entry):Option ((Bool×(List Entry))):=asks (fun γ=>(lim F pr).loop [3,9,12,11,5,10] 4 zwi ⟨bd 3 (.bptr 0 0::bd 1 (.bptr 1 0::bd 3 (.lit 55 false (yab zaa rest):: .sl 3 (γ 3)::vF put_::vI i::bd 79 []))),[.box 25 [vU me.id,vH me.addr],.box 25 [vU p.id,vH p.addr],.row 55 (γ 2) false (yab zaa []),.row 55 (γ 3) false (yab zaa r3)]⟩) (zi8 me p)
def zja(me:Peer)(p:Peer)(γ:Nat->Nat):(Int×(List Entry))⊕(List Entry)->X×St
 | .inl (a0,a1)=>(.ret,⟨bd 6 (.sub 3 (γ 3) (0) (a0)::bd 85 []),[.box 25 [vU me.id,vH me.addr],.box 25 [vU p.id,vH p.addr],.row 55 (γ 2) false (yab zaa []),.row 55 (γ 3) false (yab zaa a1)]⟩)
 | .inr b0=>(.ret,⟨bd 6 (.sl 3 (γ 3)::bd 85 []),[.box 25 [vU me.id,vH me.addr],.box 25 [vU p.id,vH p.addr],.row 55 (γ 2) false (yab zaa []),.row 55 (γ 3) false (yab zaa b0)]⟩)
instance {me p}:InjS (zja me p):=⟨by unfold zja;exact ij_⟩
def zoS(me:Peer)(p:Peer)(r3:List Entry):Option ((Int×(List Entry))⊕(List Entry)):=asks (fun γ=>(lim F pr).seg [6] zBD ⟨bd 10 (.sl 3 (γ 3)::bd 81 []),[.box 25 [vU me.id,vH me.addr],.box 25 [vU p.id,vH p.addr],.row 55 (γ 2) false (yab zaa []),.row 55 (γ 3) false (yab zaa r3)]⟩) (zja me p)
def zl4(me:Peer)(l:List Entry)(p:Peer)(at_:Int)(t33:Bool):Option ((List Entry)⊕Unit):=
 bif t33 then
  bif zar zaa 24 [] l then
   (xget zaa l at_).bind fun x=>
   some (.inl (xset l at_ (⟨x.peer,0⟩:Entry)))
  else
   none
 else
  some (.inr ())
theorem zvl{me l p at_ t33 r}:zl4 me l p at_ t33=some r->zho me l p at_ t33=some r:=by
 unfold zl4;refine kas fun γ=>kc (fun h1=>k1 fun h2=>kb fun x h3=>ls [0,0,γ 2,0] ?_) fun h1=>ls [0,0,γ 2] ?_
 all_goals (dsimp only[zi9]at *;show Ifc.apart IF_ _ zHT _=_;exact fin_)
def zpt(me:Peer)(l:List Entry)(p:Peer):Option ((Int×(List Entry))⊕(List Entry)):=
 (zxA l p.addr).bind fun res=>
 (zhn me p res false 0 []).bind fun⟨put_,r3⟩=>
 bif put_ then zoS me p r3 else
 bif zar zaa 24 r3 [(⟨p,0⟩:Entry)]then zoS me p (r3++[(⟨p,0⟩:Entry)])else
 none
theorem zC5{me l p r}:zpt me l p=some r->zjV me l p=some r:=by
 unfold zpt;refine kas fun γ=>kb fun res h1=>ks [0,0,γ 2,0] fun⟨put_,r3⟩ γ2 h2=>kc (fun h3=>ps [0,0,γ2 2,γ2 3] fun| .inl ⟨t6_hi,r31⟩,γ3,h4=>(ls [0,0,γ3 2,γ3 3] ?_)| .inr r31,γ3,h4=>(ls [0,0,γ3 2,γ3 3] ?_)) fun h3=>k1 fun h4=>ps [0,0,γ2 2,((γ2 3)+1)] fun| .inl ⟨t6_hi,r31⟩,γ3,h5=>(ls [0,0,γ3 2,γ3 3] ?_)| .inr r31,γ3,h5=>(ls [0,0,γ3 2,γ3 3] ?_)
 all_goals (dsimp only[R1,zi8,zja,zjb]at *;show Ifc.apart IF_ _ (zHW zwi zBD) _=_;generalize zwi=c0,zBD=c1 at *;exact fin_)
def zi7(me:Peer)(p:Peer)(rest:List Entry)(put_:Bool)(i:Int)(r3:List Entry):Option ((Bool×(List Entry))):=
 bif yac.ilt i (xlen zaa rest)then
  bif put_ then
   (xget zaa rest i).bind fun x=>
   bif zar zaa 24 r3 [x]then zhn me p rest true (yac.iadd .i64 i 1) (r3++[x])else
   none
  else
   (xget zaa rest i).bind fun x=>
   (zvn me p x.peer).bind fun res=>
   bif res then
    bif zar zaa 24 r3 [(⟨p,0⟩:Entry)]then
     bif zar zaa 24 (r3++[(⟨p,0⟩:Entry)]) [x]then
      zhn me p rest true (yac.iadd .i64 i 1) ((r3++[(⟨p,0⟩:Entry)])++[x])
     else
      none
    else
     none
   else
    bif zar zaa 24 r3 [x]then zhn me p rest false (yac.iadd .i64 i 1) (r3++[x])else
    none
 else
  some (put_,r3)
theorem zvk{me p rest put_ i r3 r}:zi7 me p rest put_ i r3=some r->zhn me p rest put_ i r3=some r:=by
 unfold zi7;refine kas fun γ=>kc (fun h1=>kc (fun h2=>kb fun x h3=>k1 fun h4=>lg [0,0,γ 2,((γ 3)+1)] fun γ' h0=>?_) fun h2=>kb fun x h3=>kb fun res h4=>kc (fun h5=>k1 fun h6=>k1 fun h7=>lg [0,0,γ 2,(((γ 3)+1)+1)] fun γ' h0=>?_) fun h5=>k1 fun h6=>lg [0,0,γ 2,((γ 3)+1)] fun γ' h0=>?_) fun h1=>lr [0,0,γ 2,γ 3] ?_
 all_goals (dsimp only[R1,zi8]at *;show zaE IF_ _ _ zwi zHU _=_;generalize zwi=c0 at *;exact fin_)
def zl5(me:Peer)(p:Peer)(r3:List Entry):Option ((Int×(List Entry))⊕(List Entry)):=
 bif yac.ilt 15 (xlen zaa r3)then
  (xsub zaa r3 0 (yac.isub .i64 (xlen zaa r3) 1)).bind fun ys=>
  some (.inl (yac.isub .i64 (xlen zaa r3) 1,r3))
 else
  some (.inr r3)
theorem zvm{me p r3 r}:zl5 me p r3=some r->zoS me p r3=some r:=by
 unfold zl5;refine kas fun γ=>kc (fun h1=>kb fun ys h2=>ls [0,0,γ 2,γ 3] ?_) fun h1=>ls [0,0,γ 2,γ 3] ?_
 all_goals (dsimp only[zja]at *;show Ifc.apart IF_ _ zHV _=_;exact fin_)
def zvj(me:Peer)(l:List Entry)(p:Peer):Option ((List Entry)):=
 bif yac.ieq p.addr me.addr then some l else
 (zqr l p.addr).bind fun res=>
 bif yac.ile 0 res then
  (xget zaa l res).bind fun x=>
  bif yac.ieq x.peer.id p.id then
   bif yac.ieq x.peer.addr p.addr then
    (zho me l p res true).bind fun r=>match r with
     | .inl r3=>
      some r3
     | .inr ()=>
      (zjV me l p).bind fun r=>match r with
       | .inl (t6_hi,r3)=>
        (xsub zaa r3 0 t6_hi).bind fun ys=>
        some ys
       | .inr r3=>
        some r3
   else
    (zho me l p res false).bind fun r=>match r with
     | .inl r3=>
      some r3
     | .inr ()=>
      (zjV me l p).bind fun r=>match r with
       | .inl (t6_hi,r3)=>
        (xsub zaa r3 0 t6_hi).bind fun ys=>
        some ys
       | .inr r3=>
        some r3
  else
   (zho me l p res false).bind fun r=>match r with
    | .inl r3=>
     some r3
    | .inr ()=>
     (zjV me l p).bind fun r=>match r with
      | .inl (t6_hi,r3)=>
       (xsub zaa r3 0 t6_hi).bind fun ys=>
       some ys
      | .inr r3=>
       some r3
 else
  (zho me l p res false).bind fun r=>match r with
   | .inl r3=>
    some r3
   | .inr ()=>
    (zjV me l p).bind fun r=>match r with
     | .inl (t6_hi,r3)=>
      (xsub zaa r3 0 t6_hi).bind fun ys=>
      some ys
     | .inr r3=>
      some r3
theorem zI9{me l p r}:zvj me l p=some r->zsk me l p=some r:=by
 unfold zvj;refine ka (kc (fun h1=>l0 rfl ?_) fun h1=>kb fun res h2=>kc (fun h3=>kb fun x h4=>kc (fun h5=>kc (fun h6=>ks [0,0,0] fun| .inl r3,γ2,h7=>(l0 rfl ?_)| .inr _,γ2,h7=>(ks [0,0,γ2 2] fun| .inl ⟨t6_hi,r3⟩,γ3,h8=>(kb fun ys h9=>l0 rfl ?_)| .inr r3,γ3,h8=>(l0 rfl ?_))) fun h6=>ks [0,0,0] fun| .inl r3,γ2,h7=>(l0 rfl ?_)| .inr _,γ2,h7=>(ks [0,0,γ2 2] fun| .inl ⟨t6_hi,r3⟩,γ3,h8=>(kb fun ys h9=>l0 rfl ?_)| .inr r3,γ3,h8=>(l0 rfl ?_))) fun h5=>ks [0,0,0] fun| .inl r3,γ2,h6=>(l0 rfl ?_)| .inr _,γ2,h6=>(ks [0,0,γ2 2] fun| .inl ⟨t6_hi,r3⟩,γ3,h7=>(kb fun ys h8=>l0 rfl ?_)| .inr r3,γ3,h7=>(l0 rfl ?_))) fun h3=>ks [0,0,0] fun| .inl r3,γ2,h4=>(l0 rfl ?_)| .inr _,γ2,h4=>(ks [0,0,γ2 2] fun| .inl ⟨t6_hi,r3⟩,γ3,h5=>(kb fun ys h6=>l0 rfl ?_)| .inr r3,γ3,h5=>(l0 rfl ?_)))
 all_goals (dsimp only[R1,zi9,zjb]at *;show zak IF_ (g52F zBC zBE) _ _=_;generalize zBC=c0,zBE=c1 at *;exact fin_)
def zji(γ:Nat->Nat):Unit⊕Unit->X×St
 | .inl ()=>(.ret,⟨bd 6 (vF true::bd 24 []),[]⟩)
 | .inr ()=>(.brk 0,⟨bd 31 [],[]⟩)
instance :InjS zji:=⟨by unfold zji;exact ij_⟩
def zmc(l:List Pend)(why:Int)(addr:Int)(i:Int):Option (Unit⊕Unit):=asks (fun γ=>(lim F pr).loop [1,0,2,7] 0 zws ⟨.lit 36 false (yab zaL l)::vI why::vH addr::bd 4 (vI i::bd 23 []),[]⟩) zji
def zmd(l:List Pend)(why:Int)(addr:Int)(i:Int):Option (Unit⊕Unit):=
 bif yac.ilt i (xlen zaL l)then
  (xget zaL l i).bind fun x=>
  bif yac.ieq x.why why then
   bif yac.ieq x.to_.addr addr then some (.inl ())else
   zmc l why addr (yac.iadd .i64 i 1)
  else
   zmc l why addr (yac.iadd .i64 i 1)
 else
  some (.inr ())
theorem zvu{l why addr i r}:zmd l why addr i=some r->zmc l why addr i=some r:=by
 unfold zmd;refine kas fun γ=>kc (fun h1=>kb fun x h2=>kc (fun h3=>kc (fun h4=>lr [] ?_) fun h4=>lg [] fun γ' h0=>?_) fun h3=>lg [] fun γ' h0=>?_) fun h1=>lr [] ?_
 all_goals (dsimp only[zji]at *;show zaE IF_ _ _ zws zIf _=_;generalize zws=c0 at *;exact fin_)
def zvt(l:List Pend)(why:Int)(addr:Int):Option (Bool):=
 (zmc l why addr 0).bind fun r=>match r with
  | .inl ()=>
   some true
  | .inr ()=>
   some false
theorem zJf{l why addr r}:zvt l why addr=some r->zzR l why addr=some r:=by
 unfold zvt;refine ka (ks [] fun| .inl _,γ1,h1=>(l0 rfl ?_)| .inr _,γ1,h1=>(l0 rfl ?_))
 all_goals (dsimp only[R1,zji]at *;show zak IF_ (g74F zws) _ _=_;generalize zws=c0 at *;exact fin_)
def zvs(n:Node)(to_:Peer)(m:Msg)(why:Int)(job:Int):Option ((Node×(List Out))):=
 bif yac.ilt 63 (xlen zaL n.pends)then some (n,[])else
 bif zar zaL 56 [] n.pends then
  (zzS (⟨n.me,n.clock,n.joined,n.pred,n.list,n.fingers,n.store,n.pends,n.jobs,n.results,yac.iadd .u32 n.rid 1,n.jobID,n.nextBit⟩:Node)).bind fun res=>
  bif zar zaL 56 n.pends [(⟨yac.iadd .u32 n.rid 1,m.kind,why,job,to_,yac.iadd .i64 res 8⟩:Pend)]then
   some ((⟨n.me,n.clock,n.joined,n.pred,n.list,n.fingers,n.store,(n.pends++[(⟨yac.iadd .u32 n.rid 1,m.kind,why,job,to_,yac.iadd .i64 res 8⟩:Pend)]),n.jobs,n.results,yac.iadd .u32 n.rid 1,n.jobID,n.nextBit⟩:Node),[(⟨to_,(⟨m.kind,yac.iadd .u32 n.rid 1,m.code,m.has,m.id,m.key,m.val,m.peer,m.peers,m.pairs⟩:Msg)⟩:Out)])
  else
   none
 else
  none
theorem zJe{n to_ m why job r}:zvs n to_ m why job=some r->zil n to_ m why job=some r:=by
 unfold zvs;refine ka (kc (fun h1=>l0 rfl ?_) fun h1=>k1 fun h2=>kb fun res h3=>k1 fun h4=>l0 rfl ?_)
 all_goals (dsimp only[R1,R2]at *;show zak IF_ g75F _ _=_;exact fin_)
def zib(γ:Nat->Nat):(Node×(List Out))->X×St
 |(a0,a1)=>(.brk 0,⟨bd 2 (.bptr 0 0::bd 1 (.bptr 1 0::bd 1 (.sl 3 (γ 3)::bd 69 []))),[.box 34 (zah a0),.box 34 ([vU 0,vH 0,vI 0,vF false,.lit 0 true [],.lit 0 true [],.lit 0 true [],.lit 0 true [],.lit 0 true [],.lit 0 true [],.lit 0 true [],vW 0,vI 0,vI 0]),.row 78 (γ 2) false (yab eOut []),.row 78 (γ 3) false (yab eOut a1)]⟩)
instance :InjS zib:=⟨by unfold zib;exact ij_⟩
def zdu(l:List Peer)(i:Int)(b0:Node)(r3:List Out):Option ((Node×(List Out))):=asks (fun γ=>(lim F pr).loop [1,7,2,6,4] 4 zwf ⟨bd 1 (.lit 25 false (yab zad l):: .bptr 0 0::bd 1 (.bptr 1 0::bd 1 (.sl 3 (γ 3)::vI i::bd 68 []))),[.box 34 (zah b0),.box 34 ([vU 0,vH 0,vI 0,vF false,.lit 0 true [],.lit 0 true [],.lit 0 true [],.lit 0 true [],.lit 0 true [],.lit 0 true [],.lit 0 true [],vW 0,vI 0,vI 0]),.row 78 (γ 2) false (yab eOut []),.row 78 (γ 3) false (yab eOut r3)]⟩) zib
def zia(l:List Peer)(γ:Nat->Nat):(Int×Bool×Node×(List Out))->X×St
 |(a0,a1,a2,a3)=>(.brk 2,⟨bd 1 (.lit 25 false (yab zad l):: .bptr 0 0::bd 1 (.bptr 1 0::bd 1 (.sl 3 (γ 3)::vI a0::vF a1::bd 67 []))),[.box 34 (zah a2),.box 34 ([vU 0,vH 0,vI 0,vF false,.lit 0 true [],.lit 0 true [],.lit 0 true [],.lit 0 true [],.lit 0 true [],.lit 0 true [],.lit 0 true [],vW 0,vI 0,vI 0]),.row 78 (γ 2) false (yab eOut []),.row 78 (γ 3) false (yab eOut a3)]⟩)
instance {l}:InjS (zia l):=⟨by unfold zia;exact ij_⟩
def zdt(l:List Peer)(i:Int)(known:Bool)(k:Int)(b0:Node)(r3:List Out):Option ((Int×Bool×Node×(List Out))):=asks (fun γ=>(lim F pr).loop [9,8,7,1,2,6,4] 4 zwe ⟨bd 1 (.lit 25 false (yab zad l):: .bptr 0 0::bd 1 (.bptr 1 0::bd 1 (.sl 3 (γ 3)::vI i::vF known::vI k::bd 66 []))),[.box 34 (zah b0),.box 34 ([vU 0,vH 0,vI 0,vF false,.lit 0 true [],.lit 0 true [],.lit 0 true [],.lit 0 true [],.lit 0 true [],.lit 0 true [],.lit 0 true [],vW 0,vI 0,vI 0]),.row 78 (γ 2) false (yab eOut []),.row 78 (γ 3) false (yab eOut r3)]⟩) (zia l)
def zk8(l:List Peer)(i:Int)(b0:Node)(r3:List Out):Option ((Node×(List Out))):=
 bif yac.ilt i (xlen zad l)then
  (xget zad l i).bind fun x=>
  bif yac.ieq x.addr b0.me.addr then
   (zdt l i true 0 b0 r3).bind fun⟨i1,known,b01,r31⟩=>
   bif known then zdu l (yac.iadd .i64 i1 1) b01 r31 else
   (xget zad l i1).bind fun x1=>
   (zil b01 x1 (⟨11,0,0,false,0,⟨#[]⟩,⟨#[]⟩,(⟨0,0⟩:Peer),[],[]⟩:Msg) 3 0).bind fun⟨r0,r1⟩=>
   bif zar eOut 136 r31 r1 then zdu l (yac.iadd .i64 i1 1) r0 (r31++r1)else
   none
  else
   (zzR b0.pends 3 x.addr).bind fun res=>
   (zdt l i res 0 b0 r3).bind fun⟨i1,known,b01,r31⟩=>
   bif known then zdu l (yac.iadd .i64 i1 1) b01 r31 else
   (xget zad l i1).bind fun x1=>
   (zil b01 x1 (⟨11,0,0,false,0,⟨#[]⟩,⟨#[]⟩,(⟨0,0⟩:Peer),[],[]⟩:Msg) 3 0).bind fun⟨r0,r1⟩=>
   bif zar eOut 136 r31 r1 then zdu l (yac.iadd .i64 i1 1) r0 (r31++r1)else
   none
 else
  some (b0,r3)
theorem zuk{l i b0 r3 r}:zk8 l i b0 r3=some r->zdu l i b0 r3=some r:=by
 unfold zk8;refine kas fun γ=>kc (fun h1=>kb fun x h2=>kc (fun h3=>ks [0,0,γ 2,γ 3] fun⟨i1,known,b01,r31⟩ γ1 h4=>kc (fun h5=>lg [0,0,γ1 2,γ1 3] fun γ' h0=>?_) fun h5=>kb fun x1 h6=>kb fun⟨r0,r1⟩ h7=>k1 fun h8=>lg [0,0,γ1 2,((γ1 3)+1)] fun γ' h0=>?_) fun h3=>kb fun res h4=>ks [0,0,γ 2,γ 3] fun⟨i1,known,b01,r31⟩ γ2 h5=>kc (fun h6=>lg [0,0,γ2 2,γ2 3] fun γ' h0=>?_) fun h6=>kb fun x1 h7=>kb fun⟨r0,r1⟩ h8=>k1 fun h9=>lg [0,0,γ2 2,((γ2 3)+1)] fun γ' h0=>?_) fun h1=>lr [0,0,γ 2,γ 3] ?_
 all_goals (dsimp only[R1,R2,zia,zib]at *;show zaE IF_ _ _ zwf (zHI zwe) _=_;generalize zwf=c0,zwe=c1 at *;exact fin_)
def zk7(l:List Peer)(i:Int)(known:Bool)(k:Int)(b0:Node)(r3:List Out):Option ((Int×Bool×Node×(List Out))):=
 bif yac.ilt k (xlen zaa b0.list)then
  bif known then zdt l i true (yac.iadd .i64 k 1) b0 r3 else
  (xget zaa b0.list k).bind fun x=>
  (xget zad l i).bind fun x1=>
  bif yac.ieq x.peer.id x1.id then
   bif yac.ieq x.peer.addr x1.addr then zdt l i true (yac.iadd .i64 k 1) b0 r3 else
   zdt l i false (yac.iadd .i64 k 1) b0 r3
  else
   zdt l i false (yac.iadd .i64 k 1) b0 r3
 else
  some (i,known,b0,r3)
theorem zuj{l i known k b0 r3 r}:zk7 l i known k b0 r3=some r->zdt l i known k b0 r3=some r:=by
 unfold zk7;refine kas fun γ=>kc (fun h1=>kc (fun h2=>lg [0,0,γ 2,γ 3] fun γ' h0=>?_) fun h2=>kb fun x h3=>kb fun x1 h4=>kc (fun h5=>kc (fun h6=>lg [0,0,γ 2,γ 3] fun γ' h0=>?_) fun h6=>lg [0,0,γ 2,γ 3] fun γ' h0=>?_) fun h5=>lg [0,0,γ 2,γ 3] fun γ' h0=>?_) fun h1=>lr [0,0,γ 2,γ 3] ?_
 all_goals (dsimp only[zia]at *;show zaE IF_ _ _ zwe zHH _=_;generalize zwe=c0 at *;exact fin_)
def ztF(n:Node)(l:List Peer):Option ((Node×(List Out))):=
 zdu l 0 n []
theorem zHl{n l r}:ztF n l=some r->ztE n l=some r:=by
 unfold ztF;refine kas fun γ=>ps [0,0,0,0] fun⟨b0,r3⟩ γ1 h1=>lc rfl [0] ?_
 all_goals (dsimp only[zmj,zib]at *;show zak IF_ (g23F zwf) _ _=_;generalize zwf=c0 at *;exact fin_)
abbrev zj5:=((List Out)×Bool×Node)⊕((Bool×Job)⊕(Node×Job×Int×Int))
def zgM(n:Node)(id:Int)(m:Msg)(γ:Nat->Nat):zj5->X×St
 | .inl (a0,a1,a2)=>(.ret,⟨bd 6 (.bptr 2 0:: .lit 78 false (yab eOut a0)::bd 121 []),[.box 34 (zah n),.box 39 [vI m.kind,vW m.rid,vB m.code,vF a1,vU m.id,vT m.key,vT m.val,vU m.peer.id,vH m.peer.addr,.lit 25 false (yab zad m.peers),.lit 76 false (yab zag m.pairs)],.box 34 (zah a2),.row 78 (γ 3) false (yab eOut [])]⟩)
 | .inr (.inl (b0,b1))=>(.ret,⟨bd 6 (.bptr 2 0:: .sl 5 (γ 5)::bd 121 []),[.box 34 (zah n),.box 39 [vI m.kind,vW m.rid,vB m.code,vF b0,vU m.id,vT m.key,vT m.val,vU m.peer.id,vH m.peer.addr,.lit 25 false (yab zad m.peers),.lit 76 false (yab zag m.pairs)],.box 34 (zah n),.row 78 (γ 3) false (yab eOut []),.box 57 (cJob b1),.row 78 (γ 5) false (yab eOut [])]⟩)
 | .inr (.inr (c0,c1,c2,c3))=>(.ret,⟨bd 6 (.bptr 2 0:: .sl 6 (γ 6)::bd 121 []),[.box 34 (zah n),.box 39 [vI m.kind,vW m.rid,vB m.code,vF false,vU m.id,vT m.key,vT m.val,vU m.peer.id,vH m.peer.addr,.lit 25 false (yab zad m.peers),.lit 76 false (yab zag m.pairs)],.box 34 (zah c0),.row 78 (γ 3) false (yab eOut []),.box 57 (cJob c1),.box 25 [vU c2,vH c3],.row 78 (γ 6) false (yab eOut [])]⟩)
instance {n id m}:InjS (zgM n id m):=⟨by unfold zgM;exact ij_⟩
def zpE(n:Node)(id:Int)(m:Msg)(at_:Int):Option (zj5):=asks (fun γ=>(lim F pr).seg [6,7] zBH ⟨bd 3 (.bptr 0 0::bd 1 (.bptr 1 0:: .bptr 2 0::bd 1 (vI at_::bd 120 []))),[.box 34 (zah n),.box 39 [vI m.kind,vW m.rid,vB m.code,vF m.has,vU m.id,vT m.key,vT m.val,vU m.peer.id,vH m.peer.addr,.lit 25 false (yab zad m.peers),.lit 76 false (yab zag m.pairs)],.box 34 ([vU 0,vH 0,vI 0,vF false,.lit 0 true [],.lit 0 true [],.lit 0 true [],.lit 0 true [],.lit 0 true [],.lit 0 true [],.lit 0 true [],vW 0,vI 0,vI 0]),.row 78 (γ 3) false (yab eOut [])]⟩) (zgM n id m)
abbrev zj1:=((List Out)×Node×Job)⊕((Node×Job×Int×Int)⊕Job)
def zgH(n:Node)(id:Int)(m:Msg)(γ:Nat->Nat):zj1->X×St
 | .inl (a0,a1,a2)=>(.ret,⟨bd 6 (.bptr 2 0:: .lit 78 false (yab eOut a0)::bd 121 []),[.box 34 (zah n),.box 39 [vI m.kind,vW m.rid,vB m.code,vF false,vU m.id,vT m.key,vT m.val,vU m.peer.id,vH m.peer.addr,.lit 25 false (yab zad m.peers),.lit 76 false (yab zag m.pairs)],.box 34 (zah a1),.row 78 (γ 3) false (yab eOut []),.box 57 (cJob a2)]⟩)
 | .inr (.inl (b0,b1,b2,b3))=>(.ret,⟨bd 6 (.bptr 2 0:: .sl 6 (γ 6)::bd 121 []),[.box 34 (zah n),.box 39 [vI m.kind,vW m.rid,vB m.code,vF false,vU m.id,vT m.key,vT m.val,vU m.peer.id,vH m.peer.addr,.lit 25 false (yab zad m.peers),.lit 76 false (yab zag m.pairs)],.box 34 (zah b0),.row 78 (γ 3) false (yab eOut []),.box 57 (cJob b1),.box 25 [vU b2,vH b3],.row 78 (γ 6) false (yab eOut [])]⟩)
 | .inr (.inr c0)=>(.brk 0,⟨bd 3 (.bptr 0 0::bd 2 (.bptr 2 0::bd 2 (.bptr 4 0::bd 119 []))),[.box 34 (zah n),.box 39 [vI m.kind,vW m.rid,vB m.code,vF false,vU m.id,vT m.key,vT m.val,vU m.peer.id,vH m.peer.addr,.lit 25 false (yab zad m.peers),.lit 76 false (yab zag m.pairs)],.box 34 ([vU 0,vH 0,vI 0,vF false,.lit 0 true [],.lit 0 true [],.lit 0 true [],.lit 0 true [],.lit 0 true [],.lit 0 true [],.lit 0 true [],vW 0,vI 0,vI 0]),.row 78 (γ 3) false (yab eOut []),.box 57 (cJob c0)]⟩)
instance {n id m}:InjS (zgH n id m):=⟨by unfold zgH;exact ij_⟩
def zcS(n:Node)(id:Int)(m:Msg)(i:Int)(b4:Job):Option (zj1):=asks (fun γ=>(lim F pr).loop [5,10,3,9,6] 5 zwj ⟨bd 3 (.bptr 0 0::bd 1 (.bptr 1 0:: .bptr 2 0::bd 2 (.bptr 4 0::vI i::bd 118 []))),[.box 34 (zah n),.box 39 [vI m.kind,vW m.rid,vB m.code,vF false,vU m.id,vT m.key,vT m.val,vU m.peer.id,vH m.peer.addr,.lit 25 false (yab zad m.peers),.lit 76 false (yab zag m.pairs)],.box 34 ([vU 0,vH 0,vI 0,vF false,.lit 0 true [],.lit 0 true [],.lit 0 true [],.lit 0 true [],.lit 0 true [],.lit 0 true [],.lit 0 true [],vW 0,vI 0,vI 0]),.row 78 (γ 3) false (yab eOut []),.box 57 (cJob b4)]⟩) (zgH n id m)
abbrev zj3:=((List Out)×Node×Job×Int×Int)⊕(Node×Job×Int×Int)
def zgL(n:Node)(id:Int)(m:Msg)(γ:Nat->Nat):zj3->X×St
 | .inl (a0,a1,a2,a3,a4)=>(.ret,⟨bd 6 (.bptr 2 0:: .lit 78 false (yab eOut a0)::bd 121 []),[.box 34 (zah n),.box 39 [vI m.kind,vW m.rid,vB m.code,vF false,vU m.id,vT m.key,vT m.val,vU m.peer.id,vH m.peer.addr,.lit 25 false (yab zad m.peers),.lit 76 false (yab zag m.pairs)],.box 34 (zah a1),.row 78 (γ 3) false (yab eOut []),.box 57 (cJob a2),.box 25 [vU a3,vH a4]]⟩)
 | .inr (b0,b1,b2,b3)=>(.ret,⟨bd 6 (.bptr 2 0:: .sl 6 (γ 6)::bd 121 []),[.box 34 (zah n),.box 39 [vI m.kind,vW m.rid,vB m.code,vF false,vU m.id,vT m.key,vT m.val,vU m.peer.id,vH m.peer.addr,.lit 25 false (yab zad m.peers),.lit 76 false (yab zag m.pairs)],.box 34 (zah b0),.row 78 (γ 3) false (yab eOut []),.box 57 (cJob b1),.box 25 [vU b2,vH b3],.row 78 (γ 6) false (yab eOut [])]⟩)
instance {n id m}:InjS (zgL n id m):=⟨by unfold zgL;exact ij_⟩
def zpD(n:Node)(id:Int)(m:Msg)(b4:Job)(zbD:Int)(za6:Int):Option (zj3):=asks (fun γ=>(lim F pr).seg [10,5,3,9,6] zBG ⟨bd 3 (.bptr 0 0::bd 2 (.bptr 2 0::bd 2 (.bptr 4 0::bd 1 (.bptr 5 0::bd 117 [])))),[.box 34 (zah n),.box 39 [vI m.kind,vW m.rid,vB m.code,vF false,vU m.id,vT m.key,vT m.val,vU m.peer.id,vH m.peer.addr,.lit 25 false (yab zad m.peers),.lit 76 false (yab zag m.pairs)],.box 34 ([vU 0,vH 0,vI 0,vF false,.lit 0 true [],.lit 0 true [],.lit 0 true [],.lit 0 true [],.lit 0 true [],.lit 0 true [],.lit 0 true [],vW 0,vI 0,vI 0]),.row 78 (γ 3) false (yab eOut []),.box 57 (cJob b4),.box 25 [vU zbD,vH za6]]⟩) (zgL n id m)
abbrev znc:=(Node×Job×Int×Int)⊕((List Out)×Node×Job×Int×Int)
def zgK(n:Node)(id:Int)(m:Msg)(γ:Nat->Nat):znc->X×St
 | .inl (a0,a1,a2,a3)=>(.ret,⟨bd 6 (.bptr 2 0:: .sl 6 (γ 6)::bd 121 []),[.box 34 (zah n),.box 39 [vI m.kind,vW m.rid,vB m.code,vF false,vU m.id,vT m.key,vT m.val,vU m.peer.id,vH m.peer.addr,.lit 25 false (yab zad m.peers),.lit 76 false (yab zag m.pairs)],.box 34 (zah a0),.row 78 (γ 3) false (yab eOut []),.box 57 (cJob a1),.box 25 [vU a2,vH a3],.row 78 (γ 6) false (yab eOut [])]⟩)
 | .inr (b0,b1,b2,b3,b4)=>(.ret,⟨bd 6 (.bptr 2 0:: .lit 78 false (yab eOut b0)::bd 121 []),[.box 34 (zah n),.box 39 [vI m.kind,vW m.rid,vB m.code,vF false,vU m.id,vT m.key,vT m.val,vU m.peer.id,vH m.peer.addr,.lit 25 false (yab zad m.peers),.lit 76 false (yab zag m.pairs)],.box 34 (zah b1),.row 78 (γ 3) false (yab eOut []),.box 57 (cJob b2),.box 25 [vU b3,vH b4]]⟩)
instance {n id m}:InjS (zgK n id m):=⟨by unfold zgK;exact ij_⟩
def zgI(n:Node)(id:Int)(m:Msg)(b4:Job)(zbD:Int)(za6:Int):Option (znc):=asks (fun γ=>(lim F pr).seg [10,5,3,9,6] zBF ⟨bd 3 (.bptr 0 0::bd 2 (.bptr 2 0::bd 2 (.bptr 4 0::bd 1 (.bptr 5 0::bd 117 [])))),[.box 34 (zah n),.box 39 [vI m.kind,vW m.rid,vB m.code,vF false,vU m.id,vT m.key,vT m.val,vU m.peer.id,vH m.peer.addr,.lit 25 false (yab zad m.peers),.lit 76 false (yab zag m.pairs)],.box 34 ([vU 0,vH 0,vI 0,vF false,.lit 0 true [],.lit 0 true [],.lit 0 true [],.lit 0 true [],.lit 0 true [],.lit 0 true [],.lit 0 true [],vW 0,vI 0,vI 0]),.row 78 (γ 3) false (yab eOut []),.box 57 (cJob b4),.box 25 [vU zbD,vH za6]]⟩) (zgK n id m)
def zbW(n:Node)(id:Int)(m:Msg)(at_:Int):Option (zj5):=
 (xget eJob n.jobs at_).bind fun x=>
 bif yac.ieq m.kind 12 then
  (zne n x (yac.iwrap .i64 m.code)).bind fun⟨r0,r1⟩=>
  some (.inl (r1,m.has,r0))
 else
  bif yac.ieq m.kind 2 then
   bif m.has then
    bif yac.ieq (xlen zad m.peers) 0 then some (.inr (.inl (true,x)))else
    (xget zad m.peers 0).bind fun x1=>
    (zwI n x x1).bind fun⟨r0,r1⟩=>
    some (.inl (r1,true,r0))
   else
    (zcS n id m 0 x).bind fun r=>match r with
     | .inl (t7,b2,b4)=>
      some (.inl (t7,false,b2))
     | .inr (.inl (b2,b4,zbD,za6))=>
      some (.inr (.inr (b2,b4,zbD,za6)))
     | .inr (.inr b4)=>
      (zne n b4 15).bind fun⟨r0,r1⟩=>
      some (.inl (r1,false,r0))
  else
   some (.inr (.inl (m.has,x)))
theorem zdi{n id m at_ r}:zbW n id m at_=some r->zpE n id m at_=some r:=by
 unfold zbW;refine kas fun γ=>kb fun x h1=>kc (fun h2=>kb fun⟨r0,r1⟩ h3=>ls [0,0,0,γ 3] ?_) fun h2=>kc (fun h3=>kc (fun h4=>kc (fun h5=>ls [0,0,0,γ 3,0,0] ?_) fun h5=>kb fun x1 h6=>kb fun⟨r0,r1⟩ h7=>ls [0,0,0,γ 3] ?_) fun h4=>ks [0,0,0,γ 3] fun| .inl ⟨t7,b2,b4⟩,γ1,h5=>(ls [0,0,0,γ1 3] ?_)| .inr (.inl ⟨b2,b4,zbD,za6⟩),γ1,h5=>(ls [0,0,0,γ1 3,0,0,γ1 6] ?_)| .inr (.inr b4),γ1,h5=>(kb fun⟨r0,r1⟩ h6=>ls [0,0,0,γ1 3] ?_)) fun h3=>ls [0,0,0,γ 3,0,0] ?_
 all_goals (dsimp only[R2,zgH,zgM]at *;show Ifc.apart IF_ _ (zH0 zwj) _=_;generalize zwj=c0 at *;(try dsimp only[zad,zaa,zab,zag,zaL,eJob,zaj,zaI,eMsg,eOut,zbE,cJob,zah,cMsg,zau,capp]at *);(try simp only[yaT,ybW]at *);(try generalize m.has=q0 at *);exact fin_)
def zey(n:Node)(id:Int)(m:Msg)(i:Int)(b4:Job):Option (zj1):=
 bif yac.ilt i (xlen zad m.peers)then
  (xget zad m.peers i).bind fun x=>
  bif yac.ieq x.addr n.me.addr then zcS n id m (yac.iadd .i64 i 1) b4 else
  (zny b4.at_.id x.id b4.target).bind fun res=>
  bif res then
   (zpD n id m b4 x.id x.addr).bind fun r=>match r with
    | .inl (t7,b2,b41,zbD,za6)=>
     some (.inl (t7,b2,b41))
    | .inr (b2,b41,zbD,za6)=>
     some (.inr (.inl (b2,b41,zbD,za6)))
  else
   zcS n id m (yac.iadd .i64 i 1) b4
 else
  some (.inr (.inr b4))
theorem zj2{n id m i b4 r}:zey n id m i b4=some r->zcS n id m i b4=some r:=by
 unfold zey;refine kas fun γ=>kc (fun h1=>kb fun x h2=>kc (fun h3=>lg [0,0,0,γ 3] fun γ' h0=>?_) fun h3=>kb fun res h4=>kc (fun h5=>ks [0,0,0,γ 3] fun| .inl ⟨t7,b2,b41,zbD,za6⟩,γ2,h6=>(lr [0,0,0,γ2 3] ?_)| .inr ⟨b2,b41,zbD,za6⟩,γ2,h6=>(lr [0,0,0,γ2 3,0,0,γ2 6] ?_)) fun h5=>lg [0,0,0,γ 3] fun γ' h0=>?_) fun h1=>lr [0,0,0,γ 3] ?_
 all_goals (dsimp only[R1,zgH,zgL]at *;show zaE IF_ _ _ zwj (zHZ zBG) _=_;generalize zwj=c0,zBG=c1 at *;exact fin_)
def zez(n:Node)(id:Int)(m:Msg)(b4:Job)(zbD:Int)(za6:Int):Option (zj3):=
 bif yac.ilt 63 b4.hops then
  bif yac.ieq b4.kind 1 then
   (zne n b4 19).bind fun⟨r0,r1⟩=>
   some (.inl (r1,r0,b4,zbD,za6))
  else
   (zgI n id m b4 zbD za6).bind fun r=>match r with
    | .inl (b2,b41,ziS,zeI)=>
     some (.inr (b2,b41,ziS,zeI))
    | .inr (t7,b2,b41,ziS,zeI)=>
     some (.inl (t7,b2,b41,ziS,zeI))
 else
  (zgI n id m b4 zbD za6).bind fun r=>match r with
   | .inl (b2,b41,ziS,zeI)=>
    some (.inr (b2,b41,ziS,zeI))
   | .inr (t7,b2,b41,ziS,zeI)=>
    some (.inl (t7,b2,b41,ziS,zeI))
theorem zj4{n id m b4 zbD za6 r}:zez n id m b4 zbD za6=some r->zpD n id m b4 zbD za6=some r:=by
 unfold zez;refine kas fun γ=>kc (fun h1=>kc (fun h2=>kb fun⟨r0,r1⟩ h3=>ls [0,0,0,γ 3] ?_) fun h2=>ks [0,0,0,γ 3] fun| .inl ⟨b2,b41,ziS,zeI⟩,γ1,h3=>(ls [0,0,0,γ1 3,0,0,γ1 6] ?_)| .inr ⟨t7,b2,b41,ziS,zeI⟩,γ1,h3=>(ls [0,0,0,γ1 3] ?_)) fun h1=>ks [0,0,0,γ 3] fun| .inl ⟨b2,b41,ziS,zeI⟩,γ1,h2=>(ls [0,0,0,γ1 3,0,0,γ1 6] ?_)| .inr ⟨t7,b2,b41,ziS,zeI⟩,γ1,h2=>(ls [0,0,0,γ1 3] ?_)
 all_goals (dsimp only[R2,zgK,zgL]at *;show Ifc.apart IF_ _ (zHY zBF) _=_;generalize zBF=c0 at *;exact fin_)
def zgJ(n:Node)(id:Int)(m:Msg)(b4:Job)(zbD:Int)(za6:Int):Option (znc):=
 bif yac.ilt 63 b4.hops then
  (zbv n b4 false ⟨#[]⟩ 19).bind fun res=>
  some (.inl (res,b4,zbD,za6))
 else
  bif yac.ilt b4.hops 0 then
   (zjn n (⟨b4.id,b4.kind,b4.bit,b4.key,b4.val,b4.target,b4.via,b4.at_,b4.doing,yac.iadd .i64 0 1,b4.tries,b4.due⟩:Job) (⟨zbD,za6⟩:Peer)).bind fun⟨r0,r1⟩=>
   some (.inr (r1,r0,(⟨b4.id,b4.kind,b4.bit,b4.key,b4.val,b4.target,b4.via,b4.at_,b4.doing,yac.iadd .i64 0 1,b4.tries,b4.due⟩:Job),zbD,za6))
  else
   (zjn n (⟨b4.id,b4.kind,b4.bit,b4.key,b4.val,b4.target,b4.via,b4.at_,b4.doing,yac.iadd .i64 b4.hops 1,b4.tries,b4.due⟩:Job) (⟨zbD,za6⟩:Peer)).bind fun⟨r0,r1⟩=>
   some (.inr (r1,r0,(⟨b4.id,b4.kind,b4.bit,b4.key,b4.val,b4.target,b4.via,b4.at_,b4.doing,yac.iadd .i64 b4.hops 1,b4.tries,b4.due⟩:Job),zbD,za6))
theorem znd{n id m b4 zbD za6 r}:zgJ n id m b4 zbD za6=some r->zgI n id m b4 zbD za6=some r:=by
 unfold zgJ;refine kas fun γ=>kc (fun h1=>kb fun res h2=>ls [0,0,0,γ 3,0,0,0] ?_) fun h1=>kc (fun h2=>kb fun⟨r0,r1⟩ h3=>ls [0,0,0,γ 3] ?_) fun h2=>kb fun⟨r0,r1⟩ h3=>ls [0,0,0,γ 3] ?_
 all_goals (dsimp only[R1,R2,zgK]at *;show Ifc.apart IF_ _ zHX _=_;exact fin_)
def zrk(n:Node)(id:Int)(m:Msg):Option ((Node×(List Out))):=
 (zqy n id).bind fun res=>
 bif yac.ilt res 0 then some (n,[])else
 (xget eJob n.jobs res).bind fun x=>
 bif x.doing then some (n,[])else
 (zpE n id m res).bind fun r=>match r with
  | .inl (t7,za1,b2)=>
   some (b2,t7)
  | .inr (.inl (za1,b4))=>
   some (n,[])
  | .inr (.inr (b2,b4,zbD,za6))=>
   some (b2,[])
theorem zEy{n id m r}:zrk n id m=some r->zlM n id m=some r:=by
 unfold zrk;refine ka (kb fun res h1=>kc (fun h2=>l0 rfl ?_) fun h2=>kb fun x h3=>kc (fun h4=>l0 rfl ?_) fun h4=>ks [0,0,0,0] fun| .inl ⟨t7,za1,b2⟩,γ2,h5=>(l0 rfl ?_)| .inr (.inl ⟨za1,b4⟩),γ2,h5=>(l0 rfl ?_)| .inr (.inr ⟨b2,b4,zbD,za6⟩),γ2,h5=>(l0 rfl ?_))
 all_goals (dsimp only[R1,R2,zgM]at *;show zak IF_ (g53F zBH) _ _=_;generalize zBH=c0 at *;(try dsimp only[zad,zaa,zab,zag,zaL,eJob,zaj,zaI,eMsg,eOut,zbE,cJob,zah,cMsg,zau,capp]at *);(try simp only[yaT,ybW]at *);(try generalize x.doing=q0 at *);exact fin_)
end Go.Ab.Tryz
