/- Our texts for this statement, merged: what its theorem leads to. -/
import Derived.Test.YtdjoeakbjackbaaGreatDoorQLm9
set_option linter.unusedVariables false
set_option linter.unusedSimpArgs false
noncomputable section
namespace Go.Ab.Tryz
open Go Go.Ab Go.Proofs
set_option maxRecDepth 10000
set_option maxHeartbeats 4000000
open Go.Ab.Ops renaming std->yab
open List renaming map->yac
def zqG(n:Node)(j:Job):Option ((Node×(List Out))):=
 bif yab.ieq j.kind 1 then
  zqF n (⟨j.id,j.kind,j.bit,j.key,j.val,j.target,j.via,j.at_,false,0,j.tries,j.due⟩:Job) j.via
 else
  (zuj n j.target).bind fun⟨r0,r1,r2⟩=>
  bif r2 then
   zwu n (⟨j.id,j.kind,j.bit,j.key,j.val,j.target,j.via,j.at_,false,0,j.tries,j.due⟩:Job) r0
  else
   (xget zad r1 0).bind fun x=>
   zqF n (⟨j.id,j.kind,j.bit,j.key,j.val,j.target,j.via,j.at_,false,1,j.tries,j.due⟩:Job) x
theorem zC7{n j r}:zqG n j=some r->zkU n j=some r:=by
 unfold zqG;refine ka (kc (fun h1=>pb fun⟨r0,r1⟩ h2=>l0 rfl ?_) fun h1=>kb fun⟨r0,r1,r2⟩ h2=>kc (fun h3=>pb fun⟨r01,r11⟩ h4=>l0 rfl ?_) fun h3=>kb fun x h4=>pb fun⟨r01,r11⟩ h5=>l0 rfl ?_)
 all_goals (dsimp only[R2,R3]at *;show zah IF_ zHh _ _=_;exact fin_)
def zov(a:Int)(b:Int):Option (Int):=
 some (yab.isub .u64 b a)
theorem ztN{a b r}:zov a b=some r->zlG a b=some r:=by
 unfold zov;refine ka (l0 rfl ?_)
 all_goals (dsimp only[R1]at *;show zah IF_ zGS _ _=_;exact fin_)
def zdz(γ:Nat->Nat):(List Peer)->X×St
 |a0=>(.brk 0,⟨bd 5 (.sl 1 (γ 1)::bd 18 []),[.row 25 (γ 0) false (yac zad []),.row 25 (γ 1) false (yac zad a0)]⟩)
instance :InjS zdz:=⟨by unfold zdz;exact ij_⟩
def zew(l:List Entry)(t10:Int)(r1:List Peer):Option ((List Peer)):=asks (fun γ=>(lim F pr).loop [9,8,1,10,5] 2 zoL ⟨bd 1 (.fn 159 []::bd 3 (.sl 1 (γ 1)::bd 2 (.lit 55 false (yac zab l)::vI (xlen zab l)::vI t10::bd 13 []))),[.row 25 (γ 0) false (yac zad []),.row 25 (γ 1) false (yac zad r1)]⟩) zdz
def zdy(l:List Entry)(t10:Int)(r1:List Peer):Option ((List Peer)):=
 bif yab.ilt t10 (xlen zab l)then
  (xget zab l t10).bind fun x=>
  (zqa x).bind fun res=>
  bif res then
   bif zaA zad 16 r1 [x.peer]then zew l (yab.iadd .i64 t10 1) (r1++[x.peer])else
   none
  else
   zew l (yab.iadd .i64 t10 1) r1
 else
  some r1
theorem zma{l t10 r1 r}:zdy l t10 r1=some r->zew l t10 r1=some r:=by
 unfold zdy;refine kas fun γ=>kc (fun h1=>kb fun x h2=>kb fun res h3=>kc (fun h4=>k1 fun h5=>lg [γ 0,((γ 1)+1)] fun γ' h0=>?_) fun h4=>lg [γ 0,γ 1] fun γ' h0=>?_) fun h1=>lr [γ 0,γ 1] ?_
 all_goals (dsimp only[R1,zdz]at *;show zaz IF_ _ _ zoL zAU _=_;generalize zoL=c0 at *;exact fin_)
def zkI(l:List Entry):Option ((List Peer)):=
 zew l 0 []
theorem zwg{l r}:zkI l=some r->zsa l=some r:=by
 unfold zkI;refine ka (ps [0,0] fun r1 γ1 h1=>l0 rfl ?_)
 all_goals (dsimp only[K1,zdz]at *;show zah IF_ (zGX zoL) _ _=_;generalize zoL=c0 at *;exact fin_)
def zpe(q:Peer)(zau:Int)(zaj:Int):Option (Bool):=
 some (yab.ieq q.addr zaj)
theorem zv3{q zau zaj r}:zpe q zau zaj=some r->zmG q zau zaj=some r:=by
 unfold zpe;refine ka (l0 rfl ?_)
 all_goals (dsimp only[zfb]at *;show zah IF_ zHF _ _=_;exact fin_)
def zcF(zau:Int)(zaj:Int)(γ:Nat->Nat):Int⊕Unit->X×St
 | .inl a0=>(.ret,⟨bd 4 (vI a0::bd 14 []),[.box 25 [vU zau,vH zaj]]⟩)
 | .inr ()=>(.brk 0,⟨bd 19 [],[.box 25 [vU zau,vH zaj]]⟩)
instance {zau zaj}:InjS (zcF zau zaj):=⟨by unfold zcF;exact ij_⟩
def zeS(s:List Peer)(zau:Int)(zaj:Int)(t8:Int):Option (Int⊕Unit):=asks (fun γ=>(lim F pr).loop [7,1,0,8] 1 zoP ⟨.lit 25 false (yac zad s):: .fn 264 [.bptr 0 0]::bd 5 (vI (xlen zad s)::vI t8::bd 10 []),[.box 25 [vU zau,vH zaj]]⟩) (zcF zau zaj)
def zcE(s:List Peer)(zau:Int)(zaj:Int)(t8:Int):Option (Int⊕Unit):=
 bif yab.ilt t8 (xlen zad s)then
  (xget zad s t8).bind fun x=>
  (zmG x zau zaj).bind fun res=>
  bif res then some (.inl t8)else
  zeS s zau zaj (yab.iadd .i64 t8 1)
 else
  some (.inr ())
theorem zg2{s zau zaj t8 r}:zcE s zau zaj t8=some r->zeS s zau zaj t8=some r:=by
 unfold zcE;refine kas fun γ=>kc (fun h1=>kb fun x h2=>kb fun res h3=>kc (fun h4=>lr [] ?_) fun h4=>lg [] fun γ' h0=>?_) fun h1=>lr [] ?_
 all_goals (dsimp only[zcF,zfb]at *;show zaz IF_ _ _ zoP zA0 _=_;generalize zoP=c0 at *;exact fin_)
def zjd(s:List Peer)(zau:Int)(zaj:Int):Option (Int):=
 (zeS s zau zaj 0).bind fun r=>match r with
  | .inl t4=>
   some t4
  | .inr ()=>
   some (-1)
theorem ztU{s zau zaj r}:zjd s zau zaj=some r->zkq s zau zaj=some r:=by
 unfold zjd;refine ka (ks [] fun| .inl t4,γ1,h1=>(l0 rfl ?_)| .inr _,γ1,h1=>(l0 rfl ?_))
 all_goals (dsimp only[zdS,zcF]at *;show zah IF_ (zHa zoP) _ _=_;generalize zoP=c0 at *;exact fin_)
def zr5(s:ByteArray):Option (Bool):=
 bif yab.seq s ⟨#[]⟩then some false else
 bif yab.ile (yab.slen s) 96 then
  (zsJ s).bind fun res=>
  bif res then
   (zsI s).bind fun res1=>
   some (yab.ile res1 32)
  else
   some false
 else
  some false
theorem zEm{s r}:zr5 s=some r->zwe s=some r:=by
 unfold zr5;refine ka (kc (fun h1=>l0 rfl ?_) fun h1=>kc (fun h2=>kb fun res h3=>kc (fun h4=>kb fun res1 h5=>l0 rfl ?_) fun h4=>l0 rfl ?_) fun h2=>l0 rfl ?_)
 all_goals (dsimp only[R1]at *;show zah IF_ zHq _ _=_;exact fin_)
def zro(p:Pair)(b0:ByteArray):Option (Bool):=
 some (yab.slt b0 p.key)
theorem zxK{p b0 r}:zro p b0=some r->zox p b0=some r:=by
 unfold zro;refine ka (l0 rfl ?_)
 all_goals (dsimp only[zgO]at *;show zah IF_ zHJ _ _=_;exact fin_)
def zcd(b0:ByteArray)(γ:Nat->Nat):Int⊕Unit->X×St
 | .inl a0=>(.ret,⟨bd 4 (vI a0::bd 14 []),[.box 9 [vT b0]]⟩)
 | .inr ()=>(.brk 0,⟨bd 19 [],[.box 9 [vT b0]]⟩)
instance {b0}:InjS (zcd b0):=⟨by unfold zcd;exact ij_⟩
def zd8(s:List Pair)(b0:ByteArray)(t8:Int):Option (Int⊕Unit):=asks (fun γ=>(lim F pr).loop [7,1,0,8] 1 zhl ⟨.lit 76 false (yac zag s):: .fn 275 [.bptr 0 0]::bd 5 (vI (xlen zag s)::vI t8::bd 10 []),[.box 9 [vT b0]]⟩) (zcd b0)
def zcc(s:List Pair)(b0:ByteArray)(t8:Int):Option (Int⊕Unit):=
 bif yab.ilt t8 (xlen zag s)then
  (xget zag s t8).bind fun x=>
  (zox x b0).bind fun res=>
  bif res then some (.inl t8)else
  zd8 s b0 (yab.iadd .i64 t8 1)
 else
  some (.inr ())
theorem ze2{s b0 t8 r}:zcc s b0 t8=some r->zd8 s b0 t8=some r:=by
 unfold zcc;refine kas fun γ=>kc (fun h1=>kb fun x h2=>kb fun res h3=>kc (fun h4=>lr [] ?_) fun h4=>lg [] fun γ' h0=>?_) fun h1=>lr [] ?_
 all_goals (dsimp only[zcd,zgO]at *;show zaz IF_ _ _ zhl zvU _=_;generalize zhl=c0 at *;exact fin_)
def zhh(s:List Pair)(b0:ByteArray):Option (Int):=
 (zd8 s b0 0).bind fun r=>match r with
  | .inl t4=>
   some t4
  | .inr ()=>
   some (-1)
theorem zrx{s b0 r}:zhh s b0=some r->zjc s b0=some r:=by
 unfold zhh;refine ka (ks [] fun| .inl t4,γ1,h1=>(l0 rfl ?_)| .inr _,γ1,h1=>(l0 rfl ?_))
 all_goals (dsimp only[zcY,zcd]at *;show zah IF_ (zCg zhl) _ _=_;generalize zhl=c0 at *;exact fin_)
def znS(p:Pair)(b0:ByteArray):Option (Bool):=
 some (yab.seq p.key b0)
theorem znT{p b0 r}:znS p b0=some r->zi7 p b0=some r:=by
 unfold znS;refine ka (l0 rfl ?_)
 all_goals (dsimp only[zeF]at *;show zah IF_ zHO _ _=_;exact fin_)
def zcf(b0:ByteArray)(γ:Nat->Nat):Int⊕Unit->X×St
 | .inl a0=>(.ret,⟨bd 4 (vI a0::bd 14 []),[.box 9 [vT b0]]⟩)
 | .inr ()=>(.brk 0,⟨bd 19 [],[.box 9 [vT b0]]⟩)
instance {b0}:InjS (zcf b0):=⟨by unfold zcf;exact ij_⟩
def zd9(s:List Pair)(b0:ByteArray)(t8:Int):Option (Int⊕Unit):=asks (fun γ=>(lim F pr).loop [7,1,0,8] 1 zhl ⟨.lit 76 false (yac zag s):: .fn 283 [.bptr 0 0]::bd 5 (vI (xlen zag s)::vI t8::bd 10 []),[.box 9 [vT b0]]⟩) (zcf b0)
def zce(s:List Pair)(b0:ByteArray)(t8:Int):Option (Int⊕Unit):=
 bif yab.ilt t8 (xlen zag s)then
  (xget zag s t8).bind fun x=>
  (zi7 x b0).bind fun res=>
  bif res then some (.inl t8)else
  zd9 s b0 (yab.iadd .i64 t8 1)
 else
  some (.inr ())
theorem ze3{s b0 t8 r}:zce s b0 t8=some r->zd9 s b0 t8=some r:=by
 unfold zce;refine kas fun γ=>kc (fun h1=>kb fun x h2=>kb fun res h3=>kc (fun h4=>lr [] ?_) fun h4=>lg [] fun γ' h0=>?_) fun h1=>lr [] ?_
 all_goals (dsimp only[zcf,zeF]at *;show zaz IF_ _ _ zhl zvU _=_;generalize zhl=c0 at *;exact fin_)
def zhi(s:List Pair)(b0:ByteArray):Option (Int):=
 (zd9 s b0 0).bind fun r=>match r with
  | .inl t4=>
   some t4
  | .inr ()=>
   some (-1)
theorem zry{s b0 r}:zhi s b0=some r->zmv s b0=some r:=by
 unfold zhi;refine ka (ks [] fun| .inl t4,γ1,h1=>(l0 rfl ?_)| .inr _,γ1,h1=>(l0 rfl ?_))
 all_goals (dsimp only[zcZ,zcf]at *;show zah IF_ (zCg zhl) _ _=_;generalize zhl=c0 at *;exact fin_)
def zmZ(n:Node)(id:Int)(has:Bool)(val:ByteArray)(e_:Int):Option (Node):=
 (zmY n.jobs id).bind fun res=>
 bif yab.ilt res 0 then some n else
 (xget eJob n.jobs res).bind fun x=>
 (zui n.results x has val e_).bind fun res1=>
 (zoq n.jobs res).bind fun res2=>
 some (⟨n.me,n.clock,n.joined,n.pred,n.list,n.fingers,n.store,n.pends,res2,res1,n.rid,n.jobID,n.nextBit⟩:Node)
theorem zy9{n id has val e_ r}:zmZ n id has val e_=some r->zqz n id has val e_=some r:=by
 unfold zmZ;refine ka (kb fun res h1=>kc (fun h2=>l0 rfl ?_) fun h2=>kb fun x h3=>kb fun res1 h4=>kb fun res2 h5=>l0 rfl ?_)
 all_goals (dsimp only[R1]at *;show zah IF_ zHl _ _=_;exact fin_)
def zvw(n:Node)(j:Job)(to_:Peer):Option ((Node×(List Out))):=
 (zfA n (⟨j.id,j.kind,j.bit,j.key,j.val,j.target,j.via,to_,j.doing,j.hops,j.tries,j.due⟩:Job)).bind fun res=>
 zh7 res to_ (⟨1,0,0,false,j.target,⟨#[]⟩,⟨#[]⟩,(⟨0,0⟩:Peer),[],[]⟩:Msg) 4 j.id
theorem zC6{n j to_ r}:zvw n j to_=some r->zqF n j to_=some r:=by
 unfold zvw;refine ka (kb fun res h1=>pb fun⟨r0,r1⟩ h2=>l0 rfl ?_)
 all_goals (dsimp only[R1,R2]at *;show zah IF_ zGJ _ _=_;exact fin_)
abbrev zl4:=(Int×Int×(List Peer))⊕((List Peer)×(List Peer))
def zgH(n:Node)(γ:Nat->Nat):zl4->X×St
 | .inl (a0,a1,a2)=>(.ret,⟨bd 4 (.bptr 1 0:: .sl 4 (γ 4)::vF true::bd 71 []),[.box 34 (zal n),.box 25 [vU a0,vH a1],.row 25 (γ 2) false (yac zad []),.row 25 (γ 3) false (yac zad a2),.row 25 (γ 4) false (yac zad [])]⟩)
 | .inr (b0,b1)=>(.ret,⟨bd 4 (.bptr 1 0:: .lit 25 false (yac zad b0)::vF false::bd 71 []),[.box 34 (zal n),.box 25 [vU 0,vH 0],.row 25 (γ 2) false (yac zad []),.row 25 (γ 3) false (yac zad b1)]⟩)
instance {n}:InjS (zgH n):=⟨by unfold zgH;exact ij_⟩
def zor(n:Node)(key:Int)(r3:List Peer):Option (zl4):=asks (fun γ=>(lim F pr).seg [4,5,6] zuU ⟨bd 1 (vU key:: .bptr 0 0::bd 1 (.bptr 1 0::bd 2 (.sl 3 (γ 3)::bd 70 []))),[.box 34 (zal n),.box 25 [vU 0,vH 0],.row 25 (γ 2) false (yac zad []),.row 25 (γ 3) false (yac zad r3)]⟩) (zgH n)
abbrev zl2:=(List Peer)⊕((List Peer)×(List Peer))
def zgG(n:Node)(γ:Nat->Nat):zl2->X×St
 | .inl a0=>(.ret,⟨bd 4 (.bptr 1 0:: .sl 4 (γ 4)::vF true::bd 71 []),[.box 34 (zal n),.box 25 [vU n.me.id,vH n.me.addr],.row 25 (γ 2) false (yac zad []),.row 25 (γ 3) false (yac zad a0),.row 25 (γ 4) false (yac zad [])]⟩)
 | .inr (b0,b1)=>(.ret,⟨bd 4 (.bptr 1 0:: .lit 25 false (yac zad b0)::vF false::bd 71 []),[.box 34 (zal n),.box 25 [vU 0,vH 0],.row 25 (γ 2) false (yac zad []),.row 25 (γ 3) false (yac zad b1)]⟩)
instance {n}:InjS (zgG n):=⟨by unfold zgG;exact ij_⟩
def zgU(n:Node)(key:Int)(r3:List Peer):Option (zl2):=asks (fun γ=>(lim F pr).seg [4,5,6] zuT ⟨bd 1 (vU key:: .bptr 0 0::bd 1 (.bptr 1 0::bd 73 [])),[.box 34 (zal n),.box 25 [vU 0,vH 0],.row 25 (γ 2) false (yac zad []),.row 25 (γ 3) false (yac zad r3)]⟩) (zgG n)
def ziZ(n:Node)(key:Int)(r3:List Peer):Option (zl4):=
 (xget zad r3 0).bind fun x=>
 (zmS n.me.id key x.id).bind fun res=>
 bif res then some (.inl (x.id,x.addr,r3))else
 bif yab.ilt 0 (xlen zab n.pred)then
  (xget zab n.pred 0).bind fun x1=>
  bif yab.ilt x1.misses 1 then
   (zmS x1.peer.id key n.me.id).bind fun res1=>
   bif res1 then some (.inl (n.me.id,n.me.addr,r3))else
   (zgU n key r3).bind fun r=>match r with
    | .inl r31=>
     some (.inl (n.me.id,n.me.addr,r31))
    | .inr (t5,r31)=>
     some (.inr (t5,r31))
  else
   (zgU n key r3).bind fun r=>match r with
    | .inl r31=>
     some (.inl (n.me.id,n.me.addr,r31))
    | .inr (t5,r31)=>
     some (.inr (t5,r31))
 else
  (zgU n key r3).bind fun r=>match r with
   | .inl r31=>
    some (.inl (n.me.id,n.me.addr,r31))
   | .inr (t5,r31)=>
    some (.inr (t5,r31))
theorem zxA{n key r3 r}:ziZ n key r3=some r->zor n key r3=some r:=by
 unfold ziZ;refine kas fun γ=>kb fun x h1=>kb fun res h2=>kc (fun h3=>ls [0,0,γ 2,γ 3,0] ?_) fun h3=>kc (fun h4=>kb fun x1 h5=>kc (fun h6=>kb fun res1 h7=>kc (fun h8=>ls [0,0,γ 2,γ 3,0] ?_) fun h8=>ks [0,0,γ 2,γ 3] fun| .inl r31,γ3,h9=>(ls [0,0,γ3 2,γ3 3,γ3 4] ?_)| .inr ⟨t5,r31⟩,γ3,h9=>(ls [0,0,γ3 2,γ3 3] ?_)) fun h6=>ks [0,0,γ 2,γ 3] fun| .inl r31,γ2,h7=>(ls [0,0,γ2 2,γ2 3,γ2 4] ?_)| .inr ⟨t5,r31⟩,γ2,h7=>(ls [0,0,γ2 2,γ2 3] ?_)) fun h4=>ks [0,0,γ 2,γ 3] fun| .inl r31,γ2,h5=>(ls [0,0,γ2 2,γ2 3,γ2 4] ?_)| .inr ⟨t5,r31⟩,γ2,h5=>(ls [0,0,γ2 2,γ2 3] ?_)
 all_goals (dsimp only[R1,zgG,zgH]at *;show Ifc.apart IF_ _ (zAW zuT) _=_;generalize zuT=c0 at *;exact fin_)
def zl3(n:Node)(key:Int)(r3:List Peer):Option (zl2):=
 (zuf n.me n.list n.fingers key 4).bind fun res=>
 bif yab.ieq (xlen zad res) 0 then some (.inl r3)else
 some (.inr (res,r3))
theorem zxz{n key r3 r}:zl3 n key r3=some r->zgU n key r3=some r:=by
 unfold zl3;refine kas fun γ=>kb fun res h1=>kc (fun h2=>ls [0,0,γ 2,γ 3,0] ?_) fun h2=>ls [0,0,γ 2,γ 3] ?_
 all_goals (dsimp only[R1,zgG]at *;show Ifc.apart IF_ _ zAV _=_;exact fin_)
def zqB(n:Node)(key:Int):Option ((Peer×(List Peer)×Bool)):=
 (zmT n.list).bind fun res=>
 bif yab.ieq (xlen zad res) 0 then some (n.me,[],true)else
 bif yab.ieq key n.me.id then some (n.me,[],true)else
 (zor n key res).bind fun r=>match r with
  | .inl (zuW,zoO,r3)=>
   some ((⟨zuW,zoO⟩:Peer),[],true)
  | .inr (t5,r3)=>
   some ((⟨0,0⟩:Peer),t5,false)
theorem zC1{n key r}:zqB n key=some r->zuj n key=some r:=by
 unfold zqB;refine ka (kb fun res h1=>kc (fun h2=>l0 rfl ?_) fun h2=>kc (fun h3=>l0 rfl ?_) fun h3=>ks [0,0,0,0] fun| .inl ⟨zuW,zoO,r3⟩,γ2,h4=>(l0 rfl ?_)| .inr ⟨t5,r3⟩,γ2,h4=>(l0 rfl ?_))
 all_goals (dsimp only[K1,R3,zgH]at *;show zah IF_ (zGZ zuU) _ _=_;generalize zuU=c0 at *;exact fin_)
abbrev zj4:=((List Out)×Node×Node)⊕((Node×Node×Node)⊕((Node×Node)⊕(Node×Node)))
def zhI(j:Job)(owner:Peer)(γ:Nat->Nat):zj4->X×St
 | .inl (a0,a1,a2)=>(.ret,⟨bd 6 (.bptr 3 0:: .lit 78 false (yac eOut a0)::bd 123 []),[.box 34 (zal a1),.box 57 (cJob j),.box 25 [vU owner.id,vH owner.addr],.box 34 (zal a2),.row 78 (γ 4) false (yac eOut [])]⟩)
 | .inr (.inl (b0,b1,b2))=>(.ret,⟨bd 6 (.bptr 3 0:: .sl 6 (γ 6)::bd 123 []),[.box 34 (zal b0),.box 57 (cJob j),.box 25 [vU owner.id,vH owner.addr],.box 34 (zal b1),.row 78 (γ 4) false (yac eOut []),.box 34 (zal b2),.row 78 (γ 6) false (yac eOut [])]⟩)
 | .inr (.inr (.inl (c0,c1)))=>(.ret,⟨bd 6 (.bptr 3 0:: .sl 5 (γ 5)::bd 123 []),[.box 34 (zal c0),.box 57 (cJob j),.box 25 [vU owner.id,vH owner.addr],.box 34 (zal c1),.row 78 (γ 4) false (yac eOut []),.row 78 (γ 5) false (yac eOut [])]⟩)
 | .inr (.inr (.inr (d0,d1)))=>(.ret,⟨bd 6 (.bptr 3 0:: .sl 6 (γ 6)::bd 123 []),[.box 34 (zaL d0 (.sl 5 (γ 5))),.box 57 (cJob j),.box 25 [vU owner.id,vH owner.addr],.box 34 (zal d1),.row 78 (γ 4) false (yac eOut []),.row 82 (γ 5) true (yac zaa d0.fingers),.row 78 (γ 6) false (yac eOut [])]⟩)
instance {j owner}:InjS (zhI j owner):=⟨by unfold zhI;exact ij_⟩
def zj3(n:Node)(j:Job)(owner:Peer):Option (zj4):=asks (fun γ=>(lim F pr).seg [6,7] zuP ⟨bd 3 (.bptr 0 0:: .bptr 1 0:: .bptr 2 0:: .bptr 3 0::bd 124 []),[.box 34 (zal n),.box 57 (cJob j),.box 25 [vU owner.id,vH owner.addr],.box 34 ([vU 0,vH 0,vI 0,vF false,.lit 0 true [],.lit 0 true [],.lit 0 true [],.lit 0 true [],.lit 0 true [],.lit 0 true [],.lit 0 true [],vW 0,vI 0,vI 0]),.row 78 (γ 4) false (yac eOut [])]⟩) (zhI j owner)
def zhH(j:Job)(owner:Peer)(γ:Nat->Nat):(Node×(List Finger))->X×St
 |(a0,a1)=>(.brk 0,⟨bd 3 (.bptr 0 0:: .bptr 1 0::bd 1 (.bptr 3 0::bd 6 (.sl 5 (γ 5)::bd 117 []))),[.box 34 (zal a0),.box 57 (cJob j),.box 25 [vU owner.id,vH owner.addr],.box 34 ([vU 0,vH 0,vI 0,vF false,.lit 0 true [],.lit 0 true [],.lit 0 true [],.lit 0 true [],.lit 0 true [],.lit 0 true [],.lit 0 true [],vW 0,vI 0,vI 0]),.row 78 (γ 4) false (yac eOut []),.row 82 (γ 5) false (yac zaa a1)]⟩)
instance {j owner}:InjS (zhH j owner):=⟨by unfold zhH;exact ij_⟩
def zib(j:Job)(owner:Peer)(i:Int)(b0:Node)(r5:List Finger):Option ((Node×(List Finger))):=asks (fun γ=>(lim F pr).loop [14,13,3,4,6] 6 zoH ⟨bd 3 (.bptr 0 0:: .bptr 1 0::bd 1 (.bptr 3 0::bd 6 (.sl 5 (γ 5)::vI i::bd 116 []))),[.box 34 (zal b0),.box 57 (cJob j),.box 25 [vU owner.id,vH owner.addr],.box 34 ([vU 0,vH 0,vI 0,vF false,.lit 0 true [],.lit 0 true [],.lit 0 true [],.lit 0 true [],.lit 0 true [],.lit 0 true [],.lit 0 true [],vW 0,vI 0,vI 0]),.row 78 (γ 4) false (yac eOut []),.row 82 (γ 5) false (yac zaa r5)]⟩) (zhH j owner)
def zc3(n:Node)(j:Job)(owner:Peer):Option (zj4):=
 (zfA n j).bind fun res=>
 bif yab.ieq j.kind 1 then
  (ztq res j j.via).bind fun⟨r0,r1⟩=>
  some (.inl (r1,res,r0))
 else
  bif yab.ieq j.kind 2 then
   (zul res j.key j.val).bind fun⟨r0,r1,r2⟩=>
   bif yab.ieq r2 0 then
    (zcu r0 j true j.val 0).bind fun res1=>
    some (.inl (r1,res,res1))
   else
    (zcu res j false ⟨#[]⟩ r2).bind fun res1=>
    some (.inr (.inl (res,res1,r0)))
  else
   bif yab.ieq j.kind 3 then
    (zwo res.store j.key).bind fun⟨r0,r1⟩=>
    (zcu res j r1 r0 0).bind fun res1=>
    some (.inr (.inr (.inl (res,res1))))
   else
    bif yab.ieq owner.addr res.me.addr then
     (zib j owner 0 res []).bind fun⟨b0,r5⟩=>
     (zcu (⟨b0.me,b0.clock,b0.joined,b0.pred,b0.list,r5,b0.store,b0.pends,b0.jobs,b0.results,b0.rid,b0.jobID,b0.nextBit⟩:Node) j false ⟨#[]⟩ 0).bind fun res1=>
     some (.inr (.inr (.inr ((⟨b0.me,b0.clock,b0.joined,b0.pred,b0.list,r5,b0.store,b0.pends,b0.jobs,b0.results,b0.rid,b0.jobID,b0.nextBit⟩:Node),res1))))
    else
     (zwn res.fingers j.bit owner).bind fun res1=>
     (zcu (⟨res.me,res.clock,res.joined,res.pred,res.list,res1,res.store,res.pends,res.jobs,res.results,res.rid,res.jobID,res.nextBit⟩:Node) j false ⟨#[]⟩ 0).bind fun res2=>
     some (.inr (.inr (.inl ((⟨res.me,res.clock,res.joined,res.pred,res.list,res1,res.store,res.pends,res.jobs,res.results,res.rid,res.jobID,res.nextBit⟩:Node),res2))))
theorem zfC{n j owner r}:zc3 n j owner=some r->zj3 n j owner=some r:=by
 unfold zc3;refine kas fun γ=>kb fun res h1=>kc (fun h2=>kb fun⟨r0,r1⟩ h3=>ls [0,0,0,0,γ 4] ?_) fun h2=>kc (fun h3=>kb fun⟨r0,r1,r2⟩ h4=>kc (fun h5=>kb fun res1 h6=>ls [0,0,0,0,γ 4] ?_) fun h5=>kb fun res1 h6=>ls [0,0,0,0,γ 4,0,0] ?_) fun h3=>kc (fun h4=>kb fun⟨r0,r1⟩ h5=>kb fun res1 h6=>ls [0,0,0,0,γ 4,0] ?_) fun h4=>kc (fun h5=>ks [0,0,0,0,γ 4,0] fun⟨b0,r5⟩ γ2 h6=>kb fun res1 h7=>ls [0,0,0,0,γ2 4,γ2 5,0] ?_) fun h5=>kb fun res1 h6=>kb fun res2 h7=>ls [0,0,0,0,γ 4,0] ?_
 all_goals (dsimp only[R1,R2,R3,zhH,zhI]at *;show Ifc.apart IF_ _ (zAN zoH) _=_;generalize zoH=c0 at *;exact fin_)
def zj2(j:Job)(owner:Peer)(i:Int)(b0:Node)(r5:List Finger):Option ((Node×(List Finger))):=
 bif yab.ilt i (xlen zaa b0.fingers)then
  (xget zaa b0.fingers i).bind fun x=>
  bif yab.ieq x.bit j.bit then zib j owner (yab.iadd .i64 i 1) b0 r5 else
  bif zaA zaa 24 r5 [x]then zib j owner (yab.iadd .i64 i 1) b0 (r5++[x])else
  none
 else
  some (b0,r5)
theorem zsv{j owner i b0 r5 r}:zj2 j owner i b0 r5=some r->zib j owner i b0 r5=some r:=by
 unfold zj2;refine kas fun γ=>kc (fun h1=>kb fun x h2=>kc (fun h3=>lg [0,0,0,0,γ 4,γ 5] fun γ' h0=>?_) fun h3=>k1 fun h4=>lg [0,0,0,0,γ 4,((γ 5)+1)] fun γ' h0=>?_) fun h1=>lr [0,0,0,0,γ 4,γ 5] ?_
 all_goals (dsimp only[zhH]at *;show zaz IF_ _ _ zoH zAM _=_;generalize zoH=c0 at *;exact fin_)
def zsu(n:Node)(j:Job)(owner:Peer):Option ((Node×(List Out))):=
 bif yab.ieq owner.addr n.me.addr then
  (zj3 n j owner).bind fun r=>match r with
   | .inl (t7,b0,b3)=>
    some (b3,t7)
   | .inr (.inl (b0,b3,b5))=>
    some (b3,[])
   | .inr (.inr (.inl (b0,b3)))=>
    some (b3,[])
   | .inr (.inr (.inr (b0,b3)))=>
    some (b3,[])
 else
  bif yab.ieq j.kind 4 then
   (zj3 n j owner).bind fun r=>match r with
    | .inl (t7,b0,b3)=>
     some (b3,t7)
    | .inr (.inl (b0,b3,b5))=>
     some (b3,[])
    | .inr (.inr (.inl (b0,b3)))=>
     some (b3,[])
    | .inr (.inr (.inr (b0,b3)))=>
     some (b3,[])
  else
   ztq n j owner
theorem zEI{n j owner r}:zsu n j owner=some r->zwu n j owner=some r:=by
 unfold zsu;refine ka (kc (fun h1=>ks [0,0,0,0,0] fun| .inl ⟨t7,b0,b3⟩,γ1,h2=>(l0 rfl ?_)| .inr (.inl ⟨b0,b3,b5⟩),γ1,h2=>(l0 rfl ?_)| .inr (.inr (.inl ⟨b0,b3⟩)),γ1,h2=>(l0 rfl ?_)| .inr (.inr (.inr ⟨b0,b3⟩)),γ1,h2=>(l0 rfl ?_)) fun h1=>kc (fun h2=>ks [0,0,0,0,0] fun| .inl ⟨t7,b0,b3⟩,γ1,h3=>(l0 rfl ?_)| .inr (.inl ⟨b0,b3,b5⟩),γ1,h3=>(l0 rfl ?_)| .inr (.inr (.inl ⟨b0,b3⟩)),γ1,h3=>(l0 rfl ?_)| .inr (.inr (.inr ⟨b0,b3⟩)),γ1,h3=>(l0 rfl ?_)) fun h2=>pb fun⟨r0,r1⟩ h3=>l0 rfl ?_)
 all_goals (dsimp only[R2,zhI]at *;show zah IF_ (zGG zuP) _ _=_;generalize zuP=c0 at *;exact fin_)
def zr9(x:Entry):Option (Bool):=
 some (yab.ile x.misses 0)
theorem zyW{x r}:zr9 x=some r->zqa x=some r:=by
 unfold zr9;refine ka (l0 rfl ?_)
 all_goals (dsimp only[R1]at *;show zah IF_ zGY _ _=_;exact fin_)
def zfH(s:ByteArray)(γ:Nat->Nat):Int⊕Int->X×St
 | .inl a0=>(.ret,⟨bd 2 (vF false::bd 12 []),[.it s a0]⟩)
 | .inr b0=>(.brk 0,⟨bd 15 [],[.it s b0]⟩)
instance {s}:InjS (zfH s):=⟨by unfold zfH;exact ij_⟩
def zhN(s:ByteArray)(at0:Int):Option (Int⊕Int):=asks (fun γ=>(lim F pr).loop [6,0] 1 zo7 ⟨vT s::bd 5 (.bptr 0 0::bd 8 []),[.it s at0]⟩) (zfH s)
def zfG(s:ByteArray)(at0:Int):Option (Int⊕Int):=
 xopt (zqR s at0) (fun⟨c,nx⟩=>
  (zsK s at0 c).bind fun res=>
  bif res then some (.inl nx)else
  zhN s nx)
  (some (.inr at0))
theorem zk0{s at0 r}:zfG s at0=some r->zhN s at0=some r:=by
 unfold zfG;refine kas fun γ=>kx (fun⟨c,nx⟩ h1=>kb fun res h2=>kc (fun h3=>lr [] ?_) fun h3=>lg [] fun γ' h0=>?_) fun h1=>lr [] ?_
 all_goals (dsimp only[R1,zfH]at *;show zaz IF_ _ _ zo7 zBn _=_;generalize zo7=c0 at *;exact fin_)
def zoA(s:ByteArray):Option (Bool):=
 (zhN s 0).bind fun r=>match r with
  | .inl at0=>
   some false
  | .inr at0=>
   some true
theorem zAz{s r}:zoA s=some r->zsJ s=some r:=by
 unfold zoA;refine ka (ks [] fun| .inl at0,γ1,h1=>(l0 rfl ?_)| .inr at0,γ1,h1=>(l0 rfl ?_))
 all_goals (dsimp only[R1,zfH]at *;show zah IF_ (zHH zo7) _ _=_;generalize zo7=c0 at *;exact fin_)
def zfF(s:ByteArray)(γ:Nat->Nat):(Int×Int)->X×St
 |(a0,a1)=>(.brk 0,⟨bd 3 (vI a0::bd 7 []),[.it s a1]⟩)
instance {s}:InjS (zfF s):=⟨by unfold zfF;exact ij_⟩
def zhM(s:ByteArray)(n:Int)(at0:Int):Option ((Int×Int)):=asks (fun γ=>(lim F pr).loop [5,3] 1 zo8 ⟨bd 3 (vI n::bd 1 (.bptr 0 0::bd 5 [])),[.it s at0]⟩) (zfF s)
def zif(s:ByteArray)(n:Int)(at0:Int):Option ((Int×Int)):=
 xopt (zqR s at0) (fun⟨c,nx⟩=>
  zhM s (yab.iadd .i64 n 1) nx)
  (some (n,at0))
theorem zps{s n at0 r}:zif s n at0=some r->zhM s n at0=some r:=by
 unfold zif;refine kas fun γ=>kx (fun⟨c,nx⟩ h1=>lg [] fun γ' h0=>?_) fun h1=>lr [] ?_
 all_goals (dsimp only[zfF]at *;show zaz IF_ _ _ zo8 zBo _=_;generalize zo8=c0 at *;exact fin_)
def zoz(s:ByteArray):Option (Int):=
 (zhM s 0 0).bind fun⟨n,at0⟩=>
 some n
theorem zAy{s r}:zoz s=some r->zsI s=some r:=by
 unfold zoz;refine ka (ks [] fun⟨n,at0⟩ γ1 h1=>l0 rfl ?_)
 all_goals (dsimp only[R1,zfF]at *;show zah IF_ (zHI zo8) _ _=_;generalize zo8=c0 at *;exact fin_)
def zgF(l:List Result)(j:Job)(has:Bool)(val:ByteArray)(e_:Int)(γ:Nat->Nat):Unit⊕(Int×Int)->X×St
 | .inl ()=>(.ret,⟨bd 10 (.sl 2 (γ 2)::bd 32 []),[.box 57 (cJob j),.row 74 (γ 1) false (yac zaf []),.row 74 (γ 2) false (yac zaf (l++[(⟨j.id,j.kind,j.key,val,has,e_⟩:Result)]))]⟩)
 | .inr (b0,b1)=>(.ret,⟨bd 10 (.sub 2 (γ 2) (b0) (b1)::bd 32 []),[.box 57 (cJob j),.row 74 (γ 1) false (yac zaf []),.row 74 (γ 2) false (yac zaf (l++[(⟨j.id,j.kind,j.key,val,has,e_⟩:Result)]))]⟩)
instance {l j has val e_}:InjS (zgF l j has val e_):=⟨by unfold zgF;exact ij_⟩
def ziD(l:List Result)(j:Job)(has:Bool)(val:ByteArray)(e_:Int):Option (Unit⊕(Int×Int)):=asks (fun γ=>(lim F pr).seg [10] zuR ⟨.lit 74 false (yac zaf l)::bd 1 (vF has::vT val::vI e_::bd 1 (.bptr 0 0::bd 36 [])),[.box 57 (cJob j),.row 74 (γ 1) false (yac zaf [])]⟩) (zgF l j has val e_)
def zdu(l:List Result)(j:Job)(has:Bool)(val:ByteArray)(e_:Int)(γ:Nat->Nat):Unit⊕(Int×Int)->X×St
 | .inl ()=>(.brk 0,⟨bd 11 (.sl 2 (γ 2)::bd 31 []),[.box 57 (cJob j),.row 74 (γ 1) false (yac zaf []),.row 74 (γ 2) false (yac zaf (l++[(⟨j.id,j.kind,j.key,val,has,e_⟩:Result)]))]⟩)
 | .inr (b0,b1)=>(.brk 0,⟨bd 11 (.sub 2 (γ 2) (b0) (b1)::bd 31 []),[.box 57 (cJob j),.row 74 (γ 1) false (yac zaf []),.row 74 (γ 2) false (yac zaf (l++[(⟨j.id,j.kind,j.key,val,has,e_⟩:Result)]))]⟩)
instance {l j has val e_}:InjS (zdu l j has val e_):=⟨by unfold zdu;exact ij_⟩
def zop(l:List Result)(j:Job)(has:Bool)(val:ByteArray)(e_:Int):Option (Unit⊕(Int×Int)):=asks (fun γ=>(lim F pr).loop [11] 3 zjG ⟨bd 11 (.sl 2 (γ 2)::bd 31 []),[.box 57 (cJob j),.row 74 (γ 1) false (yac zaf []),.row 74 (γ 2) false (yac zaf (l++[(⟨j.id,j.kind,j.key,val,has,e_⟩:Result)]))]⟩) (zdu l j has val e_)
def zei(l:List Result)(j:Job)(has:Bool)(val:ByteArray)(e_:Int)(out_lo:Int)(out_hi:Int):Option (Unit⊕(Int×Int)):=asks (fun γ=>(lim F pr).loop [11] 3 zjG ⟨bd 11 (.sub 2 (γ 2) (out_lo) (out_hi)::bd 31 []),[.box 57 (cJob j),.row 74 (γ 1) false (yac zaf []),.row 74 (γ 2) false (yac zaf (l++[(⟨j.id,j.kind,j.key,val,has,e_⟩:Result)]))]⟩) (zdu l j has val e_)
def zrg(l:List Result)(j:Job)(has:Bool)(val:ByteArray)(e_:Int):Option (Unit⊕(Int×Int)):=
 bif zaA zaf 64 [] l then
  bif zaA zaf 64 l [(⟨j.id,j.kind,j.key,val,has,e_⟩:Result)]then zop l j has val e_ else
  none
 else
  none
theorem zxx{l j has val e_ r}:zrg l j has val e_=some r->ziD l j has val e_=some r:=by
 unfold zrg;refine kas fun γ=>k1 fun h1=>k1 fun h2=>ps [0,γ 1,1] fun| .inl _,γ1,h3=>(ls [0,γ1 1,γ1 2] ?_)| .inr ⟨out_lo,out_hi⟩,γ1,h3=>(ls [0,γ1 1,γ1 2] ?_)
 all_goals (dsimp only[zdu,zgF]at *;show Ifc.apart IF_ _ (zAR zjG) _=_;generalize zjG=c0 at *;exact fin_)
def zrf(l:List Result)(j:Job)(has:Bool)(val:ByteArray)(e_:Int):Option (Unit⊕(Int×Int)):=
 bif yab.ilt 16 (xlen zaf (l++[(⟨j.id,j.kind,j.key,val,has,e_⟩:Result)]))then
  (xsub zaf (l++[(⟨j.id,j.kind,j.key,val,has,e_⟩:Result)]) 1 (xlen zaf (l++[(⟨j.id,j.kind,j.key,val,has,e_⟩:Result)]))).bind fun ys=>
  zei l j has val e_ 1 (xlen zaf (l++[(⟨j.id,j.kind,j.key,val,has,e_⟩:Result)]))
 else
  some (.inl ())
theorem zxw{l j has val e_ r}:zrf l j has val e_=some r->zop l j has val e_=some r:=by
 unfold zrf;refine kas fun γ=>kc (fun h1=>kb fun ys h2=>lg [0,γ 1,γ 2] fun γ' h0=>?_) fun h1=>lr [0,γ 1,γ 2] ?_
 all_goals (dsimp only[zdu]at *;show zaz IF_ _ _ zjG zvT _=_;generalize zjG=c0 at *;exact fin_)
def znM(l:List Result)(j:Job)(has:Bool)(val:ByteArray)(e_:Int)(out_lo:Int)(out_hi:Int):Option (Unit⊕(Int×Int)):=
 (xsub zaf (l++[(⟨j.id,j.kind,j.key,val,has,e_⟩:Result)]) out_lo out_hi).bind fun ys=>
 bif yab.ilt 16 (xlen zaf ys)then
  bif yab.ieq out_lo 0 then
   (xsub zaf (l++[(⟨j.id,j.kind,j.key,val,has,e_⟩:Result)]) 1 (xlen zaf ys)).bind fun ys1=>
   zei l j has val e_ 1 (xlen zaf ys)
  else
   (xsub zaf ys 1 (xlen zaf ys)).bind fun ys1=>
   zei l j has val e_ (yab.iadd .i64 out_lo 1) (yab.iadd .i64 out_lo (xlen zaf ys))
 else
  some (.inr (out_lo,out_hi))
theorem znN{l j has val e_ out_lo out_hi r}:znM l j has val e_ out_lo out_hi=some r->zei l j has val e_ out_lo out_hi=some r:=by
 unfold znM;refine kas fun γ=>kb fun ys h1=>kc (fun h2=>kc (fun h3=>kb fun ys1 h4=>lg [0,γ 1,γ 2] fun γ' h0=>?_) fun h3=>kb fun ys1 h4=>lg [0,γ 1,γ 2] fun γ' h0=>?_) fun h2=>lr [0,γ 1,γ 2] ?_
 all_goals (dsimp only[zdu]at *;show zaz IF_ _ _ zjG zvT _=_;generalize zjG=c0 at *;exact fin_)
def zqA(l:List Result)(j:Job)(has:Bool)(val:ByteArray)(e_:Int):Option ((List Result)):=
 bif yab.ieq j.kind 2 then
  (ziD l j has val e_).bind fun r=>match r with
   | .inl ()=>
    some (l++[(⟨j.id,j.kind,j.key,val,has,e_⟩:Result)])
   | .inr (t10_lo,t10_hi)=>
    (xsub zaf (l++[(⟨j.id,j.kind,j.key,val,has,e_⟩:Result)]) t10_lo t10_hi).bind fun ys=>
    some ys
 else
  bif yab.ieq j.kind 3 then
   (ziD l j has val e_).bind fun r=>match r with
    | .inl ()=>
     some (l++[(⟨j.id,j.kind,j.key,val,has,e_⟩:Result)])
    | .inr (t10_lo,t10_hi)=>
     (xsub zaf (l++[(⟨j.id,j.kind,j.key,val,has,e_⟩:Result)]) t10_lo t10_hi).bind fun ys=>
     some ys
  else
   some l
theorem zC0{l j has val e_ r}:zqA l j has val e_=some r->zui l j has val e_=some r:=by
 unfold zqA;refine ka (kc (fun h1=>ks [0,0] fun| .inl _,γ1,h2=>(l0 rfl ?_)| .inr ⟨t10_lo,t10_hi⟩,γ1,h2=>(kb fun ys h3=>l0 rfl ?_)) fun h1=>kc (fun h2=>ks [0,0] fun| .inl _,γ1,h3=>(l0 rfl ?_)| .inr ⟨t10_lo,t10_hi⟩,γ1,h3=>(kb fun ys h4=>l0 rfl ?_)) fun h2=>l0 rfl ?_)
 all_goals (dsimp only[R1,zgF]at *;show zah IF_ (zGU zuR) _ _=_;generalize zuR=c0 at *;exact fin_)
def zdY(γ:Nat->Nat):(List Job)->X×St
 |a0=>(.brk 0,⟨bd 5 (.sl 1 (γ 1)::bd 18 []),[.row 57 (γ 0) false (yac eJob []),.row 57 (γ 1) false (yac eJob a0)]⟩)
instance :InjS zdY:=⟨by unfold zdY;exact ij_⟩
def zfB(l:List Job)(at_:Int)(i:Int)(r1:List Job):Option ((List Job)):=asks (fun γ=>(lim F pr).loop [1,0,6,5] 2 zoK ⟨.lit 57 false (yac eJob l)::vI at_::bd 3 (.sl 1 (γ 1)::vI i::bd 17 []),[.row 57 (γ 0) false (yac eJob []),.row 57 (γ 1) false (yac eJob r1)]⟩) zdY
def zf2(l:List Job)(at_:Int)(i:Int)(r1:List Job):Option ((List Job)):=
 bif yab.ilt i (xlen eJob l)then
  bif yab.ieq i at_ then zfB l at_ (yab.iadd .i64 i 1) r1 else
  (xget eJob l i).bind fun x=>
  bif zaA eJob 128 r1 [x]then zfB l at_ (yab.iadd .i64 i 1) (r1++[x])else
  none
 else
  some r1
theorem zm0{l at_ i r1 r}:zf2 l at_ i r1=some r->zfB l at_ i r1=some r:=by
 unfold zf2;refine kas fun γ=>kc (fun h1=>kc (fun h2=>lg [γ 0,γ 1] fun γ' h0=>?_) fun h2=>kb fun x h3=>k1 fun h4=>lg [γ 0,((γ 1)+1)] fun γ' h0=>?_) fun h1=>lr [γ 0,γ 1] ?_
 all_goals (dsimp only[zdY]at *;show zaz IF_ _ _ zoK zAS _=_;generalize zoK=c0 at *;exact fin_)
def zl1(l:List Job)(at_:Int):Option ((List Job)):=
 zfB l at_ 0 []
theorem zxy{l at_ r}:zl1 l at_=some r->zoq l at_=some r:=by
 unfold zl1;refine ka (ps [0,0] fun r1 γ1 h1=>l0 rfl ?_)
 all_goals (dsimp only[R1,zdY]at *;show zah IF_ (zGV zoK) _ _=_;generalize zoK=c0 at *;exact fin_)
def zgi(γ:Nat->Nat):(List Peer)->X×St
 |a0=>(.brk 0,⟨bd 3 (.sl 1 (γ 1)::bd 22 []),[.row 25 (γ 0) false (yac zad []),.row 25 (γ 1) false (yac zad a0)]⟩)
instance :InjS zgi:=⟨by unfold zgi;exact ij_⟩
def ziz(l:List Entry)(i:Int)(r1:List Peer):Option ((List Peer)):=asks (fun γ=>(lim F pr).loop [0,4,3] 2 ztf ⟨.lit 55 false (yac zab l)::bd 2 (.sl 1 (γ 1)::vI i::bd 21 []),[.row 25 (γ 0) false (yac zad []),.row 25 (γ 1) false (yac zad r1)]⟩) zgi
def zgh(l:List Entry)(i:Int)(r1:List Peer):Option ((List Peer)):=
 bif yab.ilt i (xlen zab l)then
  (xget zab l i).bind fun x=>
  bif yab.ilt x.misses 1 then
   bif zaA zad 16 r1 [x.peer]then ziz l (yab.iadd .i64 i 1) (r1++[x.peer])else
   none
  else
   ziz l (yab.iadd .i64 i 1) r1
 else
  some r1
theorem zq3{l i r1 r}:zgh l i r1=some r->ziz l i r1=some r:=by
 unfold zgh;refine kas fun γ=>kc (fun h1=>kb fun x h2=>kc (fun h3=>k1 fun h4=>lg [γ 0,((γ 1)+1)] fun γ' h0=>?_) fun h3=>lg [γ 0,γ 1] fun γ' h0=>?_) fun h1=>lr [γ 0,γ 1] ?_
 all_goals (dsimp only[zgi]at *;show zaz IF_ _ _ ztf zDM _=_;generalize ztf=c0 at *;exact fin_)
def zqn(l:List Entry):Option ((List Peer)):=
 ziz l 0 []
theorem zCL{l r}:zqn l=some r->zmT l=some r:=by
 unfold zqn;refine ka (ps [0,0] fun r1 γ1 h1=>l0 rfl ?_)
 all_goals (dsimp only[K1,zgi]at *;show zah IF_ (g92F ztf) _ _=_;generalize ztf=c0 at *;exact fin_)
def zqh(a:Int)(x:Int)(b:Int):Option (Bool):=
 bif yab.ilt a b then
  bif yab.ilt a x then some (yab.ile x b)else
  some false
 else
  bif yab.ilt b a then
   bif yab.ilt a x then some true else
   some (yab.ile x b)
  else
   some true
theorem zCF{a x b r}:zqh a x b=some r->zmS a x b=some r:=by
 unfold zqh;refine ka (kc (fun h1=>kc (fun h2=>l0 rfl ?_) fun h2=>l0 rfl ?_) fun h1=>kc (fun h2=>kc (fun h3=>l0 rfl ?_) fun h3=>l0 rfl ?_) fun h2=>l0 rfl ?_)
 all_goals (dsimp only[R1]at *;show zah IF_ zHk _ _=_;exact fin_)
def zgs(me:Peer)(key:Int)(most:Int)(γ:Nat->Nat):(List Peer)->X×St
 |a0=>(.brk 0,⟨bd 3 (vU key::vI most:: .bptr 0 0::bd 5 (.sl 2 (γ 2)::bd 125 [])),[.box 25 [vU me.id,vH me.addr],.row 25 (γ 1) false (yac zad []),.row 25 (γ 2) false (yac zad a0)]⟩)
instance {me key most}:InjS (zgs me key most):=⟨by unfold zgs;exact ij_⟩
def zlh(me:Peer)(f:List Finger)(key:Int)(most:Int)(i:Int)(r2:List Peer):Option ((List Peer)):=asks (fun γ=>(lim F pr).loop [2,12,11,3,5,4] 3 zoW ⟨bd 2 (.lit 82 false (yac zaa f)::vU key::vI most:: .bptr 0 0::bd 5 (.sl 2 (γ 2)::vI i::bd 124 [])),[.box 25 [vU me.id,vH me.addr],.row 25 (γ 1) false (yac zad []),.row 25 (γ 2) false (yac zad r2)]⟩) (zgs me key most)
abbrev zlU:=((List Peer)×(List Peer)×(List Peer))
def zgu(me:Peer)(most:Int)(γ:Nat->Nat):zlU->X×St
 |(a0,a1,a2)=>(.brk 2,⟨bd 4 (vI most::bd 9 (.lit 25 false (yac zad a0)::bd 122 [])),[.box 25 [vU me.id,vH me.addr],.row 25 (γ 1) false (yac zad []),.row 25 (γ 2) false (yac zad a1),.row 25 (γ 3) false (yac zad a2)]⟩)
instance {me most}:InjS (zgu me most):=⟨by unfold zgu;exact ij_⟩
def zdK(me:Peer)(key:Int)(most:Int)(out:List Peer)(i:Int)(r2:List Peer)(r3:List Peer):Option (zlU):=asks (fun γ=>(lim F pr).loop [11,13,3,5,15,4,14] 4 zoY ⟨bd 3 (vU key::vI most:: .bptr 0 0::bd 5 (.sl 2 (γ 2)::bd 1 (.sl 3 (γ 3):: .lit 25 false (yac zad out)::vI i::bd 121 []))),[.box 25 [vU me.id,vH me.addr],.row 25 (γ 1) false (yac zad []),.row 25 (γ 2) false (yac zad r2),.row 25 (γ 3) false (yac zad r3)]⟩) (zgu me most)
abbrev zlV:=((List Peer)×Int×(List Peer)×(List Peer)×Int×Int)⊕((List Peer)×Int×(List Peer)×(List Peer)×Int×Int)
def zgv(me:Peer)(key:Int)(most:Int)(γ:Nat->Nat):zlV->X×St
 | .inl (a0,a1,a2,a3,a4,a5)=>(.nor,⟨bd 3 (vU key::vI most:: .bptr 0 0::bd 5 (.sl 2 (γ 2)::bd 1 (.sl 3 (γ 3):: .lit 25 false (yac zad a0)::vI a1::bd 121 []))),[.box 25 [vU me.id,vH me.addr],.row 25 (γ 1) false (yac zad []),.row 25 (γ 2) false (yac zad a2),.row 25 (γ 3) false (yac zad a3),.box 25 [vU a4,vH a5]]⟩)
 | .inr (b0,b1,b2,b3,b4,b5)=>(.brk 3,⟨bd 3 (vU key::vI most:: .bptr 0 0::bd 5 (.sl 2 (γ 2)::bd 1 (.sl 3 (γ 3):: .lit 25 false (yac zad b0)::vI b1::bd 121 []))),[.box 25 [vU me.id,vH me.addr],.row 25 (γ 1) false (yac zad []),.row 25 (γ 2) false (yac zad b2),.row 25 (γ 3) false (yac zad b3),.box 25 [vU b4,vH b5]]⟩)
instance {me key most}:InjS (zgv me key most):=⟨by unfold zgv;exact ij_⟩
def zoj(me:Peer)(key:Int)(most:Int)(out:List Peer)(i:Int)(r2:List Peer)(r3:List Peer)(zbE:Int)(za9:Int):Option (zlV):=asks (fun γ=>(lim F pr).seg [15,11,13,3,5,4,14] zu0 ⟨bd 3 (vU key::vI most:: .bptr 0 0::bd 5 (.sl 2 (γ 2)::bd 1 (.sl 3 (γ 3):: .lit 25 false (yac zad out)::vI i:: .bptr 4 0::bd 120 []))),[.box 25 [vU me.id,vH me.addr],.row 25 (γ 1) false (yac zad []),.row 25 (γ 2) false (yac zad r2),.row 25 (γ 3) false (yac zad r3),.box 25 [vU zbE,vH za9]]⟩) (zgv me key most)
abbrev zlT:=((List Peer)×Int×Int×(List Peer)×(List Peer)×Int×Int)
def zgt(me:Peer)(key:Int)(most:Int)(γ:Nat->Nat):zlT->X×St
 |(a0,a1,a2,a3,a4,a5,a6)=>(.brk 4,⟨bd 3 (vU key::vI most:: .bptr 0 0::bd 5 (.sl 2 (γ 2)::bd 1 (.sl 3 (γ 3):: .lit 25 false (yac zad a0)::vI a1:: .bptr 4 0::vI a2::bd 119 []))),[.box 25 [vU me.id,vH me.addr],.row 25 (γ 1) false (yac zad []),.row 25 (γ 2) false (yac zad a3),.row 25 (γ 3) false (yac zad a4),.box 25 [vU a5,vH a6]]⟩)
instance {me key most}:InjS (zgt me key most):=⟨by unfold zgt;exact ij_⟩
def zgT(me:Peer)(key:Int)(most:Int)(out:List Peer)(i:Int)(at_:Int)(far:Int)(r2:List Peer)(r3:List Peer)(zbE:Int)(za9:Int):Option (zlT):=asks (fun γ=>(lim F pr).loop [18,16,14,17,15,11,13,3,5,4] 5 zoX ⟨bd 3 (vU key::vI most:: .bptr 0 0::bd 5 (.sl 2 (γ 2)::bd 1 (.sl 3 (γ 3):: .lit 25 false (yac zad out)::vI i:: .bptr 4 0::vI at_::vU far::bd 118 []))),[.box 25 [vU me.id,vH me.addr],.row 25 (γ 1) false (yac zad []),.row 25 (γ 2) false (yac zad r2),.row 25 (γ 3) false (yac zad r3),.box 25 [vU zbE,vH za9]]⟩) (zgt me key most)
def ziS(me:Peer)(f:List Finger)(key:Int)(most:Int)(i:Int)(r2:List Peer):Option ((List Peer)):=
 bif yab.ilt i (xlen zaa f)then
  (xget zaa f i).bind fun x=>
  bif zaA zad 16 r2 [x.peer]then zlh me f key most (yab.iadd .i64 i 1) (r2++[x.peer])else
  none
 else
  some r2
theorem zq6{me f key most i r2 r}:ziS me f key most i r2=some r->zlh me f key most i r2=some r:=by
 unfold ziS;refine kas fun γ=>kc (fun h1=>kb fun x h2=>k1 fun h3=>lg [0,γ 1,((γ 2)+1)] fun γ' h0=>?_) fun h1=>lr [0,γ 1,γ 2] ?_
 all_goals (dsimp only[zgs]at *;show zaz IF_ _ _ zoW zA9 _=_;generalize zoW=c0 at *;exact fin_)
def ziU(me:Peer)(key:Int)(most:Int)(out:List Peer)(i:Int)(r2:List Peer)(r3:List Peer):Option (zlU):=
 bif yab.ilt i (xlen zad r2)then
  (xget zad r2 i).bind fun x=>
  (zsi r3 x.addr).bind fun res=>
  bif res then zdK me key most out (yab.iadd .i64 i 1) r2 r3 else
  bif yab.ieq x.addr me.addr then zdK me key most out (yab.iadd .i64 i 1) r2 r3 else
  (zoj me key most out i r2 r3 x.id x.addr).bind fun r=>match r with
   | .inl (out1,i1,r21,r31,zbE,za9)=>
    zdK me key most out1 (yab.iadd .i64 i1 1) r21 r31
   | .inr (out1,i1,r21,r31,zbE,za9)=>
    zdK me key most out1 (yab.iadd .i64 i1 1) r21 r31
 else
  some (out,r2,r3)
theorem zq8{me key most out i r2 r3 r}:ziU me key most out i r2 r3=some r->zdK me key most out i r2 r3=some r:=by
 unfold ziU;refine kas fun γ=>kc (fun h1=>kb fun x h2=>kb fun res h3=>kc (fun h4=>lg [0,γ 1,γ 2,γ 3] fun γ' h0=>?_) fun h4=>kc (fun h5=>lg [0,γ 1,γ 2,γ 3] fun γ' h0=>?_) fun h5=>ks [0,γ 1,γ 2,γ 3] fun| .inl ⟨out1,i1,r21,r31,zbE,za9⟩,γ2,h6=>(lg [0,γ2 1,γ2 2,γ2 3] fun γ' h0=>?_)| .inr ⟨out1,i1,r21,r31,zbE,za9⟩,γ2,h6=>(lg [0,γ2 1,γ2 2,γ2 3] fun γ' h0=>?_)) fun h1=>lr [0,γ 1,γ 2,γ 3] ?_
 all_goals (dsimp only[R1,zgu,zgv]at *;show zaz IF_ _ _ zoY (zBc zu0) _=_;generalize zoY=c0,zu0=c1 at *;exact fin_)
def zlW(me:Peer)(key:Int)(most:Int)(out:List Peer)(i:Int)(r2:List Peer)(r3:List Peer)(zbE:Int)(za9:Int):Option (zlV):=
 bif zaA zad 16 r3 [(⟨zbE,za9⟩:Peer)]then
  (zob me.id zbE key).bind fun res=>
  bif res then
   (zqf me.id zbE).bind fun res1=>
   (zgT me key most out i 0 res1 r2 (r3++[(⟨zbE,za9⟩:Peer)]) zbE za9).bind fun⟨out1,i1,at_,r21,r31,zrI,zmz⟩=>
   (xsub zad out1 0 at_).bind fun ys=>
   bif zaA zad 16 [] ys then
    bif zaA zad 16 ys [(⟨zrI,zmz⟩:Peer)]then
     (xsub zad out1 at_ (xlen zad out1)).bind fun ys1=>
     bif zaA zad 16 (ys++[(⟨zrI,zmz⟩:Peer)]) ys1 then
      some (.inl (((ys++[(⟨zrI,zmz⟩:Peer)])++ys1),i1,r21,r31,zrI,zmz))
     else
      none
    else
     none
   else
    none
  else
   some (.inr (out,i,r2,(r3++[(⟨zbE,za9⟩:Peer)]),zbE,za9))
 else
  none
theorem zxo{me key most out i r2 r3 zbE za9 r}:zlW me key most out i r2 r3 zbE za9=some r->zoj me key most out i r2 r3 zbE za9=some r:=by
 unfold zlW;refine kas fun γ=>k1 fun h1=>kb fun res h2=>kc (fun h3=>kb fun res1 h4=>ks [0,γ 1,γ 2,((γ 3)+1)] fun⟨out1,i1,at_,r21,r31,zrI,zmz⟩ γ3 h5=>kb fun ys h6=>k1 fun h7=>k1 fun h8=>kb fun ys1 h9=>k1 fun h10=>ls [0,γ3 1,γ3 2,γ3 3] ?_) fun h3=>ls [0,γ 1,γ 2,((γ 3)+1)] ?_
 all_goals (dsimp only[R1,zgt,zgv]at *;show Ifc.apart IF_ _ (zBb zoX) _=_;generalize zoX=c0 at *;exact fin_)
def ziT(me:Peer)(key:Int)(most:Int)(out:List Peer)(i:Int)(at_:Int)(far:Int)(r2:List Peer)(r3:List Peer)(zbE:Int)(za9:Int):Option (zlT):=
 bif yab.ilt at_ (xlen zad out)then
  (xget zad out at_).bind fun x=>
  (zqf me.id x.id).bind fun res=>
  bif yab.ilt far res then
   zgT me key most out i (yab.iadd .i64 at_ 1) far r2 r3 zbE za9
  else
   bif yab.ieq res far then
    bif yab.ilt x.addr za9 then
     zgT me key most out i (yab.iadd .i64 at_ 1) far r2 r3 zbE za9
    else
     some (out,i,at_,r2,r3,zbE,za9)
   else
    some (out,i,at_,r2,r3,zbE,za9)
 else
  some (out,i,at_,r2,r3,zbE,za9)
theorem zq7{me key most out i at_ far r2 r3 zbE za9 r}:ziT me key most out i at_ far r2 r3 zbE za9=some r->zgT me key most out i at_ far r2 r3 zbE za9=some r:=by
 unfold ziT;refine kas fun γ=>kc (fun h1=>kb fun x h2=>kb fun res h3=>kc (fun h4=>lg [0,γ 1,γ 2,γ 3] fun γ' h0=>?_) fun h4=>kc (fun h5=>kc (fun h6=>lg [0,γ 1,γ 2,γ 3] fun γ' h0=>?_) fun h6=>lr [0,γ 1,γ 2,γ 3] ?_) fun h5=>lr [0,γ 1,γ 2,γ 3] ?_) fun h1=>lr [0,γ 1,γ 2,γ 3] ?_
 all_goals (dsimp only[R1,zgt]at *;show zaz IF_ _ _ zoX zBa _=_;generalize zoX=c0 at *;exact fin_)
def zqs(me:Peer)(l:List Entry)(f:List Finger)(key:Int)(most:Int):Option ((List Peer)):=
 (zmT l).bind fun res=>
 (zlh me f key most 0 res).bind fun r2=>
 (zdK me key most [] 0 r2 []).bind fun⟨out,r21,r3⟩=>
 bif yab.ilt most 0 then some []else
 bif yab.ilt most (xlen zad out)then
  (xsub zad out 0 most).bind fun ys=>
  some ys
 else
  some out
theorem zCQ{me l f key most r}:zqs me l f key most=some r->zuf me l f key most=some r:=by
 unfold zqs;refine ka (kb fun res h1=>ks [0,0,0] fun r2 γ2 h2=>ks [0,γ2 1,γ2 2,0] fun⟨out,r21,r3⟩ γ3 h3=>kc (fun h4=>l0 rfl ?_) fun h4=>kc (fun h5=>kb fun ys h6=>l0 rfl ?_) fun h5=>l0 rfl ?_)
 all_goals (dsimp only[K1,R1,zgs,zgu]at *;show zah IF_ (zHp zoW zoY) _ _=_;generalize zoW=c0,zoY=c1 at *;exact fin_)
abbrev zm2:=((List Out)×Node×Int×ByteArray×ByteArray)
def zhG(n:Node)(j:Job)(to_:Peer)(γ:Nat->Nat):zm2->X×St
 |(a0,a1,a2,a3,a4)=>(.ret,⟨bd 6 (.bptr 3 0:: .lit 78 false (yac eOut a0)::bd 29 []),[.box 34 (zal n),.box 57 (cJob (⟨j.id,j.kind,j.bit,j.key,j.val,j.target,j.via,to_,true,j.hops,j.tries,j.due⟩:Job)),.box 25 [vU to_.id,vH to_.addr],.box 34 (zal a1),.row 78 (γ 4) false (yac eOut []),.box 39 ([vI a2,vW 0,vB 0,vF false,vU 0,vT a3,vT a4,vU 0,vH 0,.lit 0 true [],.lit 0 true []])]⟩)
instance {n j to_}:InjS (zhG n j to_):=⟨by unfold zhG;exact ij_⟩
def zml(n:Node)(j:Job)(to_:Peer)(ze4:Int)(zhn:ByteArray)(zho:ByteArray):Option (zm2):=asks (fun γ=>(lim F pr).seg [6,7] zuX ⟨bd 3 (.bptr 0 0:: .bptr 1 0:: .bptr 2 0:: .bptr 3 0::bd 1 (.bptr 5 0::bd 28 [])),[.box 34 (zal n),.box 57 (cJob (⟨j.id,j.kind,j.bit,j.key,j.val,j.target,j.via,to_,true,j.hops,j.tries,j.due⟩:Job)),.box 25 [vU to_.id,vH to_.addr],.box 34 ([vU 0,vH 0,vI 0,vF false,.lit 0 true [],.lit 0 true [],.lit 0 true [],.lit 0 true [],.lit 0 true [],.lit 0 true [],.lit 0 true [],vW 0,vI 0,vI 0]),.row 78 (γ 4) false (yac eOut []),.box 39 ([vI ze4,vW 0,vB 0,vF false,vU 0,vT zhn,vT zho,vU 0,vH 0,.lit 0 true [],.lit 0 true []])]⟩) (zhG n j to_)
def zst(n:Node)(j:Job)(to_:Peer)(ze4:Int)(zhn:ByteArray)(zho:ByteArray):Option (zm2):=
 bif yab.ieq j.kind 3 then
  (zfA n (⟨j.id,j.kind,j.bit,j.key,j.val,j.target,j.via,to_,true,j.hops,j.tries,j.due⟩:Job)).bind fun res=>
  (zh7 res to_ (⟨8,0,0,false,0,j.key,⟨#[]⟩,(⟨0,0⟩:Peer),[],[]⟩:Msg) 5 j.id).bind fun⟨r0,r1⟩=>
  some (r1,r0,8,j.key,⟨#[]⟩)
 else
  (zfA n (⟨j.id,j.kind,j.bit,j.key,j.val,j.target,j.via,to_,true,j.hops,j.tries,j.due⟩:Job)).bind fun res=>
  (zh7 res to_ (⟨ze4,0,0,false,0,zhn,zho,(⟨0,0⟩:Peer),[],[]⟩:Msg) 5 j.id).bind fun⟨r0,r1⟩=>
  some (r1,r0,ze4,zhn,zho)
theorem zzb{n j to_ ze4 zhn zho r}:zst n j to_ ze4 zhn zho=some r->zml n j to_ ze4 zhn zho=some r:=by
 unfold zst;refine kas fun γ=>kc (fun h1=>kb fun res h2=>kb fun⟨r0,r1⟩ h3=>ls [0,0,0,0,γ 4] ?_) fun h1=>kb fun res h2=>kb fun⟨r0,r1⟩ h3=>ls [0,0,0,0,γ 4] ?_
 all_goals (dsimp only[R1,R2,zhG]at *;show Ifc.apart IF_ _ zA3 _=_;exact fin_)
def zss(n:Node)(j:Job)(to_:Peer):Option ((Node×(List Out))):=
 bif yab.ieq j.kind 2 then
  (zml n j to_ 7 j.key j.val).bind fun⟨t7,b3,ze4,zhn,zho⟩=>
  some (b3,t7)
 else
  (zml n j to_ 3 ⟨#[]⟩ ⟨#[]⟩).bind fun⟨t7,b3,ze4,zhn,zho⟩=>
  some (b3,t7)
theorem zEH{n j to_ r}:zss n j to_=some r->ztq n j to_=some r:=by
 unfold zss;refine ka (kc (fun h1=>ks [0,0,0,0,0] fun⟨t7,b3,ze4,zhn,zho⟩ γ1 h2=>l0 rfl ?_) fun h1=>ks [0,0,0,0,0] fun⟨t7,b3,ze4,zhn,zho⟩ γ1 h2=>l0 rfl ?_)
 all_goals (dsimp only[R2,zhG]at *;show zah IF_ (zHi zuX) _ _=_;generalize zuX=c0 at *;exact fin_)
def zgJ(γ:Nat->Nat):(Node×(List Out)×(List Peer))->X×St
 |(a0,a1,a2)=>(.brk 0,⟨bd 3 (.bptr 0 0::bd 2 (.bptr 1 0::bd 4 (.sl 3 (γ 3)::bd 50 []))),[.box 34 (zal a0),.box 34 ([vU 0,vH 0,vI 0,vF false,.lit 0 true [],.lit 0 true [],.lit 0 true [],.lit 0 true [],.lit 0 true [],.lit 0 true [],.lit 0 true [],vW 0,vI 0,vI 0]),.row 78 (γ 2) false (yac eOut []),.row 78 (γ 3) false (yac eOut a1),.row 25 (γ 4) false (yac zad a2)]⟩)
instance :InjS zgJ:=⟨by unfold zgJ;exact ij_⟩
def zlo(key:ByteArray)(val:ByteArray)(i:Int)(b0:Node)(r3:List Out)(r4:List Peer):Option ((Node×(List Out)×(List Peer))):=asks (fun γ=>(lim F pr).loop [12,1,2,13,3,11,6] 5 zoN ⟨bd 1 (vT key::vT val:: .bptr 0 0::bd 2 (.bptr 1 0::bd 4 (.sl 3 (γ 3):: .sl 4 (γ 4)::vI i::bd 48 []))),[.box 34 (zal b0),.box 34 ([vU 0,vH 0,vI 0,vF false,.lit 0 true [],.lit 0 true [],.lit 0 true [],.lit 0 true [],.lit 0 true [],.lit 0 true [],.lit 0 true [],vW 0,vI 0,vI 0]),.row 78 (γ 2) false (yac eOut []),.row 78 (γ 3) false (yac eOut r3),.row 25 (γ 4) false (yac zad r4)]⟩) zgJ
def zgK(key:ByteArray)(val:ByteArray)(γ:Nat->Nat):(Int×Node×(List Out)×(List Peer))->X×St
 |(a0,a1,a2,a3)=>(.nor,⟨bd 1 (vT key::vT val:: .bptr 0 0::bd 2 (.bptr 1 0::bd 4 (.sl 3 (γ 3):: .sl 4 (γ 4)::vI a0::bd 48 []))),[.box 34 (zal a1),.box 34 ([vU 0,vH 0,vI 0,vF false,.lit 0 true [],.lit 0 true [],.lit 0 true [],.lit 0 true [],.lit 0 true [],.lit 0 true [],.lit 0 true [],vW 0,vI 0,vI 0]),.row 78 (γ 2) false (yac eOut []),.row 78 (γ 3) false (yac eOut a2),.row 25 (γ 4) false (yac zad a3)]⟩)
instance {key val}:InjS (zgK key val):=⟨by unfold zgK;exact ij_⟩
def zos(key:ByteArray)(val:ByteArray)(i:Int)(b0:Node)(r3:List Out)(r4:List Peer):Option ((Int×Node×(List Out)×(List Peer))):=asks (fun γ=>(lim F pr).seg [12,1,2,13,3,11,6] zuV ⟨bd 1 (vT key::vT val:: .bptr 0 0::bd 2 (.bptr 1 0::bd 4 (.sl 3 (γ 3):: .sl 4 (γ 4)::vI i::bd 48 []))),[.box 34 (zal b0),.box 34 ([vU 0,vH 0,vI 0,vF false,.lit 0 true [],.lit 0 true [],.lit 0 true [],.lit 0 true [],.lit 0 true [],.lit 0 true [],.lit 0 true [],vW 0,vI 0,vI 0]),.row 78 (γ 2) false (yac eOut []),.row 78 (γ 3) false (yac eOut r3),.row 25 (γ 4) false (yac zad r4)]⟩) (zgK key val)
def zi1(key:ByteArray)(val:ByteArray)(i:Int)(b0:Node)(r3:List Out)(r4:List Peer):Option ((Node×(List Out)×(List Peer))):=
 bif yab.ilt i (xlen zad r4)then
  bif yab.ilt i 2 then
   (zos key val i b0 r3 r4).bind fun⟨i1,b01,r31,r41⟩=>
   zlo key val i1 b01 r31 r41
  else
   some (b0,r3,r4)
 else
  some (b0,r3,r4)
theorem zri{key val i b0 r3 r4 r}:zi1 key val i b0 r3 r4=some r->zlo key val i b0 r3 r4=some r:=by
 unfold zi1;refine kas fun γ=>kc (fun h1=>kc (fun h2=>ks [0,0,γ 2,γ 3,γ 4] fun⟨i1,b01,r31,r41⟩ γ1 h3=>lg [0,0,γ1 2,γ1 3,γ1 4] fun γ' h0=>?_) fun h2=>lr [0,0,γ 2,γ 3,γ 4] ?_) fun h1=>lr [0,0,γ 2,γ 3,γ 4] ?_
 all_goals (dsimp only[zgJ,zgK]at *;show zaz IF_ _ _ zoN (zAZ zuV) _=_;generalize zoN=c0,zuV=c1 at *;exact fin_)
def zl5(key:ByteArray)(val:ByteArray)(i:Int)(b0:Node)(r3:List Out)(r4:List Peer):Option ((Int×Node×(List Out)×(List Peer))):=
 (xget zad r4 i).bind fun x=>
 (zuk b0 x [(⟨key,val⟩:Pair)] true).bind fun⟨r0,r1⟩=>
 bif zaA eOut 136 r3 r1 then some (yab.iadd .i64 i 1,r0,(r3++r1),r4)else
 none
theorem zxB{key val i b0 r3 r4 r}:zl5 key val i b0 r3 r4=some r->zos key val i b0 r3 r4=some r:=by
 unfold zl5;refine kas fun γ=>kb fun x h1=>kb fun⟨r0,r1⟩ h2=>k1 fun h3=>ls [0,0,γ 2,((γ 3)+1),γ 4] ?_
 all_goals (dsimp only[R2,zgK]at *;show Ifc.apart IF_ _ zAY _=_;exact fin_)
def zqD(n:Node)(key:ByteArray)(val:ByteArray):Option ((Node×(List Out)×Int)):=
 (zwp n.store key val).bind fun⟨r0,r1⟩=>
 bif yab.ieq r1 0 then
  (zmT n.list).bind fun res=>
  (zlo key val 0 (⟨n.me,n.clock,n.joined,n.pred,n.list,n.fingers,r0,n.pends,n.jobs,n.results,n.rid,n.jobID,n.nextBit⟩:Node) [] res).bind fun⟨b0,r3,r4⟩=>
  some (b0,r3,0)
 else
  some (n,[],r1)
theorem zC3{n key val r}:zqD n key val=some r->zul n key val=some r:=by
 unfold zqD;refine ka (kb fun⟨r0,r1⟩ h1=>kc (fun h2=>kb fun res h3=>ks [0,0,0,0,0] fun⟨b0,r3,r4⟩ γ3 h4=>l0 rfl ?_) fun h2=>l0 rfl ?_)
 all_goals (dsimp only[K1,R2,R3,zgJ]at *;show zah IF_ (zG3 zoN) _ _=_;generalize zoN=c0 at *;exact fin_)
end Go.Ab.Tryz
