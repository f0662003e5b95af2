/- Our texts for this statement, merged: what its theorem leads to. -/
import Derived.Test.YtdjoeakbjackbaaGreatDoorQLm9
set_option linter.unusedVariables false
set_option linter.unusedSimpArgs false
noncomputable section
namespace Go.Ab.Tryz
open Go Go.Ab Go.Proofs
set_option maxRecDepth 10000
set_option maxHeartbeats 4000000
open Go.Ab.Ops renaming std->yab
open List renaming map->yac
def znK(l:List Pair)(key:ByteArray):Option ((ByteArray×Bool)):=
 (znL l key).bind fun res=>
 bif yab.ilt res 0 then some (⟨#[]⟩,false)else
 (xget zag l res).bind fun x=>
 some (x.val,true)
theorem zEB{l key r}:znK l key=some r->zwo l key=some r:=by
 unfold znK;refine ka (kb fun res h1=>kc (fun h2=>l0 rfl ?_) fun h2=>kb fun x h3=>l0 rfl ?_)
 all_goals (dsimp only[R1,R2]at *;show zah IF_ zG2 _ _=_;exact fin_)
def zhC(p:Peer)(γ:Nat->Nat):(Int×Int×(List Finger))->X×St
 |(a0,a1,a2)=>(.ret,⟨bd 6 (.sl 3 (γ 3)::bd 73 []),[.box 25 [vU p.id,vH p.addr],.row 82 (γ 1) false (yac zaa []),.box 25 [vU a0,vH a1],.row 82 (γ 3) false (yac zaa a2)]⟩)
instance {p}:InjS (zhC p):=⟨by unfold zhC;exact ij_⟩
def zqu(l:List Finger)(bit:Int)(p:Peer):Option ((Int×Int×(List Finger))):=asks (fun γ=>(lim F pr).seg [6] zuZ ⟨.lit 82 false (yac zaa l)::vI bit::bd 3 (.bptr 0 0::bd 74 []),[.box 25 [vU p.id,vH p.addr],.row 82 (γ 1) false (yac zaa [])]⟩) (zhC p)
def zhA(bit:Int)(p:Peer)(γ:Nat->Nat):(Bool×Int×Int×(List Finger))->X×St
 |(a0,a1,a2,a3)=>(.brk 0,⟨bd 1 (vI bit::bd 3 (.bptr 0 0::bd 3 (.sl 3 (γ 3)::vF a0::bd 69 []))),[.box 25 [vU p.id,vH p.addr],.row 82 (γ 1) false (yac zaa []),.box 25 [vU a1,vH a2],.row 82 (γ 3) false (yac zaa a3)]⟩)
instance {bit p}:InjS (zhA bit p):=⟨by unfold zhA;exact ij_⟩
def zb3(l:List Finger)(bit:Int)(p:Peer)(there:Bool)(put_:Bool)(i:Int)(zbQ:Int)(za8:Int)(r3:List Finger):Option ((Bool×Int×Int×(List Finger))):=asks (fun γ=>(lim F pr).loop [0,8,11,10,1,5,9] 4 zoS ⟨.lit 82 false (yac zaa l)::vI bit::bd 3 (.bptr 0 0::bd 2 (vF there:: .sl 3 (γ 3)::vF put_::vI i::bd 68 [])),[.box 25 [vU p.id,vH p.addr],.row 82 (γ 1) false (yac zaa []),.box 25 [vU zbQ,vH za8],.row 82 (γ 3) false (yac zaa r3)]⟩) (zhA bit p)
abbrev zmV:=(Bool×Bool×Int×Int×Int×(List Finger)×Int×Int×Int)
def zhB(l:List Finger)(bit:Int)(p:Peer)(γ:Nat->Nat):zmV->X×St
 |(a0,a1,a2,a3,a4,a5,a6,a7,a8)=>(.nor,⟨.lit 82 false (yac zaa l)::vI bit::bd 3 (.bptr 0 0::bd 2 (vF a0:: .sl 3 (γ 3)::vF a1::vI a2::bd 68 [])),[.box 25 [vU p.id,vH p.addr],.row 82 (γ 1) false (yac zaa []),.box 25 [vU a3,vH a4],.row 82 (γ 3) false (yac zaa a5),.box 82 [vI a6,vU a7,vH a8]]⟩)
instance {l bit p}:InjS (zhB l bit p):=⟨by unfold zhB;exact ij_⟩
def zh5(l:List Finger)(bit:Int)(p:Peer)(there:Bool)(put_:Bool)(i:Int)(zbQ:Int)(za8:Int)(r3:List Finger)(zbi:Int)(zaU:Int)(zaP:Int):Option (zmV):=asks (fun γ=>(lim F pr).seg [11,0,8,10,1,5,9] zuY ⟨.lit 82 false (yac zaa l)::vI bit::bd 3 (.bptr 0 0::bd 2 (vF there:: .sl 3 (γ 3)::vF put_::vI i:: .bptr 4 0::bd 67 [])),[.box 25 [vU p.id,vH p.addr],.row 82 (γ 1) false (yac zaa []),.box 25 [vU zbQ,vH za8],.row 82 (γ 3) false (yac zaa r3),.box 82 [vI zbi,vU zaU,vH zaP]]⟩) (zhB l bit p)
def zmX(l:List Finger)(bit:Int)(p:Peer):Option ((Int×Int×(List Finger))):=
 (zwm l bit).bind fun⟨r0,r1⟩=>
 (zb3 l bit p r1 false 0 r0.id r0.addr []).bind fun⟨put_,zbQ,za8,r3⟩=>
 bif put_ then some (zbQ,za8,r3)else
 bif zaA zaa 24 r3 [(⟨bit,p⟩:Finger)]then some (zbQ,za8,(r3++[(⟨bit,p⟩:Finger)]))else
 none
theorem zy6{l bit p r}:zmX l bit p=some r->zqu l bit p=some r:=by
 unfold zmX;refine kas fun γ=>kb fun⟨r0,r1⟩ h1=>ks [0,γ 1,0,0] fun⟨put_,zbQ,za8,r3⟩ γ2 h2=>kc (fun h3=>ls [0,γ2 1,0,γ2 3] ?_) fun h3=>k1 fun h4=>ls [0,γ2 1,0,((γ2 3)+1)] ?_
 all_goals (dsimp only[R2,zhA,zhC]at *;show Ifc.apart IF_ _ (zA6 zoS) _=_;generalize zoS=c0 at *;exact fin_)
def zfv(l:List Finger)(bit:Int)(p:Peer)(there:Bool)(put_:Bool)(i:Int)(zbQ:Int)(za8:Int)(r3:List Finger):Option ((Bool×Int×Int×(List Finger))):=
 bif yab.ilt i (xlen zaa l)then
  (xget zaa l i).bind fun x=>
  bif there then
   bif put_ then
    (zh5 l bit p true true i zbQ za8 r3 x.bit x.peer.id x.peer.addr).bind fun⟨there1,put_1,i1,zhm,zdU,r31,zbi,zaU,zaP⟩=>
    zb3 l bit p there1 put_1 (yab.iadd .i64 i1 1) zhm zdU r31
   else
    bif yab.ieq x.bit bit then
     (zh5 l bit p true true i zbQ za8 r3 x.bit p.id p.addr).bind fun⟨there1,put_1,i1,zhm,zdU,r31,zbi,zaU,zaP⟩=>
     zb3 l bit p there1 put_1 (yab.iadd .i64 i1 1) zhm zdU r31
    else
     (zh5 l bit p true false i zbQ za8 r3 x.bit x.peer.id x.peer.addr).bind fun⟨there1,put_1,i1,zhm,zdU,r31,zbi,zaU,zaP⟩=>
     zb3 l bit p there1 put_1 (yab.iadd .i64 i1 1) zhm zdU r31
  else
   (zh5 l bit p false put_ i zbQ za8 r3 x.bit x.peer.id x.peer.addr).bind fun⟨there1,put_1,i1,zhm,zdU,r31,zbi,zaU,zaP⟩=>
   zb3 l bit p there1 put_1 (yab.iadd .i64 i1 1) zhm zdU r31
 else
  some (put_,zbQ,za8,r3)
theorem zjS{l bit p there put_ i zbQ za8 r3 r}:zfv l bit p there put_ i zbQ za8 r3=some r->zb3 l bit p there put_ i zbQ za8 r3=some r:=by
 unfold zfv;refine kas fun γ=>kc (fun h1=>kb fun x h2=>kc (fun h3=>kc (fun h4=>ks [0,γ 1,0,γ 3] fun⟨there1,put_1,i1,zhm,zdU,r31,zbi,zaU,zaP⟩ γ1 h5=>lg [0,γ1 1,0,γ1 3] fun γ' h0=>?_) fun h4=>kc (fun h5=>ks [0,γ 1,0,γ 3] fun⟨there1,put_1,i1,zhm,zdU,r31,zbi,zaU,zaP⟩ γ1 h6=>lg [0,γ1 1,0,γ1 3] fun γ' h0=>?_) fun h5=>ks [0,γ 1,0,γ 3] fun⟨there1,put_1,i1,zhm,zdU,r31,zbi,zaU,zaP⟩ γ1 h6=>lg [0,γ1 1,0,γ1 3] fun γ' h0=>?_) fun h3=>ks [0,γ 1,0,γ 3] fun⟨there1,put_1,i1,zhm,zdU,r31,zbi,zaU,zaP⟩ γ1 h4=>lg [0,γ1 1,0,γ1 3] fun γ' h0=>?_) fun h1=>lr [0,γ 1,0,γ 3] ?_
 all_goals (dsimp only[zhA,zhB]at *;show zaz IF_ _ _ zoS (zA5 zuY) _=_;generalize zoS=c0,zuY=c1 at *;exact fin_)
def zmW(l:List Finger)(bit:Int)(p:Peer)(there:Bool)(put_:Bool)(i:Int)(zbQ:Int)(za8:Int)(r3:List Finger)(zbi:Int)(zaU:Int)(zaP:Int):Option (zmV):=
 bif there then
  bif zaA zaa 24 r3 [(⟨zbi,(⟨zaU,zaP⟩:Peer)⟩:Finger)]then
   some (true,put_,i,zbQ,za8,(r3++[(⟨zbi,(⟨zaU,zaP⟩:Peer)⟩:Finger)]),zbi,zaU,zaP)
  else
   none
 else
  bif put_ then
   bif zaA zaa 24 r3 [(⟨zbi,(⟨zaU,zaP⟩:Peer)⟩:Finger)]then
    some (false,true,i,zbQ,za8,(r3++[(⟨zbi,(⟨zaU,zaP⟩:Peer)⟩:Finger)]),zbi,zaU,zaP)
   else
    none
  else
   bif yab.ilt bit zbi then
    bif zaA zaa 24 r3 [(⟨bit,p⟩:Finger)]then
     bif zaA zaa 24 (r3++[(⟨bit,p⟩:Finger)]) [(⟨zbi,(⟨zaU,zaP⟩:Peer)⟩:Finger)]then
      some (false,true,i,zbQ,za8,((r3++[(⟨bit,p⟩:Finger)])++[(⟨zbi,(⟨zaU,zaP⟩:Peer)⟩:Finger)]),zbi,zaU,zaP)
     else
      none
    else
     none
   else
    bif zaA zaa 24 r3 [(⟨zbi,(⟨zaU,zaP⟩:Peer)⟩:Finger)]then
     some (false,false,i,zbQ,za8,(r3++[(⟨zbi,(⟨zaU,zaP⟩:Peer)⟩:Finger)]),zbi,zaU,zaP)
    else
     none
theorem zy5{l bit p there put_ i zbQ za8 r3 zbi zaU zaP r}:zmW l bit p there put_ i zbQ za8 r3 zbi zaU zaP=some r->zh5 l bit p there put_ i zbQ za8 r3 zbi zaU zaP=some r:=by
 unfold zmW;refine kas fun γ=>kc (fun h1=>k1 fun h2=>ls [0,γ 1,0,((γ 3)+1)] ?_) fun h1=>kc (fun h2=>k1 fun h3=>ls [0,γ 1,0,((γ 3)+1)] ?_) fun h2=>kc (fun h3=>k1 fun h4=>k1 fun h5=>ls [0,γ 1,0,(((γ 3)+1)+1)] ?_) fun h3=>k1 fun h4=>ls [0,γ 1,0,((γ 3)+1)] ?_
 all_goals (dsimp only[zhB]at *;show Ifc.apart IF_ _ zA4 _=_;exact fin_)
def zsh(l:List Finger)(bit:Int)(p:Peer):Option ((List Finger)):=
 bif yab.ilt bit 0 then some l else
 bif yab.ilt 63 bit then some l else
 (zqu l bit p).bind fun⟨zbQ,za8,r3⟩=>
 some r3
theorem zEz{l bit p r}:zsh l bit p=some r->zwn l bit p=some r:=by
 unfold zsh;refine ka (kc (fun h1=>l0 rfl ?_) fun h1=>kc (fun h2=>l0 rfl ?_) fun h2=>ks [0,0] fun⟨zbQ,za8,r3⟩ γ1 h3=>l0 rfl ?_)
 all_goals (dsimp only[R1,zhC]at *;show zah IF_ (zHj zuZ) _ _=_;generalize zuZ=c0 at *;exact fin_)
def zoB(s:ByteArray)(at_:Int)(c:Int):Option (Bool):=
 bif yab.ieq c 65533 then
  (ztt s at_ (yab.slen s)).bind fun z=>
  xopt (zqR z 0) (fun⟨c1,nx⟩=>
   some (yab.ieq nx 1))
   (some (yab.ieq 0 1))
 else
  some false
theorem zAA{s at_ c r}:zoB s at_ c=some r->zsK s at_ c=some r:=by
 unfold zoB;refine ka (kc (fun h1=>kn fun z h2=>kx (fun⟨c1,nx⟩ h3=>l0 rfl ?_) fun h3=>l0 rfl ?_) fun h1=>l0 rfl ?_)
 all_goals (dsimp only[R1]at *;show zah IF_ zHP _ _=_;exact fin_)
def zfw(γ:Nat->Nat):Unit⊕Unit->X×St
 | .inl ()=>(.ret,⟨bd 4 (vF true::bd 14 []),[]⟩)
 | .inr ()=>(.brk 0,⟨bd 19 [],[]⟩)
instance :InjS zfw:=⟨by unfold zfw;exact ij_⟩
def zjT(l:List Peer)(addr:Int)(i:Int):Option (Unit⊕Unit):=asks (fun γ=>(lim F pr).loop [0,1,5] 0 zo6 ⟨.lit 25 false (yac zad l)::vH addr::bd 3 (vI i::bd 13 []),[]⟩) zfw
def zh6(l:List Peer)(addr:Int)(i:Int):Option (Unit⊕Unit):=
 bif yab.ilt i (xlen zad l)then
  (xget zad l i).bind fun x=>
  bif yab.ieq x.addr addr then some (.inl ())else
  zjT l addr (yab.iadd .i64 i 1)
 else
  some (.inr ())
theorem zpm{l addr i r}:zh6 l addr i=some r->zjT l addr i=some r:=by
 unfold zh6;refine kas fun γ=>kc (fun h1=>kb fun x h2=>kc (fun h3=>lr [] ?_) fun h3=>lg [] fun γ' h0=>?_) fun h1=>lr [] ?_
 all_goals (dsimp only[zfw]at *;show zaz IF_ _ _ zo6 zBm _=_;generalize zo6=c0 at *;exact fin_)
def zok(l:List Peer)(addr:Int):Option (Bool):=
 (zjT l addr 0).bind fun r=>match r with
  | .inl ()=>
   some true
  | .inr ()=>
   some false
theorem zAf{l addr r}:zok l addr=some r->zsi l addr=some r:=by
 unfold zok;refine ka (ks [] fun| .inl _,γ1,h1=>(l0 rfl ?_)| .inr _,γ1,h1=>(l0 rfl ?_))
 all_goals (dsimp only[R1,zfw]at *;show zah IF_ (zHG zo6) _ _=_;generalize zo6=c0 at *;exact fin_)
def zlO(a:Int)(x:Int)(b:Int):Option (Bool):=
 bif yab.ieq a b then some (!(yab.ieq x a))else
 bif yab.ieq x b then some false else
 zmS a x b
theorem zxm{a x b r}:zlO a x b=some r->zob a x b=some r:=by
 unfold zlO;refine ka (kc (fun h1=>l0 rfl ?_) fun h1=>kc (fun h2=>l0 rfl ?_) fun h2=>pb fun res h3=>l0 rfl ?_)
 all_goals (dsimp only[R1]at *;show zah IF_ zGH _ _=_;exact fin_)
def zqg(a:Int)(b:Int):Option (Int):=
 bif yab.ile a b then some (yab.isub .u64 b a)else
 some (yab.iadd .u64 (yab.isub .u64 18446744073709551615 (yab.isub .u64 a b)) 1)
theorem zCE{a b r}:zqg a b=some r->zqf a b=some r:=by
 unfold zqg;refine ka (kc (fun h1=>l0 rfl ?_) fun h1=>l0 rfl ?_)
 all_goals (dsimp only[R1]at *;show zah IF_ zHe _ _=_;exact fin_)
def zhD(l:List Pair)(key:ByteArray)(val:ByteArray)(γ:Nat->Nat):Int->X×St
 |a0=>(.brk 0,⟨.lit 76 false (yac zag l)::vT key::vT val::bd 5 (vI a0::bd 60 []),[.row 76 (γ 0) false (yac zag [])]⟩)
instance {l key val}:InjS (zhD l key val):=⟨by unfold zhD;exact ij_⟩
def zjU(l:List Pair)(key:ByteArray)(val:ByteArray)(at_:Int):Option (Int):=asks (fun γ=>(lim F pr).loop [1,2,0,8] 1 zo2 ⟨.lit 76 false (yac zag l)::vT key::vT val::bd 5 (vI at_::bd 60 []),[.row 76 (γ 0) false (yac zag [])]⟩) (zhD l key val)
def zjV(l:List Pair)(key:ByteArray)(val:ByteArray)(at_:Int):Option (Int):=
 bif yab.ilt at_ (xlen zag l)then
  (xget zag l at_).bind fun x=>
  (zqk key x.key).bind fun res=>
  bif res then some at_ else
  zjU l key val (yab.iadd .i64 at_ 1)
 else
  some at_
theorem zsk{l key val at_ r}:zjV l key val at_=some r->zjU l key val at_=some r:=by
 unfold zjV;refine kas fun γ=>kc (fun h1=>kb fun x h2=>kb fun res h3=>kc (fun h4=>lr [γ 0] ?_) fun h4=>lg [γ 0] fun γ' h0=>?_) fun h1=>lr [γ 0] ?_
 all_goals (dsimp only[R1,zhD]at *;show zaz IF_ _ _ zo2 zBh _=_;generalize zo2=c0 at *;exact fin_)
def zsj(l:List Pair)(key:ByteArray)(val:ByteArray):Option (((List Pair)×Int)):=
 (zwl key).bind fun res=>
 bif res then
  bif yab.ilt 512 (yab.slen val)then some (l,5)else
  (znL l key).bind fun res1=>
  bif yab.ile 0 res1 then
   bif zaA zag 32 [] l then
    (xget zag l res1).bind fun x=>
    some (xset l res1 (⟨x.key,val⟩:Pair),0)
   else
    none
  else
   bif yab.ilt 63 (xlen zag l)then some (l,10)else
   (zjU l key val 0).bind fun at_=>
   (xsub zag l 0 at_).bind fun ys=>
   bif zaA zag 32 [] ys then
    bif zaA zag 32 ys [(⟨key,val⟩:Pair)]then
     (xsub zag l at_ (xlen zag l)).bind fun ys1=>
     bif zaA zag 32 (ys++[(⟨key,val⟩:Pair)]) ys1 then some (((ys++[(⟨key,val⟩:Pair)])++ys1),0)else
     none
    else
     none
   else
    none
 else
  some (l,7)
theorem zEC{l key val r}:zsj l key val=some r->zwp l key val=some r:=by
 unfold zsj;refine ka (kb fun res h1=>kc (fun h2=>kc (fun h3=>l0 rfl ?_) fun h3=>kb fun res1 h4=>kc (fun h5=>k1 fun h6=>kb fun x h7=>l0 rfl ?_) fun h5=>kc (fun h6=>l0 rfl ?_) fun h6=>ks [0] fun at_ γ3 h7=>kb fun ys h8=>k1 fun h9=>k1 fun h10=>kb fun ys1 h11=>k1 fun h12=>l0 rfl ?_) fun h2=>l0 rfl ?_)
 all_goals (dsimp only[R1,R2,zhD]at *;show zah IF_ (zHv zo2) _ _=_;generalize zo2=c0 at *;exact fin_)
def zgI(to_:Peer)(γ:Nat->Nat):(Node×(List Out))->X×St
 |(a0,a1)=>(.brk 0,⟨bd 4 (.bptr 0 0::bd 3 (.bptr 2 0::bd 1 (.sl 4 (γ 4)::bd 30 []))),[.box 34 (zal a0),.box 25 [vU to_.id,vH to_.addr],.box 34 ([vU 0,vH 0,vI 0,vF false,.lit 0 true [],.lit 0 true [],.lit 0 true [],.lit 0 true [],.lit 0 true [],.lit 0 true [],.lit 0 true [],vW 0,vI 0,vI 0]),.row 78 (γ 3) false (yac eOut []),.row 78 (γ 4) false (yac eOut a1)]⟩)
instance {to_}:InjS (zgI to_):=⟨by unfold zgI;exact ij_⟩
def zln(to_:Peer)(fresh:Bool)(c:List (List Pair))(i:Int)(b0:Node)(r4:List Out):Option ((Node×(List Out))):=asks (fun γ=>(lim F pr).loop [5,3,11,12,4,10,8] 5 zoG ⟨bd 3 (vF fresh:: .bptr 0 0:: .bptr 1 0::bd 2 (.bptr 2 0::bd 1 (.sl 4 (γ 4):: .lit 28 false (yac (eL 76 zag) c)::vI i::bd 28 []))),[.box 34 (zal b0),.box 25 [vU to_.id,vH to_.addr],.box 34 ([vU 0,vH 0,vI 0,vF false,.lit 0 true [],.lit 0 true [],.lit 0 true [],.lit 0 true [],.lit 0 true [],.lit 0 true [],.lit 0 true [],vW 0,vI 0,vI 0]),.row 78 (γ 3) false (yac eOut []),.row 78 (γ 4) false (yac eOut r4)]⟩) (zgI to_)
def zi0(to_:Peer)(fresh:Bool)(c:List (List Pair))(i:Int)(b0:Node)(r4:List Out):Option ((Node×(List Out))):=
 bif yab.ilt i (xlen (eL 76 zag) c)then
  (xget (eL 76 zag) c i).bind fun x=>
  (zh7 b0 to_ (⟨10,0,0,fresh,0,⟨#[]⟩,⟨#[]⟩,(⟨0,0⟩:Peer),[],x⟩:Msg) 6 0).bind fun⟨r0,r1⟩=>
  bif zaA eOut 136 r4 r1 then zln to_ fresh c (yab.iadd .i64 i 1) r0 (r4++r1)else
  none
 else
  some (b0,r4)
theorem zrh{to_ fresh c i b0 r4 r}:zi0 to_ fresh c i b0 r4=some r->zln to_ fresh c i b0 r4=some r:=by
 unfold zi0;refine kas fun γ=>kc (fun h1=>kb fun x h2=>kb fun⟨r0,r1⟩ h3=>k1 fun h4=>lg [0,0,0,γ 3,((γ 4)+1)] fun γ' h0=>?_) fun h1=>lr [0,0,0,γ 3,γ 4] ?_
 all_goals (dsimp only[R2,zgI]at *;show zaz IF_ _ _ zoG zAG _=_;generalize zoG=c0 at *;exact fin_)
def zqC(n:Node)(to_:Peer)(l:List Pair)(fresh:Bool):Option ((Node×(List Out))):=
 (xcut zag 76 l).bind fun cs=>
 zln to_ fresh cs 0 n []
theorem zC2{n to_ l fresh r}:zqC n to_ l fresh=some r->zuk n to_ l fresh=some r:=by
 unfold zqC;refine ka (kb fun cs h1=>ps [0,0,0,0,0] fun⟨b0,r4⟩ γ1 h2=>l0 rfl ?_)
 all_goals (dsimp only[R2,zgI]at *;show zah IF_ (zGA zoG) _ _=_;generalize zoG=c0 at *;exact fin_)
def zfy(γ:Nat->Nat):Int⊕Unit->X×St
 | .inl a0=>(.ret,⟨bd 4 (vI a0::bd 15 []),[]⟩)
 | .inr ()=>(.brk 0,⟨bd 20 [],[]⟩)
instance :InjS zfy:=⟨by unfold zfy;exact ij_⟩
def zjW(l:List Pair)(key:ByteArray)(i:Int):Option (Int⊕Unit):=asks (fun γ=>(lim F pr).loop [0,1,5] 0 zo3 ⟨.lit 76 false (yac zag l)::vT key::bd 3 (vI i::bd 14 []),[]⟩) zfy
def zfx(l:List Pair)(key:ByteArray)(i:Int):Option (Int⊕Unit):=
 bif yab.ilt i (xlen zag l)then
  (xget zag l i).bind fun x=>
  bif yab.seq x.key key then some (.inl i)else
  zjW l key (yab.iadd .i64 i 1)
 else
  some (.inr ())
theorem zkR{l key i r}:zfx l key i=some r->zjW l key i=some r:=by
 unfold zfx;refine kas fun γ=>kc (fun h1=>kb fun x h2=>kc (fun h3=>lr [] ?_) fun h3=>lg [] fun γ' h0=>?_) fun h1=>lr [] ?_
 all_goals (dsimp only[zfy]at *;show zaz IF_ _ _ zo3 zBi _=_;generalize zo3=c0 at *;exact fin_)
def zol(l:List Pair)(key:ByteArray):Option (Int):=
 (zjW l key 0).bind fun r=>match r with
  | .inl t4=>
   some t4
  | .inr ()=>
   some (-1)
theorem zAg{l key r}:zol l key=some r->znL l key=some r:=by
 unfold zol;refine ka (ks [] fun| .inl t4,γ1,h1=>(l0 rfl ?_)| .inr _,γ1,h1=>(l0 rfl ?_))
 all_goals (dsimp only[R1,zfy]at *;show zah IF_ (zHw zo3) _ _=_;generalize zo3=c0 at *;exact fin_)
def zhz(γ:Nat->Nat):(Int×Int)⊕Unit->X×St
 | .inl (a0,a1)=>(.ret,⟨bd 4 (.bptr 0 0::vF true::bd 20 []),[.box 25 [vU a0,vH a1]]⟩)
 | .inr ()=>(.brk 0,⟨bd 4 (.bptr 0 0::bd 21 []),[.box 25 [vU 0,vH 0]]⟩)
instance :InjS zhz:=⟨by unfold zhz;exact ij_⟩
def zey(l:List Finger)(bit:Int)(i:Int):Option ((Int×Int)⊕Unit):=asks (fun γ=>(lim F pr).loop [1,0,6,4] 1 zo5 ⟨.lit 82 false (yac zaa l)::vI bit::bd 2 (.bptr 0 0::bd 1 (vI i::bd 19 [])),[.box 25 [vU 0,vH 0]]⟩) zhz
def zhy(l:List Finger)(bit:Int)(i:Int):Option ((Int×Int)⊕Unit):=
 bif yab.ilt i (xlen zaa l)then
  (xget zaa l i).bind fun x=>
  bif yab.ieq x.bit bit then some (.inl (x.peer.id,x.peer.addr))else
  zey l bit (yab.iadd .i64 i 1)
 else
  some (.inr ())
theorem zmU{l bit i r}:zhy l bit i=some r->zey l bit i=some r:=by
 unfold zhy;refine kas fun γ=>kc (fun h1=>kb fun x h2=>kc (fun h3=>lr [] ?_) fun h3=>lg [] fun γ' h0=>?_) fun h1=>lr [] ?_
 all_goals (dsimp only[zhz]at *;show zaz IF_ _ _ zo5 zBl _=_;generalize zo5=c0 at *;exact fin_)
def znI(l:List Finger)(bit:Int):Option ((Peer×Bool)):=
 (zey l bit 0).bind fun r=>match r with
  | .inl (zau,zaj)=>
   some ((⟨zau,zaj⟩:Peer),true)
  | .inr ()=>
   some ((⟨0,0⟩:Peer),false)
theorem zwZ{l bit r}:znI l bit=some r->zwm l bit=some r:=by
 unfold znI;refine ka (ks [] fun| .inl ⟨zau,zaj⟩,γ1,h1=>(l0 rfl ?_)| .inr _,γ1,h1=>(l0 rfl ?_))
 all_goals (dsimp only[R2,zhz]at *;show zah IF_ (zHE zo5) _ _=_;generalize zo5=c0 at *;exact fin_)
def zse(s:ByteArray):Option (Bool):=
 bif yab.ilt 0 (yab.slen s)then
  bif yab.ilt (yab.slen s) 97 then
   (zsd s).bind fun res=>
   bif res then
    (znF s).bind fun res1=>
    some (yab.ilt (xlen vT res1) 33)
   else
    some false
  else
   some false
 else
  some false
theorem zEy{s r}:zse s=some r->zwl s=some r:=by
 unfold zse;refine ka (kc (fun h1=>kc (fun h2=>kb fun res h3=>kc (fun h4=>kb fun res1 h5=>l0 rfl ?_) fun h4=>l0 rfl ?_) fun h2=>l0 rfl ?_) fun h1=>l0 rfl ?_)
 all_goals (dsimp only[R1]at *;show zah IF_ zG1 _ _=_;exact fin_)
def zgd(a:ByteArray)(b:ByteArray)(γ:Nat->Nat):Bool⊕Unit->X×St
 | .inl a0=>(.ret,⟨bd 4 (vF a0::bd 32 []),[]⟩)
 | .inr ()=>(.brk 0,⟨vT a::vT b::bd 35 [],[]⟩)
instance {a b}:InjS (zgd a b):=⟨by unfold zgd;exact ij_⟩
def zix(a:ByteArray)(b:ByteArray)(i:Int):Option (Bool⊕Unit):=asks (fun γ=>(lim F pr).loop [5,0,1] 0 zo9 ⟨vT a::vT b::bd 3 (vI i::bd 31 []),[]⟩) (zgd a b)
def zge(a:ByteArray)(b:ByteArray)(γ:Nat->Nat):Int⊕Bool->X×St
 | .inl a0=>(.nor,⟨vT a::vT b::bd 3 (vI a0::bd 31 []),[]⟩)
 | .inr b0=>(.ret,⟨bd 4 (vF b0::bd 32 []),[]⟩)
instance {a b}:InjS (zge a b):=⟨by unfold zge;exact ij_⟩
def zlf(a:ByteArray)(b:ByteArray)(i:Int):Option (Int⊕Bool):=asks (fun γ=>(lim F pr).seg [5,0,1] zu7 ⟨vT a::vT b::bd 3 (vI i::bd 31 []),[]⟩) (zge a b)
def zeh(a:ByteArray)(b:ByteArray)(i:Int):Option (Bool⊕Unit):=
 bif yab.ilt i (yab.slen a)then
  bif yab.ilt i (yab.slen b)then
   (zlf a b i).bind fun r=>match r with
    | .inl i1=>
     zix a b i1
    | .inr t4=>
     some (.inl t4)
  else
   some (.inr ())
 else
  some (.inr ())
theorem ziP{a b i r}:zeh a b i=some r->zix a b i=some r:=by
 unfold zeh;refine kas fun γ=>kc (fun h1=>kc (fun h2=>ks [] fun| .inl i1,γ1,h3=>(lg [] fun γ' h0=>?_)| .inr t4,γ1,h3=>(lr [] ?_)) fun h2=>lr [] ?_) fun h1=>lr [] ?_
 all_goals (dsimp only[zgd,zge]at *;show zaz IF_ _ _ zo9 (zBu zu7) _=_;generalize zo9=c0,zu7=c1 at *;exact fin_)
def ziQ(a:ByteArray)(b:ByteArray)(i:Int):Option (Int⊕Bool):=
 (zck a i).bind fun b1=>
 (zck b i).bind fun b2=>
 bif yab.ieq b1 b2 then some (.inl (yab.iadd .i64 i 1))else
 some (.inr (yab.ilt b1 b2))
theorem zq1{a b i r}:ziQ a b i=some r->zlf a b i=some r:=by
 unfold ziQ;refine kas fun γ=>kn fun b1 h1=>kn fun b2 h2=>kc (fun h3=>ls [] ?_) fun h3=>ls [] ?_
 all_goals (dsimp only[zge]at *;show Ifc.apart IF_ _ zBt _=_;exact fin_)
def zql(a:ByteArray)(b:ByteArray):Option (Bool):=
 (zix a b 0).bind fun r=>match r with
  | .inl t4=>
   some t4
  | .inr ()=>
   some (yab.ilt (yab.slen a) (yab.slen b))
theorem zCJ{a b r}:zql a b=some r->zqk a b=some r:=by
 unfold zql;refine ka (ks [] fun| .inl t4,γ1,h1=>(l0 rfl ?_)| .inr _,γ1,h1=>(l0 rfl ?_))
 all_goals (dsimp only[R1,zgd]at *;show zah IF_ (zHL zo9) _ _=_;generalize zo9=c0 at *;exact fin_)
def zfk(γ:Nat->Nat):Unit⊕Unit->X×St
 | .inl ()=>(.ret,⟨bd 2 (vF false::bd 16 []),[]⟩)
 | .inr ()=>(.brk 0,⟨bd 19 [],[]⟩)
instance :InjS zfk:=⟨by unfold zfk;exact ij_⟩
def zhu(l:List ByteArray)(i:Int):Option (Unit⊕Unit):=asks (fun γ=>(lim F pr).loop [3,4] 0 zo0 ⟨bd 3 (.lit 9 false (yac vT l)::vI i::bd 14 []),[]⟩) zfk
def zfj(l:List ByteArray)(i:Int):Option (Unit⊕Unit):=
 bif yab.ilt i (xlen vT l)then
  (xget vT l i).bind fun x=>
  (zhv x 0).bind fun res=>
  bif yab.ieq res 0 then some (.inl ())else
  zhu l (yab.iadd .i64 i 1)
 else
  some (.inr ())
theorem zkJ{l i r}:zfj l i=some r->zhu l i=some r:=by
 unfold zfj;refine kas fun γ=>kc (fun h1=>kb fun x h2=>kb fun res h3=>kc (fun h4=>lr [] ?_) fun h4=>lg [] fun γ' h0=>?_) fun h1=>lr [] ?_
 all_goals (dsimp only[R1,zfk]at *;show zaz IF_ _ _ zo0 zBf _=_;generalize zo0=c0 at *;exact fin_)
def zoe(s:ByteArray):Option (Bool):=
 (znF s).bind fun res=>
 (zhu res 0).bind fun r=>match r with
  | .inl ()=>
   some false
  | .inr ()=>
   some true
theorem zz7{s r}:zoe s=some r->zsd s=some r:=by
 unfold zoe;refine ka (kb fun res h1=>ks [] fun| .inl _,γ2,h2=>(l0 rfl ?_)| .inr _,γ2,h2=>(l0 rfl ?_))
 all_goals (dsimp only[R1,zfk]at *;show zah IF_ (zHt zo0) _ _=_;generalize zo0=c0 at *;exact fin_)
def zfi(γ:Nat->Nat):(List ByteArray)->X×St
 |a0=>(.brk 0,⟨bd 3 (.sl 1 (γ 1)::bd 24 []),[.row 9 (γ 0) false (yac vT []),.row 9 (γ 1) false (yac vT a0)]⟩)
instance :InjS zfi:=⟨by unfold zfi;exact ij_⟩
def zfh(s:ByteArray)(at_:Int)(r1:List ByteArray):Option ((List ByteArray)):=asks (fun γ=>(lim F pr).loop [0,4,3] 2 zo1 ⟨vT s::bd 2 (.sl 1 (γ 1)::vI at_::bd 23 []),[.row 9 (γ 0) false (yac vT []),.row 9 (γ 1) false (yac vT r1)]⟩) zfi
def zh4(s:ByteArray)(at_:Int)(r1:List ByteArray):Option ((List ByteArray)):=
 bif yab.ilt at_ (yab.slen s)then
  (zhv s at_).bind fun res=>
  bif yab.ieq res 0 then
   (ztt s at_ (yab.iadd .i64 at_ 1)).bind fun z=>
   bif zaA vT 16 r1 [z]then zfh s (yab.iadd .i64 at_ 1) (r1++[z])else
   none
  else
   (ztt s at_ (yab.iadd .i64 at_ res)).bind fun z=>
   bif zaA vT 16 r1 [z]then zfh s (yab.iadd .i64 at_ res) (r1++[z])else
   none
 else
  some r1
theorem zpj{s at_ r1 r}:zh4 s at_ r1=some r->zfh s at_ r1=some r:=by
 unfold zh4;refine kas fun γ=>kc (fun h1=>kb fun res h2=>kc (fun h3=>kn fun z h4=>k1 fun h5=>lg [γ 0,((γ 1)+1)] fun γ' h0=>?_) fun h3=>kn fun z h4=>k1 fun h5=>lg [γ 0,((γ 1)+1)] fun γ' h0=>?_) fun h1=>lr [γ 0,γ 1] ?_
 all_goals (dsimp only[R1,zfi]at *;show zaz IF_ _ _ zo1 zBg _=_;generalize zo1=c0 at *;exact fin_)
def zod(s:ByteArray):Option ((List ByteArray)):=
 zfh s 0 []
theorem zz6{s r}:zod s=some r->znF s=some r:=by
 unfold zod;refine ka (ps [0,0] fun r1 γ1 h1=>l0 rfl ?_)
 all_goals (dsimp only[R1,zfi]at *;show zah IF_ (zHu zo1) _ _=_;generalize zo1=c0 at *;exact fin_)
def zfp(γ:Nat->Nat):Int->X×St
 |a0=>(.ret,⟨bd 4 (vI a0::bd 123 []),[]⟩)
instance :InjS zfp:=⟨by unfold zfp;exact ij_⟩
def zfo(s:ByteArray)(at_:Int)(c:Int):Option (Int):=asks (fun γ=>(lim F pr).seg [4] zu6 ⟨vT s::vI at_::bd 3 (vB c::vI (yab.isub .i64 (yab.slen s) at_)::bd 121 []),[]⟩) zfp
def zfl(s:ByteArray)(at_:Int)(γ:Nat->Nat):Int⊕Int->X×St
 | .inl a0=>(.ret,⟨bd 4 (vI a0::bd 123 []),[]⟩)
 | .inr b0=>(.nor,⟨vT s::vI at_::bd 3 (vB b0::vI (yab.isub .i64 (yab.slen s) at_)::bd 121 []),[]⟩)
instance {s at_}:InjS (zfl s at_):=⟨by unfold zfl;exact ij_⟩
def zc2(s:ByteArray)(at_:Int)(c:Int)(t56:Bool):Option (Int⊕Int):=asks (fun γ=>(lim F pr).seg [6,5,0,1] zu3 ⟨vT s::vI at_::bd 3 (vB c::vI (yab.isub .i64 (yab.slen s) at_)::bd 49 (vF t56::bd 71 [])),[]⟩) (zfl s at_)
def zfn(γ:Nat->Nat):Int->X×St
 |a0=>(.ret,⟨bd 4 (vI a0::bd 123 []),[]⟩)
instance :InjS zfn:=⟨by unfold zfn;exact ij_⟩
def zdX(s:ByteArray)(at_:Int)(c:Int):Option (Int):=asks (fun γ=>(lim F pr).seg [4] zu5 ⟨vT s::vI at_::bd 3 (vB c::vI (yab.isub .i64 (yab.slen s) at_)::bd 121 []),[]⟩) zfn
def zfm(γ:Nat->Nat):Int⊕Unit->X×St
 | .inl a0=>(.ret,⟨bd 4 (vI a0::bd 123 []),[]⟩)
 | .inr ()=>(.nor,⟨bd 128 [],[]⟩)
instance :InjS zfm:=⟨by unfold zfm;exact ij_⟩
def zct(s:ByteArray)(at_:Int)(c:Int)(t107:Bool):Option (Int⊕Unit):=asks (fun γ=>(lim F pr).seg [] zu4 ⟨vT s::vI at_::bd 3 (vB c::bd 101 (vF t107::bd 20 [])),[]⟩) zfm
def zkN(s:ByteArray)(at_:Int)(c:Int):Option (Int):=
 bif yab.ile 224 c then
  bif yab.ile c 239 then
   bif yab.ilt 2 (yab.isub .i64 (yab.slen s) at_)then
    (zck s (yab.iadd .i64 at_ 1)).bind fun b=>
    (zhw b).bind fun res=>
    bif res then
     (zck s (yab.iadd .i64 at_ 2)).bind fun b1=>
     (zhw b1).bind fun res1=>
     (zc2 s at_ c res1).bind fun r=>match r with
      | .inl t4=>
       some t4
      | .inr c1=>
       zdX s at_ c1
    else
     (zc2 s at_ c false).bind fun r=>match r with
      | .inl t4=>
       some t4
      | .inr c1=>
       zdX s at_ c1
   else
    (zc2 s at_ c false).bind fun r=>match r with
     | .inl t4=>
      some t4
     | .inr c1=>
      zdX s at_ c1
  else
   (zc2 s at_ c false).bind fun r=>match r with
    | .inl t4=>
     some t4
    | .inr c1=>
     zdX s at_ c1
 else
  (zc2 s at_ c false).bind fun r=>match r with
   | .inl t4=>
    some t4
   | .inr c1=>
    zdX s at_ c1
theorem zwk{s at_ c r}:zkN s at_ c=some r->zfo s at_ c=some r:=by
 unfold zkN;refine kas fun γ=>kc (fun h1=>kc (fun h2=>kc (fun h3=>kn fun b h4=>kb fun res h5=>kc (fun h6=>kn fun b1 h7=>kb fun res1 h8=>ks [] fun| .inl t4,γ3,h9=>(ls [] ?_)| .inr c1,γ3,h9=>(ps [] fun t4 γ4 h10=>ls [] ?_)) fun h6=>ks [] fun| .inl t4,γ2,h7=>(ls [] ?_)| .inr c1,γ2,h7=>(ps [] fun t4 γ3 h8=>ls [] ?_)) fun h3=>ks [] fun| .inl t4,γ1,h4=>(ls [] ?_)| .inr c1,γ1,h4=>(ps [] fun t4 γ2 h5=>ls [] ?_)) fun h2=>ks [] fun| .inl t4,γ1,h3=>(ls [] ?_)| .inr c1,γ1,h3=>(ps [] fun t4 γ2 h4=>ls [] ?_)) fun h1=>ks [] fun| .inl t4,γ1,h2=>(ls [] ?_)| .inr c1,γ1,h2=>(ps [] fun t4 γ2 h3=>ls [] ?_)
 all_goals (dsimp only[R1,zfl,zfn,zfp]at *;show Ifc.apart IF_ _ (zBs zu3 zu5) _=_;generalize zu3=c0,zu5=c1 at *;exact fin_)
def zkK(s:ByteArray)(at_:Int)(c:Int)(t56:Bool):Option (Int⊕Int):=
 bif t56 then
  bif yab.ieq c 224 then
   (zck s (yab.iadd .i64 at_ 1)).bind fun b=>
   bif yab.ilt b 160 then some (.inl 0)else
   some (.inl 3)
  else
   bif yab.ieq c 237 then
    (zck s (yab.iadd .i64 at_ 1)).bind fun b=>
    bif yab.ilt 159 b then some (.inl 0)else
    some (.inl 3)
   else
    some (.inl 3)
 else
  some (.inr c)
theorem zpk{s at_ c t56 r}:zkK s at_ c t56=some r->zc2 s at_ c t56=some r:=by
 unfold zkK;refine kas fun γ=>kc (fun h1=>kc (fun h2=>kn fun b h3=>kc (fun h4=>ls [] ?_) fun h4=>have h5:=zwR h2 (b:=237) (by decide);ls [] ?_) fun h2=>kc (fun h3=>kn fun b h4=>kc (fun h5=>ls [] ?_) fun h5=>ls [] ?_) fun h3=>ls [] ?_) fun h1=>ls [] ?_
 all_goals (dsimp only[zfl]at *;show Ifc.apart IF_ _ zBp _=_;exact fin_)
def zkM(s:ByteArray)(at_:Int)(c:Int):Option (Int):=
 bif yab.ile 240 c then
  bif yab.ile c 244 then
   bif yab.ilt 3 (yab.isub .i64 (yab.slen s) at_)then
    (zck s (yab.iadd .i64 at_ 1)).bind fun b=>
    (zhw b).bind fun res=>
    bif res then
     (zck s (yab.iadd .i64 at_ 2)).bind fun b1=>
     (zhw b1).bind fun res1=>
     bif res1 then
      (zck s (yab.iadd .i64 at_ 3)).bind fun b2=>
      (zhw b2).bind fun res2=>
      (zct s at_ c res2).bind fun r=>match r with
       | .inl t4=>
        some t4
       | .inr ()=>
        some 0
     else
      (zct s at_ c false).bind fun r=>match r with
       | .inl t4=>
        some t4
       | .inr ()=>
        some 0
    else
     (zct s at_ c false).bind fun r=>match r with
      | .inl t4=>
       some t4
      | .inr ()=>
       some 0
   else
    (zct s at_ c false).bind fun r=>match r with
     | .inl t4=>
      some t4
     | .inr ()=>
      some 0
  else
   (zct s at_ c false).bind fun r=>match r with
    | .inl t4=>
     some t4
    | .inr ()=>
     some 0
 else
  (zct s at_ c false).bind fun r=>match r with
   | .inl t4=>
    some t4
   | .inr ()=>
    some 0
theorem zwj{s at_ c r}:zkM s at_ c=some r->zdX s at_ c=some r:=by
 unfold zkM;refine kas fun γ=>kc (fun h1=>kc (fun h2=>kc (fun h3=>kn fun b h4=>kb fun res h5=>kc (fun h6=>kn fun b1 h7=>kb fun res1 h8=>kc (fun h9=>kn fun b2 h10=>kb fun res2 h11=>ks [] fun| .inl t4,γ4,h12=>(ls [] ?_)| .inr _,γ4,h12=>(ls [] ?_)) fun h9=>ks [] fun| .inl t4,γ3,h10=>(ls [] ?_)| .inr _,γ3,h10=>(ls [] ?_)) fun h6=>ks [] fun| .inl t4,γ2,h7=>(ls [] ?_)| .inr _,γ2,h7=>(ls [] ?_)) fun h3=>ks [] fun| .inl t4,γ1,h4=>(ls [] ?_)| .inr _,γ1,h4=>(ls [] ?_)) fun h2=>ks [] fun| .inl t4,γ1,h3=>(ls [] ?_)| .inr _,γ1,h3=>(ls [] ?_)) fun h1=>ks [] fun| .inl t4,γ1,h2=>(ls [] ?_)| .inr _,γ1,h2=>(ls [] ?_)
 all_goals (dsimp only[R1,zfm,zfn]at *;show Ifc.apart IF_ _ (zBr zu4) _=_;generalize zu4=c0 at *;exact fin_)
def zkL(s:ByteArray)(at_:Int)(c:Int)(t107:Bool):Option (Int⊕Unit):=
 bif t107 then
  bif yab.ieq c 240 then
   (zck s (yab.iadd .i64 at_ 1)).bind fun b=>
   bif yab.ilt b 144 then some (.inl 0)else
   some (.inl 4)
  else
   bif yab.ieq c 244 then
    (zck s (yab.iadd .i64 at_ 1)).bind fun b=>
    bif yab.ilt 143 b then some (.inl 0)else
    some (.inl 4)
   else
    some (.inl 4)
 else
  some (.inr ())
theorem zpl{s at_ c t107 r}:zkL s at_ c t107=some r->zct s at_ c t107=some r:=by
 unfold zkL;refine kas fun γ=>kc (fun h1=>kc (fun h2=>kn fun b h3=>kc (fun h4=>ls [] ?_) fun h4=>have h5:=zwR h2 (b:=244) (by decide);ls [] ?_) fun h2=>kc (fun h3=>kn fun b h4=>kc (fun h5=>ls [] ?_) fun h5=>ls [] ?_) fun h3=>ls [] ?_) fun h1=>ls [] ?_
 all_goals (dsimp only[zfm]at *;show Ifc.apart IF_ _ zBq _=_;exact fin_)
def zof(s:ByteArray)(at_:Int):Option (Int):=
 (zck s at_).bind fun b=>
 bif yab.ilt b 128 then some 1 else
 bif yab.ile 194 b then
  bif yab.ile b 223 then
   bif yab.ilt 1 (yab.isub .i64 (yab.slen s) at_)then
    (zck s (yab.iadd .i64 at_ 1)).bind fun b1=>
    (zhw b1).bind fun res=>
    bif res then some 2 else
    zfo s at_ b
   else
    zfo s at_ b
  else
   zfo s at_ b
 else
  zfo s at_ b
theorem zz8{s at_ r}:zof s at_=some r->zhv s at_=some r:=by
 unfold zof;refine ka (kn fun b h1=>kc (fun h2=>l0 rfl ?_) fun h2=>kc (fun h3=>kc (fun h4=>kc (fun h5=>kn fun b1 h6=>kb fun res h7=>kc (fun h8=>l0 rfl ?_) fun h8=>ps [] fun t4 γ2 h9=>l0 rfl ?_) fun h5=>ps [] fun t4 γ1 h6=>l0 rfl ?_) fun h4=>ps [] fun t4 γ1 h5=>l0 rfl ?_) fun h3=>ps [] fun t4 γ1 h4=>l0 rfl ?_)
 all_goals (dsimp only[R1,zfp]at *;show zah IF_ (zHK zu6) _ _=_;generalize zu6=c0 at *;exact fin_)
def zqi(c:Int):Option (Bool):=
 bif yab.ile 128 c then some (yab.ile c 191)else
 some false
theorem zCG{c r}:zqi c=some r->zhw c=some r:=by
 unfold zqi;refine ka (kc (fun h1=>l0 rfl ?_) fun h1=>l0 rfl ?_)
 all_goals (dsimp only[R1]at *;show zah IF_ zHQ _ _=_;exact fin_)
end Go.Ab.Tryz
