/- Our texts for this statement, merged: what its theorem leads to. -/
import Derived.Test.YtdjoeakbjackbaaGreatDoorQLm9
set_option linter.unusedVariables false
set_option linter.unusedSimpArgs false
noncomputable section
namespace Go.Ab.Tryz
open Go Go.Ab Go.Proofs
set_option maxRecDepth 10000
set_option maxHeartbeats 4000000
open Go.Ab.Ops renaming std->yab
open List renaming map->yac
def zfu(γ:Nat->Nat):Int⊕Unit->X×St
 | .inl a0=>(.ret,⟨bd 4 (vI a0::bd 16 []),[]⟩)
 | .inr ()=>(.brk 0,⟨bd 21 [],[]⟩)
instance :InjS zfu:=⟨by unfold zfu;exact ij_⟩
def zjR(l:List Entry)(addr:Int)(i:Int):Option (Int⊕Unit):=asks (fun γ=>(lim F pr).loop [0,1,5] 0 ztb ⟨.lit 55 false (yac zab l)::vH addr::bd 3 (vI i::bd 15 []),[]⟩) zfu
def zft(l:List Entry)(addr:Int)(i:Int):Option (Int⊕Unit):=
 bif yab.ilt i (xlen zab l)then
  (xget zab l i).bind fun x=>
  bif yab.ieq x.peer.addr addr then some (.inl i)else
  zjR l addr (yab.iadd .i64 i 1)
 else
  some (.inr ())
theorem zkQ{l addr i r}:zft l addr i=some r->zjR l addr i=some r:=by
 unfold zft;refine kas fun γ=>kc (fun h1=>kb fun x h2=>kc (fun h3=>lr [] ?_) fun h3=>lg [] fun γ' h0=>?_) fun h1=>lr [] ?_
 all_goals (dsimp only[zfu]at *;show zaz IF_ _ _ ztb zDH _=_;generalize ztb=c0 at *;exact fin_)
def zoi(l:List Entry)(addr:Int):Option (Int):=
 (zjR l addr 0).bind fun r=>match r with
  | .inl t4=>
   some t4
  | .inr ()=>
   some (-1)
theorem zAc{l addr r}:zoi l addr=some r->zlF l addr=some r:=by
 unfold zoi;refine ka (ks [] fun| .inl t4,γ1,h1=>(l0 rfl ?_)| .inr _,γ1,h1=>(l0 rfl ?_))
 all_goals (dsimp only[R1,zfu]at *;show zah IF_ (g66F ztb) _ _=_;generalize ztb=c0 at *;exact fin_)
def zgr(γ:Nat->Nat):(List Finger)->X×St
 |a0=>(.brk 0,⟨bd 5 (.sl 1 (γ 1)::bd 23 []),[.row 82 (γ 0) false (yac zaa []),.row 82 (γ 1) false (yac zaa a0)]⟩)
instance :InjS zgr:=⟨by unfold zgr;exact ij_⟩
def ziB(l:List Finger)(addr:Int)(i:Int)(r1:List Finger):Option ((List Finger)):=asks (fun γ=>(lim F pr).loop [1,0,6,5] 2 ztc ⟨.lit 82 false (yac zaa l)::vH addr::bd 3 (.sl 1 (γ 1)::vI i::bd 22 []),[.row 82 (γ 0) false (yac zaa []),.row 82 (γ 1) false (yac zaa r1)]⟩) zgr
def zgq(l:List Finger)(addr:Int)(i:Int)(r1:List Finger):Option ((List Finger)):=
 bif yab.ilt i (xlen zaa l)then
  (xget zaa l i).bind fun x=>
  bif yab.ieq x.peer.addr addr then ziB l addr (yab.iadd .i64 i 1) r1 else
  bif zaA zaa 24 r1 [x]then ziB l addr (yab.iadd .i64 i 1) (r1++[x])else
  none
 else
  some r1
theorem zq5{l addr i r1 r}:zgq l addr i r1=some r->ziB l addr i r1=some r:=by
 unfold zgq;refine kas fun γ=>kc (fun h1=>kb fun x h2=>kc (fun h3=>lg [γ 0,γ 1] fun γ' h0=>?_) fun h3=>k1 fun h4=>lg [γ 0,((γ 1)+1)] fun γ' h0=>?_) fun h1=>lr [γ 0,γ 1] ?_
 all_goals (dsimp only[zgr]at *;show zaz IF_ _ _ ztc zDI _=_;generalize ztc=c0 at *;exact fin_)
def zqr(l:List Finger)(addr:Int):Option ((List Finger)):=
 ziB l addr 0 []
theorem zCO{l addr r}:zqr l addr=some r->zue l addr=some r:=by
 unfold zqr;refine ka (ps [0,0] fun r1 γ1 h1=>l0 rfl ?_)
 all_goals (dsimp only[R1,zgr]at *;show zah IF_ (g67F ztc) _ _=_;generalize ztc=c0 at *;exact fin_)
def zgg(γ:Nat->Nat):(List Entry)->X×St
 |a0=>(.brk 0,⟨bd 5 (.sl 1 (γ 1)::bd 23 []),[.row 55 (γ 0) false (yac zab []),.row 55 (γ 1) false (yac zab a0)]⟩)
instance :InjS zgg:=⟨by unfold zgg;exact ij_⟩
def ziy(l:List Entry)(addr:Int)(i:Int)(r1:List Entry):Option ((List Entry)):=asks (fun γ=>(lim F pr).loop [1,0,6,5] 2 ztd ⟨.lit 55 false (yac zab l)::vH addr::bd 3 (.sl 1 (γ 1)::vI i::bd 22 []),[.row 55 (γ 0) false (yac zab []),.row 55 (γ 1) false (yac zab r1)]⟩) zgg
def zgf(l:List Entry)(addr:Int)(i:Int)(r1:List Entry):Option ((List Entry)):=
 bif yab.ilt i (xlen zab l)then
  (xget zab l i).bind fun x=>
  bif yab.ieq x.peer.addr addr then ziy l addr (yab.iadd .i64 i 1) r1 else
  bif zaA zab 24 r1 [x]then ziy l addr (yab.iadd .i64 i 1) (r1++[x])else
  none
 else
  some r1
theorem zq2{l addr i r1 r}:zgf l addr i r1=some r->ziy l addr i r1=some r:=by
 unfold zgf;refine kas fun γ=>kc (fun h1=>kb fun x h2=>kc (fun h3=>lg [γ 0,γ 1] fun γ' h0=>?_) fun h3=>k1 fun h4=>lg [γ 0,((γ 1)+1)] fun γ' h0=>?_) fun h1=>lr [γ 0,γ 1] ?_
 all_goals (dsimp only[zgg]at *;show zaz IF_ _ _ ztd zDJ _=_;generalize ztd=c0 at *;exact fin_)
def zqm(l:List Entry)(addr:Int):Option ((List Entry)):=
 ziy l addr 0 []
theorem zCK{l addr r}:zqm l addr=some r->zuc l addr=some r:=by
 unfold zqm;refine ka (ps [0,0] fun r1 γ1 h1=>l0 rfl ?_)
 all_goals (dsimp only[R1,zgg]at *;show zah IF_ (g68F ztd) _ _=_;generalize ztd=c0 at *;exact fin_)
def zm1(n:Node)(id:Int)(why:Int):Option ((Node×(List Out))):=
 (zsx n id).bind fun res=>
 bif yab.ilt res 0 then some (n,[])else
 (xget eJob n.jobs res).bind fun x=>
 zum n x why
theorem zza{n id why r}:zm1 n id why=some r->zia n id why=some r:=by
 unfold zm1;refine ka (kb fun res h1=>kc (fun h2=>l0 rfl ?_) fun h2=>kb fun x h3=>pb fun⟨r0,r1⟩ h4=>l0 rfl ?_)
 all_goals (dsimp only[R1,R2]at *;show zah IF_ g69F _ _=_;exact fin_)
def zsb(p:Pend)(b0:Int)(b1:Int):Option (Bool):=
 bif yab.ieq p.why b0 then some (yab.ieq p.to_.addr b1)else
 some false
theorem zyX{p b0 b1 r}:zsb p b0 b1=some r->zqc p b0 b1=some r:=by
 unfold zsb;refine ka (kc (fun h1=>l0 rfl ?_) fun h1=>l0 rfl ?_)
 all_goals (dsimp only[zht]at *;show zah IF_ zGQ _ _=_;exact fin_)
def zcH(b0:Int)(b1:Int)(γ:Nat->Nat):Int⊕Unit->X×St
 | .inl a0=>(.ret,⟨bd 4 (vI a0::bd 14 []),[.box 3 [vI b0],.box 23 [vH b1]]⟩)
 | .inr ()=>(.brk 0,⟨bd 19 [],[.box 3 [vI b0],.box 23 [vH b1]]⟩)
instance {b0 b1}:InjS (zcH b0 b1):=⟨by unfold zcH;exact ij_⟩
def zeT(s:List Pend)(b0:Int)(b1:Int)(t8:Int):Option (Int⊕Unit):=asks (fun γ=>(lim F pr).loop [7,1,0,8] 2 zoM ⟨.lit 36 false (yac zaI s):: .fn 138 [.bptr 0 0,.bptr 1 0]::bd 5 (vI (xlen zaI s)::vI t8::bd 10 []),[.box 3 [vI b0],.box 23 [vH b1]]⟩) (zcH b0 b1)
def zcG(s:List Pend)(b0:Int)(b1:Int)(t8:Int):Option (Int⊕Unit):=
 bif yab.ilt t8 (xlen zaI s)then
  (xget zaI s t8).bind fun x=>
  (zqc x b0 b1).bind fun res=>
  bif res then some (.inl t8)else
  zeT s b0 b1 (yab.iadd .i64 t8 1)
 else
  some (.inr ())
theorem zg3{s b0 b1 t8 r}:zcG s b0 b1 t8=some r->zeT s b0 b1 t8=some r:=by
 unfold zcG;refine kas fun γ=>kc (fun h1=>kb fun x h2=>kb fun res h3=>kc (fun h4=>lr [] ?_) fun h4=>lg [] fun γ' h0=>?_) fun h1=>lr [] ?_
 all_goals (dsimp only[zcH,zht]at *;show zaz IF_ _ _ zoM zAX _=_;generalize zoM=c0 at *;exact fin_)
def zje(s:List Pend)(b0:Int)(b1:Int):Option (Int):=
 (zeT s b0 b1 0).bind fun r=>match r with
  | .inl t4=>
   some t4
  | .inr ()=>
   some (-1)
theorem ztV{s b0 b1 r}:zje s b0 b1=some r->zkr s b0 b1=some r:=by
 unfold zje;refine ka (ks [] fun| .inl t4,γ1,h1=>(l0 rfl ?_)| .inr _,γ1,h1=>(l0 rfl ?_))
 all_goals (dsimp only[zdT,zcH]at *;show zah IF_ (zG0 zoM) _ _=_;generalize zoM=c0 at *;exact fin_)
def zgW(s:List Pend)(b0:Int)(b1:Int):Option (Bool):=
 (zkr s b0 b1).bind fun res=>
 some (yab.ile 0 res)
theorem zrq{s b0 b1 r}:zgW s b0 b1=some r->zl9 s b0 b1=some r:=by
 unfold zgW;refine ka (kb fun res h1=>l0 rfl ?_)
 all_goals (dsimp only[zcz,zdT]at *;show zah IF_ zGP _ _=_;exact fin_)
def zp4(m:Msg):Option (Msg):=
 bif zaA zad 16 [] m.peers then
  bif zaA zag 32 [] m.pairs then some m else
  none
 else
  none
theorem zCt{m r}:zp4 m=some r->zt8 m=some r:=by
 unfold zp4;refine ka (k1 fun h1=>k1 fun h2=>l0 rfl ?_)
 all_goals (dsimp only[R1]at *;show zah IF_ zGR _ _=_;exact fin_)
def zqe(n:Node):Option (Int):=
 bif yab.ilt n.clock 0 then some 0 else
 bif yab.ilt 1099511627776 n.clock then some 0 else
 some n.clock
theorem zCA{n r}:zqe n=some r->zua n=some r:=by
 unfold zqe;refine ka (kc (fun h1=>l0 rfl ?_) fun h1=>kc (fun h2=>l0 rfl ?_) fun h2=>l0 rfl ?_)
 all_goals (dsimp only[R1]at *;show zah IF_ g79F _ _=_;exact fin_)
def zso(n:Node):Option (Int):=
 bif yab.ilt 0 n.clock then
  bif yab.ile n.clock 1099511627776 then some n.clock else
  some 0
 else
  some 0
theorem zEF{n r}:zso n=some r->zwr n=some r:=by
 unfold zso;refine ka (kc (fun h1=>kc (fun h2=>l0 rfl ?_) fun h2=>l0 rfl ?_) fun h1=>l0 rfl ?_)
 all_goals (dsimp only[R1]at *;show zah IF_ g83F _ _=_;exact fin_)
def zgp(γ:Nat->Nat):Unit⊕Unit->X×St
 | .inl ()=>(.ret,⟨bd 4 (vF false::bd 21 []),[]⟩)
 | .inr ()=>(.brk 0,⟨bd 26 [],[]⟩)
instance :InjS zgp:=⟨by unfold zgp;exact ij_⟩
def zlg(a:List Entry)(b:List Entry)(i:Int):Option (Unit⊕Unit):=asks (fun γ=>(lim F pr).loop [0,1,5] 0 zs4 ⟨.lit 55 false (yac zab a):: .lit 55 false (yac zab b)::bd 3 (vI i::bd 20 []),[]⟩) zgp
def zgo(a:List Entry)(b:List Entry)(i:Int):Option (Unit⊕Unit):=
 bif yab.ilt i (xlen zab a)then
  (xget zab a i).bind fun x=>
  (xget zab b i).bind fun x1=>
  bif yab.ieq x.peer.id x1.peer.id then
   bif yab.ieq x.peer.addr x1.peer.addr then
    bif yab.ieq x.misses x1.misses then zlg a b (yab.iadd .i64 i 1)else
    some (.inl ())
   else
    some (.inl ())
  else
   some (.inl ())
 else
  some (.inr ())
theorem zlS{a b i r}:zgo a b i=some r->zlg a b i=some r:=by
 unfold zgo;refine kas fun γ=>kc (fun h1=>kb fun x h2=>kb fun x1 h3=>kc (fun h4=>kc (fun h5=>kc (fun h6=>lg [] fun γ' h0=>?_) fun h6=>lr [] ?_) fun h5=>lr [] ?_) fun h4=>lr [] ?_) fun h1=>lr [] ?_
 all_goals (dsimp only[zgp]at *;show zaz IF_ _ _ zs4 zDw _=_;generalize zs4=c0 at *;exact fin_)
def zqq(a:List Entry)(b:List Entry):Option (Bool):=
 bif yab.ieq (xlen zab a) (xlen zab b)then
  (zlg a b 0).bind fun r=>match r with
   | .inl ()=>
    some false
   | .inr ()=>
    some true
 else
  some false
theorem zCN{a b r}:zqq a b=some r->zqp a b=some r:=by
 unfold zqq;refine ka (kc (fun h1=>ks [] fun| .inl _,γ1,h2=>(l0 rfl ?_)| .inr _,γ1,h2=>(l0 rfl ?_)) fun h1=>l0 rfl ?_)
 all_goals (dsimp only[R1,zgp]at *;show zah IF_ (g55F zs4) _ _=_;generalize zs4=c0 at *;exact fin_)
def zgw(γ:Nat->Nat):Unit⊕Unit->X×St
 | .inl ()=>(.ret,⟨bd 4 (vF false::bd 21 []),[]⟩)
 | .inr ()=>(.brk 0,⟨bd 26 [],[]⟩)
instance :InjS zgw:=⟨by unfold zgw;exact ij_⟩
def zli(a:List Finger)(b:List Finger)(i:Int):Option (Unit⊕Unit):=asks (fun γ=>(lim F pr).loop [0,1,5] 0 zs5 ⟨.lit 82 false (yac zaa a):: .lit 82 false (yac zaa b)::bd 3 (vI i::bd 20 []),[]⟩) zgw
def ziV(a:List Finger)(b:List Finger)(i:Int):Option (Unit⊕Unit):=
 bif yab.ilt i (xlen zaa a)then
  (xget zaa a i).bind fun x=>
  (xget zaa b i).bind fun x1=>
  bif yab.ieq x.bit x1.bit then
   bif yab.ieq x.peer.id x1.peer.id then
    bif yab.ieq x.peer.addr x1.peer.addr then zli a b (yab.iadd .i64 i 1)else
    some (.inl ())
   else
    some (.inl ())
  else
   some (.inl ())
 else
  some (.inr ())
theorem zq9{a b i r}:ziV a b i=some r->zli a b i=some r:=by
 unfold ziV;refine kas fun γ=>kc (fun h1=>kb fun x h2=>kb fun x1 h3=>kc (fun h4=>kc (fun h5=>kc (fun h6=>lg [] fun γ' h0=>?_) fun h6=>lr [] ?_) fun h5=>lr [] ?_) fun h4=>lr [] ?_) fun h1=>lr [] ?_
 all_goals (dsimp only[zgw]at *;show zaz IF_ _ _ zs5 zDx _=_;generalize zs5=c0 at *;exact fin_)
def zqt(a:List Finger)(b:List Finger):Option (Bool):=
 bif yab.ieq (xlen zaa a) (xlen zaa b)then
  (zli a b 0).bind fun r=>match r with
   | .inl ()=>
    some false
   | .inr ()=>
    some true
 else
  some false
theorem zCR{a b r}:zqt a b=some r->zug a b=some r:=by
 unfold zqt;refine ka (kc (fun h1=>ks [] fun| .inl _,γ1,h2=>(l0 rfl ?_)| .inr _,γ1,h2=>(l0 rfl ?_)) fun h1=>l0 rfl ?_)
 all_goals (dsimp only[R1,zgw]at *;show zah IF_ (g56F zs5) _ _=_;generalize zs5=c0 at *;exact fin_)
def zfr(γ:Nat->Nat):Unit⊕Unit->X×St
 | .inl ()=>(.ret,⟨bd 4 (vF false::bd 21 []),[]⟩)
 | .inr ()=>(.brk 0,⟨bd 26 [],[]⟩)
instance :InjS zfr:=⟨by unfold zfr;exact ij_⟩
def zjQ(a:List Pair)(b:List Pair)(i:Int):Option (Unit⊕Unit):=asks (fun γ=>(lim F pr).loop [0,1,5] 0 zs6 ⟨.lit 76 false (yac zag a):: .lit 76 false (yac zag b)::bd 3 (vI i::bd 20 []),[]⟩) zfr
def zfq(a:List Pair)(b:List Pair)(i:Int):Option (Unit⊕Unit):=
 bif yab.ilt i (xlen zag a)then
  (xget zag a i).bind fun x=>
  (xget zag b i).bind fun x1=>
  bif yab.seq x.key x1.key then
   bif yab.seq x.val x1.val then zjQ a b (yab.iadd .i64 i 1)else
   some (.inl ())
  else
   some (.inl ())
 else
  some (.inr ())
theorem zkO{a b i r}:zfq a b i=some r->zjQ a b i=some r:=by
 unfold zfq;refine kas fun γ=>kc (fun h1=>kb fun x h2=>kb fun x1 h3=>kc (fun h4=>kc (fun h5=>lg [] fun γ' h0=>?_) fun h5=>lr [] ?_) fun h4=>lr [] ?_) fun h1=>lr [] ?_
 all_goals (dsimp only[zfr]at *;show zaz IF_ _ _ zs6 zDy _=_;generalize zs6=c0 at *;exact fin_)
def zoh(a:List Pair)(b:List Pair):Option (Bool):=
 bif yab.ieq (xlen zag a) (xlen zag b)then
  (zjQ a b 0).bind fun r=>match r with
   | .inl ()=>
    some false
   | .inr ()=>
    some true
 else
  some false
theorem zz9{a b r}:zoh a b=some r->znG a b=some r:=by
 unfold zoh;refine ka (kc (fun h1=>ks [] fun| .inl _,γ1,h2=>(l0 rfl ?_)| .inr _,γ1,h2=>(l0 rfl ?_)) fun h1=>l0 rfl ?_)
 all_goals (dsimp only[R1,zfr]at *;show zah IF_ (g57F zs6) _ _=_;generalize zs6=c0 at *;exact fin_)
def zfz(γ:Nat->Nat):Unit⊕Unit->X×St
 | .inl ()=>(.ret,⟨bd 4 (vF false::bd 21 []),[]⟩)
 | .inr ()=>(.brk 0,⟨bd 26 [],[]⟩)
instance :InjS zfz:=⟨by unfold zfz;exact ij_⟩
def zj0(a:List Pend)(b:List Pend)(i:Int):Option (Unit⊕Unit):=asks (fun γ=>(lim F pr).loop [0,1,5] 0 zs7 ⟨.lit 36 false (yac zaI a):: .lit 36 false (yac zaI b)::bd 3 (vI i::bd 20 []),[]⟩) zfz
def zh8(a:List Pend)(b:List Pend)(i:Int):Option (Unit⊕Unit):=
 bif yab.ilt i (xlen zaI a)then
  (xget zaI a i).bind fun x=>
  (xget zaI b i).bind fun x1=>
  bif yab.ieq x.rid x1.rid then
   bif yab.ieq x.kind x1.kind then
    bif yab.ieq x.why x1.why then
     bif yab.ieq x.job x1.job then
      bif yab.ieq x.to_.id x1.to_.id then
       bif yab.ieq x.to_.addr x1.to_.addr then
        bif yab.ieq x.due x1.due then zj0 a b (yab.iadd .i64 i 1)else
        some (.inl ())
       else
        some (.inl ())
      else
       some (.inl ())
     else
      some (.inl ())
    else
     some (.inl ())
   else
    some (.inl ())
  else
   some (.inl ())
 else
  some (.inr ())
theorem zpn{a b i r}:zh8 a b i=some r->zj0 a b i=some r:=by
 unfold zh8;refine kas fun γ=>kc (fun h1=>kb fun x h2=>kb fun x1 h3=>kc (fun h4=>kc (fun h5=>kc (fun h6=>kc (fun h7=>kc (fun h8=>kc (fun h9=>kc (fun h10=>lg [] fun γ' h0=>?_) fun h10=>lr [] ?_) fun h9=>lr [] ?_) fun h8=>lr [] ?_) fun h7=>lr [] ?_) fun h6=>lr [] ?_) fun h5=>lr [] ?_) fun h4=>lr [] ?_) fun h1=>lr [] ?_
 all_goals (dsimp only[zfz]at *;show zaz IF_ _ _ zs7 zDz _=_;generalize zs7=c0 at *;exact fin_)
def zom(a:List Pend)(b:List Pend):Option (Bool):=
 bif yab.ieq (xlen zaI a) (xlen zaI b)then
  (zj0 a b 0).bind fun r=>match r with
   | .inl ()=>
    some false
   | .inr ()=>
    some true
 else
  some false
theorem zAh{a b r}:zom a b=some r->zsp a b=some r:=by
 unfold zom;refine ka (kc (fun h1=>ks [] fun| .inl _,γ1,h2=>(l0 rfl ?_)| .inr _,γ1,h2=>(l0 rfl ?_)) fun h1=>l0 rfl ?_)
 all_goals (dsimp only[R1,zfz]at *;show zah IF_ (g58F zs7) _ _=_;generalize zs7=c0 at *;exact fin_)
def zgC(a:Node)(b:Node)(γ:Nat->Nat):Bool->X×St
 |a0=>(.ret,⟨bd 4 (vF a0::bd 54 []),[.box 34 (zal a),.box 34 (zal b)]⟩)
instance {a b}:InjS (zgC a b):=⟨by unfold zgC;exact ij_⟩
def ztH(a:Node)(b:Node):Option (Bool):=asks (fun γ=>(lim F pr).seg [4] zxT ⟨bd 2 (.bptr 0 0:: .bptr 1 0::bd 55 []),[.box 34 (zal a),.box 34 (zal b)]⟩) (zgC a b)
def zgA(a:Node)(b:Node)(γ:Nat->Nat):Unit⊕Unit->X×St
 | .inl ()=>(.ret,⟨bd 4 (vF false::bd 54 []),[.box 34 (zal a),.box 34 (zal b)]⟩)
 | .inr ()=>(.brk 0,⟨bd 2 (.bptr 0 0:: .bptr 1 0::bd 55 []),[.box 34 (zal a),.box 34 (zal b)]⟩)
instance {a b}:InjS (zgA a b):=⟨by unfold zgA;exact ij_⟩
def zlk(a:Node)(b:Node)(i:Int):Option (Unit⊕Unit):=asks (fun γ=>(lim F pr).loop [5,2,3] 2 zs8 ⟨bd 2 (.bptr 0 0:: .bptr 1 0::bd 1 (vI i::bd 53 [])),[.box 34 (zal a),.box 34 (zal b)]⟩) (zgA a b)
def zgB(a:Node)(b:Node)(γ:Nat->Nat):Unit⊕Unit->X×St
 | .inl ()=>(.ret,⟨bd 4 (vF false::bd 54 []),[.box 34 (zal a),.box 34 (zal b)]⟩)
 | .inr ()=>(.brk 2,⟨bd 59 [],[.box 34 (zal a),.box 34 (zal b)]⟩)
instance {a b}:InjS (zgB a b):=⟨by unfold zgB;exact ij_⟩
def zll(a:Node)(b:Node)(i:Int):Option (Unit⊕Unit):=asks (fun γ=>(lim F pr).loop [2,3,6] 2 zs9 ⟨bd 2 (.bptr 0 0:: .bptr 1 0::bd 2 (vI i::bd 52 [])),[.box 34 (zal a),.box 34 (zal b)]⟩) (zgB a b)
def zlZ(a:Node)(b:Node):Option (Bool):=
 (zlk a b 0).bind fun r=>match r with
  | .inl ()=>
   some false
  | .inr ()=>
   (zll a b 0).bind fun r=>match r with
    | .inl ()=>
     some false
    | .inr ()=>
     some true
theorem zxt{a b r}:zlZ a b=some r->ztH a b=some r:=by
 unfold zlZ;refine kas fun γ=>ks [] fun| .inl _,γ1,h1=>(ls [] ?_)| .inr _,γ1,h1=>(ks [] fun| .inl _,γ2,h2=>(ls [] ?_)| .inr _,γ2,h2=>(ls [] ?_))
 all_goals (dsimp only[zgA,zgB,zgC]at *;show Ifc.apart IF_ _ (zDC zs8 zs9) _=_;generalize zs8=c0,zs9=c1 at *;exact fin_)
def ziX(a:Node)(b:Node)(i:Int):Option (Unit⊕Unit):=
 bif yab.ilt i (xlen eJob a.jobs)then
  (xget eJob a.jobs i).bind fun x=>
  (xget eJob b.jobs i).bind fun x1=>
  bif yab.ieq x.id x1.id then
   bif yab.ieq x.kind x1.kind then
    bif yab.ieq x.bit x1.bit then
     bif yab.seq x.key x1.key then
      bif yab.seq x.val x1.val then
       bif yab.ieq x.target x1.target then
        bif yab.ieq x.via.id x1.via.id then
         bif yab.ieq x.via.addr x1.via.addr then
          bif yab.ieq x.at_.id x1.at_.id then
           bif yab.ieq x.at_.addr x1.at_.addr then
            bif yab.beq x.doing x1.doing then
             bif yab.ieq x.hops x1.hops then
              bif yab.ieq x.tries x1.tries then
               bif yab.ieq x.due x1.due then zlk a b (yab.iadd .i64 i 1)else
               some (.inl ())
              else
               some (.inl ())
             else
              some (.inl ())
            else
             some (.inl ())
           else
            some (.inl ())
          else
           some (.inl ())
         else
          some (.inl ())
        else
         some (.inl ())
       else
        some (.inl ())
      else
       some (.inl ())
     else
      some (.inl ())
    else
     some (.inl ())
   else
    some (.inl ())
  else
   some (.inl ())
 else
  some (.inr ())
theorem zrd{a b i r}:ziX a b i=some r->zlk a b i=some r:=by
 unfold ziX;refine kas fun γ=>kc (fun h1=>kb fun x h2=>kb fun x1 h3=>kc (fun h4=>kc (fun h5=>kc (fun h6=>kc (fun h7=>kc (fun h8=>kc (fun h9=>kc (fun h10=>kc (fun h11=>kc (fun h12=>kc (fun h13=>kc (fun h14=>kc (fun h15=>kc (fun h16=>kc (fun h17=>lg [] fun γ' h0=>?_) fun h17=>lr [] ?_) fun h16=>lr [] ?_) fun h15=>lr [] ?_) fun h14=>lr [] ?_) fun h13=>lr [] ?_) fun h12=>lr [] ?_) fun h11=>lr [] ?_) fun h10=>lr [] ?_) fun h9=>lr [] ?_) fun h8=>lr [] ?_) fun h7=>lr [] ?_) fun h6=>lr [] ?_) fun h5=>lr [] ?_) fun h4=>lr [] ?_) fun h1=>lr [] ?_
 all_goals (dsimp only[zgA]at *;show zaz IF_ _ _ zs8 zDA _=_;generalize zs8=c0 at *;exact fin_)
def ziY(a:Node)(b:Node)(i:Int):Option (Unit⊕Unit):=
 bif yab.ilt i (xlen zaf a.results)then
  (xget zaf a.results i).bind fun x=>
  (xget zaf b.results i).bind fun x1=>
  bif yab.ieq x.job x1.job then
   bif yab.ieq x.kind x1.kind then
    bif yab.seq x.key x1.key then
     bif yab.seq x.val x1.val then
      bif yab.beq x.has x1.has then
       bif yab.ieq x.err x1.err then zll a b (yab.iadd .i64 i 1)else
       some (.inl ())
      else
       some (.inl ())
     else
      some (.inl ())
    else
     some (.inl ())
   else
    some (.inl ())
  else
   some (.inl ())
 else
  some (.inr ())
theorem zre{a b i r}:ziY a b i=some r->zll a b i=some r:=by
 unfold ziY;refine kas fun γ=>kc (fun h1=>kb fun x h2=>kb fun x1 h3=>kc (fun h4=>kc (fun h5=>kc (fun h6=>kc (fun h7=>kc (fun h8=>kc (fun h9=>lg [] fun γ' h0=>?_) fun h9=>lr [] ?_) fun h8=>lr [] ?_) fun h7=>lr [] ?_) fun h6=>lr [] ?_) fun h5=>lr [] ?_) fun h4=>lr [] ?_) fun h1=>lr [] ?_
 all_goals (dsimp only[zgB]at *;show zaz IF_ _ _ zs9 zDB _=_;generalize zs9=c0 at *;exact fin_)
def zqx(a:Node)(b:Node):Option (Bool):=
 bif yab.ieq (xlen eJob a.jobs) (xlen eJob b.jobs)then
  bif yab.ieq (xlen zaf a.results) (xlen zaf b.results)then ztH a b else
  some false
 else
  some false
theorem zCY{a b r}:zqx a b=some r->zuh a b=some r:=by
 unfold zqx;refine ka (kc (fun h1=>kc (fun h2=>ps [] fun t4 γ1 h3=>l0 rfl ?_) fun h2=>l0 rfl ?_) fun h1=>l0 rfl ?_)
 all_goals (dsimp only[R1,zgC]at *;show zah IF_ (g59F zxT) _ _=_;generalize zxT=c0 at *;exact fin_)
def zqj(a:Msg)(b:Msg):Option (Bool):=
 bif yab.ieq a.kind b.kind then
  bif yab.ieq a.rid b.rid then
   bif yab.ieq a.code b.code then
    bif yab.beq a.has b.has then
     bif yab.ieq a.id b.id then
      bif yab.seq a.key b.key then
       bif yab.seq a.val b.val then
        bif yab.ieq a.peer.id b.peer.id then
         bif yab.ieq a.peer.addr b.peer.addr then
          (znH a.peers b.peers).bind fun res=>
          bif res then znG a.pairs b.pairs else
          some false
         else
          some false
        else
         some false
       else
        some false
      else
       some false
     else
      some false
    else
     some false
   else
    some false
  else
   some false
 else
  some false
theorem zCI{a b r}:zqj a b=some r->zub a b=some r:=by
 unfold zqj;refine ka (kc (fun h1=>kc (fun h2=>kc (fun h3=>kc (fun h4=>kc (fun h5=>kc (fun h6=>kc (fun h7=>kc (fun h8=>kc (fun h9=>kb fun res h10=>kc (fun h11=>pb fun res1 h12=>l0 rfl ?_) fun h11=>l0 rfl ?_) fun h9=>l0 rfl ?_) fun h8=>l0 rfl ?_) fun h7=>l0 rfl ?_) fun h6=>l0 rfl ?_) fun h5=>l0 rfl ?_) fun h4=>l0 rfl ?_) fun h3=>l0 rfl ?_) fun h2=>l0 rfl ?_) fun h1=>l0 rfl ?_)
 all_goals (dsimp only[R1]at *;show zah IF_ g60F _ _=_;exact fin_)
end Go.Ab.Tryz
