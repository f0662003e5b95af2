/- Our texts for this statement, merged: what its theorem leads to. -/
import Derived.Test.YtdjoeakbjackbaaGreatDoorQLx10
set_option linter.unusedVariables false
set_option linter.unusedSimpArgs false
noncomputable section
namespace Go.Ab.Tryz
open Go Go.Ab Go.Proofs
set_option maxRecDepth 10000
set_option maxHeartbeats 4000000
open Go.Ab.Ops renaming std->yac
open List renaming map->yab
def zvg(s:ByteArray):Option (Bool):=
 bif yac.ilt 0 (yac.slen s)then
  bif yac.ilt (yac.slen s) 97 then
   (zvf s).bind fun res=>
   bif res then
    (zqo s).bind fun res1=>
    some (yac.ilt (xlen vT res1) 33)
   else
    some false
  else
   some false
 else
  some false
theorem zI8{s r}:zvg s=some r->zzM s=some r:=by
 unfold zvg;refine ka (kc (fun h1=>kc (fun h2=>kb fun res h3=>kc (fun h4=>kb fun res1 h5=>l0 rfl ?_) fun h4=>l0 rfl ?_) fun h2=>l0 rfl ?_) fun h1=>l0 rfl ?_)
 all_goals (dsimp only[R1]at *;show zak IF_ zLJ _ _=_;exact fin_)
def zhE(a:ByteArray)(b:ByteArray)(γ:Nat->Nat):Bool⊕Unit->X×St
 | .inl a0=>(.ret,⟨bd 4 (vF a0::bd 32 []),[]⟩)
 | .inr ()=>(.brk 0,⟨vT a::vT b::bd 35 [],[]⟩)
instance {a b}:InjS (zhE a b):=⟨by unfold zhE;exact ij_⟩
def zkz(a:ByteArray)(b:ByteArray)(i:Int):Option (Bool⊕Unit):=asks (fun γ=>(lim F pr).loop [5,0,1] 0 zr3 ⟨vT a::vT b::bd 3 (vI i::bd 31 []),[]⟩) (zhE a b)
def zhF(a:ByteArray)(b:ByteArray)(γ:Nat->Nat):Int⊕Bool->X×St
 | .inl a0=>(.nor,⟨vT a::vT b::bd 3 (vI a0::bd 31 []),[]⟩)
 | .inr b0=>(.ret,⟨bd 4 (vF b0::bd 32 []),[]⟩)
instance {a b}:InjS (zhF a b):=⟨by unfold zhF;exact ij_⟩
def znA(a:ByteArray)(b:ByteArray)(i:Int):Option (Int⊕Bool):=asks (fun γ=>(lim F pr).seg [5,0,1] zyp ⟨vT a::vT b::bd 3 (vI i::bd 31 []),[]⟩) (zhF a b)
def ze6(a:ByteArray)(b:ByteArray)(i:Int):Option (Bool⊕Unit):=
 bif yac.ilt i (yac.slen a)then
  bif yac.ilt i (yac.slen b)then
   (znA a b i).bind fun r=>match r with
    | .inl i1=>
     zkz a b i1
    | .inr t4=>
     some (.inl t4)
  else
   some (.inr ())
 else
  some (.inr ())
theorem zkR{a b i r}:ze6 a b i=some r->zkz a b i=some r:=by
 unfold ze6;refine kas fun γ=>kc (fun h1=>kc (fun h2=>ks [] fun| .inl i1,γ1,h3=>(lg [] fun γ' h0=>?_)| .inr t4,γ1,h3=>(lr [] ?_)) fun h2=>lr [] ?_) fun h1=>lr [] ?_
 all_goals (dsimp only[zhE,zhF]at *;show zaE IF_ _ _ zr3 (zFG zyp) _=_;generalize zr3=c0,zyp=c1 at *;exact fin_)
def zkS(a:ByteArray)(b:ByteArray)(i:Int):Option (Int⊕Bool):=
 (zcF a i).bind fun b1=>
 (zcF b i).bind fun b2=>
 bif yac.ieq b1 b2 then some (.inl (yac.iadd .i64 i 1))else
 some (.inr (yac.ilt b1 b2))
theorem zt2{a b i r}:zkS a b i=some r->znA a b i=some r:=by
 unfold zkS;refine kas fun γ=>kn fun b1 h1=>kn fun b2 h2=>kc (fun h3=>ls [] ?_) fun h3=>ls [] ?_
 all_goals (dsimp only[zhF]at *;show Ifc.apart IF_ _ zFF _=_;exact fin_)
def ztk(a:ByteArray)(b:ByteArray):Option (Bool):=
 (zkz a b 0).bind fun r=>match r with
  | .inl t4=>
   some t4
  | .inr ()=>
   some (yac.ilt (yac.slen a) (yac.slen b))
theorem zGY{a b r}:ztk a b=some r->ztj a b=some r:=by
 unfold ztk;refine ka (ks [] fun| .inl t4,γ1,h1=>(l0 rfl ?_)| .inr _,γ1,h1=>(l0 rfl ?_))
 all_goals (dsimp only[R1,zhE]at *;show zak IF_ (zMs zr3) _ _=_;generalize zr3=c0 at *;exact fin_)
def zrt(s:ByteArray)(at_:Int)(c:Int):Option (Bool):=
 bif yac.ieq c 65533 then
  (zwM s at_ (yac.slen s)).bind fun z=>
  xopt (ztQ z 0) (fun⟨c1,nx⟩=>
   some (yac.ieq nx 1))
   (some (yac.ieq 0 1))
 else
  some false
theorem zEM{s at_ c r}:zrt s at_ c=some r->zvS s at_ c=some r:=by
 unfold zrt;refine ka (kc (fun h1=>kn fun z h2=>kx (fun⟨c1,nx⟩ h3=>l0 rfl ?_) fun h3=>l0 rfl ?_) fun h1=>l0 rfl ?_)
 all_goals (dsimp only[R1]at *;show zak IF_ zMw _ _=_;exact fin_)
def zgB(γ:Nat->Nat):Unit⊕Unit->X×St
 | .inl ()=>(.ret,⟨bd 4 (vF true::bd 14 []),[]⟩)
 | .inr ()=>(.brk 0,⟨bd 19 [],[]⟩)
instance :InjS zgB:=⟨by unfold zgB;exact ij_⟩
def zl8(l:List Peer)(addr:Int)(i:Int):Option (Unit⊕Unit):=asks (fun γ=>(lim F pr).loop [0,1,5] 0 zr0 ⟨.lit 25 false (yab zad l)::vH addr::bd 3 (vI i::bd 13 []),[]⟩) zgB
def zjX(l:List Peer)(addr:Int)(i:Int):Option (Unit⊕Unit):=
 bif yac.ilt i (xlen zad l)then
  (xget zad l i).bind fun x=>
  bif yac.ieq x.addr addr then some (.inl ())else
  zl8 l addr (yac.iadd .i64 i 1)
 else
  some (.inr ())
theorem zsl{l addr i r}:zjX l addr i=some r->zl8 l addr i=some r:=by
 unfold zjX;refine kas fun γ=>kc (fun h1=>kb fun x h2=>kc (fun h3=>lr [] ?_) fun h3=>lg [] fun γ' h0=>?_) fun h1=>lr [] ?_
 all_goals (dsimp only[zgB]at *;show zaE IF_ _ _ zr0 zFy _=_;generalize zr0=c0 at *;exact fin_)
def zra(l:List Peer)(addr:Int):Option (Bool):=
 (zl8 l addr 0).bind fun r=>match r with
  | .inl ()=>
   some true
  | .inr ()=>
   some false
theorem zEr{l addr r}:zra l addr=some r->zvp l addr=some r:=by
 unfold zra;refine ka (ks [] fun| .inl _,γ1,h1=>(l0 rfl ?_)| .inr _,γ1,h1=>(l0 rfl ?_))
 all_goals (dsimp only[R1,zgB]at *;show zak IF_ (zMn zr0) _ _=_;generalize zr0=c0 at *;exact fin_)
def zgp(γ:Nat->Nat):Unit⊕Unit->X×St
 | .inl ()=>(.ret,⟨bd 2 (vF false::bd 16 []),[]⟩)
 | .inr ()=>(.brk 0,⟨bd 19 [],[]⟩)
instance :InjS zgp:=⟨by unfold zgp;exact ij_⟩
def zi3(l:List ByteArray)(i:Int):Option (Unit⊕Unit):=asks (fun γ=>(lim F pr).loop [3,4] 0 zrU ⟨bd 3 (.lit 9 false (yab vT l)::vI i::bd 14 []),[]⟩) zgp
def zgo(l:List ByteArray)(i:Int):Option (Unit⊕Unit):=
 bif yac.ilt i (xlen vT l)then
  (xget vT l i).bind fun x=>
  (zi4 x 0).bind fun res=>
  bif yac.ieq res 0 then some (.inl ())else
  zi3 l (yac.iadd .i64 i 1)
 else
  some (.inr ())
theorem zm2{l i r}:zgo l i=some r->zi3 l i=some r:=by
 unfold zgo;refine kas fun γ=>kc (fun h1=>kb fun x h2=>kb fun res h3=>kc (fun h4=>lr [] ?_) fun h4=>lg [] fun γ' h0=>?_) fun h1=>lr [] ?_
 all_goals (dsimp only[R1,zgp]at *;show zaE IF_ _ _ zrU zFr _=_;generalize zrU=c0 at *;exact fin_)
def zq3(s:ByteArray):Option (Bool):=
 (zqo s).bind fun res=>
 (zi3 res 0).bind fun r=>match r with
  | .inl ()=>
   some false
  | .inr ()=>
   some true
theorem zEh{s r}:zq3 s=some r->zvf s=some r:=by
 unfold zq3;refine ka (kb fun res h1=>ks [] fun| .inl _,γ2,h2=>(l0 rfl ?_)| .inr _,γ2,h2=>(l0 rfl ?_))
 all_goals (dsimp only[R1,zgp]at *;show zak IF_ (zMa zrU) _ _=_;generalize zrU=c0 at *;exact fin_)
def zgn(γ:Nat->Nat):(List ByteArray)->X×St
 |a0=>(.brk 0,⟨bd 3 (.sl 1 (γ 1)::bd 24 []),[.row 9 (γ 0) false (yab vT []),.row 9 (γ 1) false (yab vT a0)]⟩)
instance :InjS zgn:=⟨by unfold zgn;exact ij_⟩
def zgm(s:ByteArray)(at_:Int)(r1:List ByteArray):Option ((List ByteArray)):=asks (fun γ=>(lim F pr).loop [0,4,3] 2 zrV ⟨vT s::bd 2 (.sl 1 (γ 1)::vI at_::bd 23 []),[.row 9 (γ 0) false (yab vT []),.row 9 (γ 1) false (yab vT r1)]⟩) zgn
def zjU(s:ByteArray)(at_:Int)(r1:List ByteArray):Option ((List ByteArray)):=
 bif yac.ilt at_ (yac.slen s)then
  (zi4 s at_).bind fun res=>
  bif yac.ieq res 0 then
   (zwM s at_ (yac.iadd .i64 at_ 1)).bind fun z=>
   bif zar vT 16 r1 [z]then zgm s (yac.iadd .i64 at_ 1) (r1++[z])else
   none
  else
   (zwM s at_ (yac.iadd .i64 at_ res)).bind fun z=>
   bif zar vT 16 r1 [z]then zgm s (yac.iadd .i64 at_ res) (r1++[z])else
   none
 else
  some r1
theorem zsh{s at_ r1 r}:zjU s at_ r1=some r->zgm s at_ r1=some r:=by
 unfold zjU;refine kas fun γ=>kc (fun h1=>kb fun res h2=>kc (fun h3=>kn fun z h4=>k1 fun h5=>lg [γ 0,((γ 1)+1)] fun γ' h0=>?_) fun h3=>kn fun z h4=>k1 fun h5=>lg [γ 0,((γ 1)+1)] fun γ' h0=>?_) fun h1=>lr [γ 0,γ 1] ?_
 all_goals (dsimp only[R1,zgn]at *;show zaE IF_ _ _ zrV zFs _=_;generalize zrV=c0 at *;exact fin_)
def zq2(s:ByteArray):Option ((List ByteArray)):=
 zgm s 0 []
theorem zEg{s r}:zq2 s=some r->zqo s=some r:=by
 unfold zq2;refine ka (ps [0,0] fun r1 γ1 h1=>l0 rfl ?_)
 all_goals (dsimp only[R1,zgn]at *;show zak IF_ (zMb zrV) _ _=_;generalize zrV=c0 at *;exact fin_)
def zgu(γ:Nat->Nat):Int->X×St
 |a0=>(.ret,⟨bd 4 (vI a0::bd 123 []),[]⟩)
instance :InjS zgu:=⟨by unfold zgu;exact ij_⟩
def zgt(s:ByteArray)(at_:Int)(c:Int):Option (Int):=asks (fun γ=>(lim F pr).seg [4] zyo ⟨vT s::vI at_::bd 3 (vB c::vI (yac.isub .i64 (yac.slen s) at_)::bd 121 []),[]⟩) zgu
def zgq(s:ByteArray)(at_:Int)(γ:Nat->Nat):Int⊕Int->X×St
 | .inl a0=>(.ret,⟨bd 4 (vI a0::bd 123 []),[]⟩)
 | .inr b0=>(.nor,⟨vT s::vI at_::bd 3 (vB b0::vI (yac.isub .i64 (yac.slen s) at_)::bd 121 []),[]⟩)
instance {s at_}:InjS (zgq s at_):=⟨by unfold zgq;exact ij_⟩
def zdE(s:ByteArray)(at_:Int)(c:Int)(t56:Bool):Option (Int⊕Int):=asks (fun γ=>(lim F pr).seg [6,5,0,1] zyl ⟨vT s::vI at_::bd 3 (vB c::vI (yac.isub .i64 (yac.slen s) at_)::bd 49 (vF t56::bd 71 [])),[]⟩) (zgq s at_)
def zgs(γ:Nat->Nat):Int->X×St
 |a0=>(.ret,⟨bd 4 (vI a0::bd 123 []),[]⟩)
instance :InjS zgs:=⟨by unfold zgs;exact ij_⟩
def zeO(s:ByteArray)(at_:Int)(c:Int):Option (Int):=asks (fun γ=>(lim F pr).seg [4] zyn ⟨vT s::vI at_::bd 3 (vB c::vI (yac.isub .i64 (yac.slen s) at_)::bd 121 []),[]⟩) zgs
def zgr(γ:Nat->Nat):Int⊕Unit->X×St
 | .inl a0=>(.ret,⟨bd 4 (vI a0::bd 123 []),[]⟩)
 | .inr ()=>(.nor,⟨bd 128 [],[]⟩)
instance :InjS zgr:=⟨by unfold zgr;exact ij_⟩
def zcR(s:ByteArray)(at_:Int)(c:Int)(t107:Bool):Option (Int⊕Unit):=asks (fun γ=>(lim F pr).seg [] zym ⟨vT s::vI at_::bd 3 (vB c::bd 101 (vF t107::bd 20 [])),[]⟩) zgr
def zm6(s:ByteArray)(at_:Int)(c:Int):Option (Int):=
 bif yac.ile 224 c then
  bif yac.ile c 239 then
   bif yac.ilt 2 (yac.isub .i64 (yac.slen s) at_)then
    (zcF s (yac.iadd .i64 at_ 1)).bind fun b=>
    (zi5 b).bind fun res=>
    bif res then
     (zcF s (yac.iadd .i64 at_ 2)).bind fun b1=>
     (zi5 b1).bind fun res1=>
     (zdE s at_ c res1).bind fun r=>match r with
      | .inl t4=>
       some t4
      | .inr c1=>
       zeO s at_ c1
    else
     (zdE s at_ c false).bind fun r=>match r with
      | .inl t4=>
       some t4
      | .inr c1=>
       zeO s at_ c1
   else
    (zdE s at_ c false).bind fun r=>match r with
     | .inl t4=>
      some t4
     | .inr c1=>
      zeO s at_ c1
  else
   (zdE s at_ c false).bind fun r=>match r with
    | .inl t4=>
     some t4
    | .inr c1=>
     zeO s at_ c1
 else
  (zdE s at_ c false).bind fun r=>match r with
   | .inl t4=>
    some t4
   | .inr c1=>
    zeO s at_ c1
theorem zzL{s at_ c r}:zm6 s at_ c=some r->zgt s at_ c=some r:=by
 unfold zm6;refine kas fun γ=>kc (fun h1=>kc (fun h2=>kc (fun h3=>kn fun b h4=>kb fun res h5=>kc (fun h6=>kn fun b1 h7=>kb fun res1 h8=>ks [] fun| .inl t4,γ3,h9=>(ls [] ?_)| .inr c1,γ3,h9=>(ps [] fun t4 γ4 h10=>ls [] ?_)) fun h6=>ks [] fun| .inl t4,γ2,h7=>(ls [] ?_)| .inr c1,γ2,h7=>(ps [] fun t4 γ3 h8=>ls [] ?_)) fun h3=>ks [] fun| .inl t4,γ1,h4=>(ls [] ?_)| .inr c1,γ1,h4=>(ps [] fun t4 γ2 h5=>ls [] ?_)) fun h2=>ks [] fun| .inl t4,γ1,h3=>(ls [] ?_)| .inr c1,γ1,h3=>(ps [] fun t4 γ2 h4=>ls [] ?_)) fun h1=>ks [] fun| .inl t4,γ1,h2=>(ls [] ?_)| .inr c1,γ1,h2=>(ps [] fun t4 γ2 h3=>ls [] ?_)
 all_goals (dsimp only[R1,zgq,zgs,zgu]at *;show Ifc.apart IF_ _ (zFE zyl zyn) _=_;generalize zyl=c0,zyn=c1 at *;exact fin_)
def zm3(s:ByteArray)(at_:Int)(c:Int)(t56:Bool):Option (Int⊕Int):=
 bif t56 then
  bif yac.ieq c 224 then
   (zcF s (yac.iadd .i64 at_ 1)).bind fun b=>
   bif yac.ilt b 160 then some (.inl 0)else
   some (.inl 3)
  else
   bif yac.ieq c 237 then
    (zcF s (yac.iadd .i64 at_ 1)).bind fun b=>
    bif yac.ilt 159 b then some (.inl 0)else
    some (.inl 3)
   else
    some (.inl 3)
 else
  some (.inr c)
theorem zsi{s at_ c t56 r}:zm3 s at_ c t56=some r->zdE s at_ c t56=some r:=by
 unfold zm3;refine kas fun γ=>kc (fun h1=>kc (fun h2=>kn fun b h3=>kc (fun h4=>ls [] ?_) fun h4=>have h5:=zAh h2 (b:=237) (by decide);ls [] ?_) fun h2=>kc (fun h3=>kn fun b h4=>kc (fun h5=>ls [] ?_) fun h5=>ls [] ?_) fun h3=>ls [] ?_) fun h1=>ls [] ?_
 all_goals (dsimp only[zgq]at *;show Ifc.apart IF_ _ zFB _=_;exact fin_)
def zm5(s:ByteArray)(at_:Int)(c:Int):Option (Int):=
 bif yac.ile 240 c then
  bif yac.ile c 244 then
   bif yac.ilt 3 (yac.isub .i64 (yac.slen s) at_)then
    (zcF s (yac.iadd .i64 at_ 1)).bind fun b=>
    (zi5 b).bind fun res=>
    bif res then
     (zcF s (yac.iadd .i64 at_ 2)).bind fun b1=>
     (zi5 b1).bind fun res1=>
     bif res1 then
      (zcF s (yac.iadd .i64 at_ 3)).bind fun b2=>
      (zi5 b2).bind fun res2=>
      (zcR s at_ c res2).bind fun r=>match r with
       | .inl t4=>
        some t4
       | .inr ()=>
        some 0
     else
      (zcR s at_ c false).bind fun r=>match r with
       | .inl t4=>
        some t4
       | .inr ()=>
        some 0
    else
     (zcR s at_ c false).bind fun r=>match r with
      | .inl t4=>
       some t4
      | .inr ()=>
       some 0
   else
    (zcR s at_ c false).bind fun r=>match r with
     | .inl t4=>
      some t4
     | .inr ()=>
      some 0
  else
   (zcR s at_ c false).bind fun r=>match r with
    | .inl t4=>
     some t4
    | .inr ()=>
     some 0
 else
  (zcR s at_ c false).bind fun r=>match r with
   | .inl t4=>
    some t4
   | .inr ()=>
    some 0
theorem zzK{s at_ c r}:zm5 s at_ c=some r->zeO s at_ c=some r:=by
 unfold zm5;refine kas fun γ=>kc (fun h1=>kc (fun h2=>kc (fun h3=>kn fun b h4=>kb fun res h5=>kc (fun h6=>kn fun b1 h7=>kb fun res1 h8=>kc (fun h9=>kn fun b2 h10=>kb fun res2 h11=>ks [] fun| .inl t4,γ4,h12=>(ls [] ?_)| .inr _,γ4,h12=>(ls [] ?_)) fun h9=>ks [] fun| .inl t4,γ3,h10=>(ls [] ?_)| .inr _,γ3,h10=>(ls [] ?_)) fun h6=>ks [] fun| .inl t4,γ2,h7=>(ls [] ?_)| .inr _,γ2,h7=>(ls [] ?_)) fun h3=>ks [] fun| .inl t4,γ1,h4=>(ls [] ?_)| .inr _,γ1,h4=>(ls [] ?_)) fun h2=>ks [] fun| .inl t4,γ1,h3=>(ls [] ?_)| .inr _,γ1,h3=>(ls [] ?_)) fun h1=>ks [] fun| .inl t4,γ1,h2=>(ls [] ?_)| .inr _,γ1,h2=>(ls [] ?_)
 all_goals (dsimp only[R1,zgr,zgs]at *;show Ifc.apart IF_ _ (zFD zym) _=_;generalize zym=c0 at *;exact fin_)
def zm4(s:ByteArray)(at_:Int)(c:Int)(t107:Bool):Option (Int⊕Unit):=
 bif t107 then
  bif yac.ieq c 240 then
   (zcF s (yac.iadd .i64 at_ 1)).bind fun b=>
   bif yac.ilt b 144 then some (.inl 0)else
   some (.inl 4)
  else
   bif yac.ieq c 244 then
    (zcF s (yac.iadd .i64 at_ 1)).bind fun b=>
    bif yac.ilt 143 b then some (.inl 0)else
    some (.inl 4)
   else
    some (.inl 4)
 else
  some (.inr ())
theorem zsj{s at_ c t107 r}:zm4 s at_ c t107=some r->zcR s at_ c t107=some r:=by
 unfold zm4;refine kas fun γ=>kc (fun h1=>kc (fun h2=>kn fun b h3=>kc (fun h4=>ls [] ?_) fun h4=>have h5:=zAh h2 (b:=244) (by decide);ls [] ?_) fun h2=>kc (fun h3=>kn fun b h4=>kc (fun h5=>ls [] ?_) fun h5=>ls [] ?_) fun h3=>ls [] ?_) fun h1=>ls [] ?_
 all_goals (dsimp only[zgr]at *;show Ifc.apart IF_ _ zFC _=_;exact fin_)
def zq4(s:ByteArray)(at_:Int):Option (Int):=
 (zcF s at_).bind fun b=>
 bif yac.ilt b 128 then some 1 else
 bif yac.ile 194 b then
  bif yac.ile b 223 then
   bif yac.ilt 1 (yac.isub .i64 (yac.slen s) at_)then
    (zcF s (yac.iadd .i64 at_ 1)).bind fun b1=>
    (zi5 b1).bind fun res=>
    bif res then some 2 else
    zgt s at_ b
   else
    zgt s at_ b
  else
   zgt s at_ b
 else
  zgt s at_ b
theorem zEi{s at_ r}:zq4 s at_=some r->zi4 s at_=some r:=by
 unfold zq4;refine ka (kn fun b h1=>kc (fun h2=>l0 rfl ?_) fun h2=>kc (fun h3=>kc (fun h4=>kc (fun h5=>kn fun b1 h6=>kb fun res h7=>kc (fun h8=>l0 rfl ?_) fun h8=>ps [] fun t4 γ2 h9=>l0 rfl ?_) fun h5=>ps [] fun t4 γ1 h6=>l0 rfl ?_) fun h4=>ps [] fun t4 γ1 h5=>l0 rfl ?_) fun h3=>ps [] fun t4 γ1 h4=>l0 rfl ?_)
 all_goals (dsimp only[R1,zgu]at *;show zak IF_ (zMr zyo) _ _=_;generalize zyo=c0 at *;exact fin_)
def zth(c:Int):Option (Bool):=
 bif yac.ile 128 c then some (yac.ile c 191)else
 some false
theorem zGV{c r}:zth c=some r->zi5 c=some r:=by
 unfold zth;refine ka (kc (fun h1=>l0 rfl ?_) fun h1=>l0 rfl ?_)
 all_goals (dsimp only[R1]at *;show zak IF_ zMx _ _=_;exact fin_)
end Go.Ab.Tryz
