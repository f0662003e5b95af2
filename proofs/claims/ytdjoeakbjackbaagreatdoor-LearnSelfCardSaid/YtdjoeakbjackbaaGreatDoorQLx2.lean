/- Our texts for this statement, merged: what its theorem leads to. -/
import Derived.Laws.BytesString
import Derived.Laws.IdiomStrings
import Derived.Laws.Pointers
import Derived.Laws.RangeString
import Derived.Test.YtdjoeakbjackbaaGreatDoorQLx1
set_option linter.unusedVariables false
set_option linter.unusedSimpArgs false
noncomputable section
namespace Go.Ab
open Go
open Bool renaming and_eq_true->yaB,or_eq_true->yaY
open Go.Ab.Ops renaming std->yac
open Go.Builtin renaming append_->yaV,firstCells->ybo,lenOf->ycg
open Go.Program renaming cellsOf->ybF
open Go.Region renaming before->yat,binds->yb1
open Go.Result renaming andThen_ok->yaj
open Go.Sem renaming run_bind->yaw,run_pure->ybf
open Go.Utf8 renaming decode->yaH
open Go.Value renaming int->ybH
open Go.World renaming cell?_of_block->yba
open List renaming all_eq_true->yaS,append_assoc->yao,append_nil->ybe,drop_eq_nil_of_le->yaL,eq_nil_of_length_eq_zero->yai,foldl_cons->ybE,getD_eq_getElem?_getD->yci,getElem?_append_left->yah,getElem?_append_right->yax,getElem?_eq_getElem->yad,getElem?_eq_none->yau,getElem?_eq_some_iff->yae,getElem?_map->ybn,getElem?_set_ne->yas,getElem?_set_self->yaq,getElem?_take->yaM,getElem?_zipIdx->ybZ,getElem_mem->yb8,getElem_of_mem->ybK,length_append->yaf,length_cons->yav,length_map->yaK,length_nil->ybw,length_take->yan,map_cons->yaT,mem_append->yal,mem_append_left->ycl,mem_cons->yaJ,mem_cons_of_mem->ya3,mem_cons_self->ybp,mem_iff_getElem?->ybN,mem_map->ybJ,mem_of_getElem?->yam,mem_of_mem_take->yaz,mem_or_eq_of_mem_set->ybx,mem_zipIdx_iff_getElem?->ybA,pairwise_iff_getElem->ya6,range->ybq,replicate->yaA,singleton_append->ybz,size_toArray->ybc,take_left->ya9
open Nat renaming add_mul->yaE,add_zero->yce,le_refl->yag,le_trans->yaO,lt_of_lt_of_le->yaW,lt_trichotomy->ybr,mul_le_mul_right->yaD,testBit_two_pow->yb3,zero_add->yaQ,zero_le->yaP
open Ne renaming symm->ycb
open Option renaming bind_some->yaa,map_eq_some_iff->yap
open Option.some renaming injEq->ybh
open Prod.mk renaming injEq->ybs
open _root_.Array renaming ext'->ybO,foldl_toList->ybV,getD_eq_getD_getElem?->ybT,getElem?_eq_getElem->ybl,getElem?_eq_some_iff->ya2,length_toList->ya8,toList_append->yb2
section
variable {P:Program} {base:Base} {h:Store} {E:Env}
def zid(E:Env)(L:Nat->Prop)(ix:List Nat):Env:=
 {P:=E.P,w:=E.w,n:=ix.length,gen:=fun _=>none,top:=fun _=>0,esz:=fun _=>0,row:=fun _=>undef,box:=fun j=>E.box (ix.getD j 0),own:=fun b=>E.own b/\¬L b}
theorem DL.less{w:World}{own own':Nat->Prop}(hle:∀b,own' b->own b){l:List AV}{vs:List Value}(h:DL P w own l vs):DL P w own' l vs:=
 h.ext (fun a v ho hc=>⟨fun h=>ho (hle _ h),hc⟩)
theorem zBU{E E':Env}{cs:List AV}{vs:List Value}(h:VL E cs vs)(hs:cs.all isSc=true):VL E' cs vs:=by
 induction cs generalizing vs with
 |nil=>cases h;exact .nil
 |cons c cs ih=>
  obtain⟨v,us,rfl,h1,h2⟩:=h.uncons;simp only[List.all_cons,yaB]at hs
  cases c with
  |sc u=>obtain⟨rfl,hp⟩:=h1.sc_inv;exact .data (.sc hp .nil) (ih h2 hs.2)
  |_=>simp[isSc]at hs
theorem zwX(R:Rel base h E){L:Nat->Prop}(caps:List AV):∀{ix:List Nat} {caps':List AV} {ix':List Nat} {vs:List Value},zea caps ix=some (caps',ix')->VL E caps vs->ix.Nodup->
  ix'.Nodup/\(∃m,ix'=ix++m)/\∀m,VL (zid E L (ix'++m)) caps' vs:=by
 induction caps with
 |nil=>
  intro ix caps' ix' vs hl hv hnd;simp only[zea]at hl;cases hl;cases hv
  exact⟨hnd,⟨[],by simp⟩,fun m=>.nil⟩
 |cons c caps ih=>
  intro ix caps' ix' vs hl hv hnd;obtain⟨v,us,rfl,h1,h2⟩:=hv.uncons
  cases c with
  |bptr b off=>
   obtain⟨hb,rfl⟩:=h1.bptr_inv;simp only[zea]at hl;split at hl
   ·rename_i j hj;split at hl
    ·cases hl;rename_i r' hr;obtain⟨h3,⟨m0,hm0⟩,h4⟩:=ih hr h2 hnd;refine⟨h3,⟨m0,hm0⟩,fun m=>?_⟩;have hjs:=List.idxOf?_eq_some_iff.1 hj;obtain⟨hjl,hje,_⟩:=hjs
     have hbox:(zid E L (ix'++m)).box j=E.box b:=by
      show E.box ((ix'++m).getD j 0)=_
      have:(ix'++m)[j]?=some b:=by
       rw[hm0,yao,yah hjl,yad hjl];simpa using hje
      simp[List.getD,this]
     rw[<-hbox];exact .bptr (by show j<(ix'++m).length;rw[hm0];simp;omega) rfl (h4 m)
    ·cases hl
   ·rename_i hj;split at hl
    ·cases hl;rename_i r' hr
     have hni:b∉ix:=by
      intro hc;have:=List.idxOf?_eq_none_iff.1 hj;exact this hc
     obtain⟨h3,⟨m0,hm0⟩,h4⟩:=ih hr h2 (by
      rw[List.nodup_append];refine⟨hnd,by simp,fun x hx y hy hxy=>?_⟩;rw[List.mem_singleton]at hy;rw[<-hy,<-hxy]at hni
      exact hni hx)
     refine⟨h3,⟨[b]++m0,by rw[hm0,yao]⟩,fun m=>?_⟩
     have hbox:(zid E L (ix'++m)).box ix.length=E.box b:=by
      show E.box ((ix'++m).getD ix.length 0)=_
      have:(ix'++m)[ix.length]?=some b:=by
       rw[hm0];simp
      simp[List.getD,this]
     rw[<-hbox];exact .bptr (by show ix.length<(ix'++m).length;rw[hm0];simp) rfl (h4 m)
    ·cases hl
  |_=>simp[zea]at hl
theorem zoZ(R:Rel base h E){L:Nat->Prop}{k g:Nat}{e:TypeId}{ro:Bool}{xs:List AV}(hr:zaV h k g=some (e,ro,xs))(hL:∀b,blkOf E h k=some b->L b):DL E.P E.w (fun b=>E.own b/\¬L b) [.lit e false xs] [E.row k]:=by
 have hk:=za2 hr;obtain⟨hgen,hesz,hs,a,cap,vals,hv,hc,hm,hd,hone,hrd⟩:=zbk R hr;have ho:=R.ent k _ hk
 cases ro with
 |true=>
  obtain⟨_,_,_,h4,_⟩:=ho
  exact h4.less (fun b hb=>hb.1)
 |false=>
  obtain⟨_,_,_,_,vals2,hrow,hd2,hone2⟩:=ho;rw[hv];refine .lit hc hm (by intro h;cases h) hs (hd.less (fun b hb=>hb.1)) hone (fun j u hu=>?_) .nil;obtain⟨b,hab,hcell⟩:=hrd j u hu;refine⟨b,0,hab,fun hb=>hb.2 (hL b ?_),by rw[yaQ];exact hcell⟩;rw[zaN hk];show zaP (E.row k)=some b;rcases hrow.2 with⟨hn0,a',ha⟩|⟨b0,cap',cur,hc0,ha,_⟩
  ·have h1:=hd.length;rw[yai hn0]at h1;simp[flat]at h1;rw[h1]at hu;cases hu
  ·rw[hv,hab]at ha;injection ha with hab' _ hcc;injection hab' with hab';injection hab' with hbb _ _;subst hbb hcc;rw[hv,hab]
   cases cap with
   |zero=>omega
   |succ c=>rfl
theorem zGa(R:Rel base h E){L:Nat->Prop}{k g:Nat}{lo hi:Int}{v:Value}(hv:VL E [.sub k g lo hi] [v]){e:TypeId}{ro:Bool}{xs ys:List AV}(hr:zaV h k g=some (e,ro,xs))(hy:yac.lsub xs lo hi=some ys)(hL:∀b,blkOf E h k=some b->L b):
  DL E.P E.w (fun b=>E.own b/\¬L b) [.lit e false ys] [v]:=by
 have hel:zbc yac h (.sub k g lo hi)=some ys:=by simp only[zbc,hr];exact hy
 have hea:zbU yac h e (.sub k g lo hi)=some ys:=by simp only[zbU,hr,if_true];exact hy
 obtain⟨ad,cap,vals,hve,hc,hm,hd,hone,_,hrd⟩:=zeJ R hv hel;obtain⟨_,hs⟩:=zgd R hv hea;obtain⟨a0,cap0,vals0,hv0,_,_,_,hs0,hd0,hone0,hrd0⟩:=(zoZ R hr hL).lit_inv;rw[hve];refine .lit hc hm (by intro h;cases h) hs (hd.less (fun b hb=>hb.1)) hone (fun j u hu=>?_) .nil;obtain⟨b,o,hab,hcell⟩:=hrd j u hu;refine⟨b,o,hab,?_,hcell⟩;obtain⟨_,_,_,hsub⟩:=hv.sub_inv;obtain⟨h0,h01,ad2,cap2,hv2,hc2,hm2,hb2,_⟩:=hsub (zbk R hr).1
 have hne:ys≠[]:=by
  rintro rfl;have h1:=hd.length;simp[flat]at h1;rw[h1]at hu;cases hu
 simp only[yac]at hy;split at hy
 ·rename_i hbd;cases hy
  have hlt:lo<hi:=by
   rcases Int.lt_or_eq_of_le h01 with h|h
   ·exact h
   ·subst h;exfalso;apply hne;rw[yaL];simp;omega
  obtain⟨b',hh,hab2⟩:=hb2 hlt;rw[hve]at hv2;injection hv2 with e1 _ _;rw[<-e1,hab]at hab2;injection hab2 with hab2;injection hab2 with hbb _ _;subst hbb
  have hvl:vals0≠[]:=by
   intro hn;have h1:=hd0.length;rw[hn,zbB hs0]at h1;have h2:=hd.length;rw[zbB (s:=E.P.cellsOf e) (fun x hx=>hs0 x (yaz (List.mem_of_mem_drop hx)))]at h2;have h3:vals.length≠0:=by intro h;rw[yai h]at hu;cases hu
   rcases Nat.mul_eq_zero.1 h1.symm with h|h
   ·have:=hbd.2.2;rw[h]at this;omega
   ·rw[h]at h2;omega
  obtain⟨u0,hu0⟩:∃u,vals0[0]?=some u:=by
   cases vals0 with
   |nil=>exact absurd rfl hvl
   |cons u us=>exact⟨u,rfl⟩
  obtain⟨b1,o1,hab1,hno1,_⟩:=hrd0 0 u0 hu0;obtain⟨n',c',hrow'⟩:=hh;rw[hv0,hab1]at hrow';injection hrow' with hab' _ _;injection hab' with hab';injection hab' with hbb _ _;subst hbb;exact hno1
 ·cases hy
def LentK(E:Env)(h:Store)(ks:List Nat)(b:Nat):Prop:=∃k,k∈ks/\(∃e g ro xs,h[k]?=some (.row e g ro xs))/\blkOf E h k=some b
def Lent(E:Env)(h:Store)(args:List AV)(b:Nat):Prop:=LentK E h (refs args) b
theorem LentK.mono{ks ks':List Nat}(hs:∀k,k∈ks->k∈ks'){b:Nat}(h1:LentK E h ks b):LentK E h ks' b:=by
 obtain⟨k,h2,h3⟩:=h1;exact⟨k,hs k h2,h3⟩
mutual
theorem zs3(R:Rel base h E){L:Nat->Prop}:∀(x:AV) {x':AV} {v:Value},zhl yac h x=some x'->VL E [x] [v]->(∀b,LentK E h (zeo x) b->L b)->DL E.P E.w (fun b=>E.own b/\¬L b) [x'] [v]:=by
 intro x x' v hl hv hL
 cases x with
 |sl k g=>
  simp only[zhl]at hl
  split at hl
  ·rename_i e ro xs hrow
   cases hl
   have hv':=hv.sl_inv.2.2.2 (zbk R hrow).1
   subst hv'
   exact zoZ R hrow (fun b hb=>hL b ⟨k,by simp[zeo],⟨_,_,_,_,za2 hrow⟩,hb⟩)
  ·cases hl
 |sub k g lo hi=>
  simp only[zhl]at hl
  split at hl
  ·rename_i e ro xs hrow
   split at hl
   ·rename_i ys hys
    cases hl
    exact zGa R hv hrow hys (fun b hb=>hL b ⟨k,by simp[zeo],⟨_,_,_,_,za2 hrow⟩,hb⟩)
   ·cases hl
  ·cases hl
 |agg cs=>
  simp only[zhl]at hl
  split at hl
  ·rename_i cs' hcs
   cases hl
   obtain⟨us,rfl,h2⟩:=hv.agg_inv
   exact .agg (zAn R cs hcs h2 (fun b hb=>hL b (by simpa only[zeo]using hb))) .nil
  ·cases hl
 |sc u=>
  simp only[zhl]at hl
  cases hl
  obtain⟨rfl,h2⟩:=hv.sc_inv
  exact .sc h2 .nil
 |lit e f xs=>
  simp only[zhl]at hl
  cases hl
  exact hv.lit_inv.less (fun b hb=>hb.1)
 |_=>simp only[zhl]at hl;cases hl
theorem zAn(R:Rel base h E){L:Nat->Prop}:∀(l:List AV) {l':List AV} {vs:List Value},zn0 yac h l=some l'->VL E l vs->(∀b,LentK E h (refs l) b->L b)->DL E.P E.w (fun b=>E.own b/\¬L b) l' vs:=by
 intro l l' vs hl hv hL
 cases l with
 |nil=>simp only[zn0]at hl;cases hl;cases hv;exact .nil
 |cons x r=>
  simp only[zn0]at hl
  split at hl
  ·rename_i x' hx
   split at hl
   ·rename_i r' hr
    cases hl
    obtain⟨v,us,rfl,h1,h2⟩:=hv.uncons
    have a:=zs3 R x hx h1 (fun b hb=>hL b (hb.mono (fun k hk=>by simp only[refs];exact ycl _ hk)))
    have b:=zAn R r hr h2 (fun b hb=>hL b (hb.mono (fun k hk=>by simp only[refs];exact List.mem_append_right _ hk)))
    exact a.append b
   ·cases hl
  ·cases hl
end
theorem zNf(R:Rel base h E){L:Nat->Prop}(args:List AV):∀{ix:List Nat} {args':List AV} {ix':List Nat} {vs:List Value},lend yac h args ix=some (args',ix')->VL E args vs->ix.Nodup->(∀b,Lent E h args b->L b)->
  ix'.Nodup/\(∃m,ix'=ix++m)/\∀m,VL (zid E L (ix'++m)) args' vs:=by
 induction args with
 |nil=>
  intro ix args' ix' vs hl hv hnd _;simp only[lend]at hl;cases hl;cases hv
  exact⟨hnd,⟨[],by simp⟩,fun m=>.nil⟩
 |cons x args ih=>
  intro ix args' ix' vs hl hv hnd hL;obtain⟨v,us,rfl,h1,h2⟩:=hv.uncons;have hL':∀b,Lent E h args b->L b:=fun b hb=>hL b (LentK.mono (fun k hk=>by simp only[refs];exact List.mem_append_right _ hk) hb)
  have hL1:∀b,LentK E h (zeo x) b->L b:=fun b hb=>hL b (LentK.mono (fun k hk=>by simp only[refs];exact ycl _ hk) hb)
  have fin:∀{x':AV} {ix1:List Nat} {r':List AV},lend yac h args ix1=some (r',ix')->ix1.Nodup->(∃m,ix1=ix++m)->(∀m,VL (zid E L (ix1++m)) [x'] [v])->
    ix'.Nodup/\(∃m,ix'=ix++m)/\∀m,VL (zid E L (ix'++m)) (x'::r') (v::us):=fun{x' ix1 r'} hr hnd1 hm1 hx=>by
   obtain⟨h3,⟨m0,hm0⟩,h4⟩:=ih hr h2 hnd1 hL';obtain⟨m1,hm1⟩:=hm1;exact⟨h3,⟨m1++m0,by rw[hm0,hm1,yao]⟩,fun m=>VL.cons (by rw[hm0,yao];exact hx _) (h4 m)⟩
  cases x with
  |fn f caps=>
   simp only[lend]at hl;split at hl
   ·rename_i caps' ix1 hc;split at hl
    ·cases hl;rename_i r' hr;obtain⟨vs',rfl,hv'⟩:=h1.fn_inv;obtain⟨h3,hm,h4⟩:=zwX (L:=L) R caps hc hv' hnd;exact fin hr h3 hm (fun m=>.fn (h4 m) .nil)
    ·cases hl
   ·cases hl
  |bptr b off=>
   simp only[lend]at hl;split at hl
   ·rename_i x' ix1 hc;split at hl
    ·cases hl;rename_i r' hr;obtain⟨h3,⟨m1,hm1⟩,h4⟩:=zwX (L:=L) R [.bptr b off] hc h1 hnd;obtain⟨h5,⟨m0,hm0⟩,h6⟩:=ih hr h2 h3 hL';refine⟨h5,⟨m1++m0,by rw[hm0,hm1,yao]⟩,fun m=>?_⟩;have hx:=h4 (m0++m);rw[<-yao,<-hm0]at hx;exact hx.append (h6 m)
    ·cases hl
   ·cases hl
  |_=>
   simp only[lend]at hl;split at hl
   ·rename_i x' hx;split at hl
    ·cases hl;rename_i r' hr;exact fin hr hnd ⟨[],by simp⟩ (fun m=>.data (zs3 R _ hx h1 hL1) .nil)
    ·cases hl
   ·cases hl
theorem zoA(ix:List Nat):∀{s:Store},zfU h ix=some s->s.length=ix.length/\∀(j b:Nat),ix[j]?=some b->∃(t:TypeId) (cs:List AV),h[b]?=some (Ent.box t cs)/\cs.all isSc=true/\s[j]?=some (Ent.box t cs):=by
 induction ix with
 |nil=>intro s hs;simp only[zfU]at hs;cases hs;exact⟨rfl,fun j b hj=>by cases hj⟩
 |cons b0 ix ih=>
  intro s hs;unfold zfU at hs;split at hs
  ·rename_i t cs hb;split at hs
   ·rename_i hall;split at hs
    ·cases hs;rename_i s' hs';obtain⟨h1,h2⟩:=ih hs';refine⟨by simp[h1],fun j b hj=>?_⟩
     cases j with
     |zero=>simp at hj;subst hj;exact⟨t,cs,hb,hall,rfl⟩
     |succ j=>obtain⟨t',cs',h3,h4,h5⟩:=h2 j b (by simpa using hj);exact⟨t',cs',h3,h4,by simpa using h5⟩
    ·cases hs
   ·cases hs
  ·cases hs
theorem zKs{cs:List AV}(h:cs.all isSc=true):∀c,c∈cs->c.one=true:=fun c hc=>by
 have:=yaS.1 h c hc;cases c<;>first|rfl|(simp[isSc]at this)
theorem zlJ{ix:List Nat}{j b:Nat}(h:ix[j]?=some b):ix.getD j 0=b:=by simp[List.getD,h]
theorem zNG(R:Rel base h E){ix:List Nat}(hnd:ix.Nodup){s:Store}(hs:zfU h ix=some s)(args:List AV):Rel base s (zid E (Lent E h args) ix):=by
 obtain⟨hlen,hix⟩:=zoA ix hs
 have ent:∀(j:Nat) (e:Ent),s[j]?=some e->∃(b:Nat) (t:TypeId) (cs:List AV),ix[j]?=some b/\e=Ent.box t cs/\h[b]?=some (.box t cs)/\cs.all isSc=true:=fun j e hj=>by
  have hlt:j<ix.length:=by rw[<-hlen];exact(yae.1 hj).1
  obtain⟨t,cs,h1,h2,h3⟩:=hix j ix[j] (yad hlt);rw[hj]at h3;cases h3;exact⟨_,t,cs,yad hlt,rfl,h1,h2⟩
 have blk:∀j b,blkOf (zid E (Lent E h args) ix) s j=some b->∃(b0:Nat) (t:TypeId) (cs:List AV),ix[j]?=some b0/\h[b0]?=some (Ent.box t cs)/\b=E.box b0:=fun j b hj=>by
  obtain⟨e,he,hb⟩:=zdo hj;obtain⟨b0,t,cs,h1,rfl,h2,_⟩:=ent j e he;have hb:some (E.box (ix.getD j 0))=some b:=hb;cases hb;exact⟨b0,t,cs,h1,h2,by rw[zlJ h1]⟩
 refine⟨hlen.symm,R.lo,fun j e hj=>?_,fun _ _=>rfl,fun j b hj=>?_,fun i j b hi hj=>?_,fun b hb=>R.lt b hb.1⟩
 ·obtain⟨b0,t,cs,h1,rfl,h2,h3⟩:=ent j e hj;obtain⟨_,_,h4,h5,vals,h6,h7⟩:=R.ent b0 _ h2;have hbx:(zid E (Lent E h args) ix).box j=E.box b0:=by show E.box (ix.getD j 0)=_;rw[zlJ h1]
  exact⟨rfl,rfl,by rw[hbx];exact h4,h5,vals,by rw[hbx];exact h6,zBU h7 h3⟩
 ·obtain⟨b0,t,cs,h1,h2,rfl⟩:=blk j b hj;have hb0:blkOf E h b0=some (E.box b0):=zaN h2;refine⟨R.own b0 _ hb0,fun hlen=>?_⟩;obtain⟨k,_,⟨e,g,ro,xs,hk⟩,hkb⟩:LentK E h (refs args) _:=hlen;have:=R.inj k b0 _ hkb hb0;subst this;rw[hk]at h2;cases h2
 ·obtain⟨b1,t1,cs1,h1,h2,rfl⟩:=blk i b hi;obtain⟨b2,t2,cs2,h3,h4,h5⟩:=blk j _ hj;have:=R.inj b1 b2 (E.box b1) (zaN h2) (by rw[h5];exact zaN h4);subst this;have hi':i<ix.length:=(yae.1 h1).1;have hj':j<ix.length:=(yae.1 h3).1;rw[yad hi']at h1;rw[yad hj']at h3;have heq:ix[i]=ix[j]:=by injection h1 with h1;injection h3 with h3;rw[h1,h3]
  rcases ybr i j with hlt|hlt|hlt
  ·exact absurd heq (ya6.1 hnd i j hi' hj' hlt)
  ·exact hlt
  ·exact absurd heq.symm (ya6.1 hnd j i hj' hi' hlt)
theorem zsw(ix:List Nat):∀{h2:Store} {h h' new:Store},zbQ ix h2 h=some (h',new)->ix.Nodup->(∀(b:Nat),b∈ix->b<h.length)->
  ∃pre:Store,h2=pre++new/\pre.length=ix.length/\h'.length=h.length/\(∀(j:Nat),j∉ix->h'[j]?=h[j]?)/\∀(j b:Nat),ix[j]?=some b->∃(t:TypeId) (cs:List AV),h'[b]?=some (Ent.box t cs)/\cs.all isSc=true/\pre[j]?=some (Ent.box t cs):=by
 induction ix with
 |nil=>
  intro h2 h h' new hw _ _;simp only[zbQ]at hw;cases hw
  exact⟨[],rfl,rfl,rfl,fun _ _=>rfl,fun j b hj=>by cases hj⟩
 |cons b0 ix ih=>
  intro h2 h h' new hw hnd hlt;unfold zbQ at hw;split at hw
  ·rename_i e;cases e
  ·rename_i b ix' t cs h2' e1;cases e1;split at hw
   ·rename_i hall;rw[List.nodup_cons]at hnd;obtain⟨pre,rfl,h3,h4,h5,h6⟩:=ih hw hnd.2 (fun b hb=>by simpa using hlt b (ya3 _ hb));refine⟨.box t cs::pre,rfl,by simp[h3],by rw[h4];simp,fun j hj=>?_,fun j b hj=>?_⟩
    ·rw[h5 j (fun hc=>hj (ya3 _ hc)),yas (fun e=>hj (by rw[e];exact ybp ..))]
    ·cases j with
     |zero=>
      simp at hj;subst hj;refine⟨t,cs,?_,hall,rfl⟩
      rw[h5 _ hnd.1,yaq (hlt _ (ybp ..))]
     |succ j=>
      obtain⟨t',cs',h7,h8,h9⟩:=h6 j b (by simpa using hj);exact⟨t',cs',h7,h8,by simpa using h9⟩
   ·cases hw
  ·cases hw
theorem zy2(k:Nat)(h:Store):(zdw k h).length=h.length/\∀(j:Nat),(zdw k h)[j]?=h[j]? \/∃(e:TypeId) (g:Nat) (ro:Bool) (xs:List AV),h[j]?=some (Ent.row e g ro xs)/\(zdw k h)[j]?=some (Ent.row e g true xs)/\j=k:=by
 unfold zdw;split
 ·rename_i e g ro xs hk;have hkl:k<h.length:=(yae.1 hk).1;refine⟨by simp,fun j=>?_⟩;by_cases hj:j=k
  ·subst hj;exact .inr ⟨e,g,ro,xs,hk,yaq hkl,rfl⟩
  ·exact .inl (yas (ycb hj))
 ·exact⟨rfl,fun j=>.inl rfl⟩
theorem zfw(ks:List Nat):∀(h:Store),(shut ks h).length=h.length/\∀(j:Nat),(shut ks h)[j]?=h[j]? \/∃(e:TypeId) (g:Nat) (ro:Bool) (xs:List AV),h[j]?=some (Ent.row e g ro xs)/\(shut ks h)[j]?=some (Ent.row e g true xs)/\j∈ks:=by
 induction ks with
 |nil=>intro h;exact⟨rfl,fun j=>.inl rfl⟩
 |cons k ks ih=>
  intro h;obtain⟨l1,s1⟩:=zy2 k h;obtain⟨l2,s2⟩:=ih (zdw k h);refine⟨l2.trans l1,fun j=>?_⟩;show(shut ks (zdw k h))[j]?=_\/_;rcases s2 j with h3|⟨e',g',ro',xs',h3,h4,h5⟩
  ·rcases s1 j with h6|⟨e,g,ro,xs,h6,h7,h8⟩
   ·exact .inl (h3.trans h6)
   ·exact .inr ⟨e,g,ro,xs,h6,h3.trans h7,by simp[h8]⟩
  ·rcases s1 j with h6|⟨e,g,ro,xs,h6,h7,h8⟩
   ·exact .inr ⟨e',g',ro',xs',h6.symm.trans h3,h4,by simp[h5]⟩
   ·rw[h7]at h3;cases h3;exact .inr ⟨_,_,ro,_,h6,h4,by simp[h5]⟩
theorem zHs(ks:List Nat){h:Store}{k:Nat}{e:TypeId}{g:Nat}{xs:List AV}(hk:h[k]?=some (Ent.row e g true xs)):(shut ks h)[k]?=some (Ent.row e g true xs):=by
 rcases(zfw ks h).2 k with h1|⟨e',g',ro',xs',h1,h2,_⟩
 ·rw[h1,hk]
 ·rw[hk]at h1;cases h1;exact h2
theorem zDq(ks:List Nat):∀{h:Store} {k:Nat} {e:TypeId} {g:Nat} {ro:Bool} {xs:List AV},k∈ks->h[k]?=some (Ent.row e g ro xs)->(shut ks h)[k]?=some (Ent.row e g true xs):=by
 induction ks with
 |nil=>intro h k e g ro xs hk;cases hk
 |cons k0 ks ih=>
  intro h k e g ro xs hk hrow;show(shut ks (zdw k0 h))[k]?=_;by_cases hkk:k=k0
  ·subst hkk;refine zHs ks ?_;unfold zdw;rw[hrow];exact yaq (yae.1 hrow).1
  ·refine ih (by simpa[hkk]using hk) (ro:=ro) ?_;rcases(zy2 k0 h).2 k with h1|⟨_,_,_,_,_,_,h1⟩
   ·rw[h1,hrow]
   ·exact absurd h1 hkk
theorem zHm(f:Nat->Nat){w:World}{own:Nat->Prop}{l:List AV}{vs:List Value}(h:DL P w own l vs):reloc.go f l=l:=by
 induction h with
 |nil=>rfl
 |sc h t it=>simp only[reloc.go,reloc,it]
 |agg h t ih it=>simp only[reloc.go,reloc,ih,it]
 |lit _ _ _ _ _ _ _ _ _ it=>simp only[reloc.go,reloc,it]
theorem zDi{E E':Env}(f:Nat->Nat)(hP:E'.P=E.P)(hw:E'.w=E.w)(ho:∀b,E'.own b->E.own b)(hn:∀k,k<E.n->f k<E'.n)(hg:∀k,k<E.n->E'.gen (f k)=E.gen k/\E'.top (f k)=E.top k/\(∀g,E.gen k=some g->E'.esz (f k)=E.esz k/\E'.row (f k)=E.row k)/\E'.box (f k)=E.box k)
  {l:List AV} {vs:List Value} (h:VL E l vs):VL E' (reloc.go f l) vs:=by
 induction h with
 |nil=>exact .nil
 | @data x v r rs h t it=>
  have e1:reloc f x=x:=by
   have:=zHm f h;simpa[reloc.go]using this
  simp only[reloc.go,e1];refine .data ?_ it
  rw[hP,hw];exact h.less ho
 |agg h t ih it=>simp only[reloc.go,reloc];exact .agg ih it
 |tup h t ih it=>simp only[reloc.go,reloc];exact .tup ih it
 |sl hk hgt h1 h t it=>
  obtain⟨e1,e2,e3,e5⟩:=hg _ hk
  simp only[reloc.go,reloc];exact .sl (hn _ hk) (by rw[e2];exact hgt) h1 (fun hc=>by rw[e1]at hc;rw[(e3 _ hc).2];exact h hc) it
 |sub hk hgt h1 h t it=>
  obtain⟨e1,e2,e3,e5⟩:=hg _ hk
  simp only[reloc.go,reloc];exact .sub (hn _ hk) (by rw[e2];exact hgt) h1 (fun hc=>by rw[e1]at hc;rw[(e3 _ hc).1,(e3 _ hc).2];exact h hc) it
 |bptr hk hgn t it=>
  obtain⟨e1,e2,e3,e5⟩:=hg _ hk
  simp only[reloc.go,reloc];rw[<-e5];exact .bptr (hn _ hk) (by rw[e1];exact hgn) it
 |rptr hk hgt h1 h t it=>
  obtain⟨e1,e2,e3,e5⟩:=hg _ hk
  simp only[reloc.go,reloc];exact .rptr (hn _ hk) (by rw[e2];exact hgt) h1 (fun hc=>by rw[e1]at hc;rw[(e3 _ hc).1,(e3 _ hc).2];exact h hc) it
 | @lptr e xs i off b o vals r rs hs h hr t it=>
  simp only[reloc.go,reloc]
  have:=VL.lptr (E:=E') (e:=e) (xs:=xs) (i:=i) (off:=off) (b:=b) (o:=o) (vals:=vals) (by rw[hP];exact hs) (by rw[hP,hw];exact h.less ho) (fun j u hu=>by
   obtain⟨h1,h2⟩:=hr j u hu
   exact⟨fun h=>h1 (ho _ h),by rw[hw];exact h2⟩) it
  rw[hP]at this;exact this
 |fn h t ih it=>simp only[reloc.go,reloc];exact .fn ih it
 |bad t it=>simp only[reloc.go,reloc];exact .bad it
def zdx(P:Program)(base:Base)(I:Ifc):Prop:=
 ∀(f:FuncId) (args:List AV) (s:Store) (r:AV) (h2:Store),I.call f args s=some (r,h2)->∀(E:Env) (vs:List Value),E.P=P->Rel base s E->VL E args vs->
  Calls P f vs.toArray E.w fun e w'=>∃v E',e=.returned v/\E'.w=w'/\Rel base h2 E'/\Step s E h2 E'/\VL E' [r] [v]
theorem zND{E E':Env}{r:AV}{v:Value}(hr:sole r=true)(h:VL E [r] [v]):VL E' [r] [v]:=by
 cases r with
 |sc u=>obtain⟨rfl,hp⟩:=h.sc_inv;exact .data (.sc hp .nil) .nil
 |tup vs=>obtain⟨us,rfl,h1⟩:=h.tup_inv;exact .tup (zBU h1 (by simpa[sole]using hr)) .nil
 |_=>simp[sole]at hr
def zwv(E:Env)(h:Store)(ix:List Nat)(new:Store)(Ec:Env)(sh:Bool):Env:={E with w:=Ec.w,n:=h.length+new.length,gen:=fun k=>if k<h.length then E.gen k else Ec.gen (k-h.length+ix.length),top:=fun k=>if k<h.length then E.top k else Ec.top (k-h.length+ix.length),esz:=fun k=>if k<h.length then E.esz k else Ec.esz (k-h.length+ix.length),row:=fun k=>if k<h.length then E.row k else Ec.row (k-h.length+ix.length),box:=fun k=>if k<h.length then E.box k else Ec.box (k-h.length+ix.length),own:=fun b=>if sh then Ec.own b else Ec.own b\/E.own b}
theorem zx1(R:Rel base h E){ix:List Nat}(hnd:ix.Nodup){s:Store}(hs:zfU h ix=some s){args:List AV}{h2 h' new:Store}(hwb:zbQ ix h2 h=some (h',new)){Ec:Env}(hPc:Ec.P=E.P)(Rc:Rel base h2 Ec)(Sc:Step s (zid E (Lent E h args) ix) h2 Ec)(sh:Bool)(hnew:sh=false->new=[])(hrows:new.all zBQ=true):
  let E':Env:=zwv E h ix new Ec sh
  let h'':Store:=(if sh then shut (refs args) h' else h')++new
  Rel base h'' E'/\Step h E h'' E':=by
 intro E' h'';obtain⟨hsl,hsx⟩:=zoA ix hs
 have hlt:∀b,b∈ix->b<h.length:=fun b hb=>by
  obtain⟨j,hj,rfl⟩:=ybK hb;obtain⟨t,cs,h1,_⟩:=hsx j _ (yad hj);exact(yae.1 h1).1
 obtain⟨pre,hpre,hplen,hh'len,hout,hin⟩:=zsw ix hwb hnd hlt
 have hlen'':h''.length=h.length+new.length:=by
  show((if sh then shut (refs args) h' else h')++new).length=_;rw[yaf]
  cases sh with
  |false=>simp[hh'len]
  |true=>simp[(zfw (refs args) h').1,hh'len]
 have subblk:∀j b,blkOf (zid E (Lent E h args) ix) s j=some b->∃b0,ix[j]?=some b0/\blkOf E h b0=some b/\b=E.box b0:=fun j b hj=>by
  obtain⟨e,he,hb⟩:=zdo hj;have hjl:j<ix.length:=by rw[<-hsl];exact(yae.1 he).1
  obtain⟨t,cs,h1,h2,h3⟩:=hsx j _ (yad hjl);rw[he]at h3;cases h3;have hb:some (E.box (ix.getD j 0))=some b:=hb;rw[zlJ (yad hjl)]at hb;cases hb;exact⟨_,yad hjl,zaN h1,rfl⟩
 have boxc:∀j b0,ix[j]?=some b0->Ec.box j=E.box b0:=fun j b0 hj=>by
  have hjl:j<ix.length:=(yae.1 hj).1;rw[(Sc.ext.box j hjl rfl).2];show E.box (ix.getD j 0)=_;rw[zlJ hj]
 have keepHeap:∀b,b<E.w.heap.size->(∀k,blkOf E h k≠some b)->Ec.w.heap[b]?=E.w.heap[b]?:=fun b hb hn=>Sc.heap b hb (fun j hj=>by
  obtain⟨b0,_,h1,_⟩:=subblk j b hj
  exact hn b0 h1)
 have otherHeap:∀k,k∉ix->∀b,blkOf E h k=some b->Ec.w.heap[b]?=E.w.heap[b]?:=fun k hk b hb=>Sc.heap b (R.lt b (R.own k b hb)) (fun j hj=>by
  obtain⟨b0,h0,h1,_⟩:=subblk j b hj;have:=R.inj k b0 b hb h1;subst this
  exact hk (yam h0))
 have cfresh:∀b,Ec.own b->E.own b/\¬Lent E h args b\/E.w.heap.size<=b:=fun b hb=>Sc.fresh b hb
 have hfresh:∀b,E'.own b->E.own b\/E.w.heap.size<=b:=fun b hb=>by
  have hb:(if sh then Ec.own b else Ec.own b\/E.own b):=hb
  cases sh with
  |true=>exact(cfresh b hb).imp (fun h=>h.1) id
  |false=>
   rcases hb with hb|hb
   ·exact(cfresh b hb).imp (fun h=>h.1) id
   ·exact .inl hb
 have hx:Ext E E':=⟨rfl,by show E.n<=h.length+new.length;rw[R.n];omega,fun k hk=>by
   show E.top k<=if k<h.length then E.top k else _
   rw[if_pos (by rw[<-R.n];exact hk)];exact yag _,fun k g hk hg hc=>by
   have hk':k<h.length:=by rw[<-R.n];exact hk
   have hc':(if k<h.length then E.gen k else _)=some g:=hc;rw[if_pos hk']at hc'
   exact⟨hc',if_pos hk',if_pos hk'⟩,fun k hk hg=>⟨by
   show(if k<h.length then E.gen k else _)=none
   rw[if_pos (by rw[<-R.n];exact hk)];exact hg,if_pos (by rw[<-R.n];exact hk)⟩,zwD R keepHeap hfresh⟩
 have old:∀k,k<h.length->∀e,h''[k]?=some e->(k∈ix/\∃j t cs,ix[j]?=some k/\e=Ent.box t cs/\cs.all isSc=true/\h2[j]?=some (Ent.box t cs))\/(k∉ix/\h[k]?=some e/\(sh=true->k∈refs args->∀e' g ro xs,e=Ent.row e' g ro xs->ro=true))\/(k∉ix/\sh=true/\k∈refs args/\∃e' g ro xs,h[k]?=some (Ent.row e' g ro xs)/\e=Ent.row e' g true xs):=fun k hk e he=>by
  have he1:(if sh then shut (refs args) h' else h')[k]?=some e:=by
   have:h''[k]?=(if sh then shut (refs args) h' else h')[k]?:=by
    show((if sh then shut (refs args) h' else h')++new)[k]?=_;rw[yah]
    cases sh with
    |false=>simpa[hh'len]using hk
    |true=>simpa[(zfw (refs args) h').1,hh'len]using hk
   rw[<-this];exact he
  by_cases hki:k∈ix
  ·obtain⟨j,hj,rfl⟩:=ybK hki;have hj':=yad hj;obtain⟨t,cs,h1,h2',h3⟩:=hin j _ hj'
   have hbox:(if sh then shut (refs args) h' else h')[ix[j]]?=some (Ent.box t cs):=by
    cases sh with
    |false=>exact h1
    |true=>
     rcases(zfw (refs args) h').2 ix[j]with h4|⟨e',g',ro',xs',h4,h5,_⟩
     ·exact h4.trans h1
     ·rw[h1]at h4;cases h4
   rw[hbox]at he1;cases he1;refine .inl ⟨hki,j,t,cs,hj',rfl,h2',?_⟩;rw[hpre,yah (by omega)];exact h3
  ·have hk1:=hout k hki
   cases hsh:sh with
   |false=>
    rw[hsh]at he1
    exact .inr (.inl ⟨hki,by rw[<-hk1];exact he1,fun h=>by cases h⟩)
   |true=>
    rw[hsh]at he1;have he1:(shut (refs args) h')[k]?=some e:=he1;rcases(zfw (refs args) h').2 k with h4|⟨e',g',ro',xs',h4,h5,h6⟩
    ·refine .inr (.inl ⟨hki,by rw[<-hk1,<-h4];exact he1,fun _ hkr e' g ro xs hee=>?_⟩);subst hee;have h7:h'[k]?=some (Ent.row e' g ro xs):=by rw[<-h4];exact he1
     have h8:=zDq (refs args) hkr h7;rw[he1]at h8;cases h8;rfl
    ·rw[h5]at he1;cases he1;exact .inr (.inr ⟨hki,rfl,h6,e',g',ro',xs',by rw[<-hk1];exact h4,rfl⟩)
 have fresh2:∀k,h.length<=k->h''[k]?=h2[k-h.length+ix.length]?:=fun k hk=>by
  have hl:(if sh then shut (refs args) h' else h').length=h.length:=by
   cases sh with
   |false=>simp[hh'len]
   |true=>simp[(zfw (refs args) h').1,hh'len]
  show((if sh then shut (refs args) h' else h')++new)[k]?=_;rw[yax (by rw[hl];exact hk),hl,hpre,yax (by omega)];congr 1;omega
 have shnew:∀k,h.length<=k->∀e,h''[k]?=some e->sh=true/\∃e' g ro xs,e=Ent.row e' g ro xs:=fun k hk e he=>by
  have hl:(if sh then shut (refs args) h' else h').length=h.length:=by
   cases sh with
   |false=>simp[hh'len]
   |true=>simp[(zfw (refs args) h').1,hh'len]
  have he1:new[k-h.length]?=some e:=by
   have:h''[k]?=new[k-h.length]?:=by
    show((if sh then shut (refs args) h' else h')++new)[k]?=_;rw[yax (by rw[hl];exact hk),hl]
   rw[<-this];exact he
  refine⟨?_,?_⟩
  ·cases hsh:sh with
   |true=>rfl
   |false=>rw[hnew hsh]at he1;cases he1
  ·have h1:=yaS.1 hrows e (yam he1)
   cases e with
   |box=>simp[zBQ]at h1
   |it=>simp[zBQ]at h1
   |row e' g ro xs=>exact⟨_,_,_,_,rfl⟩
 have ownsh:∀b,sh=true->(E'.own b<->Ec.own b):=fun b hsh=>by
  show(if sh then Ec.own b else Ec.own b\/E.own b)<->_;rw[hsh];rfl
 have oldblk:∀k,k<h.length->∀b,blkOf E' h'' k=some b->blkOf E h k=some b/\((∃j,ix[j]?=some k/\blkOf Ec h2 j=some b)\/(k∉ix/\¬(sh=true/\k∈refs args/\∃e g ro xs,h[k]?=some (Ent.row e g ro xs)))):=fun k hk b hb=>by
  obtain⟨e,he,hbe⟩:=zdo hb;have hrow:E'.row k=E.row k:=if_pos hk;have hbox:E'.box k=E.box k:=if_pos hk;rw[zbA hrow hbox]at hbe;rcases old k hk e he with⟨hki,j,t,cs,hj,rfl,hsc,hj2⟩|⟨hki,hhk,hro⟩|⟨hki,hsh,hkr,e',g,ro,xs,hhk,rfl⟩
  ·obtain⟨t',cs',h1,_,_⟩:=hsx j k hj;have hbe:some (E.box k)=some b:=hbe;refine⟨by rw[zaN h1];exact hbe,.inl ⟨j,hj,?_⟩⟩;rw[zaN hj2];show some (Ec.box j)=_;rw[boxc j k hj];exact hbe
  ·refine⟨by rw[zaN hhk];exact hbe,.inr ⟨hki,fun⟨hsh,hkr,e',g,ro,xs,hr⟩=>?_⟩⟩;rw[hhk]at hr;cases hr;have:=hro hsh hkr _ _ _ _ rfl;subst this;cases hbe
  ·cases hbe
 have newblk:∀k,h.length<=k->∀b,blkOf E' h'' k=some b->sh=true/\blkOf Ec h2 (k-h.length+ix.length)=some b:=fun k hk b hb=>by
  obtain⟨e,he,hbe⟩:=zdo hb;obtain⟨hsh,e',g,ro,xs,rfl⟩:=shnew k hk e he;refine⟨hsh,?_⟩;rw[fresh2 k hk]at he;rw[zaN he];have hrow:E'.row k=Ec.row (k-h.length+ix.length):=if_neg (by omega)
  cases ro with
  |true=>cases hbe
  |false=>
   have hbe:zaP (E'.row k)=some b:=hbe;rw[hrow]at hbe;exact hbe
 have newlow:∀k,h.length<=k->∀b,blkOf E' h'' k=some b->E.w.heap.size<=b:=fun k hk b hb=>by
  obtain⟨_,h1⟩:=newblk k hk b hb;rcases Sc.blk _ b h1 with⟨i,hi⟩|h3
  ·obtain⟨b0,h4,_,h6⟩:=subblk i b hi;obtain⟨t,cs,_,_,h8⟩:=hin i b0 h4;have hil:i<ix.length:=(yae.1 h4).1
   have h9:blkOf Ec h2 i=some b:=by
    rw[zaN (e:=Ent.box t cs) (by rw[hpre,yah (by omega)];exact h8)];show some (Ec.box i)=_;rw[boxc i b0 h4,h6]
   have:=Rc.inj _ _ b h9 h1;omega
  ·exact h3
 have hwE:E'.w=Ec.w:=rfl
 have oldown:∀k,k<h.length->∀b,blkOf E' h'' k=some b->E'.own b:=fun k hk b hb=>by
  obtain⟨h1,h2'⟩:=oldblk k hk b hb
  cases hsh:sh with
  |false=>
   show if sh then Ec.own b else Ec.own b\/E.own b
   rw[hsh];exact .inr (R.own k b h1)
  |true=>
   rw[ownsh b hsh];rcases h2' with⟨j,hj,hb2⟩|⟨hki,hnr⟩
   ·exact Rc.own j b hb2
   ·refine Sc.held b ⟨R.own k b h1,fun⟨k',hk',hr',hb'⟩=>?_⟩ (fun j hj=>?_)
    ·have:=R.inj k' k b hb' h1;subst this;exact hnr ⟨hsh,hk',hr'⟩
    ·obtain⟨b0,h0,h3,_⟩:=subblk j b hj;have:=R.inj k b0 b h1 h3;subst this;exact hki (yam h0)
 have S:Step h E h'' E':=⟨hx,Sc.os,Sc.tape,Sc.output,Sc.size,keepHeap,hfresh,fun b hb hn=>by
   cases hsh:sh with
   |false=>
    show if sh then Ec.own b else Ec.own b\/E.own b
    rw[hsh];exact .inr hb
   |true=>
    rw[ownsh b hsh];refine Sc.held b ⟨hb,fun⟨k',_,_,hb'⟩=>hn k' hb'⟩ (fun j hj=>?_);obtain⟨b0,_,h3,_⟩:=subblk j b hj;exact hn b0 h3,fun k b hb=>by
   by_cases hk:k<h.length
   ·exact .inl ⟨k,(oldblk k hk b hb).1⟩
   ·exact .inr (newlow k (by omega) b hb)⟩
 refine⟨⟨hlen''.symm,R.step_lo S,fun k e he=>?_,fun k hk=>?_,fun k b hb=>?_,fun i j b hi hj=>?_,fun b hb=>?_⟩,S⟩
 ·by_cases hk:k<h.length
  ·have henv:E'.gen k=E.gen k/\E'.top k=E.top k/\E'.esz k=E.esz k/\E'.row k=E.row k/\E'.box k=E.box k:=⟨if_pos hk,if_pos hk,if_pos hk,if_pos hk,if_pos hk⟩
   rcases old k hk e he with⟨hki,j,t,cs,hj,rfl,hsc,hj2⟩|⟨hki,hhk,_⟩|⟨hki,hsh,hkr,e',g,ro,xs,hhk,rfl⟩
   ·obtain⟨t',cs',h1,_,_⟩:=hsx j k hj;obtain⟨hg,htp,hb,_,_⟩:=R.ent k _ h1;obtain⟨_,_,_,_,vals,hh,hv⟩:=Rc.ent j _ hj2;refine⟨by rw[henv.1];exact hg,by rw[henv.2.1];exact htp,by rw[henv.2.2.2.2];exact hb,zKs hsc,vals,?_,zBU hv hsc⟩;rw[henv.2.2.2.2,<-boxc j k hj];exact hh
   ·exact(R.ent k e hhk).step hx henv (fun b hb=>otherHeap k hki b (by rw[zaN hhk];exact hb))
   ·have hro:=R.ent k _ hhk;have hr:zaV h k g=some (e',ro,xs):=by simp only[zaV,hhk,if_true]
    obtain⟨hgen,hesz,_⟩:=zbk R hr
    have htop:E.top k=g:=by cases ro with
     |true=>exact hro.2.1
     |false=>exact hro.2.1
    have hd:=zoZ (L:=Lent E h args) R hr (fun b hb=>⟨k,hkr,⟨_,_,_,_,hhk⟩,hb⟩);refine⟨by rw[henv.1];exact hgen,by rw[henv.2.1];exact htop,by rw[henv.2.2.1];exact hesz,?_,fun hne=>?_⟩
    ·rw[henv.2.2.2.1];show DL E.P Ec.w E'.own _ _
     exact hd.ext (fun a v ho hc=>by
      obtain⟨h1,h2⟩:=Sc.ext.keep a v ho hc
      exact⟨fun h=>h1 ((ownsh _ hsh).1 h),h2⟩)
    ·rw[henv.2.2.2.1]
     cases ro with
     |true=>exact hro.2.2.2.2 hne
     |false=>
      obtain⟨_,_,_,_,vals,hrow,_⟩:=hro;rcases hrow.2 with⟨hn,_⟩|⟨b0,cap,cur,_,ha,_⟩
      ·exact absurd (yai hn) hne
      ·exact⟨b0,_,_,ha⟩
  ·obtain⟨hsh,e',g,ro,xs,rfl⟩:=shnew k (by omega) e he;rw[fresh2 k (by omega)]at he;have hro:=Rc.ent _ _ he;have e1:E'.gen k=Ec.gen (k-h.length+ix.length):=if_neg hk;have e2:E'.top k=Ec.top (k-h.length+ix.length):=if_neg hk;have e3:E'.esz k=Ec.esz (k-h.length+ix.length):=if_neg hk;have e4:E'.row k=Ec.row (k-h.length+ix.length):=if_neg hk
   have hdl:∀{l vs},DL Ec.P Ec.w Ec.own l vs->DL E'.P E'.w E'.own l vs:=fun{l vs} hd=>by
    show DL E.P Ec.w E'.own l vs;rw[<-hPc];exact hd.less (fun b hb=>(ownsh b hsh).1 hb)
   cases ro with
   |true=>
    obtain⟨h1,h2',h3,h4,h5⟩:=hro
    exact⟨by rw[e1];exact h1,by rw[e2];exact h2',by rw[e3,h3,hPc];rfl,by rw[e4];exact hdl h4,by rw[e4];exact h5⟩
   |false=>
    obtain⟨h1,h2',h3,h4,vals,h5,h6,h7⟩:=hro;rw[hPc]at h3 h4 h5;exact⟨by rw[e1];exact h1,by rw[e2];exact h2',by rw[e3];exact h3,h4,vals,by rw[e4];exact h5,hdl h6,h7⟩
 ·rw[hlen'']at hk;have:E'.gen k=Ec.gen (k-h.length+ix.length):=if_neg (by omega);rw[this];refine Rc.nogen _ ?_;rw[hpre,yaf,hplen];omega
 ·by_cases hk:k<h.length
  ·exact oldown k hk b hb
  ·obtain⟨hsh,h1⟩:=newblk k (by omega) b hb;exact(ownsh b hsh).2 (Rc.own _ b h1)
 ·by_cases hi':i<h.length
  ·by_cases hj':j<h.length
   ·exact R.inj i j b (oldblk i hi' b hi).1 (oldblk j hj' b hj).1
   ·have:=newlow j (by omega) b hj;have:=R.lt b (R.own i b (oldblk i hi' b hi).1);omega
  ·by_cases hj':j<h.length
   ·have:=newlow i (by omega) b hi;have:=R.lt b (R.own j b (oldblk j hj' b hj).1);omega
   ·have h1:=(newblk i (by omega) b hi).2;have h2':=(newblk j (by omega) b hj).2;have:=Rc.inj _ _ b h1 h2';omega
 ·have hb:(if sh then Ec.own b else Ec.own b\/E.own b):=hb;show b<Ec.w.heap.size
  cases sh with
  |true=>exact Rc.lt b hb
  |false=>
   rcases hb with hb|hb
   ·exact Rc.lt b hb
   ·exact yaW (R.lt b hb) Sc.size
theorem zB9{I:Ifc}(hI:I.o=yac)(IH:zdx P base I)(R:Rel base h E)(hP:E.P=P){args:List AV}{vs:List Value}(hv:VL E args vs){f:FuncId}{v:AV}{h3:Store}{m:Nat}(he:zde I f args h=some (v,h3,m)):
  Calls P f vs.toArray E.w fun e w'=>∃v' E',e=.returned v'/\E'.w=w'/\Rel base h3 E'/\Step h E h3 E'/\VL E' [v] [v']:=by
 unfold zde at he;rw[hI]at he;split at he
 ·cases he
 ·rename_i args' ix hl;split at he
  ·cases he
  ·rename_i s hs;split at he
   ·cases he
   ·rename_i r h2 hc;split at he
    ·cases he
    ·rename_i h' new hwb;obtain⟨hnd,_,hva⟩:=zNf (L:=Lent E h args) R args hl hv List.nodup_nil (fun b hb=>hb);have hva:=hva [];rw[ybe]at hva;have Rs:=zNG R hnd hs args;refine(IH f args' s r h2 hc (zid E (Lent E h args) ix) vs hP Rs hva).mono fun e w' ⟨v',Ec,hev,hw,Rc,Sc,hr⟩=>?_
     have hPc:Ec.P=E.P:=Sc.ext.P;obtain⟨hsl,hsx⟩:=zoA ix hs;split at he
     ·rename_i hso;split at he
      ·cases he;obtain⟨R',S'⟩:=zx1 R hnd hs hwb hPc Rc Sc false (fun _=>rfl) rfl;simp only[Bool.false_eq_true,if_false,ybe]at R' S';exact⟨v',zwv E h ix [] Ec false,hev,hw,R',S',zND hso hr⟩
      ·cases he
     ·split at he
      ·rename_i hrows;cases he;obtain⟨R',S'⟩:=zx1 R hnd hs hwb hPc Rc Sc true (fun h=>by cases h) hrows;refine⟨v',zwv E h ix new Ec true,hev,hw,R',S',?_⟩
       have hlt:∀b,b∈ix->b<h.length:=fun b hb=>by
        obtain⟨j,hj,rfl⟩:=ybK hb;obtain⟨t,cs,h1,_⟩:=hsx j _ (yad hj);exact(yae.1 h1).1
       obtain⟨pre,hpre,hplen,hh'len,hout,hin⟩:=zsw ix hwb hnd hlt;have hnc:Ec.n=ix.length+new.length:=by rw[Rc.n,hpre,yaf,hplen]
       have hrel:=zDi (E:=Ec) (E':=zwv E h ix new Ec true) (zbt ix h.length) hPc.symm rfl (fun b hb=>by have hb:(if true=true then Ec.own b else Ec.own b\/E.own b):=hb;simpa using hb)
        (fun k hk=>by
         rw[hnc]at hk;show zbt ix h.length k<h.length+new.length;unfold zbt;split
         ·rename_i hki;have:=hlt (ix.getD k 0) (by rw[zlJ (yad hki)];exact yb8 hki);omega
         ·omega)
        (fun k hk=>by
         rw[hnc]at hk;by_cases hki:k<ix.length
         ·have hb:zbt ix h.length k=ix[k]:=by unfold zbt;rw[if_pos hki,zlJ (yad hki)]
          have hbl:ix[k]<h.length:=hlt _ (yb8 hki);obtain⟨t,cs,h1,_,_⟩:=hsx k _ (yad hki);obtain⟨t2,cs2,_,_,h5⟩:=hin k _ (yad hki);have h6:h2[k]?=some (Ent.box t2 cs2):=by rw[hpre,yah (by omega)];exact h5
          obtain⟨g1,g2,_⟩:=R.ent _ _ h1;obtain⟨g3,g4,_⟩:=Rc.ent _ _ h6;rw[hb];refine⟨by show(if _ then _ else _)=_;rw[if_pos hbl,g1,g3],by show(if _ then _ else _)=_;rw[if_pos hbl,g2,g4],(fun g hg=>by rw[g3]at hg;cases hg),?_⟩;show(if _ then _ else _)=_;rw[if_pos hbl,(Sc.ext.box k hki rfl).2];show _=E.box (ix.getD k 0);rw[zlJ (yad hki)]
         ·have hb:zbt ix h.length k=h.length+(k-ix.length):=by unfold zbt;rw[if_neg hki]
          have hnl:¬(h.length+(k-ix.length)<h.length):=by omega
          have hidx:h.length+(k-ix.length)-h.length+ix.length=k:=by omega
          rw[hb]
          refine⟨?_,?_,fun g _=>⟨?_,?_⟩,?_⟩<;>(show(if _ then _ else _)=_;rw[if_neg hnl,hidx])) hr
       simpa[reloc.go]using hrel
      ·cases he
end
section
variable {P:Program} {base:Base} {h:Store} {E:Env} {t:List AV} {a:Act}
def zgP(E:Env)(h:Store)(ks:List Nat):Env:={E with own:=fun b=>E.own b/\¬LentK E h ks b}
theorem ztL(R:Rel base h E)(ks:List Nat):Rel base (shut ks h) (zgP E h ks)/\Step h E (shut ks h) (zgP E h ks):=by
 obtain⟨hlen,hsp⟩:=zfw ks h;have hx:Ext E (zgP E h ks):=⟨rfl,yag _,fun _ _=>yag _,fun _ _ _ _ h=>⟨h,rfl,rfl⟩,fun _ _ h=>⟨h,rfl⟩,fun a v ho hc=>⟨fun hh=>ho hh.1,hc⟩⟩
 have hblk:∀k b,blkOf (zgP E h ks) (shut ks h) k=some b->blkOf E h k=some b/\¬(k∈ks/\∃e g ro xs,h[k]?=some (Ent.row e g ro xs)):=fun k b hb=>by
  obtain⟨e,he,hbe⟩:=zdo hb;rw[zbA (E:=E) (E':=zgP E h ks) rfl rfl]at hbe
  have hno:¬(k∈ks/\∃e g ro xs,h[k]?=some (Ent.row e g ro xs)):=fun⟨hk,e',g,ro,xs,hr⟩=>by
   rw[zDq ks hk hr]at he;cases he;cases hbe
  rcases hsp k with h1|⟨e',g,ro,xs,h1,h2,h3⟩
  ·exact⟨by rw[zaN (h1.symm.trans he)];exact hbe,hno⟩
  ·exact absurd ⟨h3,e',g,ro,xs,h1⟩ hno
 refine⟨⟨R.n.trans hlen.symm,R.lo,fun k e he=>?_,fun k hk=>R.nogen k (by rw[<-hlen];exact hk),fun k b hb=>?_,fun i j b hi hj=>R.inj i j b (hblk i b hi).1 (hblk j b hj).1,fun b hb=>R.lt b hb.1⟩,
  ⟨hx,rfl,rfl,rfl,yag _,fun _ _ _=>rfl,fun _ hb=>.inl hb.1,fun b hb hn=>⟨hb,fun⟨k,_,_,hk⟩=>hn k hk⟩,fun k b hb=>.inl ⟨k,(hblk k b hb).1⟩⟩⟩
 ·rcases hsp k with h1|⟨e',g,ro,xs,h1,h2,h3⟩
  ·exact(R.ent k e (h1.symm.trans he)).step hx ⟨rfl,rfl,rfl,rfl,rfl⟩ (fun b hb=>rfl)
  ·rw[h2]at he;cases he;have hro:=R.ent k _ h1;have hr:zaV h k g=some (e',ro,xs):=by simp only[zaV,h1,if_true]
   obtain⟨hgen,hesz,_⟩:=zbk R hr
   have htop:E.top k=g:=by cases ro with
    |true=>exact hro.2.1
    |false=>exact hro.2.1
   have hd:=zoZ (L:=LentK E h ks) R hr (fun b hb=>⟨k,h3,⟨_,_,_,_,h1⟩,hb⟩);refine⟨hgen,htop,hesz,hd,fun hne=>?_⟩
   cases ro with
   |true=>exact hro.2.2.2.2 hne
   |false=>
    obtain⟨_,_,_,_,vals,hrow,_⟩:=hro;rcases hrow.2 with⟨hn,_⟩|⟨b0,cap,cur,_,ha,_⟩
    ·exact absurd (yai hn) hne
    ·exact⟨b0,_,_,ha⟩
 ·obtain⟨h1,h2⟩:=hblk k b hb;refine⟨R.own k b h1,fun⟨k',hk',hr',hb'⟩=>?_⟩;have:=R.inj k' k b hb' h1;subst this;exact h2 ⟨hk',hr'⟩
mutual
theorem zCJ(R:Rel base h E){ks:List TypeId}{qs:List Nat}(X:Ext E (zgP E h qs)):∀(x:AV) {x':AV} {v:Value},zkN yac h ks x=some x'->VL E [x] [v]->(∀b,LentK E h (zd2 h ks x) b->LentK E h qs b)->VL (zgP E h qs) [x'] [v]:=by
 intro x x' v hl hv hL
 cases x with
 |sl k g=>
  simp only[zkN]at hl
  simp only[zd2]at hL
  split at hl
  ·rename_i e ro xs hrow
   rw[hrow]at hL
   split at hl
   ·cases hl;exact hv.ext X
   ·rename_i hc
    cases hl
    simp only[hc]at hL
    have hv':=hv.sl_inv.2.2.2 (zbk R hrow).1
    subst hv'
    exact .data (zoZ (L:=LentK E h qs) R hrow (fun b hb=>hL b ⟨k,by simp,⟨_,_,_,_,za2 hrow⟩,hb⟩)) .nil
  ·cases hl
 |agg cs=>
  simp only[zkN]at hl
  split at hl
  ·rename_i cs' hcs
   cases hl
   obtain⟨us,rfl,h2⟩:=hv.agg_inv
   exact .agg (zu4 R X cs hcs h2 (fun b hb=>hL b (by simpa only[zd2]using hb))) .nil
  ·cases hl
 |tup cs=>
  simp only[zkN]at hl
  split at hl
  ·rename_i cs' hcs
   cases hl
   obtain⟨us,rfl,h2⟩:=hv.tup_inv
   exact .tup (zu4 R X cs hcs h2 (fun b hb=>hL b (by simpa only[zd2]using hb))) .nil
  ·cases hl
 |sc u=>simp only[zkN]at hl;cases hl;exact hv.ext X
 |lit e f xs=>simp only[zkN]at hl;cases hl;exact hv.ext X
 |_=>simp only[zkN]at hl;cases hl
theorem zu4(R:Rel base h E){ks:List TypeId}{qs:List Nat}(X:Ext E (zgP E h qs)):∀(l:List AV) {l':List AV} {vs:List Value},zlX yac h ks l=some l'->VL E l vs->(∀b,LentK E h (zmk h ks l) b->LentK E h qs b)->VL (zgP E h qs) l' vs:=by
 intro l l' vs hl hv hL
 cases l with
 |nil=>simp only[zlX]at hl;cases hl;cases hv;exact .nil
 |cons x r=>
  simp only[zlX]at hl
  split at hl
  ·rename_i x' hx
   split at hl
   ·rename_i r' hr
    cases hl
    obtain⟨v,us,rfl,h1,h2⟩:=hv.uncons
    have a:=zCJ R X x hx h1 (fun b hb=>hL b (hb.mono (fun k hk=>by simp only[zmk];exact ycl _ hk)))
    have b:=zu4 R X r hr h2 (fun b hb=>hL b (hb.mono (fun k hk=>by simp only[zmk];exact List.mem_append_right _ hk)))
    exact a.append b
   ·cases hl
  ·cases hl
end
theorem zJw{n:Nat}{x:AV}(hs:zy3 n [x]=true):x.cells.length=n/\x.cells.all AV.one=true:=by
 simpa[zy3]using hs
theorem zI5(R:Rel base h E)(hP:E.P=P)(ht:VL E t a.tmps.toList){o:Oper}{ty:TypeId}{p x:Operand}(ho:o.op=.store ty p x)(hi:(P.info? ty).isSome=true){p' x':Od}(hp:zaH p=some p')(hx:zaH x=some x')
  {xa:AV} (hxa:zhl yac h (od t x')=some xa) (hsz:zy3 (P.cellsOf ty) [xa]=true) (hxd:xa.data=true) {k g:Nat} {i:Int} {off:Nat} (hb:od t p'=.rptr k g i off) {e:TypeId} {xs:List AV} (hr:zaV (shut (zeo (od t x')) h) k g=some (e,false,xs)) {y:AV} (hy:yac.lget xs i=some y) (hle:off+P.cellsOf ty<=y.cells.length):
  Comes1 P base o a h E .bad ((shut (zeo (od t x')) h).set k (.row e g false (yac.lset xs i (zkH y off xa.cells)))):=by
 obtain⟨R1,S1⟩:=ztL R (zeo (od t x'));have hpv:=zaS ht hp;rw[hb]at hpv;have hxv:=zs3 (L:=LentK E h (zeo (od t x'))) R _ hxa (zaS ht hx) (fun b hb=>hb);obtain⟨hn,h1⟩:=zJw hsz;obtain⟨v',E',hrun,R',S',V'⟩:=zI6 (P:=P) (a:=a) R1 hP ho hi (xa:=xa) (.data hxv .nil) hn h1 (hpv.ext S1.ext) hr hy hxd hle;exact⟨v',E',hrun,R',S1.trans S' R.lt,V'⟩
end
section
variable {P:Program} {base:Base} {h:Store} {E:Env}
def zaM(E:Env)(ix:List Nat):Env:=
 {P:=E.P,w:=E.w,n:=ix.length,
  gen:=fun j=>match ix[j]? with|some k=>E.gen k|none=>none
  top:=fun j=>match ix[j]? with|some k=>E.top k|none=>0
  esz:=fun j=>match ix[j]? with|some k=>E.esz k|none=>0
  row:=fun j=>match ix[j]? with|some k=>E.row k|none=>undef
  box:=fun j=>match ix[j]? with|some k=>E.box k|none=>0
  own:=E.own}
theorem zel{ix:List Nat}{k j:Nat}(h:ix.idxOf? k=some j):ix[j]?=some k:=by
 obtain⟨hl,he,_⟩:=List.idxOf?_eq_some_iff.1 h;rw[yad hl];simpa using he
theorem zoM{ix:List Nat}{k:Nat}(h:ix.idxOf? k=none):k∉ix:=fun hc=>List.idxOf?_eq_none_iff.1 h hc
theorem zci{ix:List Nat}{k j:Nat}(h:ix[j]?=some k):j<ix.length:=(yae.1 h).1
mutual
theorem zNz{ix:List Nat}:∀(x:AV) {x':AV} {v:Value},relM ix x=some x'->VL E [x] [v]->VL (zaM E ix) [x'] [v]:=by
 intro x x' v hl hv
 cases x with
 |sl k g=>
  simp only[relM]at hl
  split at hl
  ·rename_i j hj
   cases hl
   have hj:=zel hj
   obtain⟨_,h2,h3,h4⟩:=hv.sl_inv
   exact .sl (zci hj) (by simp only[zaM,hj];exact h2) h3 (fun hg=>by simp only[zaM,hj]at hg⊢;exact h4 hg) .nil
  ·cases hl
 |sub k g lo hi=>
  simp only[relM]at hl
  split at hl
  ·rename_i j hj
   cases hl
   have hj:=zel hj
   obtain⟨_,h2,h3,h4⟩:=hv.sub_inv
   exact .sub (zci hj) (by simp only[zaM,hj];exact h2) h3 (fun hg=>by simp only[zaM,hj]at hg⊢;exact h4 hg) .nil
  ·cases hl
 |bptr k off=>
  simp only[relM]at hl
  split at hl
  ·rename_i j hj
   cases hl
   have hj:=zel hj
   have hgn:=hv.bptr_gen
   obtain⟨_,rfl⟩:=hv.bptr_inv
   have hb:(zaM E ix).box j=E.box k:=by simp only[zaM,hj]
   rw[<-hb]
   exact .bptr (zci hj) (by simp only[zaM,hj];exact hgn) .nil
  ·cases hl
 |rptr k g i off=>
  simp only[relM]at hl
  split at hl
  ·rename_i j hj
   cases hl
   have hj:=zel hj
   cases hv with
   |data h t=>cases h
   |rptr hk hg h1 h2 t=>exact .rptr (zci hj) (by simp only[zaM,hj];exact hg) h1 (fun hg=>by simp only[zaM,hj]at hg⊢;exact h2 hg) .nil
  ·cases hl
 |agg cs=>
  simp only[relM]at hl
  split at hl
  ·rename_i l hl'
   cases hl
   obtain⟨us,rfl,h2⟩:=hv.agg_inv
   exact .agg (zlq cs hl' h2) .nil
  ·cases hl
 |tup cs=>
  simp only[relM]at hl
  split at hl
  ·rename_i l hl'
   cases hl
   obtain⟨us,rfl,h2⟩:=hv.tup_inv
   exact .tup (zlq cs hl' h2) .nil
  ·cases hl
 |fn f cs=>
  simp only[relM]at hl
  split at hl
  ·rename_i l hl'
   cases hl
   obtain⟨us,rfl,h2⟩:=hv.fn_inv
   exact .fn (zlq cs hl' h2) .nil
  ·cases hl
 |sc u=>
  simp only[relM]at hl;cases hl
  obtain⟨rfl,h2⟩:=hv.sc_inv
  exact .data (.sc h2 .nil) .nil
 |lit e f xs=>
  simp only[relM]at hl;cases hl
  exact .data hv.lit_inv .nil
 |lptr e xs i off=>
  simp only[relM]at hl;cases hl
  cases hv with
  |data h t=>cases h
  |lptr hs h hr t=>exact VL.lptr (E:=zaM E ix) hs h hr .nil
 |bad=>
  simp only[relM]at hl;cases hl
  exact .bad .nil
theorem zlq{ix:List Nat}:∀(l:List AV) {l':List AV} {vs:List Value},zj7 ix l=some l'->VL E l vs->VL (zaM E ix) l' vs:=by
 intro l l' vs hl hv
 cases l with
 |nil=>simp only[zj7]at hl;cases hl;cases hv;exact .nil
 |cons x r=>
  simp only[zj7]at hl
  split at hl
  ·rename_i x' hx
   split at hl
   ·rename_i r' hr
    cases hl
    obtain⟨v,us,rfl,h1,h2⟩:=hv.uncons
    exact(zNz x hx h1).cons (zlq r hr h2)
   ·cases hl
  ·cases hl
end
theorem zKQ{ix:List Nat}{x x':AV}(h:relM ix x=some x')(h1:x.one=true):x'.one=true:=by
 cases x<;>simp only[relM]at h<;>first
  |(simp[AV.one]at h1;done)
  |(split at h<;>first|(cases h;rfl)|(cases h))
  |(cases h;first|rfl|exact h1)
theorem zJo{ix:List Nat}:∀{l l':List AV},zj7 ix l=some l'->(∀c,c∈l->c.one=true)->∀c,c∈l'->c.one=true:=by
 intro l
 induction l with
 |nil=>intro l' h _ c hc;simp only[zj7]at h;cases h;cases hc
 |cons x r ih=>
  intro l' h h1 c hc;simp only[zj7]at h;split at h
  ·rename_i x' hx;split at h
   ·rename_i r' hr;cases h;rcases yaJ.1 hc with rfl|hc
    ·exact zKQ hx (h1 x (by simp))
    ·exact ih hr (fun y hy=>h1 y (by simp[hy])) c hc
   ·cases h
  ·cases h
theorem zqG{ix:List Nat}:∀(l:List Nat) {s:Store},subM ix h l=some s->s.length=l.length/\∀(j k:Nat),l[j]?=some k->∃e e',h[k]?=some e/\entM ix e=some e'/\s[j]?=some e':=by
 intro l
 induction l with
 |nil=>intro s hs;simp only[subM]at hs;cases hs;exact⟨rfl,fun j k hj=>by cases hj⟩
 |cons k0 l ih=>
  intro s hs;unfold subM at hs;split at hs
  ·rename_i e he;split at hs
   ·rename_i e' he';split at hs
    ·rename_i s' hs';cases hs;obtain⟨h1,h2⟩:=ih hs';refine⟨by simp[h1],fun j k hj=>?_⟩
     cases j with
     |zero=>simp at hj;subst hj;exact⟨e,e',he,he',rfl⟩
     |succ j=>simpa using h2 j k (by simpa using hj)
    ·cases hs
   ·cases hs
  ·cases hs
theorem zs7:∀{l:List Nat},zu8 l=true->l.Nodup:=by
 intro l
 induction l with
 |nil=>intro _;exact List.nodup_nil
 |cons x r ih=>
  intro h;unfold zu8 at h;split at h
  ·cases h
  ·rename_i hc;refine List.nodup_cons.2 ⟨?_,ih h⟩;simpa using hc
theorem zM3{ix:List Nat}{j k:Nat}(hj:ix[j]?=some k){e e':Ent}(he:EntOk base E k e)(hm:entM ix e=some e'):EntOk base (zaM E ix) j e':=by
 cases e with
 |box t cs=>
  simp only[entM]at hm;split at hm
  ·rename_i cs' hcs;cases hm;obtain⟨h1,h2,h3,h4,vals,h5,h6⟩:=he;exact⟨by simp only[zaM,hj];exact h1,by simp only[zaM,hj];exact h2,by simp only[zaM,hj];exact h3,zJo hcs h4,vals,by simp only[zaM,hj];exact h5,zlq cs hcs h6⟩
  ·cases hm
 |row e g ro xs=>
  simp only[entM]at hm;cases hm
  cases ro with
  |false=>
   obtain⟨h1,h2,h3,h4,vals,h5,h6,h7⟩:=he
   exact⟨by simp only[zaM,hj];exact h1,by simp only[zaM,hj];exact h2,by simp only[zaM,hj];exact h3,h4,vals,by simp only[zaM,hj];exact h5,h6,h7⟩
  |true=>
   obtain⟨h1,h2,h3,h4,h5⟩:=he
   exact⟨by simp only[zaM,hj];exact h1,by simp only[zaM,hj];exact h2,by simp only[zaM,hj];exact h3,by simp only[zaM,hj];exact h4,by simp only[zaM,hj];exact h5⟩
 |it s pos=>
  simp only[entM]at hm;cases hm;obtain⟨h1,h2,h3,h4,h5⟩:=he;exact⟨by simp only[zaM,hj];exact h1,by simp only[zaM,hj];exact h2,by simp only[zaM,hj];exact h3,h4,by simp only[zaM,hj];exact h5⟩
theorem zKd{ix:List Nat}{j k:Nat}(hj:ix[j]?=some k){e e':Ent}(hm:entM ix e=some e'):zbF (zaM E ix) j e'=zbF E k e:=by
 cases e with
 |box t cs=>
  simp only[entM]at hm;split at hm
  ·cases hm;simp only[zbF,zaM,hj]
  ·cases hm
 |row e g ro xs=>
  simp only[entM]at hm;cases hm
  cases ro<;>simp only[zbF,zaM,hj]
 |it s pos=>
  simp only[entM]at hm;cases hm;simp only[zbF,zaM,hj]
theorem zxR{ix:List Nat}{s:Store}(hs:subM ix h ix=some s)(j:Nat):blkOf (zaM E ix) s j=match ix[j]? with|some k=>blkOf E h k|none=>none:=by
 obtain⟨h1,h2⟩:=zqG ix hs
 cases hj:ix[j]? with
 |none=>
  have:s[j]?=none:=by rw[List.getElem?_eq_none_iff]at hj⊢;omega
  unfold blkOf;rw[this];rfl
 |some k=>
  obtain⟨e,e',h3,h4,h5⟩:=h2 j k hj;rw[zaN h5,zKd hj h4];exact(zaN h3).symm
theorem zu9{ix:List Nat}(hnd:ix.Nodup){i j k:Nat}(hi:ix[i]?=some k)(hj:ix[j]?=some k):i=j:=by
 have hi':=zci hi;have hj':=zci hj;rw[yad hi']at hi;rw[yad hj']at hj;have heq:ix[i]=ix[j]:=by injection hi with hi;injection hj with hj;rw[hi,hj]
 rcases ybr i j with hlt|hlt|hlt
 ·exact absurd heq (ya6.1 hnd i j hi' hj' hlt)
 ·exact hlt
 ·exact absurd heq.symm (ya6.1 hnd j i hj' hi' hlt)
theorem zDu(R:Rel base h E){ix:List Nat}(hnd:ix.Nodup){s:Store}(hs:subM ix h ix=some s):Rel base s (zaM E ix):=by
 obtain⟨h1,h2⟩:=zqG ix hs
 have blk:∀j b,blkOf (zaM E ix) s j=some b->∃k,ix[j]?=some k/\blkOf E h k=some b:=fun j b hb=>by
  rw[zxR hs]at hb;split at hb
  ·rename_i k hk;exact⟨k,hk,hb⟩
  ·cases hb
 refine⟨h1.symm,R.lo,fun j e hj=>?_,fun j hj=>?_,fun j b hb=>?_,fun i j b hi hj=>?_,R.lt⟩
 ·have hjl:j<ix.length:=by rw[<-h1];exact(yae.1 hj).1
  obtain⟨e0,e',h3,h4,h5⟩:=h2 j _ (yad hjl);rw[hj]at h5;cases h5;exact zM3 (yad hjl) (R.ent _ _ h3) h4
 ·have:ix[j]?=none:=by rw[List.getElem?_eq_none_iff];omega
  simp only[zaM,this]
 ·obtain⟨k,_,hb⟩:=blk j b hb;exact R.own k b hb
 ·obtain⟨k,hk,hb⟩:=blk i b hi;obtain⟨k',hk',hb'⟩:=blk j b hj;have:=R.inj k k' b hb hb';subst this;exact zu9 hnd hk hk'
theorem zyq{f:Nat->Nat}:∀(ix:List Nat) {h2 h h':Store},zjL f ix h2 h=some h'->ix.Nodup->(∀k,k∈ix->k<h.length)->
  ix.length<=h2.length/\h'.length=h.length+(h2.length-ix.length)/\(∀(k:Nat),k<h.length->k∉ix->h'[k]?=h[k]?)/\(∀(j k:Nat),ix[j]?=some k->h'[k]?=(h2[j]?).map (entR f))/\∀(k:Nat),h.length<=k->h'[k]?=(h2[k-h.length+ix.length]?).map (entR f):=by
 intro ix
 induction ix with
 |nil=>
  intro h2 h h' hb _ _;simp only[zjL]at hb;cases hb;refine⟨yaP _,by simp,fun k hk _=>yah hk,(fun j k hj=>by cases hj),fun k hk=>?_⟩;rw[yax hk,ybn]
  simp
 |cons k0 ix ih=>
  intro h2 h h' hb hnd hlt
  cases h2 with
  |nil=>simp only[zjL]at hb;cases hb
  |cons e h2=>
   simp only[zjL]at hb;rw[List.nodup_cons]at hnd;obtain⟨h1,h3,h4,h5,h6⟩:=ih hb hnd.2 (fun k hk=>by simpa using hlt k (by simp[hk]));simp only[List.length_set]at h3 h4 h6;refine⟨by simp;omega,by simp;omega,fun k hk hn=>?_,fun j k hj=>?_,fun k hk=>?_⟩
   ·rw[h4 k hk (fun hc=>hn (by simp[hc])),yas (fun e=>hn (by simp[e]))]
   ·cases j with
    |zero=>
     simp at hj;subst hj
     rw[h4 _ (hlt _ (by simp)) hnd.1,yaq (hlt _ (by simp))];rfl
    |succ j=>simpa using h5 j k (by simpa using hj)
   ·rw[h6 k hk];simp only[yav];rw[show k-h.length+(ix.length+1)=(k-h.length+ix.length)+1 by omega];simp
theorem zJp{f:Nat->Nat}{x:AV}(h:x.one=true):(reloc f x).one=true:=by cases x<;>first|rfl|(simp[AV.one]at h)
theorem zHn{f:Nat->Nat}:∀{l:List AV},(∀c,c∈l->c.one=true)->∀c,c∈reloc.go f l->c.one=true:=by
 intro l
 induction l with
 |nil=>intro _ c hc;simp[reloc.go]at hc
 |cons x r ih=>
  intro h c hc;simp only[reloc.go,yaJ]at hc;rcases hc with rfl|hc
  ·exact zJp (h x (by simp))
  ·exact ih (fun y hy=>h y (by simp[hy])) c hc
def zJP(E:Env)(n m:Nat)(ix:List Nat)(Ec:Env):Env:=
 let at_:=fun{α:Type} (old new:Nat->α) (k:Nat)=>if k<n then(match ix.idxOf? k with|some j=>new j|none=>old k)else new (k-n+ix.length)
 {P:=E.P,w:=Ec.w,n:=m,gen:=at_ E.gen Ec.gen,top:=at_ E.top Ec.top,esz:=at_ E.esz Ec.esz,row:=at_ E.row Ec.row,box:=at_ E.box Ec.box,own:=Ec.own}
theorem zdg{α:Type}{n:Nat}{ix:List Nat}{old new:Nat->α}{k:Nat}:
  (k<n->ix.idxOf? k=none->(if k<n then(match ix.idxOf? k with|some j=>new j|none=>old k)else new (k-n+ix.length))=old k)/\
  (∀j,k<n->ix.idxOf? k=some j->(if k<n then(match ix.idxOf? k with|some j=>new j|none=>old k)else new (k-n+ix.length))=new j)/\
  (n<=k->(if k<n then(match ix.idxOf? k with|some j=>new j|none=>old k)else new (k-n+ix.length))=new (k-n+ix.length)):=
 ⟨fun h1 h2=>by rw[if_pos h1,h2],fun j h1 h2=>by rw[if_pos h1,h2],fun h1=>by rw[if_neg (by omega)]⟩
theorem zJL(R:Rel base h E){ix:List Nat}(hnd:ix.Nodup){s:Store}(hs:subM ix h ix=some s){h2 h':Store}(hb:zjL (zbt ix h.length) ix h2 h=some h'){Ec:Env}(hPc:Ec.P=E.P)(Rc:Rel base h2 Ec)(Sc:Step s (zaM E ix) h2 Ec):
  ∃E',E'.w=Ec.w/\Rel base h' E'/\Step h E h' E'/\∀{l:List AV} {vs:List Value},VL Ec l vs->VL E' (reloc.go (zbt ix h.length) l) vs:=by
 obtain⟨hsl,hsx⟩:=zqG ix hs
 have hlt:∀k,k∈ix->k<h.length:=fun k hk=>by
  obtain⟨j,hj,rfl⟩:=ybK hk;obtain⟨e,_,h1,_⟩:=hsx j _ (yad hj);exact(yae.1 h1).1
 obtain⟨hl2,hlen,hout,hin,hnew⟩:=zyq ix hb hnd hlt;have hnE:E.n=h.length:=R.n
 have idx_of:∀j k,ix[j]?=some k->ix.idxOf? k=some j:=fun j k hj=>by
  cases hk:ix.idxOf? k with
  |none=>exact absurd (yam hj) (zoM hk)
  |some i=>rw[zu9 hnd (zel hk) hj]
 generalize hE':zJP E h.length h'.length ix Ec=E';have eP:E'.P=E.P:=by rw[<-hE'];rfl
 have ew:E'.w=Ec.w:=by rw[<-hE'];rfl
 have en:E'.n=h'.length:=by rw[<-hE'];rfl
 have eown:E'.own=Ec.own:=by rw[<-hE'];rfl
 have pOld:∀k,k<h.length->ix.idxOf? k=none->E'.gen k=E.gen k/\E'.top k=E.top k/\E'.esz k=E.esz k/\E'.row k=E.row k/\E'.box k=E.box k:=fun k h1 h2=>by
  rw[<-hE'];exact⟨zdg.1 h1 h2,zdg.1 h1 h2,zdg.1 h1 h2,zdg.1 h1 h2,zdg.1 h1 h2⟩
 have pIn:∀k j,k<h.length->ix.idxOf? k=some j->E'.gen k=Ec.gen j/\E'.top k=Ec.top j/\E'.esz k=Ec.esz j/\E'.row k=Ec.row j/\E'.box k=Ec.box j:=fun k j h1 h2=>by
  rw[<-hE'];exact⟨zdg.2.1 j h1 h2,zdg.2.1 j h1 h2,zdg.2.1 j h1 h2,zdg.2.1 j h1 h2,zdg.2.1 j h1 h2⟩
 have pNew:∀k,h.length<=k->E'.gen k=Ec.gen (k-h.length+ix.length)/\E'.top k=Ec.top (k-h.length+ix.length)/\E'.esz k=Ec.esz (k-h.length+ix.length)/\E'.row k=Ec.row (k-h.length+ix.length)/\E'.box k=Ec.box (k-h.length+ix.length):=fun k h1=>by
  rw[<-hE'];exact⟨zdg.2.2 h1,zdg.2.2 h1,zdg.2.2 h1,zdg.2.2 h1,zdg.2.2 h1⟩
 have subj:∀j k,ix[j]?=some k->(zaM E ix).gen j=E.gen k/\(zaM E ix).top j=E.top k/\(zaM E ix).esz j=E.esz k/\(zaM E ix).row j=E.row k/\(zaM E ix).box j=E.box k:=fun j k hj=>by
  simp only[zaM,hj];exact⟨trivial,trivial,trivial,trivial,trivial⟩
 have hsubn:(zaM E ix).n=ix.length:=rfl
 have hrel:∀{l:List AV} {vs:List Value},VL Ec l vs->VL E' (reloc.go (zbt ix h.length) l) vs:=fun{l vs} hv=>by
  have place:∀k,k<Ec.n->zbt ix h.length k<E'.n/\E'.gen (zbt ix h.length k)=Ec.gen k/\E'.top (zbt ix h.length k)=Ec.top k/\E'.esz (zbt ix h.length k)=Ec.esz k/\E'.row (zbt ix h.length k)=Ec.row k/\E'.box (zbt ix h.length k)=Ec.box k:=fun k hk=>by
   rw[Rc.n]at hk;by_cases hki:k<ix.length
   ·have hb:zbt ix h.length k=ix[k]:=by unfold zbt;rw[if_pos hki,zlJ (yad hki)]
    have hbl:ix[k]<h.length:=hlt _ (yb8 hki);rw[hb];refine⟨by rw[en];omega,?_⟩;exact pIn _ _ hbl (idx_of k _ (yad hki))
   ·have hb:zbt ix h.length k=h.length+(k-ix.length):=by unfold zbt;rw[if_neg hki]
    rw[hb];refine⟨by rw[en];omega,?_⟩;have:=pNew (h.length+(k-ix.length)) (by omega);rw[show h.length+(k-ix.length)-h.length+ix.length=k by omega]at this;exact this
  refine zDi (E:=Ec) (E':=E') (zbt ix h.length) (by rw[eP,hPc]) ew (fun b hb=>by rw[eown]at hb;exact hb) (fun k hk=>(place k hk).1) (fun k hk=>?_) hv;obtain⟨_,p1,p2,p3,p4,p5⟩:=place k hk;exact⟨p1,p2,fun g hg=>⟨p3,p4⟩,p5⟩
 have ent:∀k e,h'[k]?=some e->(k<h.length/\ix.idxOf? k=none/\h[k]?=some e)\/∃j e0,h2[j]?=some e0/\e=entR (zbt ix h.length) e0/\(E'.gen k=Ec.gen j/\E'.top k=Ec.top j/\E'.esz k=Ec.esz j/\E'.row k=Ec.row j/\E'.box k=Ec.box j)/\((k<h.length/\ix[j]?=some k)\/(h.length<=k/\j=k-h.length+ix.length)):=fun k e he=>by
  by_cases hk:k<h.length
  ·cases hi:ix.idxOf? k with
   |none=>exact .inl ⟨hk,rfl,by rw[<-hout k hk (zoM hi)];exact he⟩
   |some j=>
    have hj:=zel hi;rw[hin j k hj]at he;obtain⟨e0,h3,rfl⟩:=yap.1 he;exact .inr ⟨j,e0,h3,rfl,pIn k j hk hi,.inl ⟨hk,hj⟩⟩
  ·rw[hnew k (by omega)]at he;obtain⟨e0,h3,rfl⟩:=yap.1 he;exact .inr ⟨_,e0,h3,rfl,pNew k (by omega),.inr ⟨by omega,rfl⟩⟩
 have entR_blk:∀k j e0,E'.row k=Ec.row j->E'.box k=Ec.box j->zbF E' k (entR (zbt ix h.length) e0)=zbF Ec j e0:=fun k j e0 h4 h5=>by
  cases e0 with
  |box t cs=>simp only[entR,zbF,h5]
  |row e g ro xs=>cases ro<;>simp only[entR,zbF,h4]
  |it=>simp only[entR,zbF,h5]
 have subblk:∀j b,blkOf (zaM E ix) s j=some b->∃k,ix[j]?=some k/\blkOf E h k=some b:=fun j b hb=>by
  rw[zxR hs]at hb;split at hb
  ·rename_i k hk;exact⟨k,hk,hb⟩
  ·cases hb
 have blk:∀k b,blkOf E' h' k=some b->(k<h.length/\ix.idxOf? k=none/\blkOf E h k=some b)\/∃j,blkOf Ec h2 j=some b/\((k<h.length/\ix[j]?=some k)\/(h.length<=k/\j=k-h.length+ix.length)):=fun k b hkb=>by
  obtain⟨e,he,hbe⟩:=zdo hkb;rcases ent k e he with⟨h1,h3,h4⟩|⟨j,e0,h1,rfl,⟨_,_,_,p4,p5⟩,h4⟩
  ·obtain⟨_,_,_,p4,p5⟩:=pOld k h1 h3;rw[zbA p4 p5]at hbe;exact .inl ⟨h1,h3,by rw[zaN h4];exact hbe⟩
  ·rw[entR_blk k j e0 p4 p5]at hbe;exact .inr ⟨j,by rw[zaN h1];exact hbe,h4⟩
 have notSub:∀k b,k<h.length->ix.idxOf? k=none->blkOf E h k=some b->∀j,blkOf (zaM E ix) s j≠some b:=fun k b hk hi hkb j hj=>by
  obtain⟨k',h1,h3⟩:=subblk j b hj;have:=R.inj k k' b hkb h3;subst this;exact zoM hi (yam h1)
 have blkBack:∀j b,blkOf Ec h2 j=some b->(∃k,k∈ix/\blkOf E h k=some b)\/E.w.heap.size<=b:=fun j b hjb=>by
  rcases Sc.blk j b hjb with⟨i,hi⟩|h1
  ·obtain⟨k,h3,h4⟩:=subblk i b hi;exact .inl ⟨k,yam h3,h4⟩
  ·exact .inr h1
 have heapN:∀b,b<E.w.heap.size->(∀k,blkOf E h k≠some b)->E'.w.heap[b]?=E.w.heap[b]?:=fun b hb hn=>by
  rw[ew];exact Sc.heap b hb (fun j hj=>by obtain⟨k,_,h3⟩:=subblk j b hj;exact hn k h3)
 have hx:Ext E E':=by
  refine⟨eP,by rw[en,hnE,hlen];omega,fun k hk=>?_,fun k g hk hg hc=>?_,fun k hk hg=>?_,fun a v ho hc=>?_⟩
  ·rw[hnE]at hk
   cases hi:ix.idxOf? k with
   |none=>rw[(pOld k hk hi).2.1];exact yag _
   |some j=>
    have hj:=zel hi;rw[(pIn k j hk hi).2.1,<-(subj j k hj).2.1];exact Sc.ext.top j (zci hj)
  ·rw[hnE]at hk
   cases hi:ix.idxOf? k with
   |none=>
    obtain⟨p1,p2,p3,p4,p5⟩:=pOld k hk hi;rw[p1]at hc
    exact⟨hc,p4,p3⟩
   |some j=>
    have hj:=zel hi;obtain⟨p1,p2,p3,p4,p5⟩:=pIn k j hk hi;obtain⟨q1,q2,q3,q4,q5⟩:=subj j k hj;rw[p1]at hc;obtain⟨r1,r2,r3⟩:=Sc.ext.gen j g (zci hj) (by rw[q2];exact hg) hc;exact⟨by rw[<-q1];exact r1,by rw[p4,r2,q4],by rw[p3,r3,q3]⟩
  ·rw[hnE]at hk
   cases hi:ix.idxOf? k with
   |none=>exact⟨by rw[(pOld k hk hi).1];exact hg,(pOld k hk hi).2.2.2.2⟩
   |some j=>
    have hj:=zel hi;obtain⟨r1,r2⟩:=Sc.ext.box j (zci hj) (by rw[(subj j k hj).1];exact hg);exact⟨by rw[(pIn k j hk hi).1];exact r1,by rw[(pIn k j hk hi).2.2.2.2,r2];exact(subj j k hj).2.2.2.2⟩
  ·rw[eown,ew];exact Sc.ext.keep a v ho hc
 have S:Step h E h' E':=⟨hx,by rw[ew];exact Sc.os,by rw[ew];exact Sc.tape,by rw[ew];exact Sc.output,by rw[ew];exact Sc.size,heapN,fun b hb=>by rw[eown]at hb;exact Sc.fresh b hb,fun b hb hn=>by
   rw[eown];exact Sc.held b hb (fun j hj=>by obtain⟨k,_,h3⟩:=subblk j b hj;exact hn k h3),fun k b hkb=>by
   rcases blk k b hkb with⟨_,_,h3⟩|⟨j,h3,_⟩
   ·exact .inl ⟨k,h3⟩
   ·rcases blkBack j b h3 with⟨k',_,h4⟩|h4
    ·exact .inl ⟨k',h4⟩
    ·exact .inr h4⟩
 refine⟨E',ew,⟨en,R.step_lo S,fun k e he=>?_,fun k hk=>?_,fun k b hkb=>?_,fun i j b hi hj=>?_,fun b hb=>by rw[eown]at hb;rw[ew];exact Rc.lt b hb⟩,S,hrel⟩
 ·rcases ent k e he with⟨h1,h3,h4⟩|⟨j,e0,h1,rfl,⟨p1,p2,p3,p4,p5⟩,_⟩
  ·refine(R.ent k e h4).step hx (pOld k h1 h3) (fun b hbe=>?_);have hkb:blkOf E h k=some b:=by rw[zaN h4];exact hbe
   rw[ew];exact Sc.heap b (R.lt b (R.own k b hkb)) (notSub k b h1 h3 hkb)
  ·have hro:=Rc.ent j e0 h1
   cases e0 with
   |box t cs=>
    obtain⟨g1,g2,g3,g4,vals,g5,g6⟩:=hro
    exact⟨by rw[p1];exact g1,by rw[p2];exact g2,by rw[p5];exact g3,zHn g4,vals,by rw[ew,p5];exact g5,hrel g6⟩
   |row e g ro xs=>
    cases ro with
    |false=>
     obtain⟨g1,g2,g3,g4,vals,g5,g6,g7⟩:=hro;rw[hPc]at g3 g4 g5 g6
     exact⟨by rw[p1];exact g1,by rw[p2];exact g2,by rw[p3,eP];exact g3,by rw[eP];exact g4,vals,by rw[ew,eP,p4];exact g5,by rw[eP,ew,eown];exact g6,g7⟩
    |true=>
     obtain⟨g1,g2,g3,g4,g5⟩:=hro;rw[hPc]at g3 g4
     exact⟨by rw[p1];exact g1,by rw[p2];exact g2,by rw[p3,eP];exact g3,by rw[eP,ew,eown,p4];exact g4,by rw[p4];exact g5⟩
   |it st pos=>
    obtain⟨g1,g2,g3,g4,g5⟩:=hro;exact⟨by rw[p1];exact g1,by rw[p2];exact g2,by rw[p5];exact g3,g4,by rw[ew,p5];exact g5⟩
 ·rw[hlen]at hk;rw[(pNew k (by omega)).1];exact Rc.nogen _ (by omega)
 ·rw[eown];rcases blk k b hkb with⟨h1,h3,h4⟩|⟨j,h3,_⟩
  ·exact Sc.held b (R.own k b h4) (notSub k b h1 h3 h4)
  ·exact Rc.own j b h3
 ·have mixed:∀k b,k<h.length->ix.idxOf? k=none->blkOf E h k=some b->∀j,blkOf Ec h2 j≠some b:=fun k b h1 h3 h4 j hj=>by
   rcases blkBack j b hj with⟨k',h5,h6⟩|h5
   ·have:=R.inj k k' b h4 h6;subst this;exact zoM h3 h5
   ·have:=R.lt b (R.own k b h4);omega
  rcases blk i b hi with⟨a1,a2,a3⟩|⟨a1,a2,a3⟩<;>rcases blk j b hj with⟨c1,c2,c3⟩|⟨c1,c2,c3⟩
  ·exact R.inj i j b a3 c3
  ·exact absurd c2 (mixed i b a1 a2 a3 c1)
  ·exact absurd a2 (mixed j b c1 c2 c3 a1)
  ·have:=Rc.inj a1 c1 b a2 c2;subst this;rcases a3 with⟨d1,d2⟩|⟨d1,d2⟩<;>rcases c3 with⟨f1,f2⟩|⟨f1,f2⟩
   ·rw[d2]at f2;injection f2
   ·have:=zci d2;omega
   ·have:=zci f2;omega
   ·omega
theorem zCc{I:Ifc}(IH:zdx P base I)(R:Rel base h E)(hP:E.P=P){args:List AV}{vs:List Value}(hv:VL E args vs){f:FuncId}{v:AV}{h3:Store}{m:Nat}(he:zfg I f args h=some (v,h3,m)):
  Calls P f vs.toArray E.w fun e w'=>∃v' E',e=.returned v'/\E'.w=w'/\Rel base h3 E'/\Step h E h3 E'/\VL E' [v] [v']:=by
 unfold zfg zlD at he;generalize zcE h 64 (rfs args) []=ix at he;split at he
 ·cases he
 ·rename_i args' ha;split at he
  ·cases he
  ·rename_i s hs;split at he
   ·cases he
   ·rename_i hnd;have hnd:=zs7 hnd;split at he
    ·cases he
    ·rename_i r h2 hc;split at he
     ·cases he
     ·rename_i h' hb;cases he;refine(IH f args' s r h2 hc (zaM E ix) vs hP (zDu R hnd hs) (zlq args ha hv)).mono fun e w' ⟨v',Ec,hev,hw,Rc,Sc,hr⟩=>?_
      obtain⟨E',e1,e2,e3,e4⟩:=zJL R hnd hs hb Sc.ext.P Rc Sc;refine⟨v',E',hev,e1.trans hw,e2,e3,?_⟩;have:=e4 hr;simpa[reloc.go]using this
theorem zNI(R:Rel base h E){rs rs1:List AV}{h1:Store}{us:List Value}(V:VL E rs us)(he:trim yac rs h=some (rs1,h1)):∃E',E'.w=E.w/\Rel base h1 E'/\Step h E h1 E'/\VL E' rs1 us:=by
 have same:some (rs,h)=some (rs1,h1)->∃E',E'.w=E.w/\Rel base h1 E'/\Step h E h1 E'/\VL E' rs1 us:=fun e=>by
  injection e with e;injection e with e1 e2;subst e1 e2;exact⟨E,rfl,R,Step.refl h E,V⟩
 unfold trim at he;split at he
 ·rename_i k g lo hi;split at he
  ·rename_i h0;split at he
   ·rename_i e xs hr;split at he
    ·rename_i ys hys;injection he with he;injection he with he1 he2;subst he1 he2;obtain⟨u,rfl,hv⟩:=V.one_inv;have h0':lo=0:=by simpa[yac]using h0
     subst h0';have hk:=za2 hr;obtain⟨hgen,htop,hesz,hsx,olds,hrow,hdx,honex⟩:=R.ent k _ hk;obtain⟨hkn,hg,hu1,hsub⟩:=hv.sub_inv;obtain⟨_,h01,a,cap,hve,hc,hm,_,hz⟩:=hsub hgen;obtain⟨n0,hrk⟩:=hz rfl;simp only[yac]at hys;split at hys
     ·rename_i hbd;cases hys;have hn:(hi-0).toNat=hi.toNat:=by congr 1;omega
      rw[hn]at hve hc;have hle:hi.toNat<=xs.length:=by omega
      have hlen:((xs.take hi.toNat).drop (0:Int).toNat).length=hi.toNat:=by simp;omega
      have htk:(xs.take hi.toNat).drop (0:Int).toNat=xs.take hi.toNat:=by simp
      rw[htk]at hlen⊢
      have hblk:∀b,zaP u=some b->zaP (E.row k)=some b:=fun b hb=>by
       rw[hve]at hb;rw[hrk]
       cases cap with
       |zero=>cases a<;>simp[zaP]at hb
       |succ c=>cases a<;>simp[zaP]at hb⊢;exact hb
      obtain⟨E',e1,e2,e3,e4⟩:=zj9 (base:=base) R hk (w':=E.w) (v':=u) (xs':=xs.take hi.toNat) (vals':=olds.take (hi.toNat*E.P.cellsOf e)) rfl rfl rfl (yag _) (fun _ _ _=>rfl)
       (fun b hb=>⟨.inl (hblk b hb),R.lt b (R.own k b (by rw[zaN hk];exact hblk b hb))⟩)
       (by
        rw[hlen,hve];refine⟨by rw[yan,hrow.1];exact Nat.min_eq_left (yaD _ hle),?_⟩;rcases hrow.2 with⟨hn0,a',ha'⟩|⟨b0,cap',cur,hc0,ha',hbb,hh,hlec,hmx,hcs,htk2⟩
        ·rw[hrk]at ha';injection ha' with e1 _ e3;refine .inl ⟨by omega,a,?_⟩;rw[e3,show hi.toNat=0 by omega]
        ·rw[hrk]at ha';injection ha' with e1 _ e3;subst e1 e3;refine .inr ⟨b0,cap,cur,hc0,rfl,hbb,hh,hc,hmx,hcs,?_⟩
         rw[<-htk2,List.take_take,Nat.min_eq_left (yaD _ hle)])
       hu1 (fun x hx=>hsx x (yaz hx)) (fun v hv=>honex v (yaz hv)) (by rw[zlI hsx];exact hdx.take _)
      exact⟨E',e1,e2,e3,e4⟩
     ·cases hys
    ·cases he
   ·exact same he
  ·exact same he
 ·exact same he
theorem gc_ok{s h:Store}{E0 E:Env}(R0:Rel base s E0)(S:Step s E0 h E)(R:Rel base h E){rs rs':List AV}{us:List Value}(V:VL E rs us){s':Store}(he:zGz s.length rs h=some (rs',s')):
  ∃E',E'.w=E.w/\Rel base s' E'/\Step s E0 s' E'/\VL E' rs' us:=by
 unfold zGz at he;generalize (zcE h 64 (rfs rs++zqj s.length h) (ybq s.length)).drop s.length=ks at he;unfold zIH at he;split at he
 ·cases he
 ·rename_i r1 hr1;split at he
  ·cases he
  ·rename_i s1 hs1;split at he
   ·cases he
   ·rename_i hnd;cases he;have hnd:=zs7 hnd;have R':=zDu R hnd hs1
    have hrange:∀k,k<s.length->(ybq s.length++ks)[k]?=some k:=fun k hk=>by
     rw[yah (by simpa using hk)];simp[hk]
    have sub:∀k,k<s.length->(zaM E (ybq s.length++ks)).gen k=E.gen k/\(zaM E (ybq s.length++ks)).top k=E.top k/\(zaM E (ybq s.length++ks)).esz k=E.esz k/\(zaM E (ybq s.length++ks)).row k=E.row k/\(zaM E (ybq s.length++ks)).box k=E.box k:=fun k hk=>by
     simp only[zaM,hrange k hk];exact⟨trivial,trivial,trivial,trivial,trivial⟩
    have hn0:E0.n=s.length:=R0.n;refine⟨zaM E (ybq s.length++ks),rfl,R',⟨⟨S.ext.P,?_,fun k hk=>?_,fun k g hk hg hc=>?_,fun k hk hg=>?_,S.ext.keep⟩,S.os,S.tape,S.output,S.size,S.heap,S.fresh,S.held,fun k b hb=>?_⟩,zlq rs hr1 V⟩
    ·show E0.n<=(ybq s.length++ks).length;rw[hn0];simp
    ·rw[(sub k (by omega)).2.1];exact S.ext.top k hk
    ·obtain⟨q1,q2,q3,q4,q5⟩:=sub k (by omega);rw[q1]at hc;rw[q3,q4];exact S.ext.gen k g hk hg hc
    ·obtain⟨r1,r2⟩:=S.ext.box k hk hg;exact⟨by rw[(sub k (by omega)).1];exact r1,by rw[(sub k (by omega)).2.2.2.2];exact r2⟩
    ·rw[zxR hs1]at hb;split at hb
     ·exact S.blk _ b hb
     ·cases hb
end
def zjS(w:World)(r:Nat)(o:Obj):World:={w with heap:=w.heap.setIfInBounds r o}
theorem zGS{w:World}{r:Nat}{o:Obj}(h:r<w.heap.size):(zjS w r o).heap[r]?=some o:=by simp[zjS,h]
theorem zq0{w:World}{r k:Nat}{o:Obj}(h:k≠r):(zjS w r o).heap[k]?=w.heap[k]?:=by
 simp[zjS,Array.getElem?_setIfInBounds_ne (ycb h)]
section
variable {P:Program} {base:Base} {h:Store} {E:Env} {t:List AV} {a:Act}
theorem zPF(R:Rel base h E)(s:ByteArray):∃E',E'.w=E.w.alloc (.stringIter s 0)/\Rel base (h++[.it s 0]) E'/\Step h E (h++[.it s 0]) E'/\VL E' [.bptr h.length 0] [.pointer (some ⟨E.w.heap.size,0,none⟩)]:=by
 let E':Env:={E with w:=E.w.alloc (.stringIter s 0),n:=E.n+1,top:=fun k=>if k=h.length then 0 else E.top k,box:=fun k=>if k=h.length then E.w.heap.size else E.box k,own:=fun b=>E.own b\/b=E.w.heap.size}
 have hx:Ext E E':=⟨rfl,Nat.le_succ _,fun k hk=>by
   show E.top k<=if k=h.length then 0 else E.top k
   rw[if_neg (by rw[R.n]at hk;omega)];exact yag _,fun _ _ _ _ h=>⟨h,rfl,rfl⟩,fun k hk hg=>⟨hg,by
   show(if k=h.length then _ else _)=_
   rw[if_neg (by rw[R.n]at hk;omega)]⟩,fun a v ho hc=>by
   have hlt:=block_lt_of_cell hc
   exact⟨fun h=>by rcases h with h|h;exact ho h;omega,by rw[<-hc];exact yba (heap_alloc_old E.w _ _ hlt)⟩⟩
 have hbo:∀j,j≠h.length->blkOf E' (h++[.it s 0]) j=blkOf E h j:=fun j hj=>by
  unfold blkOf;by_cases hlt:j<h.length
  ·rw[yah hlt]
   cases h[j]? with
   |none=>rfl
   |some e=>exact zbA (E:=E) (E':=E') (k:=j) rfl (if_neg hj) e
  ·rw[yau (by simp;omega),yau (by omega)];rfl
 have hnew:blkOf E' (h++[.it s 0]) h.length=some E.w.heap.size:=by
  rw[zaN (e:=.it s 0) (by simp)];show some (if h.length=h.length then _ else _)=_;rw[if_pos rfl]
 have S:Step h E (h++[.it s 0]) E':=⟨hx,rfl,rfl,rfl,by simp[E'],fun b hb _=>heap_alloc_old E.w _ b hb,fun b hb=>by
   rcases hb with hb|hb
   ·exact .inl hb
   ·exact .inr (by omega),fun b hb _=>.inl hb,fun j b hj=>by
   by_cases e:j=h.length
   ·subst e;rw[hnew]at hj;cases hj;exact .inr (yag _)
   ·rw[hbo j e]at hj;exact .inl ⟨j,hj⟩⟩
 refine⟨E',rfl,Rel.upd h.length (.it s 0) R S (by simp[E',R.n]) (by simp) (by simp) (fun j hj=>?_) (fun j hj=>⟨rfl,if_neg hj,rfl,rfl,?_⟩) (fun j hj b hjb=>⟨heap_alloc_old E.w _ b (zee R hjb),.inl (R.own j b hjb)⟩) ?_ (fun b hb=>?_) (fun b hb=>?_),S,?_⟩
 ·by_cases hlt:j<h.length
  ·exact yah hlt
  ·rw[yau (by simp;omega),yau (by omega)]
 ·show(if j=h.length then _ else _)=_;rw[if_neg hj]
 ·have hb0:E'.box h.length=E.w.heap.size:=if_pos rfl;refine⟨R.nogen _ (yag _),if_pos rfl,by rw[hb0];exact R.le,Int.le_refl 0,?_⟩;rw[hb0];exact heap_alloc_new E.w _
 ·rw[hnew]at hb;cases hb;exact⟨.inr rfl,fun j hj hjb=>by have:=zee R hjb;omega⟩
 ·rcases hb with hb|hb
  ·have:=R.lt b hb;simp[E'];omega
  ·simp[E',hb]
 ·have:(⟨E.w.heap.size,0,none⟩:Addr)=⟨E'.box h.length,0,none⟩:=by
   have hb0:E'.box h.length=E.w.heap.size:=if_pos rfl;rw[hb0]
  rw[this];exact .bptr (by show h.length<E.n+1;rw[R.n];omega) (R.nogen _ (yag _)) .nil
theorem zPP(R:Rel base h E)(ht:VL E t a.tmps.toList){o:Oper}{ty:TypeId}{x:Operand}(ho:o.op=.range ty x)(hty:P.underlying ty=some .string){x':Od}(hx:zaH x=some x'){s:ByteArray}(hs:od t x'=.sc (.string s)):Comes1 P base o a h E (.bptr h.length 0) (h++[.it s 0]):=by
 have hv:=zaS ht hx;rw[hs]at hv;obtain⟨E',hw,R',S,V⟩:=zPF R s;refine⟨_,E',.inl ?_,R',S,V⟩;rw[hw];have:=run_range_string (P:=P) E.w ty s hty;simp only[execOp,ho,hv.sc_inv.1,yaw,this,yaj,ybf,World.iter]
theorem zPW(R:Rel base h E){k:Nat}{s:ByteArray}{pos pos':Int}(hk:h[k]?=some (.it s pos))(h0:0<=pos'):Rel base (h.set k (.it s pos')) {E with w:=zjS E.w (E.box k) (.stringIter s pos'.toNat)}/\Step h E (h.set k (.it s pos')) {E with w:=zjS E.w (E.box k) (.stringIter s pos'.toNat)}:=by
 obtain⟨e1,e2,e3,e4,e5⟩:=R.ent k _ hk;have hb:blkOf E h k=some (E.box k):=zaN hk;have hklt:=zB3 hb;have hlt:=zee R hb
 have hcells:∀a v,E.w.cell? a=some v->a.block≠E.box k:=fun a v hc e=>by
  unfold World.cell? at hc;rw[e,e5]at hc;simp at hc
 have hx:Ext E {E with w:=zjS E.w (E.box k) (.stringIter s pos'.toNat)}:=⟨rfl,yag _,fun _ _=>yag _,fun _ _ _ _ h=>⟨h,rfl,rfl⟩,fun _ _ h=>⟨h,rfl⟩,fun a v ho hc=>⟨ho,by
  rw[<-hc];exact yba (zq0 (hcells a v hc))⟩⟩
 have hbo:∀j,j≠k->blkOf {E with w:=zjS E.w (E.box k) (.stringIter s pos'.toNat)} (h.set k (.it s pos')) j=blkOf E h j:=fun j hj=>by
  unfold blkOf;rw[yas (ycb hj)]
  cases h[j]? with
  |none=>rfl
  |some e=>exact zbA rfl rfl e
 have hbk:blkOf {E with w:=zjS E.w (E.box k) (.stringIter s pos'.toNat)} (h.set k (.it s pos')) k=some (E.box k):=by
  rw[zaN (yaq hklt)];rfl
 have S:Step h E (h.set k (.it s pos')) {E with w:=zjS E.w (E.box k) (.stringIter s pos'.toNat)}:=⟨hx,rfl,rfl,rfl,by simp[zjS],fun b _ hn=>zq0 (fun e=>hn k (by rw[e];exact hb)),fun _ h=>.inl h,fun _ h _=>h,fun j b hj=>.inl (by
  by_cases e:j=k
  ·subst e;rw[hbk]at hj;cases hj;exact⟨j,hb⟩
  ·rw[hbo j e]at hj;exact⟨j,hj⟩)⟩
 refine⟨Rel.upd k (.it s pos') R S (by simp;exact R.n) (by simp) (yaq hklt) (fun j hj=>yas (ycb hj)) (fun _ _=>⟨rfl,rfl,rfl,rfl,rfl⟩) (fun j hj b hjb=>⟨zq0 (fun e=>hj (R.inj j k (E.box k) (by rw[<-e];exact hjb) hb)),R.own j b hjb⟩)
  ⟨e1,e2,e3,h0,zGS hlt⟩ (fun b hkb=>?_) (fun b hb=>by simp[zjS];exact R.lt b hb),S⟩
 rw[hbk]at hkb;cases hkb;exact⟨R.own k _ hb,fun j hj hjb=>hj (R.inj j k _ hjb hb)⟩
theorem zAy{s:ByteArray}{pos c next:Int}(h:yac.sdec s pos=some (c,next)):0<=pos/\pos.toNat<s.size/\c=(yaH s pos.toNat).1/\next=pos+(yaH s pos.toNat).2:=by
 simp only[yac]at h;split at h
 ·rename_i hc;cases h;exact⟨hc.1,hc.2,rfl,rfl⟩
 ·cases h
theorem zAx{s:ByteArray}{pos:Int}(h:yac.sdec s pos=none)(h0:0<=pos):¬pos.toNat<s.size:=by
 simp only[yac]at h;split at h
 ·cases h
 ·rename_i hc;exact fun hh=>hc ⟨h0,hh⟩
theorem zPO(R:Rel base h E)(ht:VL E t a.tmps.toList){o:Oper}{x:Operand}(ho:o.op=.next x true){x':Od}(hx:zaH x=some x'){k:Nat}(hb:od t x'=.bptr k 0){s:ByteArray}{pos:Int}(hk:h[k]?=some (.it s pos)):
  (∀c next,yac.sdec s pos=some (c,next)->Comes1 P base o a h E (.tup [.sc (.bool true),.sc (.int .i64 pos),.sc (.int .i32 c)]) (h.set k (.it s next)))/\(yac.sdec s pos=none->Comes1 P base o a h E (.tup [.sc (.bool false)]) h):=by
 have hv:=zaS ht hx;rw[hb]at hv;obtain⟨_,hpe⟩:=hv.bptr_inv;obtain⟨e1,e2,e3,e4,e5⟩:=R.ent k _ hk;refine⟨fun c next hd=>?_,fun hd=>?_⟩
 ·obtain⟨_,hlt,rfl,rfl⟩:=zAy hd;obtain⟨R',S'⟩:=zPW R hk (pos':=pos+(yaH s pos.toNat).2) (by omega);have et:(pos+((yaH s pos.toNat).2:Int)).toNat=pos.toNat+(yaH s pos.toNat).2:=by omega
  rw[et]at R' S';refine⟨.tuple #[.bool true,.int .i64 pos,.int .i32 (yaH s pos.toNat).1],_,.inl ?_,R',S',.tup (.data (.sc rfl .nil) (.data (.sc rfl .nil) (.data (.sc rfl .nil) .nil))) .nil⟩;have ep:((pos.toNat:Nat):Int)=pos:=by omega
  simp only[execOp,ho,hpe,Instr.next,getObj,setObj,yaw,Sem.run,e5,Result.andThen,hlt,if_true];simp[goInt,Sem.run,zjS,ep,e5]
 ·have hlt:=zAx hd e4;refine Comes1.same R (v':=.tuple #[.bool false]) ?_ (.tup (.data (.sc rfl .nil) .nil) .nil);simp[execOp,ho,hpe,Instr.next,getObj,Sem.run,e5,hlt]
theorem zCP(R:Rel base h E)(ht:VL E t a.tmps.toList){o:Oper}{x:Operand}(ho:o.op=.nilCheck x){x':Od}(hx:zaH x=some x'):
  (∀b off,od t x'=.bptr b off->Comes1 P base o a h E (.bptr b off) h)/\(∀k g i off,od t x'=.rptr k g i off->zaV h k g≠none->Comes1 P base o a h E (.rptr k g i off) h)/\(∀e xs i off,od t x'=.lptr e xs i off->Comes1 P base o a h E (.lptr e xs i off) h):=by
 have hv:=zaS ht hx;have run:∀A,a.eval x=.pointer (some A)->(execOp a.eval o).run P E.w=.ok (.value (a.eval x)) E.w:=fun A he=>by simp[execOp,ho,he]
 refine⟨fun b off e=>?_,fun k g i off e hne=>?_,fun e' xs i off e=>?_⟩
 ·rw[e]at hv;exact Comes1.same R (run _ hv.bptr_inv.2) hv
 ·rw[e]at hv;obtain⟨_,_,hvv⟩:=hv.rptr_inv
  cases hr:zaV h k g with
  |none=>exact absurd hr hne
  |some r=>
   obtain⟨e',ro,xs⟩:=r;obtain⟨b,_,he⟩:=hvv (zbk R hr).1;exact Comes1.same R (run _ he) hv
 ·rw[e]at hv;obtain⟨_,_,_,_,_,_,he⟩:=hv.lptr_inv;exact Comes1.same R (run _ he) hv
theorem zyL(R:Rel base h E)(ht:VL E t a.tmps.toList){o:Oper}{ty e yt:TypeId}{x y:Operand}(hs:P.underlying ty=some (.pointer e))(hy:zaH y=some (.c (.sc (.pointer none)))){p:Option Addr}(hp:a.eval x=.pointer p):
  (o.op=.binOp .eql ty x y yt->Comes1 P base o a h E (.sc (.bool p.isNone)) h)/\(o.op=.binOp .neq ty x y yt->Comes1 P base o a h E (.sc (.bool (!p.isNone))) h):=by
 have hv:=zaS ht hy;have hyv:a.eval y=.pointer none:=hv.sc_inv.1;have hs':P.underlying ty=some (.pointer (P.pointee ty)):=by simp[Program.pointee,hs]
 refine⟨fun ho=>?_,fun ho=>?_⟩
 ·refine Comes1.same R (v':=.bool p.isNone) ?_ (.data (.sc rfl .nil) .nil);simp[execOp,ho,hp,hyv,eqGuard,run_eql_pointer_nil E.w ty p hs']
 ·refine Comes1.same R (v':=.bool (!p.isNone)) ?_ (.data (.sc rfl .nil) .nil);simp[execOp,ho,hp,hyv,eqGuard,run_neq_pointer_nil E.w ty p hs']
theorem zJm(R:Rel base h E){b:Nat}{ty:TypeId}{cs cs':List AV}(hb:h[b]?=some (.box ty cs))(h1:∀c,c∈cs'->c.one=true)(hv:∀vals:List Value,E.w.heap[E.box b]?=some (.cells vals.toArray ty (0,0))->VL E cs vals->VL E cs' vals):
  Rel base (h.set b (.box ty cs')) E/\Step h E (h.set b (.box ty cs')) E:=by
 have hblt:b<h.length:=(yae.1 hb).1
 have same:∀j,blkOf E (h.set b (.box ty cs')) j=blkOf E h j:=fun j=>by
  by_cases ej:j=b
  ·subst ej;rw[zaN (yaq hblt),zaN hb];rfl
  ·unfold blkOf;rw[yas (ycb ej)]
 refine⟨⟨by simpa using R.n,R.lo,fun k e hk=>?_,fun k hk=>R.nogen k (by simpa using hk),fun k c hc=>R.own k c (by rw[<-same];exact hc),fun k j c hk hj=>R.inj k j c (by rw[<-same];exact hk) (by rw[<-same];exact hj),R.lt⟩,
  ⟨Ext.refl E,rfl,rfl,rfl,yag _,fun _ _ _=>rfl,fun _ hc=>.inl hc,fun _ hc _=>hc,fun k c hc=>.inl ⟨k,by rw[<-same];exact hc⟩⟩⟩
 by_cases ek:k=b
 ·subst ek;rw[yaq hblt]at hk;cases hk;obtain⟨e1,e2,e3,_,vals,e5,e6⟩:=R.ent k _ hb;exact⟨e1,e2,e3,h1,vals,e5,hv vals e5 e6⟩
 ·rw[yas (ycb ek)]at hk;exact R.ent k e hk
theorem znk{α:Type}{l:List α}{i:Nat}{x:α}(h:l[i]?=some x):l.set i x=l:=by
 obtain⟨hi,rfl⟩:=yae.1 h;exact List.set_getElem_self hi
theorem zPG:∀(l:List (Nat×TypeId×Bool)) {cs cs':List AV} {us:List Value} {h h':Store} {E:Env},Rel base h E->VL E cs us->zs6 l cs h=some (cs',h')->∃E',E'.w=E.w/\Rel base h' E'/\Step h E h' E'/\VL E' cs' us:=by
 intro l
 induction l with
 |nil=>intro cs cs' us h h' E R V hn;cases hn;exact⟨E,rfl,R,Step.refl h E,V⟩
 |cons x r ih=>
  obtain⟨off,e,own⟩:=x;intro cs cs' us h h' E R V hn;simp only[zs6]at hn;split at hn
  case h_2=>cases hn
  rename_i e0 hc;obtain⟨hi,hx⟩:=yae.1 hc;obtain⟨u,hu,hv⟩:=V.get off hi;rw[hx]at hv;obtain⟨aa,cap,_,hu',_,_,hfull,_⟩:=hv.lit_inv.lit_inv;have h0:cap=0:=hfull rfl;subst h0;have hua:u=.slice aa 0 0:=hu';subst hua;split at hn
  ·obtain⟨E1,hw,R1,S1,V1⟩:=zc2 (base:=base) R (e:=e) (w':=E.w) (v':=.slice aa 0 0) (xs':=[]) (vals':=[]) rfl rfl rfl (yag _) (fun _ _=>rfl) (fun b hb=>by cases aa<;>simp[zaP]at hb) ⟨by simp,.inl ⟨rfl,aa,rfl⟩⟩ rfl (fun y hy=>by cases hy) (fun y hy=>by cases hy) .nil;have h2:=(V.ext S1.ext).set off (x:=.sl h.length 0) (v:=.slice aa 0 0) V1;rw[znk hu]at h2;obtain⟨E',hw',R',S',V'⟩:=ih R1 h2 hn;exact⟨E',by rw[hw',hw],R',S1.trans S' R.lt,V'⟩
  ·have h2:=V.set off (x:=.lit e false []) (v:=.slice aa 0 0) (.data (.lit (xs:=[]) (vals:=[]) (yag _) (by unfold maxLen;omega) (by simp) (fun y hy=>by cases hy) .nil (fun u hu=>by cases hu) (fun j u hj=>by simp at hj) .nil) .nil);rw[znk hu]at h2;exact ih R h2 hn
theorem zF1(b:Nat):∀(l:List (Nat×TypeId×Bool)) {h h':Store} {E:Env},Rel base h E->zpn b l h=some h'->∃E',E'.w=E.w/\Rel base h' E'/\Step h E h' E':=by
 intro l
 induction l with
 |nil=>intro h h' E R hn;cases hn;exact⟨E,rfl,R,Step.refl h E⟩
 |cons x r ih=>
  obtain⟨off,e,own⟩:=x;intro h h' E R hn;simp only[zpn]at hn;split at hn
  case h_2=>cases hn
  rename_i ty cs hb;split at hn
  case h_2=>cases hn
  rename_i e0 hc;obtain⟨_,_,_,hone,vals,e5,e6⟩:=R.ent b _ hb;have hblt:b<h.length:=(yae.1 hb).1;obtain⟨hi,hx⟩:=yae.1 hc;obtain⟨u,hu,hv⟩:=e6.get off hi;rw[hx]at hv;obtain⟨aa,cap,_,hu',_,_,hfull,_⟩:=hv.lit_inv.lit_inv;have h0:cap=0:=hfull rfl;subst h0;have hua:u=.slice aa 0 0:=hu';subst hua
  have uniq:∀vals':List Value,E.w.heap[E.box b]?=some (.cells vals'.toArray ty (0,0))->vals'[off]?=some (.slice aa 0 0):=fun vals' h5=>by
   rw[e5]at h5;injection h5 with h5;injection h5 with h5;have hvv:vals=vals':=by simpa using h5
   rw[<-hvv];exact hu
  split at hn
  ·obtain⟨E1,hw,R1,S1,V1⟩:=zc2 (base:=base) R (e:=e) (w':=E.w) (v':=.slice aa 0 0) (xs':=[]) (vals':=[]) rfl rfl rfl (yag _) (fun _ _=>rfl) (fun b hb=>by cases aa<;>simp[zaP]at hb) ⟨by simp,.inl ⟨rfl,aa,rfl⟩⟩ rfl (fun y hy=>by cases hy) (fun y hy=>by cases hy) .nil;have hb1:(h++[.row e 0 false []])[b]?=some (.box ty cs):=by rw[yah hblt];exact hb
   obtain⟨R2,S2⟩:=zJm R1 hb1 (cs':=cs.set off (.sl h.length 0)) (fun c hcm=>by
    rcases ybx hcm with hcm|rfl
    ·exact hone c hcm
    ·rfl) (fun vals' h5 hvl=>by
     rw[hw,(S1.ext.box b (by rw[R.n];exact hblt) (R.ent _ _ hb).1).2]at h5;have:=hvl.set off (x:=.sl h.length 0) (v:=.slice aa 0 0) V1
     rwa[znk (uniq vals' h5)]at this)
   rw[List.set_append_left _ _ hblt]at R2 S2;obtain⟨E',hw',R',S'⟩:=ih R2 hn;exact⟨E',by rw[hw',hw],R',(S1.trans S2 R.lt).trans S' R.lt⟩
  ·obtain⟨R2,S2⟩:=zJm R hb (cs':=cs.set off (.lit e false [])) (fun c hcm=>by
    rcases ybx hcm with hcm|rfl
    ·exact hone c hcm
    ·rfl) (fun vals' h5 hvl=>by
     have:=hvl.set off (x:=.lit e false []) (v:=.slice aa 0 0) (.data (.lit (xs:=[]) (vals:=[]) (yag _) (by unfold maxLen;omega) (by simp) (fun y hy=>by cases hy) .nil (fun u hu=>by cases hu) (fun j u hj=>by simp at hj) .nil) .nil)
     rwa[znk (uniq vals' h5)]at this)
   obtain⟨E',hw',R',S'⟩:=ih R2 hn;exact⟨E',hw',R',S2.trans S' R.lt⟩
theorem zzk{P:Program}{w:World}{own:Nat->Prop}(s:List UInt8):DL P w own (flat (s.map fun b=>AV.sc (.int .u8 (b.toNat:Int)))) (s.map fun b=>ybH .u8 (b.toNat:Int)):=by
 induction s with
 |nil=>exact .nil
 |cons b s ih=>exact .sc rfl ih
theorem zsG{P:Program}{e:TypeId}(hc:P.cellsOf e=1)(s:ByteArray):∀x,x∈yac.bofs s->x.cells.length=P.cellsOf e:=fun x hx=>by
 obtain⟨b,_,rfl⟩:=ybJ.1 hx;rw[hc];rfl
theorem zo8(s:ByteArray):(yac.bofs s).length=s.size:=by
 show(s.data.toList.map _).length=_;rw[yaK];rfl
theorem zNo(R:Rel base h E)(hP:E.P=P)(ht:VL E t a.tmps.toList){o:Oper}{src dst e:TypeId}{x:Operand}(ho:o.op=.convert src dst x)(hs:P.underlying src=some .string)(hd:P.underlying dst=some (.slice e))(he:P.underlying e=some (.int .u8))(hc:P.cellsOf e=1){x':Od}(hx:zaH x=some x'){s:ByteArray}(hv:od t x'=.sc (.string s))(hroom:yac.room 1 [] (yac.bofs s)=true):
  Comes1 P base o a h E (.lit e false (yac.bofs s)) h:=by
 have hxv:=zaS ht hx;rw[hv]at hxv;obtain⟨_,hl⟩:=zjp hroom;simp only[ybw,yaQ]at hl;subst hP;obtain⟨R1,S1⟩:=zp8 R;obtain⟨R2,S2⟩:=zsC R1 (.cells (bytesRow s (grownCap E.w s.size 0 e)) e ((bytesRow s (grownCap E.w s.size 0 e)).size,(bytesRow s (grownCap E.w s.size 0 e)).size+1));have S:=S1.trans S2 R.lt;have hge:=grownCap_ge E.w s.size 0 e;have hle:=grownCap_le_maxLen E.w s.size 0 e (by rw[zo8]at hl;exact hl);refine⟨_,_,.inl ?_,R2,S,.data (.lit (cap:=grownCap E.w s.size 0 e) (vals:=s.data.toList.map fun b=>ybH .u8 (b.toNat:Int)) (by rw[zo8];exact hge) hle (by intro h;cases h) (zsG hc s) (zzk _) (fun u hu=>?_) (fun j u hu=>⟨E.w.heap.size,0,rfl,fun ho=>by have:=R.lt _ ho;omega,?_⟩) .nil) .nil⟩
 ·have:=run_bytes_of_string (P:=E.P) E.w src dst e s hs hd he;simp only[execOp,ho,hxv.sc_inv.1,yaw,this,yaj,ybf,zo8]
 ·obtain⟨b,_,rfl⟩:=ybJ.1 hu;rfl
 ·rw[yaQ];have:(E.w.drew.alloc (.cells (bytesRow s (grownCap E.w s.size 0 e)) e ((bytesRow s (grownCap E.w s.size 0 e)).size,(bytesRow s (grownCap E.w s.size 0 e)).size+1))).cell? ⟨E.w.heap.size,j,none⟩=(bytesRow s (grownCap E.w s.size 0 e))[j]?:=cell_of_row _ _ j _ e _ (heap_alloc_new E.w.drew _);refine this.trans ?_;unfold bytesRow;have hj:=(yae.1 hu).1;simp only[yaK,ya8]at hj;rw[Array.getElem?_append_left (by simpa using hj)];simpa using hu
theorem zuK:∀{xs:List AV} {ns:List Int},bytesOf xs=some ns->xs=ns.map fun n=>AV.sc (.int .u8 n)
 | [],ns,h=>by simp[bytesOf]at h;subst h;rfl
 |x::r,ns,h=>by
  unfold bytesOf at h;split at h
  ·rename_i heq;cases heq
  ·rename_i n r' heq;cases heq;split at h
   ·rename_i l hl;cases h;rw[zuK hl];rfl
   ·cases h
  ·cases h
theorem zys{P:Program}{w:World}{own:Nat->Prop}:∀{ns:List Int} {vals:List Value},DL P w own (flat (ns.map fun n=>AV.sc (.int .u8 n))) vals->vals=ns.map (ybH .u8)
 | [],vals,h=>by cases h;rfl
 |n::ns,vals,h=>by
  have h':DL P w own (.sc (.int .u8 n)::flat (ns.map fun n=>AV.sc (.int .u8 n))) vals:=h
  cases h' with
  |sc _ t=>rw[zys t];rfl
theorem zC1:∀(ns:List Int) (r:ByteArray),ns.foldl (fun r n=>r.push (UInt8.ofNat n.toNat)) r=⟨r.data++(ns.map fun n=>UInt8.ofNat n.toNat).toArray⟩
 | [],r=>by simp
 |n::ns,r=>by
  simp only[ybE,yaT];rw[zC1 ns];simp[ByteArray.push]
theorem zNw(R:Rel base h E)(hP:E.P=P)(ht:VL E t a.tmps.toList){o:Oper}{src dst e:TypeId}{x:Operand}(ho:o.op=.convert src dst x)(hs:P.underlying src=some (.slice e))(hd:P.underlying dst=some .string)(he:P.underlying e=some (.int .u8))(hc:P.cellsOf e=1){x':Od}(hx:zaH x=some x'){xs:List AV}(hxs:zbU yac h e (od t x')=some xs){s:ByteArray}(hb:yac.sofb xs=some s):
  Comes1 P base o a h E (.sc (.string s)) h:=by
 obtain⟨hel,_⟩:=zgd R (zaS ht hx) hxs;obtain⟨ad,c,vals,hv,hcc,hm,hdl,hone,_,hrd⟩:=zeJ R (zaS ht hx) hel
 obtain⟨ns,hns,rfl⟩:∃ns,bytesOf xs=some ns/\zsq ns=s:=by
  simp only[yac]at hb;obtain⟨ns,h1,h2⟩:=yap.1 hb;exact⟨ns,h1,h2⟩
 have hxe:=zuK hns;subst hxe;have hve:=zys hdl;subst hve;refine Comes1.same R (v':=.string (zsq ns)) ?_ (.data (.sc rfl .nil) .nil);simp only[execOp,ho,hv]
 cases ad with
 |none=>
  have h0:ns=[]:=by
   cases ns with
   |nil=>rfl
   |cons n ns=>obtain⟨_,_,hab,_⟩:=hrd 0 _ rfl;cases hab
  subst h0;simp[convert,run_underlying hs,run_underlying hd,run_underlying he,Conv.bytesToString,zsq]
  rfl
 |some A=>
  have hcells:∀j v,(ns.map (ybH .u8))[j]?=some v->E.w.cell? (A.add j)=some v:=fun j v hj=>by
   obtain⟨b',o',hab,hc'⟩:=hrd j v hj;injection hab with hab;subst hab;rw[zcm];exact hc'
  have hl:=run_loadCells_list (P:=P) E.w A (ns.map (ybH .u8)) hcells;simp only[yaK]at hl;have hr:=run_bytesToString (P:=P) E.w A ns.length c ns hl
  have hconv:(convert src dst (.slice (some A) ns.length c)).run P E.w=.ok (.string (zsq ns)) E.w:=by
   simp only[convert,yaw,run_underlying hs,run_underlying hd,run_underlying he,yaj,hr,zC1];simp[zsq,ByteArray.empty,ByteArray.emptyWithCapacity];rfl
  simp only[yaK,yaw,hconv,yaj,ybf]
theorem zvP(w:World)(s:ByteArray)(k:Nat):(ybo k s.size (.string s)).run P w=.ok (s.data.toList.map fun b=>ybH .u8 (b.toNat:Int)).toArray w:=by
 have hx:(s.extract 0 s.size).data.map (fun b:UInt8=>ybH IntKind.u8 (b.toNat:Int))=(s.data.toList.map fun b=>ybH .u8 (b.toNat:Int)).toArray:=by
  apply ybO;simp
 simp only[ybo,ybf,hx]
theorem zum{w:World}{ty tz rt e:TypeId}(ht:P.underlying ty=some (.slice e))(hu:P.underlying tz=some .string)(hi:(P.info? e).isSome=true){s:ByteArray}(h0:s.size=0)(bd:Option Addr)(n cap:Nat)(hc:n<=cap):
  (yaV #[ty,tz] rt #[.slice bd n cap,.string s]).run P w=.ok (.slice bd n cap) w:=by
 have h1:=zbw (P:=P) (w:=w) hi
 have hf:∀size,(ybo size 0 (.string s)).run P w=.ok #[] w:=fun size=>by
  have:=zvP (P:=P) w s size;rw[h0]at this;rw[this];have:s.data.toList=[]:=yai (by rw[ya8];exact h0);rw[this];rfl
 cases bd with
 |none=>simp[yaV,run_underlying ht,run_underlying hu,h1,ycg,hc,hf,h0]
 |some b=>simp[yaV,run_underlying ht,run_underlying hu,h1,ycg,hc,hf,h0,storeCells]
theorem zBg{w:World}{ty tz rt e:TypeId}{i:TypeInfo}(ht:P.underlying ty=some (.slice e))(hu:P.underlying tz=some .string)(hi:P.info? e=some i)(h1c:i.size=1){s:ByteArray}{news:List Value}(hne:(s.data.toList.map fun b=>ybH .u8 (b.toNat:Int))=news){m:Nat}(hm:m=s.size)
  (g sLen sCap:Nat) (cur:Array Value) (hg:w.heap[g]?=some (.cells cur e (0,0))) (h1:∀u∈news,u.oneCell'=true) (hroom:sLen+m<=sCap) (hfit:sLen*i.size+news.length<=cur.size):
  (yaV #[ty,tz] rt #[.slice (some ⟨g,0,none⟩) sLen sCap,.string s]).run P w=
   .ok (.slice (some ⟨g,0,none⟩) (sLen+m) sCap) (w.setRow g (cur.toList.take (sLen*i.size)++news++cur.toList.drop (sLen*i.size+news.length)).toArray):=by
 subst hm;have hf:=zvP (P:=P) w s i.size;rw[hne]at hf;have hst:=run_storeCells_at P g (sLen*i.size) e news 0 cur w hg (by simpa using hfit) h1;simp only[yce]at hst;simp[yaV,run_underlying ht,run_underlying hu,sizeOf,typeInfo,hi,ycg,hroom,hf,Addr.add_lit,hst]
theorem zso{w:World}{ty tz rt e:TypeId}(ht:P.underlying ty=some (.slice e))(hu:P.underlying tz=some .string){z:AV}(hz:zbb P e=some z)(h1c:P.cellsOf e=1){s:ByteArray}{news:List Value}(hne:(s.data.toList.map fun b=>ybH .u8 (b.toNat:Int))=news){m:Nat}(hm:m=s.size){bd:Option Addr}{n cap:Nat}(hnone:bd=none->cap=0/\n=0){olds:List Value}(hol:olds.length=n*P.cellsOf e)
  (ho:∀j u,olds[j]?=some u->∃b o,bd=some ⟨b,o,none⟩/\w.cell? ⟨b,o+j,none⟩=some u) (hm0:0<m) (hg:cap<n+m) (hb:(n+m)*P.bytesOf e<=140737488355328) (hl:n+m<=maxLen):
  ∃C cap',(yaV #[ty,tz] rt #[.slice bd n cap,.string s]).run P w=.ok (.slice (some ⟨w.heap.size,0,none⟩) (n+m) cap') (w.drew.alloc (.cells C e))/\n+m<=cap'/\cap'<=maxLen/\C.size=cap'*P.cellsOf e/\C.toList.take ((n+m)*P.cellsOf e)=olds++news:=by
 obtain⟨i,zv,hi,hzv,hzs,_,_⟩:=za7 (E:=(⟨P,w,0,fun _=>none,fun _=>0,fun _=>0,fun _=>undef,fun _=>0,fun _=>False⟩:Env)) hz;have his:P.cellsOf e=i.size:=by simp[ybF,hi]
 have hib:P.bytesOf e=i.bytes:=by simp[Program.bytesOf,hi]
 have hnl:news.length=m*P.cellsOf e:=by rw[<-hne,yaK,h1c,Nat.mul_one,hm];rfl
 rw[his]at hol hnl hzs⊢;rw[hib]at hb;have hm63:((n+m:Nat):Int)<=9223372036854775807:=by simp only[maxLen]at hl;omega
 have hfit:Builtin.nextslicecap (n+m) cap*i.bytes<=281474976710656:=growslice_fits hg hb;have hge:=grownCap_ge w (n+m) cap e;have hle:=grownCap_le_maxLen w (n+m) cap e hl;have hn:¬(n+m<=cap):=by omega
 have h63':¬(9223372036854775807<((n:Int)+(m:Int))):=by omega
 have h48':¬(281474976710656<Builtin.nextslicecap (n+m) cap*i.bytes):=by omega
 have hf:=zvP (P:=P) w.drew s i.size;rw[hne]at hf;subst hm
 have hfo:(ybo i.size n (.slice bd n cap)).run P w.drew=.ok olds.toArray w.drew:=by
  cases bd with
  |none=>
   obtain⟨rfl,rfl⟩:=hnone rfl;have hol0:olds=[]:=yai (by simpa using hol);subst hol0
   simp[ybo]
  |some bA=>
   exact run_firstCells_some (P:=P) w.drew i.size n bA n cap olds hol (fun j v hj=>by
    obtain⟨b',o',hab,hc⟩:=ho j v hj;injection hab with hab;subst hab
    rw[zcm];exact hc)
 have hr:(yaV #[ty,tz] rt #[.slice bd n cap,.string s]).run P w=.ok (.slice (some ⟨w.heap.size,0,none⟩) (n+s.size) (grownCap w (n+s.size) cap e))
    (w.drew.alloc (.cells (olds.toArray++news.toArray++Builtin.zeroCells zv.cells (grownCap w (n+s.size) cap e-(n+s.size))) e)):=by
  simp[yaV,run_underlying ht,run_underlying hu,sizeOf,typeInfo,zeroValue,hi,hzv,ycg,hn,h63',h48',Question.forced,hf,hfo,newRow,grownCap];congr 2;apply ybO;simp[yao]
 refine⟨_,_,hr,hge,hle,?_,?_⟩
 ·simp only[Array.size_append,ybc,size_zeroCells,hzs,hnl,hol,<-yaE];congr 1;omega
 ·simp only[yb2];have hlen:(olds++news).length=(n+s.size)*i.size:=by rw[yaf,hol,hnl,yaE]
  rw[<-hlen];exact ya9
section
variable {o:Oper} {ty tz e:TypeId} {x y:Operand} {args:Array Operand} {tys:Array TypeId} {x' y':Od} {z:AV}
theorem zo5(ho:o.op=.call {callee:=.builtin .append,args,argTypes:=tys})(hargs:args.toList=[x,y])(htys:tys.toList=[ty,tz]){v:Value}{w w':World}(hr:(yaV #[ty,tz] o.type #[a.eval x,a.eval y]).run P w=.ok v w'):(execOp a.eval o).run P w=.ok (.value v) w':=by
 have ea:args=#[x,y]:=ybO hargs;have et:tys=#[ty,tz]:=ybO htys;subst ea et;simp[execOp,ho,resolve,invoke,builtin,hr]
theorem zKG(R:Rel base h E)(hP:E.P=P)(ht:VL E t a.tmps.toList)(ho:o.op=.call {callee:=.builtin .append,args,argTypes:=tys})(hargs:args.toList=[x,y])(htys:tys.toList=[ty,tz])(hs:P.underlying ty=some (.slice e))(hu:P.underlying tz=some .string)(hz:zbb P e=some z)(h1c:P.cellsOf e=1)
  (hx:zaH x=some x') (hy:zaH y=some y') {s:ByteArray} (hys:od t y'=.sc (.string s)) {e':TypeId} (hlit:od t x'=.lit e' true []) (hroom:yac.room (P.bytesOf e) [] (yac.bofs s)=true):
  Comes1 P base o a h E (.sl h.length 0) (h++[.row e 0 false (yac.bofs s)]):=by
 have hxv:=zaS ht hx;rw[hlit]at hxv;obtain⟨bd,cap,_,hv,_,_,hf,_⟩:=hxv.lit_inv.lit_inv;have hcap:cap=0:=hf rfl;subst hcap;have hyv0:=zaS ht hy;rw[hys]at hyv0;have hyv:a.eval y=.string s:=hyv0.sc_inv.1;obtain⟨ys,hye⟩:∃ys,yac.bofs s=ys:=⟨_,rfl⟩
 obtain⟨news,hne0⟩:∃news,(s.data.toList.map fun b=>ybH .u8 (b.toNat:Int))=news:=⟨_,rfl⟩
 have h0:0<P.cellsOf e:=by omega
 have hsize:∀x,x∈ys->x.cells.length=P.cellsOf e:=hye▸zsG h1c s;have hyl:ys.length=s.size:=hye▸zo8 s;have hd:DL E.P E.w E.own (flat ys) news:=by rw[<-hye,<-hne0];exact zzk _
 have hone:∀u,u∈news->u.oneCell'=true:=fun u hu=>by rw[<-hne0]at hu;obtain⟨b,_,rfl⟩:=ybJ.1 hu;rfl
 rw[hye]at hroom⊢;obtain⟨hb,hl⟩:=zjp hroom;have hinfo:(P.info? e).isSome=true:=by obtain⟨i,_,hi,_⟩:=za7 (E:=E) hz;rw[hi];rfl
 subst hP;have hnl:news.length=ys.length*E.P.cellsOf e:=by rw[hd.length,zbB hsize]
 simp only[ybw,yaQ]at hb hl;by_cases hm0:ys.length=0
 ·have hyn:ys=[]:=yai hm0;subst hyn;have hr:=zum (w:=E.w) (rt:=o.type) hs hu hinfo (s:=s) (by simpa using hyl.symm) bd 0 0 (yag _)
  obtain⟨E',hw,R',S,V⟩:=zc2 (base:=base) R (e:=e) (w':=E.w) (v':=.slice bd 0 0) (xs':=[]) (vals':=[]) rfl rfl rfl (yag _) (fun _ _=>rfl) (fun b hb=>by cases bd<;>simp[zaP]at hb)
   ⟨by simp,.inl ⟨rfl,bd,rfl⟩⟩ rfl (fun x hx=>by cases hx) (fun u hu=>by cases hu) .nil
  refine⟨_,E',.inl ?_,R',S,V⟩;rw[hw];exact zo5 ho hargs htys (by rw[hv,hyv];exact hr)
 ·obtain⟨C,cap',hr,hge,hle,hcs,htk⟩:=zso (w:=E.w) (ty:=ty) (rt:=o.type) hs hu hz h1c (s:=s) hne0 hyl (bd:=bd) (n:=0) (cap:=0) (fun _=>⟨rfl,rfl⟩) (olds:=[]) (news:=news) (by simp) (fun j u hu=>by cases hu) (by omega) (by omega) (by simpa using hb) (by simpa using hl);simp only[yaQ]at hr hge htk
  obtain⟨E',hw,R',S,V⟩:=zc2 (base:=base) R (e:=e) (w':=E.w.drew.alloc (.cells C e)) (v':=.slice (some ⟨E.w.heap.size,0,none⟩) ys.length cap') (xs':=ys) (vals':=news) rfl rfl rfl (by simp) (fun b hb=>heap_alloc_old E.w.drew _ b hb)
   (fun b hb=>by
    cases cap' with
    |zero=>simp[zaP]at hb
    |succ c'=>simp[zaP]at hb;subst hb;simp)
   (zp0 R.le (by omega) hge hle hcs (by simpa using htk) hnl) rfl hsize hone hd
  refine⟨_,E',.inl ?_,R',S,V⟩;rw[hw];exact zo5 ho hargs htys (by rw[hv,hyv];exact hr)
theorem zKH(R:Rel base h E)(hP:E.P=P)(ht:VL E t a.tmps.toList)(ho:o.op=.call {callee:=.builtin .append,args,argTypes:=tys})(hargs:args.toList=[x,y])(htys:tys.toList=[ty,tz])(hs:P.underlying ty=some (.slice e))(hu:P.underlying tz=some .string)(hz:zbb P e=some z)(h1c:P.cellsOf e=1)
  (hx:zaH x=some x') (hy:zaH y=some y') {s:ByteArray} (hys:od t y'=.sc (.string s)) {k g:Nat} {xs:List AV} (hsl:od t x'=.sl k g) (hr:zaV h k g=some (e,false,xs)) (hroom:yac.room (P.bytesOf e) xs (yac.bofs s)=true):
  Comes1 P base o a h E (.sl k (g+1)) (h.set k (.row e (g+1) false (xs++yac.bofs s))):=by
 have hxv:=zaS ht hx;rw[hsl]at hxv;have hk:=za2 hr;obtain⟨hgen,htop,hesz,hsx,olds,hrow,hdx,honex⟩:=R.ent k _ hk;have hv:=hxv.sl_inv.2.2.2 hgen;have hyv0:=zaS ht hy;rw[hys]at hyv0;have hyv:a.eval y=.string s:=hyv0.sc_inv.1;obtain⟨ys,hye⟩:∃ys,yac.bofs s=ys:=⟨_,rfl⟩
 obtain⟨news,hne0⟩:∃news,(s.data.toList.map fun b=>ybH .u8 (b.toNat:Int))=news:=⟨_,rfl⟩
 have h0:0<P.cellsOf e:=by omega
 have hsize:∀x,x∈ys->x.cells.length=P.cellsOf e:=hye▸zsG h1c s;have hyl:ys.length=s.size:=hye▸zo8 s;have hd:DL E.P E.w E.own (flat ys) news:=by rw[<-hye,<-hne0];exact zzk _
 have hone:∀u,u∈news->u.oneCell'=true:=fun u hu=>by rw[<-hne0]at hu;obtain⟨b,_,rfl⟩:=ybJ.1 hu;rfl
 rw[hye]at hroom⊢;obtain⟨hb,hl⟩:=zjp hroom;have hinfo:(P.info? e).isSome=true:=by obtain⟨i,_,hi,_⟩:=za7 (E:=E) hz;rw[hi];rfl
 subst hP;have hnl:news.length=ys.length*E.P.cellsOf e:=by rw[hd.length,zbB hsize]
 have hol:=hrow.1
 have hsize':∀x,x∈xs++ys->x.cells.length=E.P.cellsOf e:=fun x hx=>by
  rcases yal.1 hx with hx|hx
  ·exact hsx x hx
  ·exact hsize x hx
 have hone':∀u,u∈olds++news->u.oneCell'=true:=fun u hu=>by
  rcases yal.1 hu with hu|hu
  ·exact honex u hu
  ·exact hone u hu
 have hdl':DL E.P E.w E.own (flat (xs++ys)) (olds++news):=by rw[zep];exact hdx.append hd
 have grow:∀bd cap,E.row k=.slice bd xs.length cap->xs.length<=cap->(bd=none->cap=0/\xs.length=0)->(∀j u,olds[j]?=some u->∃b o,bd=some ⟨b,o,none⟩/\E.w.cell? ⟨b,o+j,none⟩=some u)->0<ys.length->cap<xs.length+ys.length->
   Comes1 E.P base o a h E (.sl k (g+1)) (h.set k (.row e (g+1) false (xs++ys))):=fun bd cap he hcap hnone hro hy0 hgt=>by
  obtain⟨C,cap',hr,hge,hle,hcs,htk⟩:=zso (w:=E.w) (ty:=ty) (rt:=o.type) hs hu hz h1c (s:=s) hne0 hyl (bd:=bd) (n:=xs.length) (cap:=cap) hnone hol hro hy0 hgt hb hl
  obtain⟨E',hw,R',S,V⟩:=zj9 (base:=base) R hk (w':=E.w.drew.alloc (.cells C e)) (v':=.slice (some ⟨E.w.heap.size,0,none⟩) (xs.length+ys.length) cap') (xs':=xs++ys) (vals':=olds++news) rfl rfl rfl (by simp) (fun b hb _=>heap_alloc_old E.w.drew _ b hb)
   (fun b hb=>by
    cases cap' with
    |zero=>simp[zaP]at hb
    |succ c'=>simp[zaP]at hb;subst hb;exact⟨.inr (yag _),by simp⟩)
   (by rw[yaf];exact zp0 R.le (by omega) hge hle hcs htk (by rw[yaf,hol,hnl,yaE])) rfl hsize' hone' hdl'
  refine⟨_,E',.inl ?_,R',S,V⟩;rw[hw];exact zo5 ho hargs htys (by rw[hv,he,hyv];exact hr)
 by_cases hm0:ys.length=0
 ·have hyn:ys=[]:=yai hm0;subst hyn;have hne:news=[]:=yai (by rw[hnl];simp);subst hne
  have hrv:∃bd cap,E.row k=.slice bd xs.length cap/\xs.length<=cap:=by
   rcases hrow.2 with⟨hn,a',ha⟩|⟨g',cap,cur,_,ha,_,_,hle,_⟩
   ·exact⟨a',0,by rw[ha,hn],by omega⟩
   ·exact⟨_,cap,ha,hle⟩
  obtain⟨bd,cap,he,hle⟩:=hrv;have hr0:=zum (w:=E.w) (rt:=o.type) hs hu hinfo (s:=s) (by simpa using hyl.symm) bd xs.length cap hle
  obtain⟨E',hw,R',S,V⟩:=zj9 (base:=base) R hk (w':=E.w) (v':=E.row k) (xs':=xs++[]) (vals':=olds++[]) rfl rfl rfl (yag _) (fun _ _ _=>rfl) (fun b hb=>⟨.inl hb,zee R (k:=k) (by rw[zaN hk];exact hb)⟩)
   (by rw[ybe,ybe];exact hrow) (by rw[he];rfl) hsize' hone' hdl'
  refine⟨_,E',.inl ?_,R',S,V⟩;rw[hw];refine zo5 ho hargs htys ?_;rw[hv,hyv,he];exact hr0
 ·rcases hrow.2 with⟨hn,a',ha⟩|⟨b0,cap,cur,hc0,ha,hbb,hh,hle,hmx,hcs,htk⟩
  ·refine grow a' 0 (by rw[ha,hn]) (by omega) (fun _=>⟨rfl,hn⟩) (fun j u hu=>?_) (by omega) (by omega);rw[hn,Nat.zero_mul]at hol;rw[yai hol]at hu;cases hu
  ·by_cases hroomy:xs.length+ys.length<=cap
   ·obtain⟨i,zv,hi,hzv,hzs,_,_⟩:=za7 (E:=E) hz;have his:E.P.cellsOf e=i.size:=by simp[ybF,hi]
    have hfit:xs.length*i.size+news.length<=cur.size:=by
     rw[hcs,hnl,<-his,<-yaE];exact yaD _ hroomy
    have hra:=zBg (P:=E.P) (w:=E.w) (rt:=o.type) hs hu hi (by rw[<-his];exact h1c) (s:=s) hne0 hyl b0 xs.length cap cur hh hone hroomy hfit
    have hblk0:zaP (E.row k)=some b0:=by
     rw[ha]
     cases cap with
     |zero=>omega
     |succ c'=>rfl
    have hbk:blkOf E h k=some b0:=(zaN hk).trans hblk0
    have hrv':zaP (.slice (some ⟨b0,0,none⟩) (xs.length+ys.length) cap)=some b0:=by
     cases cap with
     |zero=>omega
     |succ c'=>rfl
    obtain⟨E',hw,R',S,V⟩:=zj9 (base:=base) R hk (w':=E.w.setRow b0 (cur.toList.take (xs.length*i.size)++news++cur.toList.drop (xs.length*i.size+news.length)).toArray) (v':=.slice (some ⟨b0,0,none⟩) (xs.length+ys.length) cap) (xs':=xs++ys) (vals':=olds++news) rfl rfl rfl (by simp)
     (fun b _ hne=>setRow_other E.w b0 b _ (fun e=>hne (by rw[hblk0,e])))
     (fun b hb=>by rw[hrv']at hb;cases hb;exact⟨.inl hblk0,by simp;exact zee R hbk⟩)
     (by
      refine⟨by rw[yaf,yaf,hol,hnl,yaE],.inr ⟨b0,cap,_,hc0,by rw[yaf],hbb,setRow_heap E.w b0 cur _ e (0,0) hh,by rw[yaf];exact hroomy,hmx,?_,?_⟩⟩
      ·have hc3:cur.toList.length=cap*E.P.cellsOf e:=by simpa using hcs
       simp only[ybc,yaf,yan,List.length_drop,hc3];rw[<-his]at hfit⊢;rw[hcs]at hfit;omega
      ·have hl1:(cur.toList.take (xs.length*i.size))=olds:=by rw[<-his];exact htk
       simp only[yao];rw[hl1,yaf,<-yao];have hlen:(olds++news).length=(xs.length+ys.length)*E.P.cellsOf e:=by rw[yaf,hol,hnl,yaE]
       rw[<-hlen];exact ya9) rfl hsize' hone' hdl'
    refine⟨_,E',.inl ?_,R',S,V⟩;rw[hw];refine zo5 ho hargs htys ?_;rw[hv,hyv,ha];exact hra
   ·refine grow _ cap ha hle (fun h=>by cases h) (fun j u hu=>⟨b0,0,rfl,?_⟩) (by omega) (by omega);rw[yaQ,cell_of_row E.w b0 j cur e (0,0) hh];rw[<-htk,yaM]at hu;split at hu
    ·simpa using hu
    ·cases hu
end
end
section
variable {P:Program} {base:Base} {h:Store} {E:Env} {t:List AV} {a:Act}
theorem zaF{o:Oper}{v:AV}{h':Store}{K:Act->World->Prop}{Q:Exit->Act->World->Prop}(hc:Comes1 P base o a h E v h')(hK:∀E' v',Rel base h' E'->Step h E h' E'->VL E' [v] [v']->K (a.put o.dst v') E'.w):o.wp P a E.w K Q:=by
 obtain⟨v',E',hr,R,S,V⟩:=hc;unfold Oper.wp;rcases hr with hr|⟨hr,rfl⟩
 ·rw[hr];exact hK E' v' R S V
 ·rw[hr];exact hK E' undef R S V
theorem zpa{w:World}{f:FuncId}{fn:Func}(hf:P.funcs[f]?=some fn)(hb:fn.body.isSome=true)(hn:fn.name≠ "runtime.NumGoroutine")(args:Array Value):(callFunc f args).run P w=.ok (.enter f args) w:=by
 obtain⟨b,hb⟩:=Option.isSome_iff_exists.1 hb;simp[callFunc,hf,hn,hb]
def zhb(P:Program)(I:Ifc):Prop:=∀(f:FuncId) (args:List AV) (s:Store) (r:AV×Store),I.call f args s=some r->∃fn,P.funcs[f]?=some fn/\fn.body.isSome=true/\fn.name≠ "runtime.NumGoroutine"
def ziN(P:Program)(base:Base)(f:FuncId)(p:Prim):Prop:=
 (∃fn,P.funcs[f]?=some fn/\fn.body.isSome=true/\fn.name≠ "runtime.NumGoroutine")/\
 (∀(args:List AV) (h:Store) (v:AV) (h3:Store) (m:Nat),zcQ yac p args h=some (v,h3,m)->∀(E:Env) (vs:List Value),E.P=P->Rel base h E->VL E args vs->
  Calls P f vs.toArray E.w fun e w'=>∃v' E',e=.returned v'/\E'.w=w'/\Rel base h3 E'/\Step h E h3 E'/\VL E' [v] [v'])/\zxZ p
def zdf(P:Program)(base:Base)(I:Ifc):Prop:=∀f p,I.prim f=some p->ziN P base f p
theorem zIo{I:Ifc}(hF:zhb P I){f:FuncId}{args:List AV}{h:Store}{r:AV×Store×Nat}(he:zde I f args h=some r):∃fn,P.funcs[f]?=some fn/\fn.body.isSome=true/\fn.name≠ "runtime.NumGoroutine":=by
 unfold zde at he;split at he
 ·cases he
 ·split at he
  ·cases he
  ·split at he
   ·cases he
   ·rename_i hc;exact hF _ _ _ _ hc
theorem zIr{I:Ifc}(hF:zhb P I)(hPr:zdf P base I){f:FuncId}{args:List AV}{h:Store}{r:AV×Store×Nat}(he:zb5 I f args h=some r):∃fn,P.funcs[f]?=some fn/\fn.body.isSome=true/\fn.name≠ "runtime.NumGoroutine":=by
 unfold zb5 at he;split at he
 ·exact zIo hF he
 ·rename_i hp;exact(hPr f _ hp).1
 ·rename_i p _ hp;exact(hPr f p hp).1
theorem zCd{I:Ifc}(hI:I.o=yac)(IH:zdx P base I)(hPr:zdf P base I)(R:Rel base h E)(hP:E.P=P){args:List AV}{vs:List Value}(hv:VL E args vs){f:FuncId}{v:AV}{h3:Store}{m:Nat}(he:zb5 I f args h=some (v,h3,m)):
  Calls P f vs.toArray E.w fun e w'=>∃v' E',e=.returned v'/\E'.w=w'/\Rel base h3 E'/\Step h E h3 E'/\VL E' [v] [v']:=by
 unfold zb5 at he;split at he
 ·exact zB9 hI IH R hP hv he
 ·exact zCc IH R hP hv he
 ·rename_i p _ hp;rw[hI]at he;exact(hPr f p hp).2.1 args h v h3 m he E vs hP R hv
theorem zbm{f:FuncId}{fn:Func}(hf:P.funcs[f]?=some fn)(hb:fn.body.isSome=true)(hn:fn.name≠ "runtime.NumGoroutine"):ziN P base f .mv:=
 ⟨⟨fn,hf,hb,hn⟩,fun args h v h3 m he=>by simp[zcQ]at he,trivial⟩
mutual
theorem zzG:∀(sh:Sh) (v:AV) {u:Value},VL E [v] [u]->VL E [zkO sh v] [u]:=by
 intro sh v u h
 unfold zkO
 split
 ·obtain⟨ad,cap,vals,rfl,hc,hm,_,hs,hd,h1,hr⟩:=h.lit_inv.lit_inv
  split
  ·rename_i hee;subst hee
   exact .data (.lit hc hm (by simp) hs hd h1 hr .nil) .nil
  ·split
   ·exact .data (.lit hc hm (by simp) (fun x hx=>by cases hx) hd h1 hr .nil) .nil
   ·exact .data (.lit hc hm (by simp) hs hd h1 hr .nil) .nil
 ·rename_i shs cs
  obtain⟨us,rfl,h2⟩:=h.agg_inv
  exact .agg (zmW shs cs h2) .nil
 ·exact h
theorem zmW:∀(shs:List Sh) (l:List AV) {us:List Value},VL E l us->VL E (ze0 shs l) us:=by
 intro shs l us h
 unfold ze0
 split
 ·rename_i sh shs v vs
  obtain⟨u,us',rfl,h1,h2⟩:=h.uncons
  exact(zzG sh v h1).cons (zmW shs vs h2)
 ·exact h
end
theorem zzl{I:Ifc}(hI:I.o=yac)(IH:zdx P base I)(hPr:zdf P base I)(hF:zhb P I)(R:Rel base h E)(hP:E.P=P){o:Oper}{args:List AV}{vs:List Value}(hv:VL E args vs){f:FuncId}{v:AV}{h3:Store}{m:Nat}(he:zb5 I f args h=some (v,h3,m))(hrun:∀fn,P.funcs[f]?=some fn->fn.body.isSome=true->fn.name≠ "runtime.NumGoroutine" ->(execOp a.eval o).run P E.w=.ok (.enter f vs.toArray) E.w)
  {K:Act->World->Prop} {Q:Exit->Act->World->Prop} (hK:∀E' v',Rel base h3 E'->Step h E h3 E'->VL E' [v] [v']->K (a.put o.dst v') E'.w):o.wp P a E.w K Q:=by
 obtain⟨fn,h1,h2,h4⟩:=zIr hF hPr he;unfold Oper.wp;rw[hrun fn h1 h2 h4,Oper.upon_enter];refine(zCd hI IH hPr R hP hv he).mono fun e w' ⟨v',E',hev,hw,R',S',V'⟩=>?_
 subst hev;rw[<-hw];exact hK E' v' R' S' V'
theorem zf0{I:Ifc}(hI:I.o=yac)(IH:zdx P base I)(hPr:zdf P base I)(hF:zhb P I)(R:Rel base h E)(hP:E.P=P)(ht:VL E t a.tmps.toList){o:Oper}{i:Ir}(hc:zkL P o=some i){v:AV}{h':Store}{m:Nat}(he:evOp I i t h=some (v,h',m))
  {K:Act->World->Prop} {Q:Exit->Act->World->Prop} (hK:∀E' v',Rel base h' E'->Step h E h' E'->VL E' [v] [v']->K (a.put o.dst v') E'.w):o.wp P a E.w K Q:=by
 unfold zkL at hc;split at hc
 ·rename_i x ho;obtain⟨x',hx,rfl⟩:=zbJ hc;simp only[evOp]at he;cases he;exact zaF (Comes1.same R (by simp only[execOp,ho];rfl) (zaS ht hx)) hK
 ·rename_i x ho;obtain⟨x',hx,rfl⟩:=zbJ hc;simp only[evOp]at he;cases he;exact zaF (Comes1.same R (by simp only[execOp,ho];rfl) (zaS ht hx)) hK
 ·rename_i c x y ho;split at hc
  ·cases hc;rename_i hc' hx hy;simp only[evOp]at he;split at he
   ·cases he;rename_i hb;have:=zF4 (P:=P) R ht ho hc' hx hy hb;exact zaF this hK
   ·cases he;rename_i hb;have:=zF4 (P:=P) R ht ho hc' hx hy hb;exact zaF this hK
   ·cases he
  ·cases hc
 ·rename_i e ho;split at hc
  ·cases hc;rename_i z hz;simp only[evOp]at he;split at he
   ·cases he;rename_i hcond;exact zaF (zKF R ho hz hcond.2) hK
   ·cases he
  ·cases hc
 ·rename_i e x ho;obtain⟨x',hx,rfl⟩:=zbJ hc;simp only[evOp]at he;split at he
  ·cases he;rename_i hcond;exact zaF (zPI R ht ho hx hcond.2) hK
  ·cases he
 ·rename_i ty ps ho;split at hc
  ·rename_i fs z l hs hz hl;split at hc
   ·cases hc;rename_i hfs;simp only[evOp]at he;split at he
    ·cases he;rename_i hf;exact zaF (zKI R hP ht ho hs hfs hz hl hf) hK
    ·cases he
   ·cases hc
  ·cases hc
 ·rename_i ty len ps ho;split at hc
  ·rename_i e l hs hl;split at hc
   ·rename_i z hz;split at hc
    ·rename_i hcond;cases hc;simp only[evOp]at he;split at he
     ·cases he;rename_i hx;exact zaF (zPJ R hP ht ho hs hz hcond.2.1 hcond.2.2 hl hcond.1 hx) hK
     ·cases he
    ·cases hc
   ·cases hc
  ·cases hc
 ·rename_i ty p ho;split at hc
  ·rename_i ag p' hag hp;split at hc
   ·cases hc;rename_i hi;simp only[evOp,hI]at he;split at he
    ·cases he;rename_i hv;exact zaF (zNs R hP ht ho hag hi hp hv) hK
    ·cases he
   ·cases hc
  ·cases hc
 ·rename_i ty p x ho;split at hc
  ·rename_i p' x' hp hx;split at hc
   ·cases hc;rename_i hi;simp only[evOp,hI]at he;split at he
    ·cases he;rename_i hst;unfold storeAt at hst;split at hst
     ·rename_i hcond;split at hst
      ·rename_i b off hb;split at hst
       ·rename_i T cs hcs;split at hst
        ·cases hst;rename_i hle;exact zaF (zI4 R ht ho hi hp hx hcond.1 hcond.2 hb hcs hle) hK
        ·cases hst
       ·cases hst
      ·rename_i k g j off hb;split at hst
       ·rename_i xa hxa;split at hst
        ·rename_i hszd;rw[yaB]at hszd;split at hst
         ·rename_i e xs hr;split at hst
          ·rename_i y hy;split at hst
           ·cases hst;rename_i hle;exact zaF (zI5 R hP ht ho hi hp hx hxa hszd.1 hszd.2 hb hr hy hle) hK
           ·cases hst
          ·cases hst
         ·cases hst
        ·cases hst
       ·cases hst
      ·cases hst
     ·cases hst
    ·cases he
   ·cases hc
  ·cases hc
 ·rename_i op ty x y yt ho;split at hc
  ·rename_i x' y' hx hy;split at hc
   ·cases hc;rename_i c hcl;simp only[evOp,hI]at he;split at he
    ·cases he;rename_i hv;exact zaF (zPH R ht ho hx hy hcl hv) hK
    ·cases he
   ·split at hc
    ·rename_i fs _ hs;split at hc
     ·rename_i hcond;obtain⟨cs,hcs,rfl⟩:=zbJ hc;simp only[evOp,hI]at he;split at he
      ·rename_i p q hp hq;split at he
       ·split at he
        ·cases he;rename_i hll _ r hr;exact zaF ((zI1 R ht hs hcond.1 hcond.2 hcs hx hy hp hq hll.1 hll.2 hr).1 ho) hK
        ·cases he
       ·cases he
      ·cases he
     ·cases hc
    ·rename_i fs _ hs;split at hc
     ·rename_i hcond;obtain⟨cs,hcs,rfl⟩:=zbJ hc;simp only[evOp,hI]at he;split at he
      ·rename_i p q hp hq;split at he
       ·split at he
        ·cases he;rename_i hll _ r hr;exact zaF ((zI1 R ht hs hcond.1 hcond.2 hcs hx hy hp hq hll.1 hll.2 hr).2 ho) hK
        ·cases he
       ·cases he
      ·cases he
     ·cases hc
    ·rename_i e _ hs;split at hc
     ·cases hc;simp only[evOp]at he;have hv:=zaS ht hx;split at he
      ·rename_i hb;rw[hb]at hv;cases he;exact zaF ((zyL R ht hs hy hv.bptr_inv.2).1 ho) hK
      ·rename_i hb;rw[hb]at hv;cases he;exact zaF ((zyL R ht hs hy hv.sc_inv.1).1 ho) hK
      ·cases he
     ·cases hc
    ·rename_i e _ hs;split at hc
     ·cases hc;simp only[evOp]at he;have hv:=zaS ht hx;split at he
      ·rename_i hb;rw[hb]at hv;cases he;exact zaF ((zyL R ht hs hy hv.bptr_inv.2).2 ho) hK
      ·rename_i hb;rw[hb]at hv;cases he;exact zaF ((zyL R ht hs hy hv.sc_inv.1).2 ho) hK
      ·cases he
     ·cases hc
    ·cases hc
  ·cases hc
 ·rename_i x ho;obtain⟨x',hx,rfl⟩:=zbJ hc;simp only[evOp]at he;split at he
  ·rename_i hb;cases he;exact zaF ((zCP R ht ho hx).1 _ _ hb) hK
  ·rename_i k g i off hb;split at he
   ·cases he;rename_i hr;exact zaF ((zCP R ht ho hx).2.1 _ _ _ _ hb hr) hK
   ·cases he
  ·rename_i hb;cases he;exact zaF ((zCP R ht ho hx).2.2 _ _ _ _ hb) hK
  ·cases he
 ·rename_i op ty x ho;split at hc
  ·obtain⟨x',hx,rfl⟩:=zbJ hc;simp only[evOp,hI]at he;split at he
   ·cases he;rename_i hb;exact zaF ((zME R ht hx).1 ho _ hb) hK
   ·rename_i e _;cases e
   ·cases he
  ·obtain⟨x',hx,rfl⟩:=zbJ hc;simp only[evOp,hI]at he;split at he
   ·rename_i e _;cases e
   ·cases he;rename_i hb;exact zaF ((zME R ht hx).2 ho _ _ hb) hK
   ·cases he
  ·cases hc
 ·rename_i s d x ho;split at hc
  ·cases hc;rename_i k0 k x' hs hd hx;simp only[evOp,hI]at he;split at he
   ·cases he;rename_i hn;exact zaF (zNq R ht ho hs hd hx hn) hK
   ·cases he
  ·cases hc;rename_i x' hs hd hx;simp only[evOp]at he;split at he
   ·cases he;rename_i b hb;have hv:=zaS ht hx;rw[hb]at hv;have hav:=VL.sc_inv hv;refine zaF (Comes1.same R (v':=.string b) ?_ (hav.1▸hv)) hK;simp[execOp,ho,convert,run_underlying hs,run_underlying hd,hav.1]
   ·cases he
  ·rename_i e x' hs hd hx;split at hc
   ·rename_i hu8;split at hc
    ·rename_i hc1;cases hc;simp only[evOp,hI]at he;split at he
     ·rename_i b hb;split at he
      ·rename_i hroom;cases he;exact zaF (zNo R hP ht ho hs hd hu8 hc1 hx hb hroom) hK
      ·cases he
     ·cases he
    ·cases hc
   ·cases hc
  ·rename_i e x' hs hd hx;split at hc
   ·rename_i hu8;split at hc
    ·rename_i hc1;cases hc;simp only[evOp,hI]at he;split at he
     ·rename_i xs hxs;split at he
      ·rename_i b hb;cases he;exact zaF (zNw R hP ht ho hs hd hu8 hc1 hx hxs hb) hK
      ·cases he
     ·cases he
    ·cases hc
   ·cases hc
  ·cases hc
 ·rename_i ty x ho;split at hc
  ·cases hc;rename_i x' hs hx;simp only[evOp]at he;split at he
   ·cases he;rename_i b hb;exact zaF (zPP R ht ho hs hx hb) hK
   ·cases he
  ·cases hc
 ·rename_i x ho;obtain⟨x',hx,rfl⟩:=zbJ hc;simp only[evOp,hI]at he;split at he
  ·rename_i k hk;split at he
   ·rename_i b pos hit;have H:=zPO (P:=P) R ht ho hx hk hit;split at he
    ·rename_i c next hd;cases he;exact zaF (H.1 c next hd) hK
    ·rename_i hd;cases he;exact zaF (H.2 hd) hK
   ·cases he
  ·cases he
 ·rename_i f first caps ho
  split at hc
  ·obtain⟨l,hl,rfl⟩:=zbJ hc;rename_i hf;simp only[evOp]at he;cases he;exact zaF (zNt R ht ho hf hl) hK
  ·cases hc
 ·rename_i ty x lo hi ho;split at hc
  ·cases hc;rename_i x' lo' hi' hs hx hl hh;simp only[evOp,hI]at he;split at he
   ·rename_i s hsx;split at he
    ·rename_i i j hi1 hj1;split at he
     ·cases he;rename_i r hr;exact zaF (zPR R ht ho hs hx hl hh hsx hi1 hj1 hr) hK
     ·cases he
    ·cases he
   ·cases he
  ·rename_i e x' lo' hi' hs hx hl hh;split at hc
   ·cases hc;rename_i hcond;simp only[evOp,hI]at he;split at he
    ·rename_i k g l0 h0 hz;split at he
     ·cases he;rename_i hss;exact zaF (zI3 R hP hcond.2 ht ho hs hcond.1 hx hl hh hz hss) hK
     ·cases he
    ·split at he
     case h_2=>cases he
     rename_i hnosub _ xs hxs;split at he
     ·rename_i i j hi1 hj1;split at he
      ·rename_i ys hr;have H:=zPQ R hP hcond.2 ht ho hs hcond.1 hx hl hh hxs hi1 hj1 hr;split at he
       ·rename_i e' f zs hz;split at he
        ·cases he;rename_i hee;subst hee;exact zaF (H.1 _ _ hz) hK
        ·split at he
         ·cases he;exact zaF (H.2.1 _ _ hz) hK
         ·cases he
       ·rename_i k g hz;split at he
        ·rename_i e' ro' xs' hrow;split at he
         ·cases he;rename_i hee;subst hee
          have:xs'=xs:=by
           rw[hz]at hxs;simp only[zbc,hrow]at hxs
           first|(cases hxs;rfl)|(simpa using hxs)
          subst this;exact zaF (H.2.2 _ _ _ hz hrow) hK
         ·cases he
        ·cases he
       ·cases he
      ·cases he
     ·cases he
   ·cases hc
  ·cases hc
 ·rename_i ty x lo y z ho;split at hc
  ·rename_i e x' lo' y' z' hs hx hl hy hz;split at hc
   ·cases hc;rename_i hinfo;simp only[evOp,hI]at he;split at he
    ·rename_i xs hxs;split at he
     ·rename_i i j m hi1 hj1 hm1;split at he
      ·cases he;rename_i hr hr2;exact zaF (zNv R hP ht ho hs hinfo hx hy hz hl hxs hi1 hj1 hm1 hr hr2) hK
      ·cases he
     ·cases he
    ·cases he
   ·cases hc
  ·cases hc
 ·rename_i s x f ho;split at hc
  ·rename_i f' x' hf hx;split at hc
   ·cases hc;rename_i hcond;have H:=zPM (P:=P) (a:=a) R ht ho hf hcond.1 hcond.2 hx;simp only[evOp]at he;split at he
    ·cases he;rename_i hb;exact zaF (H.1 _ _ hb) hK
    ·split at he
     ·cases he;rename_i hb _ _ hr;exact zaF (H.2.1 _ _ _ _ hb (by rw[hr];simp)) hK
     ·cases he
    ·cases he;rename_i hb;exact zaF (H.2.2 _ _ _ _ hb) hK
    ·cases he
   ·cases hc
  ·cases hc
 ·rename_i s x f ho;split at hc
  ·rename_i f' x' hf hx;split at hc
   ·rename_i ag hag;split at hc
    ·cases hc;rename_i hi;simp only[evOp]at he;split at he
     ·rename_i cs hcs;split at he
      ·rename_i c hcut;split at he
       ·cases he;rename_i hm;exact zaF (zPN R ht ho hf hi hag hx hcs hcut hm) hK
       ·cases he
      ·cases he
     ·cases he
    ·cases hc
   ·cases hc
  ·cases hc
 ·rename_i ty x i ho;split at hc
  ·rename_i e x' i' hs hx hi';split at hc
   ·cases hc;rename_i hcond;simp only[evOp,hI]at he;split at he
    ·rename_i j hj;have H:=zNr (P:=P) (a:=a) R hP ht ho hs hcond.1 hcond.2 hx hi' hj;split at he
     ·rename_i e' f xs hz;split at he
      ·rename_i hee;subst hee;split at he
       ·cases he;rename_i y hy;exact zaF (H.1 _ _ _ hz hy) hK
       ·cases he
      ·cases he
     ·rename_i k g hz;split at he
      ·rename_i e' ro xs hrow;split at he
       ·rename_i hee;subst hee;split at he
        ·cases he;rename_i y hy;exact zaF (H.2 _ _ _ _ _ hz hrow hy) hK
        ·cases he
       ·cases he
      ·cases he
     ·cases he
    ·cases he
   ·cases hc
  ·cases hc
 ·rename_i ty x i ho;split at hc
  ·cases hc;rename_i x' i' hs hx hi';simp only[evOp,hI]at he;split at he
   ·rename_i s j hsx hj;split at he
    ·cases he;rename_i c hcc;exact zaF (zNu R ht ho hs hx hi' hj hsx hcc) hK
    ·cases he
   ·cases he
  ·cases hc
 ·rename_i x i ho;obtain⟨x',hx,rfl⟩:=zbJ hc;simp only[evOp]at he;split at he
  ·rename_i vs hvs;split at he
   ·cases he;rename_i hv;exact zaF (zPL R ht ho hx hvs hv) hK
   ·cases he
  ·cases he
 ·rename_i args tys _ ho;split at hc
  ·rename_i x ty hargs htys;split at hc
   ·cases hc;rename_i x' hs hx;have H:=zI2 (P:=P) (a:=a) (h:=h) R ht ho hargs htys hx;simp only[evOp,hI]at he;split at he
    ·cases he;rename_i s hsx;exact zaF (H.1 hs _ hsx) hK
    ·cases he
   ·cases hc;rename_i e x' hs hx;have H:=zI2 (P:=P) (a:=a) (h:=h) R ht ho hargs htys hx;simp only[evOp,hI]at he;split at he
    ·cases he;rename_i xs hxs;exact zaF (H.2 _ hs _ hxs) hK
    ·cases he
   ·cases hc
  ·cases hc
 ·rename_i args tys _ ho;split at hc
  ·rename_i x y ty ty' hargs htys;split at hc
   ·rename_i e x' y' hs hx hy;split at hc
    ·rename_i z hz;split at hc
     ·cases hc;rename_i hcond;obtain⟨rfl,h0⟩:=hcond;simp only[evOp,hI]at he;split at he
      ·rename_i ys hys;obtain⟨hel,hsize⟩:=zgd R (zaS ht hy) hys;rw[hP]at hsize;split at he
       ·rename_i e' hz';split at he
        ·cases he;rename_i hroom;exact zaF (zNl R hP ht ho hargs htys hs hz h0 hx hy hel hsize hz' hroom) hK
        ·cases he
       ·rename_i e' xs hne hz';split at he
        ·rename_i hee;subst hee;split at he
         ·cases he;rename_i hroom;exact zaF (zNm R hP ht ho hargs htys hs hz h0 hx hy hel hsize hz' hroom) hK
         ·cases he
        ·cases he
       ·rename_i k g hz';split at he
        ·rename_i e' xs hrow;split at he
         ·rename_i hee;subst hee;split at he
          ·cases he;rename_i hroom;exact zaF (zF3 R hP ht ho hargs htys hs hz h0 hx hy hel hsize hz' hrow hroom) hK
          ·cases he
         ·cases he
        ·cases he
       ·rename_i k g lo hi hz';split at he
        ·cases he;rename_i hsub;exact zaF (zNn R hP ht ho hargs htys hs hz h0 hx hy hel hsize hz' hsub) hK
        ·cases he
       ·cases he
      ·cases he
     ·split at hc
      ·rename_i hu he8;split at hc
       ·rename_i hc1;cases hc;simp only[evOp,hI]at he;split at he
        ·rename_i b hb;split at he
         ·rename_i e' hz';split at he
          ·cases he;rename_i hroom;exact zaF (zKG R hP ht ho hargs htys hs hu hz hc1 hx hy hb hz' hroom) hK
          ·cases he
         ·rename_i k g hz';split at he
          ·rename_i e' xs hrow;split at he
           ·rename_i hee;subst hee;split at he
            ·cases he;rename_i hroom;exact zaF (zKH R hP ht ho hargs htys hs hu hz hc1 hx hy hb hz' hrow hroom) hK
            ·cases he
           ·cases he
          ·cases he
         ·cases he
        ·cases he
       ·cases hc
      ·cases hc
    ·cases hc
   ·cases hc
  ·cases hc
 ·rename_i args tys _ ho;split at hc
  ·rename_i x ty hargs htys;split at hc
   ·rename_i e x' hs hx;split at hc
    ·rename_i z hz;split at hc
     ·cases hc;rename_i h0;simp only[evOp,hI]at he;split at he
      ·rename_i k g lo hi hz';split at he
       ·rename_i e' xs hrow;split at he
        ·rename_i hee;subst hee;split at he
         ·cases he;rename_i hzs;exact zaF (zPK R hP ht ho hargs htys hs hz h0 hx hz' hrow hzs) hK
         ·cases he
        ·cases he
       ·cases he
      ·cases he
     ·cases hc
    ·cases hc
   ·cases hc
  ·cases hc
 ·rename_i args tys _ ho;obtain⟨l,hl,rfl⟩:=zbJ hc;simp only[evOp,hI]at he;split at he
  ·rename_i k n r hr;split at he
   ·cases he;rename_i hm;exact zaF (zMD (big:=true) R ht ho hl hr hm) hK
   ·cases he
  ·cases he
 ·rename_i args tys _ ho;obtain⟨l,hl,rfl⟩:=zbJ hc;simp only[evOp,hI]at he;split at he
  ·rename_i k n r hr;split at he
   ·cases he;rename_i hm;exact zaF (zMD (big:=false) R ht ho hl hr hm) hK
   ·cases he
  ·cases he
 ·rename_i f args tys _ ho;split at hc
  ·split at hc
   ·obtain⟨l,hl,rfl⟩:=zbJ hc;simp only[evOp]at he;refine zzl hI IH hPr hF R hP (zmW _ _ (zva ht hl)) he (fun fn h1 h2 h3=>?_) hK;simp[execOp,ho,resolve,Act.eval,invoke,Deferred.ofValue,zpa h1 h2 h3];exact ybO (by simp)
   ·cases hc
  ·cases hc
 ·rename_i x args tys ho;obtain⟨l,hl,rfl⟩:=zbJ hc;simp only[evOp]at he;split at he
  ·rename_i f caps hfx;have hv:=VL.of_getD ht x;simp only[od]at hfx;rw[hfx]at hv;obtain⟨cvs,hcv,hcvs⟩:=hv.fn_inv;refine zzl hI IH hPr hF R hP ((zva ht hl).append hcvs) he (fun fn h1 h2 h3=>?_) hK;simp[execOp,ho,resolve,Act.eval,invoke,Deferred.ofValue,hcv,zpa h1 h2 h3]
  ·cases he
 ·cases hc
end
def zfE(ip:Ip)(t:List AV):Option Bool:=
 match ip.g with
 |none=>some true
 |some (j,w)=>gdOk (t.getD j .bad) w
def Stp(I:Ifc)(md:Nat)(ip:Ip)(s s':St):Prop:=
 (zfE ip s.t=some true/\∃v h m,evOp I ip.i s.t s.h=some (v,h,m)/\okA md ip m s h=true/\s'=⟨put s.t ip.d v,h⟩)\/
 (zfE ip s.t=some false/\s'=⟨put s.t ip.d (.tup []),s.h⟩)
def Stp0(I:Ifc)(ip:Ip)(s s':St):Prop:=
 (zfE ip s.t=some true/\∃v h m,evOp I ip.i s.t s.h=some (v,h,m)/\s'=⟨put s.t ip.d v,h⟩)\/
 (zfE ip s.t=some false/\s'=⟨put s.t ip.d (.tup []),s.h⟩)
theorem Stp.plain{I:Ifc}{md:Nat}{ip:Ip}{s s':St}(st:Stp I md ip s s'):Stp0 I ip s s':=
 st.imp (fun⟨h1,v,h,m,h2,_,h3⟩=>⟨h1,v,h,m,h2,h3⟩) id
theorem zhj{I:Ifc}{md:Nat}{ip:Ip}{r:List Ip}{s s2:St}(he:zbl I md (ip::r) s=some s2):∃s1,Stp I md ip s s1/\zbl I md r s1=some s2:=by
 unfold zbl at he;split at he
 ·rename_i j want hg;split at he
  ·rename_i hb;split at he
   ·rename_i v h m hev;split at he
    ·cases he
    ·rename_i hu;exact⟨_,.inl ⟨by simp only[zfE,hg,hb],v,h,m,hev,hu,rfl⟩,he⟩
   ·cases he
  ·rename_i hb;exact⟨_,.inr ⟨by simp only[zfE,hg,hb],rfl⟩,he⟩
  ·cases he
 ·rename_i hg;split at he
  ·rename_i v h m hev;split at he
   ·cases he
   ·rename_i hu;exact⟨_,.inl ⟨by simp[zfE,hg],v,h,m,hev,hu,rfl⟩,he⟩
  ·cases he
def OpM(P:Program)(ops:Array Oper)(j:Nat)(ip:Ip):Prop:=∃o,ops[j]?=some o/\(∃i0 fz,zkL P o=some i0/\ip.i=fzIr fz o.dst i0)/\ip.d=o.dst/\zmN ops o.guard=some ip.g
def zmJ(P:Program)(ops:Array Oper)(l:List Ip):Prop:=
 l.length=ops.size/\∀(j:Nat) (ip:Ip),l[j]?=some ip->OpM P ops j ip
theorem zDT{P:Program}{fz:List Nat}{ops:Array Oper}(r:List Oper):∀{l:List Ip},zuN P fz ops r=some l->l.length=r.length/\∀(j:Nat) (ip:Ip),l[j]?=some ip->∃o,r[j]?=some o/\(∃i0 fz,zkL P o=some i0/\ip.i=fzIr fz o.dst i0)/\ip.d=o.dst/\zmN ops o.guard=some ip.g:=by
 induction r with
 |nil=>intro l h;cases h;exact⟨rfl,fun j ip h=>by simp at h⟩
 |cons o r ih=>
  intro l h;unfold zuN at h;split at h
  ·rename_i i g l' hi hg hl;cases h;obtain⟨h1,h2⟩:=ih hl;refine⟨by simp[h1],fun j ip hj=>?_⟩
   cases j with
   |zero=>simp at hj;subst hj;exact⟨o,by simp,⟨_,fz,hi,rfl⟩,rfl,hg⟩
   |succ j=>simp at hj;obtain⟨o',ho',hh⟩:=h2 j ip hj;exact⟨o',by simpa using ho',hh⟩
  ·cases h
theorem zzm{P:Program}{fz:List Nat}{ops:Array Oper}{l:List Ip}(h:zuN P fz ops ops.toList=some l):zmJ P ops l:=by
 obtain⟨h1,h2⟩:=zDT ops.toList h;exact⟨by simpa using h1,fun j ip hj=>by obtain⟨o,ho,hh⟩:=h2 j ip hj;exact⟨o,by simpa using ho,hh⟩⟩
section
variable {P:Program} {base:Base} {h:Store} {E:Env} {t:List AV} {a:Act} {I:Ifc} {md:Nat} {ops:Array Oper} {l:List Ip}
theorem zC3(ht:VL E t a.tmps.toList){E':Env}(x:Ext E E'){v:AV}{v':Value}(hv:VL E' [v] [v'])(d:Option Nat):VL E' (put t d v) (a.put d v').tmps.toList:=by
 cases d with
 |none=>exact ht.ext x
 |some d=>simpa[put,Act.put]using(ht.ext x).set d hv
theorem zvY(ht:VL E t a.tmps.toList){ip:Ip}{o:Oper}(hg:zmN ops o.guard=some ip.g){b:Bool}(hw:zfE ip t=some b):Region.wanted o (yielded ops a.tmps)=b:=by
 unfold zmN at hg;unfold Region.wanted;split at hg
 ·rename_i h0;rw[h0];simp at hg;simp[zfE,<-hg]at hw;simp[hw]
 ·rename_i j want h0;rw[h0];split at hg
  ·rename_i d hd;simp at hg;simp only[zfE,<-hg]at hw;have hv:=VL.of_getD ht d;unfold gdOk at hw;split at hw
   ·rename_i c hx;rw[hx]at hv;have h1:=hv.sc_inv.1
    have h2:a.tmps[d]?=some (.bool c):=by
     rw[ybT]at h1
     cases h3:a.tmps[d]? with
     |none=>rw[h3]at h1;simp[undef]at h1
     |some u=>rw[h3]at h1;simpa using h1
    show(yielded ops a.tmps j==some want)=b;simp only[yielded,hd,yaa,h2];cases c<;>cases want<;>simp at hw<;>subst hw<;>rfl
   ·rename_i hx;rw[hx]at hv;obtain⟨us,h1,h2⟩:=hv.tup_inv;cases h2;cases hw
    have:yielded ops a.tmps j=none:=by
     simp only[yielded,hd,yaa];rw[ybT]at h1
     cases h3:a.tmps[d]? with
     |none=>rfl
     |some u=>
      rw[h3]at h1;simp at h1;subst h1;rfl
    show(yielded ops a.tmps j==some want)=false;rw[this];rfl
   ·cases hw
  ·cases hg
theorem zpN{I:Ifc}{ops:List Ip}{s s':St}:∀{l:List Nat},znm I ops s l=some s'->∃md,md∈l/\zbl I md ops s=some s':=by
 intro l
 induction l with
 |nil=>intro h;cases h
 |cons x r ih=>
  intro h;simp only[znm]at h;split at h
  ·rename_i s1 h1;cases h;exact⟨x,by simp,h1⟩
  ·obtain⟨md,hm,he⟩:=ih h;exact⟨md,by simp[hm],he⟩
theorem zJZ{o:Oper}{f:FuncId}{shs:List Sh}{l:List Od}(hc:zkL P o=some (.call f shs l)):∃c,o.op=.call c/\c.callee=.value (.func f)/\zhy c.args.toList=some l:=by
  unfold zkL at hc;split at hc
  all_goals first
    |(simp only[yap,reduceCtorEq,and_false,exists_false]at hc;done)
    |((repeat' split at hc)<;>first
       |(cases hc;done)
       |(simp only[yap,reduceCtorEq,and_false,exists_false]at hc;done)
       |(obtain⟨l',hl,he⟩:=zbJ hc
         cases he
         exact⟨_,by assumption,rfl,hl⟩))
theorem zKJ{I:Ifc}(hI:I.o=yac)(IH:zdx P base I)(hPr:zdf P base I)(hF:zhb P I)(R:Rel base h E)(hP:E.P=P)(ht:VL E t a.tmps.toList){o:Oper}{f:FuncId}{shs:List Sh}{l:List Od}(hc:zkL P o=some (.call f shs l)){v:AV}{h':Store}{m:Nat}(he:zb5 I f (ze0 [] (l.map (od t))) h=some (v,h',m))
  {K:Act->World->Prop} {Q:Exit->Act->World->Prop} (hK:∀E' v',Rel base h' E'->Step h E h' E'->VL E' [v] [v']->K (a.put o.dst v') E'.w):o.wp P a E.w K Q:=by
 obtain⟨c,ho,hcal,hl⟩:=zJZ hc;refine zzl hI IH hPr hF R hP (zmW _ _ (zva ht hl)) he (fun fn h1 h2 h3=>?_) hK;simp[execOp,ho,hcal,resolve,Act.eval,invoke,Deferred.ofValue,zpa h1 h2 h3];rw[<-Array.toList_map]
theorem zNp(R:Rel base h E)(hP:E.P=P)(ht:VL E t a.tmps.toList){o:Oper}{ty e:TypeId}{len:Nat}{ps:Array (Nat×Operand)}(ho:o.op=.buildSlice ty len ps)(hs:P.underlying ty=some (.slice e)){z:AV}(hz:zbb P e=some z)(h0:0<P.cellsOf e)(hm:len*P.cellsOf e<=2^24)
  {l:List Od} {sh:Sh} (hl:zgb 0 ps.toList=some l) (hlen:l.length=len) {xs:List AV} (hx:zf9 t sh (P.cellsOf e) l=some xs):Comes1 P base o a h E (.sl h.length 0) (h++[.row e 0 false xs]):=by
 obtain⟨us,vals,run,h2,h3,h4,hxl,h6,hsz⟩:=zFH R hP ht ho hs hz h0 hm hl hlen hx;subst hP
 have hml:len<=maxLen:=by
  have:len<=len*E.P.cellsOf e:=Nat.le_mul_of_pos_right _ h0;simp only[maxLen];omega
 have hrow:RowAt base (E.w.alloc (.cells us e)) e (E.P.cellsOf e) (.slice (some ⟨E.w.heap.size,0,none⟩) len len) xs.length vals:=by
  refine⟨by rw[h3.length,zbB h6],?_⟩;by_cases hl0:len=0
  ·subst hl0;exact .inl ⟨hxl,_,rfl⟩
  ·refine .inr ⟨E.w.heap.size,len,us,by omega,by rw[hxl],R.le,heap_alloc_new E.w _,by omega,hml,hsz,?_⟩;rw[<-h2,List.take_of_length_le (by rw[ya8,hsz,hxl];exact yag _)]
 obtain⟨E',hw,R',S',V⟩:=zc2 (base:=base) R (e:=e) (w':=E.w.alloc (.cells us e)) (v':=.slice (some ⟨E.w.heap.size,0,none⟩) len len) (xs':=xs) (vals':=vals) rfl rfl rfl (by simp) (fun b hb=>heap_alloc_old E.w _ b hb) (fun b hb=>by
  cases len with
  |zero=>simp[zaP]at hb
  |succ n=>simp only[zaP]at hb;cases hb;exact⟨yag _,by simp⟩) hrow rfl h6 h4 h3
 refine⟨_,E',.inl ?_,R',S',V⟩;rw[hw];exact run
theorem zPS{I:Ifc}(hI:I.o=yac)(IH:zdx P base I)(hPr:zdf P base I)(hF:zhb P I)(R:Rel base h E)(hP:E.P=P)(ht:VL E t a.tmps.toList){o:Oper}{i0:Ir}{fz:List Nat}(hc:zkL P o=some i0){v:AV}{h':Store}{m:Nat}(he:evOp I (fzIr fz o.dst i0) t h=some (v,h',m))
    {K:Act->World->Prop} {Q:Exit->Act->World->Prop} (hK:∀E' v',Rel base h' E'->Step h E h' E'->VL E' [v] [v']->K (a.put o.dst v') E'.w):o.wp P a E.w K Q:=by
  have frz:∀(n:Nat) (x:Od),evOp I (zuV n fz x) t h=some (v,h',m)->zkL P o=some (.mov x)->o.wp P a E.w K Q:=by
    intro n x he hc;unfold zuV at he;split at he
    · rename_i e _
      simp only[evOp,hI]at he;split at he
      · rename_i v' hv'
        simp only[ybh,ybs]at he;obtain⟨rfl,rfl,rfl⟩:=he;refine zf0 hI IH hPr hF R hP ht hc (v:=od t x) (h':=h) (m:=0) (by simp only[evOp]) (fun E' u R' S' V'=>?_);obtain⟨R1,S1⟩:=ztL R' (zeo (od t x));exact hK (zgP E' h (zeo (od t x))) u R1 (S'.trans S1 R.lt) (zzG _ _ (.data (zs3 (L:=LentK E' h (zeo (od t x))) R' (od t x) hv' V' (fun b hb=>hb)) .nil))
      · cases he
    · exact zf0 hI IH hPr hF R hP ht hc he hK
  unfold fzIr at he;split at he
  · rename_i f shs args
    have plain:evOp I (.call f shs args) t h=some (v,h',m)->o.wp P a E.w K Q:=fun he=>zf0 hI IH hPr hF R hP ht hc he hK
    split at he
    · split at he
      rotate_left
      · split at he
        · exact zKJ hI IH hPr hF R hP ht hc (by simpa only[evOp]using he) hK
        · exact plain he
      · simp only[evOp,hI]at he
        split at he
        · rename_i v0 h1 m0 hcall
          split at he
          · rename_i v' hv'
            cases he;refine zf0 hI IH hPr hF R hP ht hc (v:=v0) (h':=h1) (m:=m0) (by simp only[evOp];exact hcall) (fun E' u R' S' V'=>?_);obtain⟨R1,S1⟩:=ztL R' (zd2 h1 (znZ _ fz) v0);exact hK (zgP E' h1 (zd2 h1 (znZ _ fz) v0)) u R1 (S'.trans S1 R.lt) (zCJ R' S1.ext v0 hv' V' (fun b hb=>hb))
          · cases he
        · cases he
    · exact plain he
  · rename_i e0
    have plain:evOp I (.mov (.c (.lit e0 true []))) t h=some (v,h',m)->o.wp P a E.w K Q:=fun he=>zf0 hI IH hPr hF R hP ht hc he hK
    split at he
    · split at he
      · rename_i e _
        simp only[evOp]at he;cases he;refine zf0 hI IH hPr hF R hP ht hc (v:=.lit e0 true []) (h':=h) (m:=0) (by simp only[evOp,od]) (fun E' u R' S' V'=>?_);obtain⟨aa,cap,_,hu,hcap,_,hfull,_⟩:=V'.lit_inv.lit_inv;have h0:cap=0:=hfull rfl;subst hu;subst h0;obtain⟨E2,hw,R2,S2,V2⟩:=zc2 (base:=base) R' (e:=e) (w':=E'.w) (v':=.slice aa 0 0) (xs':=[]) (vals':=[]) rfl rfl rfl (yag _) (fun _ _=>rfl) (fun b hb=>by cases aa<;>simp[zaP]at hb) ⟨by simp,.inl ⟨rfl,aa,rfl⟩⟩ rfl (fun y hy=>by cases hy) (fun y hy=>by cases hy) .nil;rw[<-hw];exact hK E2 _ R2 (S'.trans S2 R.lt) V2
      · exact frz _ _ he hc
    · exact plain he
  · split at he
    · exact frz _ _ he hc
    · exact zf0 hI IH hPr hF R hP ht hc he hK
  · rename_i ty n x
    have plain:evOp I (.box ty n x) t h=some (v,h',m)->o.wp P a E.w K Q:=fun he=>zf0 hI IH hPr hF R hP ht hc he hK
    split at he
    · split at he
      · exact plain he
      · simp only[evOp]at he
        split at he
        · rename_i hcond
          split at he
          · rename_i h2 hn
            cases he;refine zf0 hI IH hPr hF R hP ht hc (v:=.bptr h.length 0) (h':=h++[.box ty (od t x).cells]) (m:=0) (by simp only[evOp];rw[if_pos hcond]) (fun E' u R' S' V'=>?_);obtain⟨E2,hw,R2,S2⟩:=zF1 _ _ R' hn;rw[<-hw];exact hK E2 u R2 (S'.trans S2 R.lt) (V'.ext S2.ext)
          · cases he
        · cases he
    · exact plain he
  · rename_i p e0
    have plain:evOp I (.store 1 (.t p) (.c (.lit e0 true []))) t h=some (v,h',m)->o.wp P a E.w K Q:=fun he=>zf0 hI IH hPr hF R hP ht hc he hK
    split at he
    · simp only[evOp]at he
      split at he
      · rename_i b off hp
        split at he
        · rename_i h1 hst
          split at he
          · rename_i h2 hn
            cases he;refine zf0 hI IH hPr hF R hP ht hc (v:=.bad) (h':=h1) (m:=zoI (.bptr b off)) (by simp only[evOp,hp,hst]) (fun E' u R' S' V'=>?_);obtain⟨E2,hw,R2,S2⟩:=zF1 _ _ R' hn;rw[<-hw];exact hK E2 u R2 (S'.trans S2 R.lt) (V'.ext S2.ext)
          · cases he
        · cases he
      · cases he
    · exact plain he
  · rename_i e n sh ps
    have plain:evOp I (.bsl e n sh ps) t h=some (v,h',m)->o.wp P a E.w K Q:=fun he=>zf0 hI IH hPr hF R hP ht hc he hK
    split at he
    · split at he
      · simp only[evOp]at he
        split at he
        · rename_i xs hxs
          cases he;unfold zkL at hc;split at hc
          all_goals first
            |(cases hc;done)
            |(simp only[yap,reduceCtorEq,and_false,exists_false]at hc;done)
            |skip
          all_goals first
            |(rename_i ty len parts hop
              split at hc
              · rename_i e' l hs hl
                split at hc
                · rename_i z hz
                  split at hc
                  · rename_i hcond
                    cases hc;exact zaF (zNp R hP ht hop hs hz hcond.2.1 hcond.2.2 hl hcond.1 hxs) hK
                  · cases hc
                · cases hc
              · cases hc)
            |((repeat' split at hc)<;>first
               |(cases hc;done)
               |(simp only[yap,reduceCtorEq,and_false,exists_false]at hc;done))
        · cases he
      · split at he
        · simp only[evOp]at he
          split at he
          · rename_i xs hxs
            cases he
            exact zf0 hI IH hPr hF R hP ht hc (v:=.lit e true xs) (h':=h) (m:=0) (by simp only[evOp,hxs]) (fun E' u R' S' V'=>hK E' u R' S' (by
              have:=zzG (.l e) _ V'
              simpa only[zkO,if_pos]using this))
          · cases he
        · exact plain he
    · exact plain he
  · rename_i z ps
    have plain:evOp I (.build z ps) t h=some (v,h',m)->o.wp P a E.w K Q:=fun he=>zf0 hI IH hPr hF R hP ht hc he hK
    split at he
    · split at he
      · exact plain he
      · simp only[evOp]at he
        split at he
        · rename_i cs hcs
          split at he
          · rename_i cs' h2 hn
            cases he;refine zf0 hI IH hPr hF R hP ht hc (v:=.agg cs) (h':=h) (m:=0) (by simp only[evOp,hcs]) (fun E' u R' S' V'=>?_);obtain⟨us,rfl,hul⟩:=V'.agg_inv;obtain⟨E2,hw,R2,S2,V2⟩:=zPG _ R' hul hn;rw[<-hw];exact hK E2 _ R2 (S'.trans S2 R.lt) (.agg V2 .nil)
          · cases he
        · cases he
    · exact plain he
  · exact zf0 hI IH hPr hF R hP ht hc he hK
theorem zMz{Q:Exit->Act->World->Prop}(hI:I.o=yac)(IH:zdx P base I)(hPr:zdf P base I)(hF:zhb P I)(hP:E.P=P)(R:Rel base h E)(ht:VL E t a.tmps.toList){j:Nat}{ip:Ip}(hj:OpM P ops j ip){s':St}(st:Stp0 I ip ⟨t,h⟩ s')
  {K:Act->World->Prop} (hK:∀E' a',Rel base s'.h E'->Step h E s'.h E'->VL E' s'.t a'.tmps.toList->a'.defers=a.defers->K a' E'.w):wpOp P ops Q j K a E.w:=by
 obtain⟨o,ho,⟨i0,fz,hc,hfz⟩,hd,hg⟩:=hj;unfold wpOp;simp only[ho];have hdf:∀v',(a.put o.dst v').defers=a.defers:=fun v'=>by cases hdd:o.dst<;>rfl
 rcases st with⟨hw,v,h',m,hev,rfl⟩|⟨hw,rfl⟩
 ·rw[if_pos (zvY ht hg hw)];rw[hfz]at hev;refine .inl (zPS hI IH hPr hF R hP ht hc hev fun E' v' R' S' V'=>?_);refine hK E' _ R' S' ?_ (hdf _);rw[hd];exact zC3 ht S'.ext V' _
 ·rw[if_neg (by rw[zvY ht hg hw];simp)];refine hK E _ R (Step.refl h E) ?_ (hdf _);rw[hd];exact zC3 ht (Ext.refl E) (.tup .nil .nil) _
theorem zPT{Q:Exit->Act->World->Prop}(hI:I.o=yac)(IH:zdx P base I)(hPr:zdf P base I)(hF:zhb P I)(M:zmJ P ops l){s2:St}:∀(n k:Nat),n+k=l.length->∀(E:Env) (a:Act) (t:List AV) (h:Store),E.P=P->Rel base h E->VL E t a.tmps.toList->zbl I md (l.drop k) ⟨t,h⟩=some s2->
  (∀E' a',Rel base s2.h E'->Step h E s2.h E'->VL E' s2.t a'.tmps.toList->a'.defers=a.defers->Q .normal a' E'.w)->wpOps P ops Q (List.range' k n) a E.w:=by
 intro n
 induction n with
 |zero=>
  intro k hk E a t h hP R ht he hQ;rw[yaL (by omega)]at he;simp only[zbl]at he;cases he
  exact hQ E a R (Step.refl h E) ht rfl
 |succ n ih=>
  intro k hk E a t h hP R ht he hQ;have hlt:k<l.length:=by omega
  rw[List.drop_eq_getElem_cons hlt]at he;obtain⟨s1,st,he'⟩:=zhj he;rw[List.range'_succ,wpOps_cons];refine zMz hI IH hPr hF hP R ht (M.2 _ _ (yad hlt)) st.plain fun E' a' R' S' V' hdf=>?_
  exact ih (k+1) (by omega) E' a' s1.t s1.h (S'.ext.P.trans hP) R' V' he' fun E2 a2 R2 S2 V2 hd2=>hQ E2 a2 R2 (S'.trans S2 R.lt) V2 (hd2.trans hdf)
theorem zJn{Q:Exit->Act->World->Prop}{id:Nat}(hI:I.o=yac)(IH:zdx P base I)(hPr:zdf P base I)(hF:zhb P I)(hP:E.P=P)(R:Rel base h E)(ht:VL E t a.tmps.toList)(M:zmJ P ops l){s2:St}(he:zbl I md l ⟨t,h⟩=some s2)
  (hQ:∀E' a',Rel base s2.h E'->Step h E s2.h E'->VL E' s2.t a'.tmps.toList->a'.defers=a.defers->Q .normal a' E'.w):(Code.region id ops false).wp P Q a E.w:=by
 refine wp_region ?_;rw[List.range_eq_range'];exact zPT hI IH hPr hF M ops.size 0 (by rw[M.1];rfl) E a t h hP R ht (by simpa using he) hQ
end
theorem zKE{t t':List AV}{x:Od}(h:∀n,n∈x.tmps->t[n]?=t'[n]?):od t x=od t' x:=by
 cases x with
 |t n=>simp[od,List.getD,h n (by simp[Od.tmps])]
 |c v=>rfl
theorem zn2{t t':List AV}{xs:List Od}(h:∀x,x∈xs->od t x=od t' x):xs.map (od t)=xs.map (od t'):=List.map_congr_left h
theorem zuR{t t':List AV}(ps:List (Nat×Nat×Od)):∀(cells:List AV),(∀x,x∈ps.map (·.2.2)->od t x=od t' x)->zks t cells ps=zks t' cells ps:=by
 induction ps with
 |nil=>intro cells _;rfl
 |cons p ps ih=>
  intro cells h;obtain⟨off,n,x⟩:=p;simp only[zks];rw[h x (by simp)];split
  ·exact ih _ fun y hy=>h y (by simp only[yaT,yaJ];exact .inr hy)
  ·rfl
theorem zo9{t t':List AV}{sh:Sh}{size:Nat}(ps:List Od):(∀x,x∈ps->od t x=od t' x)->zf9 t sh size ps=zf9 t' sh size ps:=by
 induction ps with
 |nil=>intro _;rfl
 |cons x ps ih=>
  intro h;simp only[zf9];rw[h x (by simp),ih fun y hy=>h y (by simp[hy])]
theorem znR{t t':List AV}{d:Int}{l:Option Od}(h:∀x,x∈l.toList->od t x=od t' x):bnd t d l=bnd t' d l:=by
 cases l with
 |none=>rfl
 |some x=>simp only[bnd];rw[h x (by simp)]
theorem zsR(I:Ifc)(i:Ir){t t':List AV}(h:Store)(hx:∀x,x∈i.ods->od t x=od t' x):evOp I i t h=evOp I i t' h:=by
 cases i
 case build z ps=>simp only[evOp];rw[zuR ps z hx]
 case buildr z ps l=>simp only[evOp];rw[zuR ps z hx]
 case bsl e s sh ps=>simp only[evOp];rw[zo9 ps hx]
 case bslr e s sh ps=>simp only[evOp];rw[zo9 ps hx]
 case bslf e s sh ps=>simp only[evOp];rw[zo9 ps hx]
 case callz f shs _ ps=>simp only[evOp];rw[zn2 (xs:=ps) hx]
 case nil e=>rfl
 case frz e x=>simp only[evOp];rw[hx x (by simp[Ir.ods])]
 case storz e p x=>simp only[evOp];rw[hx p (by simp[Ir.ods]),hx x (by simp[Ir.ods])]
 case nck x=>simp only[evOp];rw[hx x (by simp[Ir.ods])]
 case isn neg x=>simp only[evOp];rw[hx x (by simp[Ir.ods])]
 case boxr ty n x l=>simp only[evOp];rw[hx x (by simp[Ir.ods])]
 case rng x=>simp only[evOp];rw[hx x (by simp[Ir.ods])]
 case nxt x=>simp only[evOp];rw[hx x (by simp[Ir.ods])]
 case bofs e x=>simp only[evOp];rw[hx x (by simp[Ir.ods])]
 case sofb e x=>simp only[evOp];rw[hx x (by simp[Ir.ods])]
 case apps e b x y=>simp only[evOp];rw[hx x (by simp[Ir.ods]),hx y (by simp[Ir.ods])]
 case mkfn f ps=>simp only[evOp];rw[zn2 (xs:=ps) hx]
 case call f shs ps=>simp only[evOp];rw[zn2 (xs:=ps) hx]
 case mx f ps=>simp only[evOp];rw[zn2 (xs:=ps) hx]
 case callv x ps=>simp only[evOp];rw[hx x (by simp[Ir.ods]),zn2 (xs:=ps) fun y hy=>hx y (by simp[Ir.ods,hy])]
 case ssl x lo hi=>
  simp only[evOp];rw[hx x (by simp[Ir.ods]),znR (l:=lo) fun y hy=>hx y (by simp only[Ir.ods,yaJ,yal];exact .inr (.inl hy))];split
  ·rw[znR (l:=hi) fun y hy=>hx y (by simp only[Ir.ods,yaJ,yal];exact .inr (.inr hy))]
  ·rfl
 case sls e x lo hi=>
  have e1:=znR (d:=0) (l:=lo) (t:=t) (t':=t') fun y hy=>hx y (by simp only[Ir.ods,yaJ,yal];exact .inr (.inl hy))
  have e2:=fun d=>znR (d:=d) (l:=hi) (t:=t) (t':=t') fun y hy=>hx y (by simp only[Ir.ods,yaJ,yal];exact .inr (.inr hy))
  simp only[evOp,zsp];rw[hx x (by simp[Ir.ods]),e1];simp only[e2]
 case sls3 x lo hi mx=>
  have e1:=znR (d:=0) (l:=lo) (t:=t) (t':=t') fun y hy=>hx y (by simp only[Ir.ods,yaJ];exact .inr (.inr (.inr hy)))
  simp only[evOp];rw[hx x (by simp[Ir.ods]),hx hi (by simp[Ir.ods]),hx mx (by simp[Ir.ods]),e1]
 case clr e z x=>simp only[evOp];rw[hx x (by simp[Ir.ods])]
 case mov x=>simp only[evOp];rw[hx x (by simp[Ir.ods])]
 case pick c a b=>simp only[evOp];rw[hx c (by simp[Ir.ods]),hx a (by simp[Ir.ods]),hx b (by simp[Ir.ods])]
 case box ty n x=>simp only[evOp];rw[hx x (by simp[Ir.ods])]
 case load ag n x=>simp only[evOp];rw[hx x (by simp[Ir.ods])]
 case un op x=>simp only[evOp];rw[hx x (by simp[Ir.ods])]
 case conv k x=>simp only[evOp];rw[hx x (by simp[Ir.ods])]
 case str x=>simp only[evOp];rw[hx x (by simp[Ir.ods])]
 case fad x off=>simp only[evOp];rw[hx x (by simp[Ir.ods])]
 case fld ag n off x=>simp only[evOp];rw[hx x (by simp[Ir.ods])]
 case len s x=>simp only[evOp];rw[hx x (by simp[Ir.ods])]
 case ext x j=>simp only[evOp];rw[hx x (by simp[Ir.ods])]
 case store n x y=>simp only[evOp];rw[hx x (by simp[Ir.ods]),hx y (by simp[Ir.ods])]
 case bin op c x y=>simp only[evOp];rw[hx x (by simp[Ir.ods]),hx y (by simp[Ir.ods])]
 case eqs neg c x y=>simp only[evOp];rw[hx x (by simp[Ir.ods]),hx y (by simp[Ir.ods])]
 case iadS e x y=>simp only[evOp];rw[hx x (by simp[Ir.ods]),hx y (by simp[Ir.ods])]
 case sidx x y=>simp only[evOp];rw[hx x (by simp[Ir.ods]),hx y (by simp[Ir.ods])]
 case app e b x y=>simp only[evOp];rw[hx x (by simp[Ir.ods]),hx y (by simp[Ir.ods])]
theorem zqa{I:Ifc}{i:Ir}{t:List AV}{h h1:Store}{v:AV}{m:Nat}(hk:kindOf i=.pure)(he:evOp I i t h=some (v,h1,m)):h1=h/\m=0/\∀h',evOp I i t h'=some (v,h',0):=by
  cases i
  case len s x=>
    cases s
    · cases hk
    · simp only[evOp]at he⊢
      (repeat' split at he)<;>first|(cases he;simp_all;done)|(simp_all;done)
  all_goals first
    |(cases hk;done)
    |(simp only[evOp]at he⊢
      (repeat' split at he)<;>first|(cases he;done)|(cases he;simp_all;done)|(simp_all;done))
theorem zdv{h h':Store}{k g:Nat}(hk:∀e,h[k]?=some e->h'[k]?=some e){r:TypeId×Bool×List AV}(hr:zaV h k g=some r):zaV h' k g=some r:=by
 obtain⟨e,ro,xs⟩:=r;have h1:=za2 hr;simp[zaV,hk _ h1]
theorem ziV{o:Ops}{h h':Store}{x:AV}(hk:∀k e,x.key=some k->h[k]?=some e->h'[k]?=some e){xs:List AV}(hr:zbc o h x=some xs):zbc o h' x=some xs:=by
 cases x<;>simp only[zbc]at hr⊢
 case lit=>exact hr
 case sl k g=>
  split at hr
  ·rename_i hh;rw[zdv (hk k · rfl) hh];exact hr
  ·cases hr
 case sub k g lo hi=>
  split at hr
  ·rename_i hh;rw[zdv (hk k · rfl) hh];exact hr
  ·cases hr
 all_goals cases hr
theorem zCl{o:Ops}{h h':Store}{e:TypeId}{x:AV}(hk:∀k e,x.key=some k->h[k]?=some e->h'[k]?=some e){xs:List AV}(hr:zbU o h e x=some xs):zbU o h' e x=some xs:=by
 cases x<;>simp only[zbU]at hr⊢
 case lit=>exact hr
 case sl k g=>
  split at hr
  ·rename_i hh;rw[zdv (hk k · rfl) hh];exact hr
  ·cases hr
 case sub k g lo hi=>
  split at hr
  ·rename_i hh;rw[zdv (hk k · rfl) hh];exact hr
  ·cases hr
 all_goals cases hr
theorem zD4{o:Ops}{h h':Store}{ag:Bool}{n:Nat}{x:AV}(hk:∀k e,x.key=some k->h[k]?=some e->h'[k]?=some e){v:AV}(hr:loadAt o h ag n x=some v):loadAt o h' ag n x=some v:=by
 cases x<;>simp only[loadAt]at hr⊢
 case lptr=>exact hr
 case bptr k off=>
  split at hr
  ·rename_i hh;rw[hk k _ rfl hh];exact hr
  ·cases hr
 case rptr k g i off=>
  split at hr
  ·rename_i hh;rw[zdv (hk k · rfl) hh];exact hr
  ·cases hr
 all_goals cases hr
theorem zoK{I:Ifc}{i:Ir}{t:List AV}{h h1:Store}{v:AV}{m:Nat}(hk:kindOf i=.reads)(he:evOp I i t h=some (v,h1,m)):
  h1=h/\m=0/\∀h',(∀k e,(od t i.main).key=some k->h[k]?=some e->h'[k]?=some e)->evOp I i t h'=some (v,h',0):=by
 cases i
 case load ag n p=>
  simp only[evOp]at he;split at he
  ·rename_i hv;cases he;refine⟨rfl,rfl,fun h' hh=>?_⟩;simp only[evOp];rw[zD4 (x:=od t p) hh hv]
  ·cases he
 case len s x=>
  cases s
  ·simp only[evOp]at he;split at he
   ·rename_i hv;cases he;refine⟨rfl,rfl,fun h' hh=>?_⟩;simp only[evOp];rw[ziV (x:=od t x) hh hv]
   ·cases he
  ·cases hk
 case fad p off=>
  simp only[evOp]at he;split at he
  ·rename_i hp;cases he;refine⟨rfl,rfl,fun h' hh=>?_⟩;simp only[evOp,hp]
  ·rename_i hp;split at he
   ·rename_i hr;cases he;refine⟨rfl,rfl,fun h' hh=>?_⟩;simp only[evOp,hp];rw[zdv (fun e=>hh _ e (by simp[Ir.main,hp,AV.key])) hr]
   ·cases he
  ·rename_i hp;cases he;refine⟨rfl,rfl,fun h' hh=>?_⟩;simp only[evOp,hp]
  ·cases he
 case iadS e x j=>
  simp only[evOp]at he;split at he
  ·rename_i n hn;split at he
   ·rename_i hp;split at he
    ·rename_i hee;split at he
     ·rename_i hl;cases he;refine⟨rfl,rfl,fun h' hh=>?_⟩;simp only[evOp,hp,hn];rw[if_pos hee,hl]
     ·cases he
    ·cases he
   ·rename_i hp;split at he
    ·rename_i hr;split at he
     ·rename_i hee;split at he
      ·rename_i hl;cases he;refine⟨rfl,rfl,fun h' hh=>?_⟩;simp only[evOp,hp,hn];rw[zdv (fun e=>hh _ e (by simp[Ir.main,hp,AV.key])) hr];simp only[];rw[if_pos hee,hl]
      ·cases he
     ·cases he
    ·cases he
   ·cases he
  ·cases he
 case sls3 x lo hi mx=>
  simp only[evOp]at he;split at he
  ·rename_i xs hxs;split at he
   ·rename_i a b c ha hb hc;split at he
    ·rename_i h1 h2;cases he;refine⟨rfl,rfl,fun h' hh=>?_⟩;simp only[evOp];rw[ziV (x:=od t x) hh hxs];simp only[ha,hb,hc,h1,h2]
    ·cases he
   ·cases he
  ·cases he
 case sls e x lo hi=>
  simp only[evOp]at he;split at he
  ·rename_i k g l0 h0 hp;split at he
   ·rename_i hs;cases he;refine⟨rfl,rfl,fun h' hh=>?_⟩;simp only[evOp,hp]
    have:zsp I.o h' t e k g l0 h0 lo hi=some v:=by
     unfold zsp at hs⊢;split at hs
     ·rename_i hr;rw[zdv (fun e=>hh _ e (by simp[Ir.main,hp,AV.key])) hr];exact hs
     ·cases hs
    rw[this]
   ·cases he
  ·rename_i hnosub;split at he
   case h_2=>cases he
   rename_i xs hxs;split at he
   ·rename_i a b ha hb;split at he
    ·rename_i ys hys;split at he
     ·rename_i hp;split at he
      ·rename_i hee;cases he;refine⟨rfl,rfl,fun h' hh=>?_⟩;simp only[evOp];rw[ziV (x:=od t x) hh hxs];simp only[ha,hb,hys,hp];rw[if_pos hee]
      ·rename_i hee;split at he
       ·cases he;refine⟨rfl,rfl,fun h' hh=>?_⟩;simp only[evOp];rw[ziV (x:=od t x) hh hxs];simp only[ha,hb,hys,hp];rw[if_neg hee]
       ·cases he
     ·rename_i hp;split at he
      ·rename_i hr;split at he
       ·rename_i hee;cases he;refine⟨rfl,rfl,fun h' hh=>?_⟩;simp only[evOp];rw[ziV (x:=od t x) hh hxs];simp only[ha,hb,hys,hp];rw[zdv (fun e=>hh _ e (by simp[Ir.main,hp,AV.key])) hr];simp only[];rw[if_pos hee]
       ·cases he
      ·cases he
     ·cases he
    ·cases he
   ·cases he
 case nck p=>
  simp only[evOp]at he;split at he
  ·rename_i hp;cases he;exact⟨rfl,rfl,fun h' hh=>by simp only[evOp,hp]⟩
  ·rename_i k g i o hp;split at he
   ·rename_i hr;cases he;refine⟨rfl,rfl,fun h' hh=>?_⟩
    cases hrr:zaV h k g with
    |none=>exact absurd hrr hr
    |some r=>
     simp only[evOp,hp];rw[zdv (fun e=>hh _ e (by simp[Ir.main,hp,AV.key])) hrr];simp
   ·cases he
  ·rename_i hp;cases he;exact⟨rfl,rfl,fun h' hh=>by simp only[evOp,hp]⟩
  ·cases he
 case sofb e x=>
  simp only[evOp]at he;split at he
  ·rename_i xs hxs;split at he
   ·rename_i s hs;cases he;refine⟨rfl,rfl,fun h' hh=>?_⟩;simp only[evOp];rw[zCl (x:=od t x) hh hxs];simp only[hs]
   ·cases he
  ·cases he
 all_goals cases hk
theorem zsI{l:List Nat}(h:zkJ l=0):l=[]:=by cases l<;>simp_all[zkJ]
theorem zJT{l:List Nat}(h:zoH l<=1):l=[]:=by cases l<;>simp_all[zoH]<;>omega
theorem zB4{l:List Nat}(h:zsJ l<=1):l=[]:=by cases l<;>simp_all[zsJ]
def Boxes(h h1:Store):Prop:=h.length<=h1.length/\∀k,k<h.length->∀t cs,(h[k]?=some (Ent.box t cs)<->h1[k]?=some (Ent.box t cs))
theorem Boxes.refl(h:Store):Boxes h h:=⟨yag _,fun _ _ _ _=>Iff.rfl⟩
theorem Boxes.trans{a b c:Store}(x:Boxes a b)(y:Boxes b c):Boxes a c:=⟨yaO x.1 y.1,fun k hk t cs=>(x.2 k hk t cs).trans (y.2 k (yaW hk x.1) t cs)⟩
theorem Boxes.append(h new:Store):Boxes h (h++new):=⟨by simp,fun k hk t cs=>by rw[yah hk]⟩
theorem Boxes.set{h:Store}{k:Nat}{e:TypeId}{g:Nat}{ro:Bool}{xs:List AV}(hk:h[k]?=some (.row e g ro xs))(e':TypeId)(g':Nat)(ro':Bool)(xs':List AV):Boxes h (h.set k (.row e' g' ro' xs')):=by
 refine⟨by simp,fun j hj t cs=>?_⟩;by_cases hjk:j=k
 ·subst hjk;rw[hk,yaq hj];constructor<;>intro h<;>cases h
 ·rw[yas (ycb hjk)]
theorem Boxes.shut(ks:List Nat):∀(h:Store),Boxes h (Go.Ab.shut ks h):=by
 intro h;obtain⟨h1,h2⟩:=zfw ks h;refine⟨by rw[h1];exact yag _,fun k hk t cs=>?_⟩;rcases h2 k with h3|⟨e,g,ro,xs,h3,h4,_⟩
 ·rw[h3]
 ·rw[h3,h4];constructor<;>intro h<;>cases h
theorem zK0{new:Store}:∀(ks:List Nat) (h:Store),(∀k,k∈ks->h.length<=k)->∃new',Go.Ab.shut ks (h++new)=h++new':=by
 intro ks
 induction ks generalizing new with
 |nil=>intro h _;exact⟨new,rfl⟩
 |cons k ks ih=>
  intro h hk
  have h1:∃n',zdw k (h++new)=h++n':=by
   unfold zdw;split
   ·rename_i e g ro xs hx;exact⟨new.set (k-h.length) (.row e g true xs),by rw[List.set_append];simp[Nat.not_lt.2 (hk k (by simp))]⟩
   ·exact⟨new,rfl⟩
  obtain⟨n',e⟩:=h1;show∃new',Go.Ab.shut ks (zdw k (h++new))=h++new';rw[e];exact ih h (fun j hj=>hk j (by simp[hj]))
theorem zB7{I:Ifc}{f:FuncId}{args:List AV}{h h1:Store}{v:AV}{m:Nat}(he:zde I f args h=some (v,h1,m))(hm:m<=1):Boxes h h1/\(m=0->∃new,h1=h++new):=by
 unfold zde at he;split at he
 ·cases he
 ·rename_i args' ix hl;split at he
  ·cases he
  ·split at he
   ·cases he
   ·split at he
    ·cases he
    ·rename_i h' new hwb;split at he
     ·split at he
      ·simp only[ybh,ybs]at he;obtain⟨_,rfl,rfl⟩:=he;have hix:=zB4 hm;subst hix;simp only[zbQ]at hwb;cases hwb;exact⟨Boxes.refl _,fun _=>⟨[],by simp⟩⟩
      ·cases he
     ·split at he
      ·simp only[ybh,ybs]at he;obtain⟨_,rfl,rfl⟩:=he;have hix:=zB4 (l:=ix) (by omega);subst hix;simp only[zbQ]at hwb;cases hwb;refine⟨(Boxes.shut _ _).trans (Boxes.append _ _),fun h0=>?_⟩;have har:=zsI (l:=refs args) (by simp[zsJ]at h0;exact h0);exact⟨_,by rw[har];rfl⟩
      ·cases he
theorem zCZ{o:Ops}{p:Prim}{args:List AV}{h h1:Store}{v:AV}{m:Nat}(he:zcQ o p args h=some (v,h1,m)):Boxes h h1/\(m=0->∃new,h1=h++new):=by
  unfold zcQ at he
  (repeat' split at he)<;>first
    |(cases he;done)
    |(cases he;exact⟨Boxes.append _ _,fun _=>⟨_,rfl⟩⟩)
    |(cases he
      refine⟨?_,fun h=>by cases h⟩;have hr:=(by assumption:zaV _ _ _=some (_,false,_))
      exact Boxes.set (za2 hr) _ _ _ _)
    |(simp only[yap]at he
      obtain⟨_,_,he⟩:=he;cases he
      exact⟨Boxes.refl _,fun _=>⟨[],by simp⟩⟩)
theorem zCb{I:Ifc}{f:FuncId}{args:List AV}{h h1:Store}{v:AV}{m:Nat}(he:zfg I f args h=some (v,h1,m))(hm:m<=1):Boxes h h1/\(m=0->∃new,h1=h++new):=by
 unfold zfg zlD at he;generalize zcE h 64 (rfs args) []=ix at he;split at he
 ·cases he
 ·split at he
  ·cases he
  ·split at he
   ·cases he
   ·split at he
    ·cases he
    ·split at he
     ·cases he
     ·rename_i h' hb;injection he with he;injection he with _ he;injection he with e1 e2;subst e1 e2;have hix:=zJT hm;subst hix;simp only[zjL]at hb;injection hb with hb;subst hb;exact⟨Boxes.append _ _,fun _=>⟨_,rfl⟩⟩
theorem zpc{I:Ifc}{f:FuncId}{args:List AV}{h h1:Store}{v:AV}{m:Nat}(he:zb5 I f args h=some (v,h1,m))(hm:m<=1):Boxes h h1/\(m=0->∃new,h1=h++new):=by
 unfold zb5 at he;split at he
 ·exact zB7 he hm
 ·exact zCb he hm
 ·exact zCZ he
theorem zIX(l:List (Nat×TypeId×Bool)):∀{cs cs':List AV} {h h':Store},zs6 l cs h=some (cs',h')->∃new,h'=h++new:=by
 induction l with
 |nil=>intro cs cs' h h' hn;cases hn;exact⟨[],by simp⟩
 |cons x r ih=>
  obtain⟨off,e,own⟩:=x;intro cs cs' h h' hn;simp only[zs6]at hn;split at hn
  ·split at hn
   ·obtain⟨new,rfl⟩:=ih hn;exact⟨_,yao _ _ _⟩
   ·exact ih hn
  ·cases hn
theorem zsQ{I:Ifc}{i:Ir}{t:List AV}{h h1:Store}{v:AV}{m:Nat}(he:evOp I i t h=some (v,h1,m))(hm:m<=1):Boxes h h1/\(m=0->∃new,h1=h++new):=by
 cases hk:kindOf i with
 |pure=>rw[(zqa hk he).1];exact⟨Boxes.refl _,fun _=>⟨[],by simp⟩⟩
 |reads=>rw[(zoK hk he).1];exact⟨Boxes.refl _,fun _=>⟨[],by simp⟩⟩
 |acts=>
  cases i
  case call f shs args=>exact zpc he hm
  case callz f shs kz args=>
   simp only[evOp]at he;split at he
   ·rename_i v0 h0 m0 hc;split at he
    ·simp only[ybh,ybs]at he;obtain⟨_,rfl,rfl⟩:=he;obtain⟨b1,b2⟩:=zpc hc (by omega);refine⟨b1.trans (Boxes.shut _ _),fun hz=>?_⟩;obtain⟨new,rfl⟩:=b2 (by omega);have hf:=zsI (l:=(zd2 (h++new) kz v0).filter fun k=>decide (k<h.length)) (by omega);refine zK0 _ _ fun k hk=>?_
     have:=List.filter_eq_nil_iff.1 hf k hk;simpa using this
    ·cases he
   ·cases he
  case callv x args=>
   simp only[evOp]at he;split at he
   ·exact zpc he hm
   ·cases he
  case box ty n x=>
   simp only[evOp]at he;split at he
   ·cases he;exact⟨Boxes.append _ _,fun _=>⟨_,rfl⟩⟩
   ·cases he
  case store n p x=>
   simp only[evOp]at he;split at he
   ·rename_i h' hst;cases he;unfold storeAt at hst;split at hst
    ·split at hst
     ·rename_i hp;rw[hp]at hm;exact absurd (yaO (Nat.le_add_right 3 _) hm) (by decide)
     ·rename_i hp;split at hst
      ·split at hst
       ·split at hst
        ·rename_i hr;split at hst
         ·split at hst
          ·cases hst;exact⟨(Boxes.shut _ _).trans (Boxes.set (za2 hr) _ _ _ _),fun hz=>by simp[zoI,hp]at hz⟩
          ·cases hst
         ·cases hst
        ·cases hst
       ·cases hst
      ·cases hst
     ·cases hst
    ·cases hst
   ·cases he
  case app e b x y=>
   simp only[evOp]at he;split at he
   ·split at he
    ·split at he
     ·cases he;exact⟨Boxes.append _ _,fun _=>⟨_,rfl⟩⟩
     ·cases he
    ·split at he
     ·split at he
      ·cases he;exact⟨Boxes.refl _,fun _=>⟨[],by simp⟩⟩
      ·cases he
     ·cases he
    ·split at he
     ·rename_i hr;split at he
      ·split at he
       ·cases he;exact⟨Boxes.set (za2 hr) _ _ _ _,fun h=>by cases h⟩
       ·cases he
      ·cases he
     ·cases he
    ·split at he
     ·rename_i hs;cases he;unfold zuA at hs;split at hs
      ·rename_i hr;split at hs
       ·split at hs
        ·cases hs
        ·split at hs
         ·cases hs
         ·split at hs
          ·cases hs
          ·cases hs;exact⟨Boxes.set (za2 hr) _ _ _ _,fun h=>by cases h⟩
       ·cases hs
      ·cases hs
     ·cases he
    ·cases he
   ·cases he
  case clr e z x=>
   simp only[evOp]at he;split at he
   ·split at he
    ·rename_i hr;split at he
     ·split at he
      ·cases he;exact⟨Boxes.set (za2 hr) _ _ _ _,fun h=>by cases h⟩
      ·cases he
     ·cases he
    ·cases he
   ·cases he
  case nil e=>simp only[evOp]at he;cases he;exact⟨Boxes.append _ _,fun _=>⟨_,rfl⟩⟩
  case storz e p x=>
   simp only[evOp]at he
   (repeat' split at he)<;>first
    |(cases he;done)
    |(cases he;exact absurd (yaO (Nat.le_add_right 3 _) hm) (by decide))
  case frz e x=>
   simp only[evOp]at he;split at he
   ·simp only[ybh,ybs]at he;obtain⟨_,rfl,rfl⟩:=he;refine⟨Boxes.shut _ _,fun h0=>⟨[],?_⟩⟩;rw[zsI h0];simp[Go.Ab.shut]
   ·cases he
  case bslr e n sh ps=>
   simp only[evOp]at he;split at he
   ·cases he;exact⟨Boxes.append _ _,fun _=>⟨_,rfl⟩⟩
   ·cases he
  case buildr z ps l=>
   simp only[evOp]at he;split at he
   ·split at he
    ·rename_i cs' h' hn;cases he;obtain⟨new,rfl⟩:=zIX l hn;exact⟨Boxes.append _ _,fun _=>⟨_,rfl⟩⟩
    ·cases he
   ·cases he
  case boxr ty n x l=>
   simp only[evOp]at he;split at he
   ·split at he
    ·cases he;omega
    ·cases he
   ·cases he
  case rng x=>
   simp only[evOp]at he;split at he
   ·cases he;exact⟨Boxes.append _ _,fun _=>⟨_,rfl⟩⟩
   ·cases he
  case nxt x=>
   simp only[evOp]at he;split at he
   ·split at he
    ·split at he
     ·cases he;omega
     ·cases he;omega
    ·cases he
   ·cases he
  case apps e b x y=>
   simp only[evOp]at he;split at he
   ·split at he
    ·split at he
     ·cases he;exact⟨Boxes.append _ _,fun _=>⟨_,rfl⟩⟩
     ·cases he
    ·split at he
     ·rename_i hr;split at he
      ·split at he
       ·cases he;exact⟨Boxes.set (za2 hr) _ _ _ _,fun h=>by cases h⟩
       ·cases he
      ·cases he
     ·cases he
    ·cases he
   ·cases he
  case len s x=>cases s<;>cases hk
  all_goals cases hk
theorem zKz{k:Nat}:∀{l:List Nat},k∈l->(zoP l).testBit k=true:=by
 intro l
 induction l with
 |nil=>intro h;cases h
 |cons x r ih=>
  intro h;simp only[zoP,Nat.testBit_or,yaY];rcases yaJ.1 h with rfl|h
  ·exact .inl (Nat.testBit_two_pow_self)
  ·exact .inr (ih h)
def KBoxes(ks:Nat)(h h1:Store):Prop:=h.length<=h1.length/\∀k,ks.testBit k=true->k<h.length->∀t cs,(h[k]?=some (Ent.box t cs)<->h1[k]?=some (Ent.box t cs))
theorem KBoxes.refl(ks:Nat)(h:Store):KBoxes ks h h:=⟨yag _,fun _ _ _ _ _=>Iff.rfl⟩
theorem KBoxes.trans{ks:Nat}{a b c:Store}(x:KBoxes ks a b)(y:KBoxes ks b c):KBoxes ks a c:=⟨yaO x.1 y.1,fun k hb hk t cs=>(x.2 k hb hk t cs).trans (y.2 k hb (yaW hk x.1) t cs)⟩
theorem Boxes.ks{h h1:Store}(b:Boxes h h1)(ks:Nat):KBoxes ks h h1:=⟨b.1,fun k _ hk t cs=>b.2 k hk t cs⟩
theorem zxn(l:List Nat):zkJ l<=1:=by cases l<;>simp[zkJ]
theorem zz9(l:List Nat):zsJ l<=2:=by cases l<;>simp[zsJ]
theorem zB8{I:Ifc}{f:FuncId}{args:List AV}{h h1:Store}{v:AV}{m:Nat}(he:zde I f args h=some (v,h1,m)):m<=2:=by
 unfold zde at he
 (repeat' split at he)<;>first
  |(cases he;done)
  |(cases he;exact zz9 _)
  |(cases he;exact Nat.max_le.2 ⟨zz9 _,yaO (zxn _) (by omega)⟩)
theorem zC0{o:Ops}{p:Prim}{args:List AV}{h h1:Store}{v:AV}{m:Nat}(he:zcQ o p args h=some (v,h1,m)):m<=2:=by
  unfold zcQ at he
  (repeat' split at he)<;>first
    |(cases he;done)
    |(cases he;omega)
    |(simp only[yap]at he
      obtain⟨_,_,he⟩:=he;cases he
      omega)
theorem zCa{I:Ifc}{f:FuncId}{args:List AV}{h h1:Store}{v:AV}{m ks:Nat}(he:zfg I f args h=some (v,h1,m))(h3:3<=m)(hd:(m-3) &&& ks=0):KBoxes ks h h1:=by
 unfold zfg zlD at he;generalize zcE h 64 (rfs args) []=ix at he;split at he
 ·cases he
 ·split at he
  ·cases he
  ·rename_i s hs;split at he
   ·cases he
   ·rename_i hnd;have hnd:=zs7 hnd;split at he
    ·cases he
    ·split at he
     ·cases he
     ·rename_i h' hb;injection he with he;injection he with _ he;injection he with e1 e2;subst e1 e2;obtain⟨hsl,hsx⟩:=zqG ix hs
      have hlt:∀k,k∈ix->k<h.length:=fun k hk=>by
       obtain⟨j,hj,rfl⟩:=ybK hk;obtain⟨e,_,h1,_⟩:=hsx j _ (yad hj);exact(yae.1 h1).1
      obtain⟨_,hlen,hout,_,_⟩:=zyq ix hb hnd hlt;refine⟨by omega,fun k hk hkl t cs=>?_⟩
      have hkx:k∉ix:=fun hm=>by
       have hb1:=zKz hm
       cases ix with
       |nil=>cases hm
       |cons x r=>
        have e3:zoH (x::r)-3=zoP (x::r):=by simp[zoH]
        rw[e3]at hd;have:((zoP (x::r)) &&& ks).testBit k=true:=by rw[Nat.testBit_and,hb1,hk];rfl
        rw[hd]at this;simp at this
      rw[hout k hkl hkx]
theorem zpb{I:Ifc}{f:FuncId}{args:List AV}{h h1:Store}{v:AV}{m ks:Nat}(he:zb5 I f args h=some (v,h1,m))(h3:3<=m)(hd:(m-3) &&& ks=0):KBoxes ks h h1:=by
 unfold zb5 at he;split at he
 ·have:=zB8 he;omega
 ·exact zCa he h3 hd
 ·have:=zC0 he;omega
theorem zGn{I:Ifc}{i:Ir}{t:List AV}{h h1:Store}{v:AV}{m ks:Nat}(he:evOp I i t h=some (v,h1,m))(h3:3<=m)(hd:(m-3) &&& ks=0):KBoxes ks h h1:=by
  cases hk:kindOf i with
  |pure=>have:=(zqa hk he).2.1;omega
  |reads=>have:=(zoK hk he).2.1;omega
  |acts=>
   cases i
   case call f shs args=>exact zpb he h3 hd
   case callz f shs kz args=>
     simp only[evOp]at he;split at he
     · rename_i v0 h0 m0 hc
       split at he
       · simp only[ybh,ybs]at he
         obtain⟨_,rfl,rfl⟩:=he;have hb:=zxn ((zd2 h0 kz v0).filter fun k=>decide (k<h.length));have hm0:3<=m0:=by omega
         rw[show max m0 (zkJ ((zd2 h0 kz v0).filter fun k=>decide (k<h.length)))=m0 from by omega]at hd;exact(zpb hc hm0 hd).trans ((Boxes.shut _ _).ks ks)
       · cases he
     · cases he
   case callv x args=>
     simp only[evOp]at he;split at he
     · exact zpb he h3 hd
     · cases he
   case len s x=>cases s<;>cases hk
   case frz e x=>
     simp only[evOp]at he;split at he
     · simp only[ybh,ybs]at he
       obtain⟨_,_,rfl⟩:=he;have:=zxn (zeo (od t x));omega
     · cases he
   case storz e p x=>
     simp only[evOp]at he;split at he
     · rename_i b off hp
       split at he
       · rename_i h' hst
         split at he
         · rename_i h2 hn
           cases he;have e3:zoI (.bptr b off)-3=2^b:=by simp[zoI]
           rw[e3]at hd
           have set1:∀k,ks.testBit k=true->b≠k:=fun k hk e=>by
             subst e;have:(2^b &&& ks).testBit b=true:=by simp[Nat.testBit_and,hk,yb3]
             rw[hd]at this;simp at this
           have kb1:KBoxes ks h h':=by
             unfold storeAt at hst;split at hst
             · simp only at hst
               split at hst
               · split at hst
                 · cases hst
                   exact⟨by simp,fun k hk hl t' cs'=>by rw[yas (set1 k hk)]⟩
                 · cases hst
               · cases hst
             · cases hst
           have kb2:KBoxes ks h' h1:=by
             simp only[zpn]at hn
             (repeat' split at hn)<;>first
               |(cases hn;done)
               |(cases hn;exact⟨by simp,fun k hk hl t' cs'=>by rw[yas (set1 k hk)]⟩)
           exact kb1.trans kb2
         · cases he
       · cases he
     · cases he
   case store n p x=>
     simp only[evOp]at he;split at he
     · rename_i h' hst
       cases he;unfold storeAt at hst;split at hst
       · split at hst
         · rename_i b off hp
           split at hst
           · split at hst
             · cases hst
               rw[hp]at hd;have e3:zoI (.bptr b off)-3=2^b:=by simp[zoI]
               rw[e3]at hd;refine⟨by simp,fun k hk hl t' cs'=>?_⟩
               have hbk:b≠k:=fun e=>by
                 subst e;have:(2^b &&& ks).testBit b=true:=by simp[Nat.testBit_and,hk,yb3]
                 rw[hd]at this;simp at this
               rw[yas hbk]
             · cases hst
           · cases hst
         · rename_i hp;rw[hp]at h3;simp[zoI]at h3
         · cases hst
       · cases hst
     · cases he
   all_goals first
     |(cases hk;done)
     |(simp only[evOp]at he
       (repeat' split at he)<;>first
         |(cases he;done)
         |(cases he;omega))
theorem zGo{I:Ifc}{i:Ir}{t:List AV}{h h1:Store}{v:AV}(he:evOp I i t h=some (v,h1,0)):∃new,h1=h++new:=(zsQ he (by omega)).2 rfl
theorem zMH{I:Ifc}{md:Nat}(l:List Ip):∀{s0 sn:St},zbl I md l s0=some sn->∃S:Nat->St,S 0=s0/\S l.length=sn/\∀(j:Nat) (ip:Ip),l[j]?=some ip->Stp I md ip (S j) (S (j+1)):=by
 induction l with
 |nil=>intro s0 sn h;simp only[zbl]at h;cases h;exact⟨fun _=>s0,rfl,rfl,fun j ip h=>by simp at h⟩
 |cons ip r ih=>
  intro s0 sn h;obtain⟨s1,st,h1⟩:=zhj h;obtain⟨S,h2,h3,h4⟩:=ih h1;refine⟨fun|0=>s0|n+1=>S n,rfl,h3,fun j ip' hj=>?_⟩
  cases j with
  |zero=>simp at hj;subst hj;show Stp I md ip s0 (S 0);rw[h2];exact st
  |succ j=>simp at hj;exact h4 j ip' hj
structure Tab(b:Array Nat)(l:List Ip):Prop where
 low:∀(j:Nat) (y:Ip),l[j]?=some y->b.getD j 0<2^j
 main:∀(j:Nat) (y:Ip),l[j]?=some y->y.i.mainOk=true
 pair:∀(i j:Nat) (x y:Ip),i<j->l[i]?=some x->l[j]?=some y->(x.d=none\/x.d≠y.d)/\((b.getD j 0).testBit i=true\/(apartIp x y=true/\¬(kindOf x.i=.acts/\kindOf y.i=.acts)))
 uk:∀(j:Nat) (y:Ip),l[j]?=some y->(kindOf y.i=.acts->y.u<=1)/\(kindOf y.i=.pure->y.u=0)/\(kindOf y.i=.reads->y.u=0\/y.u=2)
 u:∀(i j:Nat) (x y:Ip),l[i]?=some x->l[j]?=some y->i≠j->kindOf x.i=.acts->kindOf y.i=.reads->(b.getD j 0).testBit i=false->(b.getD i 0).testBit j=false->x.u=1/\y.u=2
theorem zwS{b:Array Nat}{ips:List Ip}(h:zuO b ips=true):Tab b (zfZ b ips):=by
 have hm:∀(j:Nat) (y:Ip),(zfZ b ips)[j]?=some y->∃y0,ips[j]?=some y0/\y.d=y0.d/\y.i=y0.i/\y.g=y0.g/\y.u=(match kindOf y0.i with
  | .acts=>if ips.zipIdx.any (fun(z,k)=>decide (kindOf z.i=.reads)&&zij b j k)then 1 else 0
  | .reads=>if ips.zipIdx.any (fun(z,k)=>decide (kindOf z.i=.acts)&&zij b j k)then 2 else 0
  | .pure=>0):=by
  intro j y hy;unfold zfZ at hy;simp only[ybn,yap]at hy;obtain⟨⟨y0,k⟩,hz,rfl⟩:=hy;have hz':∃a,ips[j]?=some a/\a=y0/\j=k:=by simpa[ybZ]using hz
  obtain⟨y1,h1,e1,e2⟩:=hz';subst e2;rw[e1]at h1;exact⟨y0,h1,rfl,rfl,rfl,rfl⟩
 have mz:∀{j:Nat} {y:Ip},ips[j]?=some y->(y,j)∈ips.zipIdx:=fun hj=>ybA.2 (by simpa using hj)
 unfold zuO at h;rw[yaS]at h
 have h1:∀{j:Nat} {y:Ip},ips[j]?=some y->b.getD j 0<2^j/\y.i.mainOk=true/\∀{i:Nat} {x:Ip},ips[i]?=some x->i<j->(x.d=none\/x.d≠y.d)/\((b.getD j 0).testBit i=true\/(apartIp x y=true/\¬(kindOf x.i=.acts/\kindOf y.i=.acts))):=by
  intro j y hj;have h2:=h (y,j) (mz hj);simp only[yaB,decide_eq_true_eq,yaS]at h2;refine⟨h2.1.1,h2.1.2,fun{i x} hi hij=>?_⟩;have h3:=h2.2 (x,i) (mz hi);simp only[hij,yaY,yaB]at h3;rcases h3 with h3|⟨h3,h4⟩
  ·simp at h3
  ·refine⟨h3.imp (by simp) (by simp),h4.imp id fun h5=>⟨h5.1,?_⟩⟩;have:=h5.2;simp only[Bool.not_eq_true',Bool.and_eq_false_iff,decide_eq_false_iff_not]at this;intro hh;exact this.elim (fun f=>f hh.1) (fun f=>f hh.2)
 refine⟨fun j y hy=>?_,fun j y hy=>?_,fun i j x y hij hx hy=>?_,fun j y hy=>?_,fun i j x y hx hy hne hkx hky hb1 hb2=>?_⟩
 ·obtain⟨y0,h0,_⟩:=hm j y hy;exact(h1 h0).1
 ·obtain⟨y0,h0,_,e,_⟩:=hm j y hy;rw[e];exact(h1 h0).2.1
 ·obtain⟨x0,hx0,xd,xi,xg,_⟩:=hm i x hx;obtain⟨y0,hy0,yd,yi,yg,_⟩:=hm j y hy;have:=(h1 hy0).2.2 hx0 hij;rw[xd,yd,xi,yi];have hap:apartIp x y=apartIp x0 y0:=by simp only[apartIp,Ip.sees,xd,yd,xi,yi,xg,yg]
  rw[hap];exact this
 ·obtain⟨y0,h0,_,e,_,hu⟩:=hm j y hy;rw[e,hu]
  cases hk:kindOf y0.i with
  |pure=>exact⟨(fun h=>by cases h),fun _=>rfl,(fun h=>by cases h)⟩
  |reads=>exact⟨(fun h=>by cases h),(fun h=>by cases h),fun _=>by simp only[];split<;>simp⟩
  |acts=>exact⟨fun _=>by simp only[];split<;>simp,(fun h=>by cases h),(fun h=>by cases h)⟩
 ·obtain⟨x0,hx0,xd,xi,xg,xu⟩:=hm i x hx;obtain⟨y0,hy0,yd,yi,yg,_⟩:=hm j y hy;rw[xi]at hkx;rw[yi]at hky;rw[xu,hkx]
  have hyu:y.u=(match kindOf y0.i with
   | .acts=>if ips.zipIdx.any (fun(z,k)=>decide (kindOf z.i=.reads)&&zij b j k)then 1 else 0
   | .reads=>if ips.zipIdx.any (fun(z,k)=>decide (kindOf z.i=.acts)&&zij b j k)then 2 else 0
   | .pure=>0):=by
   obtain⟨y1,hy1,_,_,_,yu⟩:=hm j y hy;rw[hy0]at hy1;cases hy1;exact yu
  rw[hyu,hky];refine⟨if_pos ?_,if_pos ?_⟩
  ·rw[List.any_eq_true];refine⟨(y0,j),mz hy0,?_⟩;show(decide (kindOf y0.i=.reads)&&zij b i j)=true;unfold zij;simp only[hky,hb1,hb2];simp[hne]
  ·rw[List.any_eq_true];refine⟨(x0,i),mz hx0,?_⟩;show(decide (kindOf x0.i=.acts)&&zij b j i)=true;unfold zij;simp only[hkx,hb1,hb2];simp[ycb hne]
theorem zAP{P:Program}{ops:Array Oper}{b:Array Nat}{l:List Ip}(h:zmJ P ops l):zmJ P ops (zfZ b l):=by
 refine⟨by simpa[zfZ]using h.1,fun j ip hj=>?_⟩;unfold zfZ at hj;simp only[ybn,yap]at hj;obtain⟨⟨y0,k⟩,hz,rfl⟩:=hj;have hz':∃a,l[j]?=some a/\a=y0/\j=k:=by simpa[ybZ]using hz
 obtain⟨y1,h1,e1,e2⟩:=hz';subst e2;rw[e1]at h1;obtain⟨o,ho,hc,hd,hg⟩:=h.2 j y0 h1;exact⟨o,ho,hc,hd,hg⟩
def zf8(acc:Array Nat)(o:Oper):Nat:=o.after.foldl (fun s e=>if yb1 .any e then s ||| 2^e.on ||| acc.getD e.on 0 else s) 0
theorem zz8(l:List Oper):∀(acc:Array Nat),(l.foldl (fun acc o=>acc.push (zf8 acc o)) acc).size=acc.size+l.length/\
  (∀j,j<acc.size->(l.foldl (fun acc o=>acc.push (zf8 acc o)) acc).getD j 0=acc.getD j 0)/\
  ∀k o,l[k]?=some o->∃acc':Array Nat,acc'.size=acc.size+k/\(l.foldl (fun acc o=>acc.push (zf8 acc o)) acc).getD (acc.size+k) 0=zf8 acc' o/\
   ∀j,j<acc'.size->acc'.getD j 0=(l.foldl (fun acc o=>acc.push (zf8 acc o)) acc).getD j 0:=by
 induction l with
 |nil=>intro acc;exact⟨rfl,fun _ _=>rfl,fun k o h=>by simp at h⟩
 |cons x l ih=>
  intro acc;obtain⟨h1,h2,h3⟩:=ih (acc.push (zf8 acc x))
  have keep:∀j,j<acc.size->(acc.push (zf8 acc x)).getD j 0=acc.getD j 0:=fun j hj=>by
   simp[Array.getElem?_push,Nat.ne_of_lt hj]
  refine⟨by simp only[ybE,yav];rw[h1];simp;omega,fun j hj=>?_,fun k o hk=>?_⟩
  ·simp only[ybE];rw[h2 j (by simp;omega),keep j hj]
  ·cases k with
   |zero=>
    simp at hk;subst hk;refine⟨acc,rfl,?_,fun j hj=>?_⟩
    ·simp only[ybE,yce];rw[h2 acc.size (by simp)];simp
    ·simp only[ybE];rw[h2 j (by simp;omega),keep j hj]
   |succ k=>
    simp at hk;obtain⟨acc',a1,a2,a3⟩:=h3 k o hk;simp only[Array.size_push]at a1 a2;refine⟨acc',by omega,?_,a3⟩;simp only[ybE];rw[show acc.size+(k+1)=acc.size+1+k by omega];exact a2
theorem zGd{acc:Array Nat}{o:Oper}{i:Nat}(h:(zf8 acc o).testBit i=true):∃e,e∈o.after/\yb1 .any e=true/\(i=e.on\/(acc.getD e.on 0).testBit i=true):=by
 have key:∀(l:List Edge) (s:Nat),(l.foldl (fun s e=>if yb1 .any e then s ||| 2^e.on ||| acc.getD e.on 0 else s) s).testBit i=true->s.testBit i=true\/∃e,e∈l/\yb1 .any e=true/\(i=e.on\/(acc.getD e.on 0).testBit i=true):=by
  intro l
  induction l with
  |nil=>intro s h;exact .inl h
  |cons e l ih=>
   intro s h;simp only[ybE]at h;rcases ih _ h with h1|⟨e',he',hb,hh⟩
   ·split at h1
    ·rename_i hb;simp only[Nat.testBit_or,yaY,yb3,decide_eq_true_eq]at h1;rcases h1 with(h1|h1)|h1
     ·exact .inl h1
     ·exact .inr ⟨e,by simp,hb,.inl h1.symm⟩
     ·exact .inr ⟨e,by simp,hb,.inr h1⟩
    ·exact .inl h1
   ·exact .inr ⟨e',by simp[he'],hb,hh⟩
 unfold zf8 at h;rw[<-ybV]at h;rcases key _ _ h with h|⟨e,he,hb,hh⟩
 ·simp at h
 ·exact⟨e,by simpa using he,hb,hh⟩
theorem zGf{ops:Array Oper}{j i:Nat}{o:Oper}(ho:ops[j]?=some o)(h:((yat ops).getD j 0).testBit i=true):
  ∃e,e∈o.after/\yb1 .any e=true/\(i=e.on\/((yat ops).getD e.on 0).testBit i=true):=by
 have hb:yat ops=ops.toList.foldl (fun acc o=>acc.push (zf8 acc o)) #[]:=by
  unfold yat;rw[<-ybV];rfl
 obtain⟨h1,h2,h3⟩:=zz8 ops.toList #[];obtain⟨acc',a1,a2,a3⟩:=h3 j o (by simpa using ho);rw[<-hb]at a2 a3;simp only[Array.size_empty,yaQ]at a1 a2;rw[a2]at h;obtain⟨e,he,hbd,hh⟩:=zGd h;refine⟨e,he,hbd,hh.imp id fun hh=>?_⟩;by_cases hlt:e.on<acc'.size
 ·rw[a3 _ hlt]at hh;exact hh
 ·rw[ybT,Array.getElem?_eq_none (by omega)]at hh;simp at hh
theorem zsg{t:List AV}{d:Option Nat}{v:AV}{x:Nat}(h:d≠some x):(put t d v)[x]?=t[x]?:=by
 cases d with
 |none=>rfl
 |some d=>exact yas (fun e=>h (by rw[e]))
theorem zlL(t:List AV)(d:Option Nat)(v:AV):(put t d v).length=t.length:=by
 cases d<;>simp[put]
theorem zPV{t t':List AV}{x:Nat}{v:AV}(h:t.length=t'.length):(put t (some x) v)[x]?=(put t' (some x) v)[x]?:=by
 simp[put,List.getElem?_set,h]
theorem zBT{md:Nat}{ip:Ip}{m:Nat}{s:St}{h1:Store}(h:okA md ip m s h1=true):okU md ip m s h1=true:=(Bool.and_eq_true_iff.1 h).1
theorem zMC{md:Nat}{ip:Ip}{m:Nat}{s:St}{h1:Store}(h:okA md ip m s h1=true):okH ip m s=true:=(Bool.and_eq_true_iff.1 h).2
theorem Stp.ne{I:Ifc}{md:Nat}{ip:Ip}{s s':St}(st:Stp I md ip s s'){x:Nat}(h:ip.d≠some x):s'.t[x]?=s.t[x]?:=by
 rcases st with⟨_,v,h1,m,_,_,rfl⟩|⟨_,rfl⟩<;>exact zsg h
theorem Stp.len{I:Ifc}{md:Nat}{ip:Ip}{s s':St}(st:Stp I md ip s s'):s'.t.length=s.t.length:=by
 rcases st with⟨_,v,h1,m,_,_,rfl⟩|⟨_,rfl⟩<;>exact zlL _ _ _
theorem Stp.still{I:Ifc}{md:Nat}{ip:Ip}{s s':St}(st:Stp I md ip s s')(h:kindOf ip.i≠ .acts):s'.h=s.h:=by
 rcases st with⟨_,v,h1,m,he,_,rfl⟩|⟨_,rfl⟩
 ·cases hk:kindOf ip.i with
  |pure=>exact(zqa hk he).1
  |reads=>exact(zoK hk he).1
  |acts=>exact absurd hk h
 ·rfl
theorem Stp.grows{I:Ifc}{ip:Ip}{s s':St}(st:Stp I 0 ip s s')(h:ip.u=1):∃new,s'.h=s.h++new:=by
 rcases st with⟨_,v,h1,m,he,hu,rfl⟩|⟨_,rfl⟩
 ·have hm:m=0:=by simpa[okU,h]using zBT hu
  subst hm;exact zGo he
 ·exact⟨[],by simp⟩
theorem Stp.boxes{I:Ifc}{ip:Ip}{s s':St}(st:Stp I 1 ip s s')(h:ip.u=1):Boxes s.h s'.h:=by
 rcases st with⟨_,v,h1,m,he,hu,rfl⟩|⟨_,rfl⟩
 ·have hm:m<=1:=by simpa[okU,h]using zBT hu
  exact(zsQ he hm).1
 ·exact Boxes.refl _
theorem zw7:∀{a b:List AV},ztI a b=true->a=b
 | [],[],_=>rfl
 | .bptr a i::r,.bptr b j::r',h=>by
  simp only[ztI]at h;split at h
  ·rename_i e;obtain⟨rfl,rfl⟩:=of_decide_eq_true e;rw[zw7 h]
  ·cases h
theorem zHr{e e1:Ent}(h:zzY e e1=true):e=e1:=by
 unfold zzY at h;split at h
 ·split at h
  ·rename_i e;obtain rfl:=of_decide_eq_true e;rw[zw7 h]
  ·cases h
 ·cases h
theorem zu1{ks:Nat}:∀{h h1:Store} {n:Nat},zsc ks n h h1=true->h.length<=h1.length/\∀k,ks.testBit (n+k)=true->k<h.length->h[k]?=h1[k]?
 | [],h1,n,_=>⟨yaP _,fun k _ hk=>absurd hk (Nat.not_lt_zero k)⟩
 |e::h,[],n,hh=>by cases hh
 |e::h,e1::h1,n,hh=>by
  simp only[zsc]at hh;split at hh
  ·rename_i hb;obtain⟨hl,hs⟩:=zu1 hh;refine⟨Nat.succ_le_succ hl,fun k hk hkl=>?_⟩
   cases k with
   |zero=>rw[yce,hb]at hk;cases hk
   |succ k=>exact hs k (by rw[show n+1+k=n+(k+1)by omega];exact hk) (Nat.lt_of_succ_lt_succ hkl)
  ·split at hh
   ·rename_i he;obtain⟨hl,hs⟩:=zu1 hh;refine⟨Nat.succ_le_succ hl,fun k hk hkl=>?_⟩
    cases k with
    |zero=>exact congrArg some (zHr he)
    |succ k=>exact hs k (by rw[show n+1+k=n+(k+1)by omega];exact hk) (Nat.lt_of_succ_lt_succ hkl)
   ·cases hh
theorem zIO{ks:Nat}{h h1:Store}(hh:zsc ks 0 h h1=true):KBoxes ks h h1:=by
 obtain⟨hl,hs⟩:=zu1 hh;exact⟨hl,fun k hk hkl t cs=>by rw[hs k (by rw[yaQ];exact hk) hkl]⟩
theorem Stp.apart{I:Ifc}{ip:Ip}{ks:Nat}{s s':St}(st:Stp I (ks+2) ip s s')(h:ip.u=1):KBoxes ks s.h s'.h:=by
 rcases st with⟨_,v,h1,m,he,hu,rfl⟩|⟨_,rfl⟩
 ·have hu:=zBT hu;simp only[okU,h]at hu;split at hu
  ·rename_i hm;have hm:m<=1\/(3<=m/\(m-3) &&& ks=0):=by simpa using hm
   rcases hm with hm|⟨h3,hd⟩
   ·exact(zsQ he hm).1.ks ks
   ·exact zGn he h3 hd
  ·exact zIO hu
 ·exact KBoxes.refl _ _
section
variable {I:Ifc} {md:Nat} {S:Nat->St} {l:List Ip} {b:Array Nat}
theorem zJA(tr:∀(j:Nat) (ip:Ip),l[j]?=some ip->Stp I md ip (S j) (S (j+1))):∀j,j<=l.length->(S j).t.length=(S 0).t.length:=by
 intro j
 induction j with
 |zero=>intro _;rfl
 |succ j ih=>intro hj;rw[(tr j _ (yad (by omega))).len];exact ih (by omega)
theorem tr_t(tr:∀(j:Nat) (ip:Ip),l[j]?=some ip->Stp I md ip (S j) (S (j+1))){x j:Nat}:∀k,j<=k->k<=l.length->(∀i ip,j<=i->i<k->l[i]?=some ip->ip.d≠some x)->(S k).t[x]?=(S j).t[x]?:=by
 intro k
 induction k with
 |zero=>intro h _ _;rw[show j=0 by omega]
 |succ k ih=>
  intro hjk hk hd;by_cases he:j=k+1
  ·rw[he]
  ·have h1:=yad (l:=l) (i:=k) (by omega);rw[(tr k _ h1).ne (hd k _ (by omega) (by omega) h1)];exact ih (by omega) (by omega) fun i ip h2 h3 h4=>hd i ip h2 (by omega) h4
theorem zpM(tr:∀(j:Nat) (ip:Ip),l[j]?=some ip->Stp I md ip (S j) (S (j+1))){j:Nat}:∀k,j<=k->k<=l.length->(∀i ip,j<=i->i<k->l[i]?=some ip->kindOf ip.i≠ .acts)->(S k).h=(S j).h:=by
 intro k
 induction k with
 |zero=>intro h _ _;rw[show j=0 by omega]
 |succ k ih=>
  intro hjk hk hd;by_cases he:j=k+1
  ·rw[he]
  ·have h1:=yad (l:=l) (i:=k) (by omega);rw[(tr k _ h1).still (hd k _ (by omega) (by omega) h1)];exact ih (by omega) (by omega) fun i ip h2 h3 h4=>hd i ip h2 (by omega) h4
theorem zDA(tr:∀(j:Nat) (ip:Ip),l[j]?=some ip->Stp I 0 ip (S j) (S (j+1))){j:Nat}:∀k,j<=k->k<=l.length->(∀i ip,j<=i->i<k->l[i]?=some ip->kindOf ip.i=.acts->ip.u=1)->∃new,(S k).h=(S j).h++new:=by
 intro k
 induction k with
 |zero=>intro h _ _;exact⟨[],by rw[show j=0 by omega];simp⟩
 |succ k ih=>
  intro hjk hk hd;by_cases he:j=k+1
  ·exact⟨[],by rw[he];simp⟩
  ·have h1:=yad (l:=l) (i:=k) (by omega);obtain⟨n1,e1⟩:=ih (by omega) (by omega) fun i ip h2 h3 h4=>hd i ip h2 (by omega) h4
   by_cases ha:kindOf (l[k]'(by omega)).i=.acts
   ·obtain⟨n2,e2⟩:=(tr k _ h1).grows (hd k _ (by omega) (by omega) h1 ha);exact⟨n1++n2,by rw[e2,e1];simp⟩
   ·exact⟨n1,by rw[(tr k _ h1).still ha,e1]⟩
theorem zDz(tr:∀(j:Nat) (ip:Ip),l[j]?=some ip->Stp I 1 ip (S j) (S (j+1))){j:Nat}:∀k,j<=k->k<=l.length->(∀i ip,j<=i->i<k->l[i]?=some ip->kindOf ip.i=.acts->ip.u=1)->Boxes (S j).h (S k).h:=by
 intro k
 induction k with
 |zero=>intro h _ _;rw[show j=0 by omega];exact Boxes.refl _
 |succ k ih=>
  intro hjk hk hd;by_cases he:j=k+1
  ·rw[he];exact Boxes.refl _
  ·have h1:=yad (l:=l) (i:=k) (by omega);have b1:=ih (by omega) (by omega) fun i ip h2 h3 h4=>hd i ip h2 (by omega) h4
   by_cases ha:kindOf (l[k]'(by omega)).i=.acts
   ·exact b1.trans ((tr k _ h1).boxes (hd k _ (by omega) (by omega) h1 ha))
   ·rw[(tr k _ h1).still ha];exact b1
theorem zDy{ks:Nat}(tr:∀(j:Nat) (ip:Ip),l[j]?=some ip->Stp I (ks+2) ip (S j) (S (j+1))){j:Nat}:∀k,j<=k->k<=l.length->(∀i ip,j<=i->i<k->l[i]?=some ip->kindOf ip.i=.acts->ip.u=1)->KBoxes ks (S j).h (S k).h:=by
 intro k
 induction k with
 |zero=>intro h _ _;rw[show j=0 by omega];exact KBoxes.refl _ _
 |succ k ih=>
  intro hjk hk hd;by_cases he:j=k+1
  ·rw[he];exact KBoxes.refl _ _
  ·have h1:=yad (l:=l) (i:=k) (by omega);have b1:=ih (by omega) (by omega) fun i ip h2 h3 h4=>hd i ip h2 (by omega) h4
   by_cases ha:kindOf (l[k]'(by omega)).i=.acts
   ·exact b1.trans ((tr k _ h1).apart (hd k _ (by omega) (by omega) h1 ha))
   ·rw[(tr k _ h1).still ha];exact b1
structure Hs where
 p:Nat
 d:Nat
 n:Nat
 ty:TypeId
 c:AV
structure Hoist(b:Array Nat)(l:List Ip)(S0:St)(H:Nat->Option Hs):Prop where
 ip:∀(i:Nat) (x:Hs),H i=some x->∃u hs,l[i]?=some ⟨some x.d,.mov (.t x.d),none,u,hs⟩
 bef:∀(i:Nat) (x:Hs),H i=some x->b.getD i 0=0
 box:∀(i:Nat) (x:Hs),H i=some x->S0.h[x.p]?=some (.box x.ty x.c.cells)
 tmp:∀(i:Nat) (x:Hs),H i=some x->x.d<S0.t.length->S0.t[x.d]?=some (.bptr x.p 0)
 dat:∀(i:Nat) (x:Hs),H i=some x->(AV.agg x.c.cells).data=true/\x.c.cells.length=x.n/\x.c.cells.all AV.one=true
 inj:∀(i j:Nat) (x y:Hs),H i=some x->H j=some y->x.p=y.p->i=j
 loose:∀(j:Nat) (y:Ip),l[j]?=some y->kindOf y.i≠ .pure->∀i x,H i=some x->(b.getD j 0).testBit i=false->x.d∈y.hs
 fr:∀(j:Nat) (y:Ip),l[j]?=some y->kindOf y.i=.acts->∀i x,H i=some x->(b.getD j 0).testBit i=false->frOk y.i=true
def Pend(H:Nat->Option Hs)(L:Nat->Prop)(k:Nat):Prop:=∃i x,H i=some x/\x.p=k/\¬L i
structure Inv(S:Nat->St)(l:List Ip)(H:Nat->Option Hs)(L:Nat->Prop)(t:List AV)(h:Store):Prop where
 len:t.length=(S 0).t.length
 yes:∀i ip x,L i->l[i]?=some ip->ip.d=some x->t[x]?=(S l.length).t[x]?
 no:∀x,(∀i ip,L i->l[i]?=some ip->ip.d≠some x)->(∀i y,H i=some y->y.d≠x)->t[x]?=(S 0).t[x]?
 st:∃m,m<=l.length/\Hol (Pend H L) (S m).h h/\(∀k,Pend H L k->(S m).h[k]?=(S 0).h[k]?)/\∀i ip,l[i]?=some ip->kindOf ip.i=.acts->(L i<->i<m)
variable {H:Nat->Option Hs}
theorem Hol.eq{X:Nat->Prop}{h h':Store}(A:Hol X h h')(hn:∀k,¬X k):h'=h:=List.ext_getElem? fun k=>A.out k (hn k)
theorem Hol.iff{X Y:Nat->Prop}{h h':Store}(A:Hol X h h')(e:∀k,X k<->Y k):Hol Y h h':=⟨A.len,fun k hk=>A.out k fun h=>hk ((e k).1 h),fun k hk=>A.ins k ((e k).2 hk)⟩
theorem zGQ{L:Nat->Prop}{j:Nat}(hj:H j=none)(k:Nat):Pend H L k<->Pend H (fun i=>L i\/i=j) k:=by
 constructor
 ·rintro⟨i,x,h1,h2,h3⟩;exact⟨i,x,h1,h2,fun h=>h.elim h3 fun e=>by subst e;rw[hj]at h1;cases h1⟩
 ·rintro⟨i,x,h1,h2,h3⟩;exact⟨i,x,h1,h2,fun h=>h3 (.inl h)⟩
theorem zPB{v:AV}{k:Nat}(h:v.key=some k):k∈rf1 v:=by
 cases v<;>simp[AV.key]at h<;>simp[rf1,h]
theorem zNA{x:AV}{k:Nat}:∀{l:List AV},x∈l->k∈rf1 x->k∈rfs l:=by
 intro l
 induction l with
 |nil=>intro h;cases h
 |cons y l ih=>
  intro h hk;simp only[rfs,yal];rcases yaJ.1 h with rfl|h
  ·exact .inl hk
  ·exact .inr (ih h hk)
theorem tr_d(tr:∀(j:Nat) (ip:Ip),l[j]?=some ip->Stp I md ip (S j) (S (j+1)))(T:Tab b l)(G:Hoist b l (S 0) H){i:Nat}{x:Hs}(hi:H i=some x):∀k,k<=l.length->(S k).t[x.d]?=(S 0).t[x.d]?:=by
 obtain⟨u,hs,hip⟩:=G.ip i x hi;intro k
 induction k with
 |zero=>intro _;rfl
 |succ k ih=>
  intro hk;have h1:=yad (l:=l) (i:=k) (by omega);rw[<-ih (by omega)];by_cases hki:k=i
  ·subst hki;rcases tr k _ hip with⟨_,v,h2,m,he,_,hS⟩|⟨hw,_⟩
   ·simp only[evOp]at he;cases he;rw[hS];show((S k).t.set x.d (od (S k).t (.t x.d)))[x.d]?=_;by_cases hl:x.d<(S k).t.length
    ·rw[yaq hl];simp[od,hl]
    ·rw[yau (by simp;omega),yau (by omega)]
   ·simp[zfE]at hw
  ·refine(tr k _ h1).ne fun hd=>?_
   rcases Nat.lt_or_gt_of_ne hki with h2|h2
   ·rcases(T.pair k i _ _ h2 h1 hip).1 with h3|h3
    ·rw[hd]at h3;cases h3
    ·exact h3 hd
   ·rcases(T.pair i k _ _ h2 hip h1).1 with h3|h3
    ·cases h3
    ·exact h3 hd.symm
theorem zAs(tr:∀(j:Nat) (ip:Ip),l[j]?=some ip->Stp I md ip (S j) (S (j+1)))(T:Tab b l)(G:Hoist b l (S 0) H){L:Nat->Prop}{j:Nat}{ip:Ip}(hj:l[j]?=some ip)(hk:kindOf ip.i≠ .pure)(hr:∀i,(b.getD j 0).testBit i=true->L i){mm:Nat}(hok:okH ip mm (S j)=true):
  ∀k,Pend H L k->k∉rfs (ip.i.ods.map (od (S j).t))/\(mm<=2\/(mm-3).testBit k=false)/\(kindOf ip.i=.acts->frOk ip.i=true):=by
 rintro k ⟨i,x,hi,rfl,hL⟩
 have hb:(b.getD j 0).testBit i=false:=by
  cases h:(b.getD j 0).testBit i
  ·rfl
  ·exact absurd (hr i h) hL
 have hd:=G.loose j ip hj hk i x hi hb;unfold okH at hok;rw[yaS]at hok;have h1:=hok x.d hd;have hjl:j<=l.length:=Nat.le_of_lt (yae.1 hj).1;have h2:=tr_d tr T G hi j hjl;have h3:=zJA tr j hjl;by_cases hlt:x.d<(S 0).t.length
 ·rw[G.tmp i x hi hlt]at h2;rw[yci,h2]at h1;simp only[Option.getD_some,yaB,yaY,Bool.not_eq_true',decide_eq_true_eq]at h1;refine⟨?_,h1.2,fun ha=>G.fr j ip hj ha i x hi hb⟩;have:=h1.1;simpa using this
 ·rw[yci,yau (by omega)]at h1;cases h1
theorem zKr(hLk:zv8 I)(tr:∀(j:Nat) (ip:Ip),l[j]?=some ip->Stp I md ip (S j) (S (j+1)))(T:Tab b l)(G:Hoist b l (S 0) H){L:Nat->Prop}{t:List AV}{h:Store}(V:Inv S l H L t h)(C:∀j i,L j->(b.getD j 0).testBit i=true->L i)
  {j:Nat} {ip:Ip} (hj:l[j]?=some ip) (hHj:H j=none) (hn:¬L j) (hr:∀i,(b.getD j 0).testBit i=true->L i) (hkey:∀k,(od t ip.i.main).key=some k->k<h.length):
  ∃s',Stp0 I ip ⟨t,h⟩ s'/\Inv S l H (fun i=>L i\/i=j) s'.t s'.h:=by
 have hjn:j<l.length:=(yae.1 hj).1
 have sees:∀x,x∈ip.sees->t[x]?=(S j).t[x]?:=by
  intro x hx;by_cases hex:∃i ip',i<j/\l[i]?=some ip'/\ip'.d=some x
  ·obtain⟨i,ip',hij,hi,hd⟩:=hex
   have hL:L i:=by
    rcases(T.pair i j ip' ip hij hi hj).2 with hb|⟨ha,_⟩
    ·exact hr i hb
    ·exfalso;simp only[apartIp,hd,yaB]at ha;have:=ha.1.1;simp[hx]at this
   rw[V.yes i ip' x hL hi hd];refine tr_t tr l.length (by omega) (yag _) fun k ip2 h1 h2 h3=>?_
   have:=(T.pair i k ip' ip2 (by omega) hi h3).1;rw[hd]at this;rcases this with h4|h4
   ·cases h4
   ·exact fun e=>h4 e.symm
  ·have h1:(S j).t[x]?=(S 0).t[x]?:=tr_t tr j (by omega) (by omega) fun i ip' h1 h2 h3 h4=>hex ⟨i,ip',h2,h3,h4⟩
   rw[h1];refine V.no x (fun i ip' hL hi hd=>?_) fun i y hi hd=>?_
   ·rcases ybr i j with h2|h2|h2
    ·exact hex ⟨i,ip',h2,hi,hd⟩
    ·subst h2;exact hn hL
    ·rcases(T.pair j i ip ip' h2 hj hi).2 with hb|⟨ha,_⟩
     ·exact hn (C i j hL hb)
     ·simp only[apartIp,hd,yaB]at ha;have:=ha.2;simp[hx]at this
   ·obtain⟨u,hs,hip⟩:=G.ip i y hi;rcases ybr i j with h2|h2|h2
    ·exact hex ⟨i,_,h2,hip,by rw[hd]⟩
    ·subst h2;rw[hHj]at hi;cases hi
    ·rcases(T.pair j i ip _ h2 hj hip).2 with hb|⟨ha,_⟩
     ·rw[G.bef i y hi]at hb;simp at hb
     ·simp only[apartIp,yaB]at ha;have:=ha.2;rw[hd]at this;simp[hx]at this
 have hods:∀x,x∈ip.i.ods->od t x=od (S j).t x:=fun x hx=>zKE fun n hnx=>sees n (by
  unfold Ip.sees
  exact ycl _ (List.mem_flatMap.2 ⟨x,hx,hnx⟩))
 have hwants:zfE ip t=zfE ip (S j).t:=by
  unfold zfE
  cases hg:ip.g with
  |none=>rfl
  |some p=>
   obtain⟨k,w⟩:=p;have:=sees k (by unfold Ip.sees;rw[hg];simp);simp only[yci,this]
 obtain⟨m,hm,A,hsame,hacts⟩:=V.st
 have hact:kindOf ip.i=.acts->(S m).h=(S j).h/\∀i ip',l[i]?=some ip'->kindOf ip'.i=.acts->((L i\/i=j)<->i<j+1):=by
  intro hk
  have hiff:∀i ip',l[i]?=some ip'->kindOf ip'.i=.acts->(L i<->i<j):=by
   intro i ip' hi hki;constructor
   ·intro hL;rcases ybr i j with h2|h2|h2
    ·exact h2
    ·subst h2;exact absurd hL hn
    ·rcases(T.pair j i ip ip' h2 hj hi).2 with hb|⟨_,ha⟩
     ·exact absurd (C i j hL hb) hn
     ·exact absurd ⟨hk,hki⟩ ha
   ·intro hlt;rcases(T.pair i j ip' ip hlt hi hj).2 with hb|⟨_,ha⟩
    ·exact hr i hb
    ·exact absurd ⟨hki,hk⟩ ha
  refine⟨?_,fun i ip' hi hki=>?_⟩
  ·rcases Nat.le_total m j with h1|h1
   ·refine(zpM tr j h1 (by omega) fun i ip' h2 h3 h4 h5=>?_).symm;have:=(hacts i ip' h4 h5).1 ((hiff i ip' h4 h5).2 h3);omega
   ·refine zpM tr m h1 hm fun i ip' h2 h3 h4 h5=>?_
    have:=(hiff i ip' h4 h5).1 ((hacts i ip' h4 h5).2 h3);omega
  ·rw[hiff i ip' hi hki];omega
 have hother:kindOf ip.i≠ .acts->∀i ip',l[i]?=some ip'->kindOf ip'.i=.acts->((L i\/i=j)<->i<m):=by
  intro hk i ip' hi hki;rw[<-hacts i ip' hi hki];constructor
  ·rintro(h1|h1)
   ·exact h1
   ·subst h1;rw[hj]at hi;cases hi;exact absurd hki hk
  ·exact .inl
 have hreads:kindOf ip.i=.reads->(∃mm h1,okU md ip mm (S j) h1=true)->∀k e,(od (S j).t ip.i.main).key=some k->(S j).h[k]?=some e->(S m).h[k]?=some e:=by
  intro hk hwr k e hke hse
  have hmain:od t ip.i.main=od (S j).t ip.i.main:=by
   by_cases hmm:ip.i.main∈ip.i.ods
   ·exact hods _ hmm
   ·revert hmm
    cases ip.i<;>simp[Ir.main,Ir.ods,od]
  have hlt:=hkey k (by rw[hmain];exact hke);rw[A.len]at hlt
  have fwd:j<=m->∀i ip',j<=i->i<m->l[i]?=some ip'->kindOf ip'.i=.acts->ip'.u=1/\ip.u=2:=fun h1 i ip' h2 h3 h4 h5=>by
   have hL:=(hacts i ip' h4 h5).2 h3;have hij:i≠j:=fun e=>hn (e▸hL)
   refine T.u i j ip' ip h4 hj hij h5 hk ?_ ?_
   ·have:=T.low j ip hj;have h6:2^j<=2^i:=Nat.pow_le_pow_right (by omega) h2;exact Nat.testBit_lt_two_pow (by omega)
   ·cases hb:(b.getD i 0).testBit j
    ·rfl
    ·exact absurd (C i j hL hb) hn
  have bwd:m<=j->∀i ip',m<=i->i<j->l[i]?=some ip'->kindOf ip'.i=.acts->ip'.u=1/\ip.u=2:=fun h1 i ip' h2 h3 h4 h5=>by
   have hL:¬L i:=fun hL=>by have:=(hacts i ip' h4 h5).1 hL;omega
   have hij:i≠j:=by omega
   refine T.u i j ip' ip h4 hj hij h5 hk ?_ ?_
   ·cases hb:(b.getD j 0).testBit i
    ·rfl
    ·exact absurd (hr i hb) hL
   ·have:=T.low i ip' h4;have h6:2^i<=2^j:=Nat.pow_le_pow_right (by omega) (by omega);exact Nat.testBit_lt_two_pow (by omega)
  have plain:ip.u≠2->(S m).h[k]?=some e:=fun hu2=>by
   have:(S m).h=(S j).h:=by
    rcases Nat.le_total j m with h1|h1
    ·exact zpM tr m h1 hm fun i ip' h2 h3 h4 h5=>hu2 (fwd h1 i ip' h2 h3 h4 h5).2
    ·exact(zpM tr j h1 (by omega) fun i ip' h2 h3 h4 h5=>hu2 (bwd h1 i ip' h2 h3 h4 h5).2).symm
   rw[this];exact hse
  match md,tr,hwr with
  |0,tr,_=>
   rcases Nat.le_total j m with h1|h1
   ·obtain⟨new,hnew⟩:=zDA tr m h1 hm fun i ip' h2 h3 h4 h5=>(fwd h1 i ip' h2 h3 h4 h5).1
    rw[hnew,yah (yae.1 hse).1];exact hse
   ·obtain⟨new,hnew⟩:=zDA tr j h1 (by omega) fun i ip' h2 h3 h4 h5=>(bwd h1 i ip' h2 h3 h4 h5).1
    rw[hnew,yah hlt]at hse;exact hse
  |ks+2,tr,hwr=>
   by_cases hu2:ip.u=2
   ·obtain⟨⟨tt,cs,rfl⟩,hbit⟩:(∃tt cs,e=Ent.box tt cs)/\ks.testBit k=true:=by
     rcases hwr with⟨mm,_,hok⟩
     simp only[okU,hu2,hke,hse]at hok
     cases e with
     |box tt cs=>exact⟨⟨tt,cs,rfl⟩,hok⟩
     |row=>simp at hok
     |it=>simp at hok
    rcases Nat.le_total j m with h1|h1
    ·exact((zDy tr m h1 hm fun i ip' h2 h3 h4 h5=>(fwd h1 i ip' h2 h3 h4 h5).1).2 k hbit (yae.1 hse).1 tt cs).1 hse
    ·exact((zDy tr j h1 (by omega) fun i ip' h2 h3 h4 h5=>(bwd h1 i ip' h2 h3 h4 h5).1).2 k hbit hlt tt cs).2 hse
   ·exact plain hu2
  |1,tr,hwr=>
   by_cases hu2:ip.u=2
   ·
    obtain⟨tt,cs,rfl⟩:∃tt cs,e=Ent.box tt cs:=by
     have:=hwr;rcases this with⟨mm,_,hok⟩
     simp only[okU,hu2,hke,hse]at hok
     cases e with
     |box tt cs=>exact⟨tt,cs,rfl⟩
     |row=>simp at hok
     |it=>simp at hok
    rcases Nat.le_total j m with h1|h1
    ·exact((zDz tr m h1 hm fun i ip' h2 h3 h4 h5=>(fwd h1 i ip' h2 h3 h4 h5).1).2 k (yae.1 hse).1 tt cs).1 hse
    ·exact((zDz tr j h1 (by omega) fun i ip' h2 h3 h4 h5=>(bwd h1 i ip' h2 h3 h4 h5).1).2 k hlt tt cs).2 hse
   ·exact plain hu2
 have htmp:∀v,(S (j+1)).t=put (S j).t ip.d v->∀h',(∃m,m<=l.length/\Hol (Pend H fun i=>L i\/i=j) (S m).h h'/\(∀k,Pend H (fun i=>L i\/i=j) k->(S m).h[k]?=(S 0).h[k]?)/\∀i ip,l[i]?=some ip->kindOf ip.i=.acts->((L i\/i=j)<->i<m))->Inv S l H (fun i=>L i\/i=j) (put t ip.d v) h':=by
  intro v hv h' hst;refine⟨by rw[zlL];exact V.len,fun i ip' x hL hi hd=>?_,fun x hno hno2=>?_,hst⟩
  ·by_cases hij:i=j
   ·subst hij;rw[hj]at hi;cases hi
    have h1:(S l.length).t[x]?=(S (i+1)).t[x]?:=by
     refine tr_t tr l.length (by omega) (yag _) fun k ip2 h1 h2 h3=>?_
     have:=(T.pair i k ip ip2 (by omega) hj h3).1;rw[hd]at this;rcases this with h4|h4
     ·cases h4
     ·exact fun e=>h4 e.symm
    rw[h1,hv,hd];exact zPV (by rw[V.len,zJA tr i (by omega)])
   ·have hLi:=hL.resolve_right hij;rw[zsg ?_]
    ·exact V.yes i ip' x hLi hi hd
    ·intro hdx;rcases Nat.lt_or_gt_of_ne hij with h1|h1
     ·have:=(T.pair i j ip' ip h1 hi hj).1;rw[hd,hdx]at this;rcases this with h4|h4
      ·cases h4
      ·exact h4 rfl
     ·have:=(T.pair j i ip ip' h1 hj hi).1;rw[hd,hdx]at this;rcases this with h4|h4
      ·cases h4
      ·exact h4 rfl
  ·rw[zsg (hno j ip (.inr rfl) hj)];exact V.no x (fun i ip' hL=>hno i ip' (.inl hL)) hno2
 have pe:=zGQ (L:=L) hHj;have still:(∀i ip',l[i]?=some ip'->kindOf ip'.i=.acts->((L i\/i=j)<->i<m))->∃m,m<=l.length/\Hol (Pend H fun i=>L i\/i=j) (S m).h h/\(∀k,Pend H (fun i=>L i\/i=j) k->(S m).h[k]?=(S 0).h[k]?)/\∀i ip,l[i]?=some ip->kindOf ip.i=.acts->((L i\/i=j)<->i<m):=fun hh=>⟨m,hm,A.iff pe,fun k hk=>hsame k ((pe k).2 hk),hh⟩
 rcases tr j ip hj with⟨hw,v,h1,mm,he,hu,hS⟩|⟨hw,hS⟩
 ·have hSt:(S (j+1)).t=put (S j).t ip.d v:=by rw[hS]
  have hSh:(S (j+1)).h=h1:=by rw[hS]
  cases hk:kindOf ip.i with
  |acts=>
   obtain⟨e1,e2⟩:=hact hk;have pf:=zAs tr T G hj (by rw[hk];simp) hr (zMC hu)
   have Bj:Bx (Pend H L) (S j).h:=by
    rintro k hkp;obtain⟨i,x,hi,rfl,hL⟩:=hkp;exact⟨x.ty,x.c.cells,by rw[<-e1,hsame _ ⟨i,x,hi,rfl,hL⟩];exact G.box i x hi⟩
   have fr:∃h1',evOp I ip.i (S j).t h=some (v,h1',mm)/\Hol (Pend H L) h1 h1'/\∀k,Pend H L k->h1[k]?=(S j).h[k]?:=by
    by_cases hp:∃k,Pend H L k
    ·obtain⟨k,hkp⟩:=hp;exact zKe hLk ((pf k hkp).2.2 hk) Bj (by rw[<-e1];exact A) (fun k' hk' hx=>(pf k' hx).1 hk') (fun k' hx=>(pf k' hx).2.1) he
    ·have hne:∀k,¬Pend H L k:=fun k hkp=>hp ⟨k,hkp⟩
     refine⟨h1,?_,⟨rfl,fun _ _=>rfl,fun k hkp=>absurd hkp (hne k)⟩,fun k hkp=>absurd hkp (hne k)⟩;rw[A.eq hne,e1];exact he
   obtain⟨h1',f1,f2,f3⟩:=fr;refine⟨⟨put t ip.d v,h1'⟩,.inl ⟨by rw[hwants];exact hw,v,h1',mm,?_,rfl⟩,htmp v hSt _ ⟨j+1,by omega,by rw[hSh];exact f2.iff pe,fun k hkp=>?_,e2⟩⟩
   ·show evOp I ip.i t h=_;rw[zsR I ip.i _ hods];exact f1
   ·have hkp:=(pe k).2 hkp
    rw[hSh,f3 k hkp,<-e1];exact hsame k hkp
  |pure=>
   obtain⟨e1,e2,e3⟩:=zqa hk he;refine⟨⟨put t ip.d v,h⟩,.inl ⟨by rw[hwants];exact hw,v,h,0,?_,rfl⟩,htmp v hSt _ (still (hother (by rw[hk];simp)))⟩;show evOp I ip.i t h=_
   rw[zsR I ip.i _ hods];exact e3 _
  |reads=>
   obtain⟨e1,e2,e3⟩:=zoK hk he;have pf:=zAs tr T G hj (by rw[hk];simp) hr (zMC hu);refine⟨⟨put t ip.d v,h⟩,.inl ⟨by rw[hwants];exact hw,v,h,0,?_,rfl⟩,htmp v hSt _ (still (hother (by rw[hk];simp)))⟩;show evOp I ip.i t h=_;rw[zsR I ip.i _ hods];refine e3 _ fun k e h1 h2=>?_
   rw[A.out k fun hx=>(pf k hx).1 ?_]
   ·exact hreads hk ⟨mm,_,zBT hu⟩ k e h1 h2
   ·have hmm:ip.i.main∈ip.i.ods:=by
     by_cases hmm:ip.i.main∈ip.i.ods
     ·exact hmm
     ·revert hmm h1
      cases ip.i<;>simp[Ir.main,Ir.ods,od,AV.key]
    exact zNA (ybJ.2 ⟨_,hmm,rfl⟩) (zPB h1)
 ·have hSt:(S (j+1)).t=put (S j).t ip.d (.tup []):=by rw[hS]
  have hSh:(S (j+1)).h=(S j).h:=by rw[hS]
  refine⟨⟨put t ip.d (.tup []),h⟩,.inr ⟨by rw[hwants];exact hw,rfl⟩,htmp _ hSt _ ?_⟩;by_cases hk:kindOf ip.i=.acts
  ·obtain⟨e1,e2⟩:=hact hk;exact⟨j+1,by omega,by rw[hSh,<-e1];exact A.iff pe,fun k hkp=>by rw[hSh,<-e1];exact hsame k ((pe k).2 hkp),e2⟩
  ·exact still (hother hk)
theorem zKq(tr:∀(j:Nat) (ip:Ip),l[j]?=some ip->Stp I md ip (S j) (S (j+1)))(T:Tab b l)(G:Hoist b l (S 0) H){L:Nat->Prop}{t:List AV}{h:Store}(V:Inv S l H L t h){j:Nat}{x:Hs}(hHj:H j=some x)(hn:¬L j):
  h[x.p]?=some hole/\Inv S l H (fun i=>L i\/i=j) (put t (some x.d) (.bptr x.p 0)) (h.set x.p (.box x.ty x.c.cells)):=by
 obtain⟨m,hm,A,hsame,hacts⟩:=V.st;obtain⟨u,hs,hip⟩:=G.ip j x hHj;have hp:Pend H L x.p:=⟨j,x,hHj,rfl,hn⟩
 have hhole:=A.ins _ hp;have hxl:x.p<h.length:=(yae.1 hhole).1;refine⟨hhole,by rw[zlL];exact V.len,fun i ip' y hL hi hd=>?_,fun y hno hno2=>?_,m,hm,⟨by simp[A.len],fun k hk=>?_,fun k hk=>?_⟩,fun k hk=>?_,fun i ip' hi hki=>?_⟩
 ·by_cases hij:i=j
  ·subst hij;rw[hip]at hi;cases hi;cases hd;rw[tr_d tr T G hHj l.length (yag _)];by_cases hl:x.d<(S 0).t.length
   ·rw[G.tmp i x hHj hl];show(t.set x.d _)[x.d]?=_;rw[yaq (by rw[V.len];exact hl)]
   ·have hpl:=zlL t (some x.d) (.bptr x.p 0);have hvl:=V.len;rw[yau (by omega),yau (by omega)]
  ·rw[zsg ?_]
   ·exact V.yes i ip' y (hL.resolve_right hij) hi hd
   ·intro hdx;rcases Nat.lt_or_gt_of_ne hij with h1|h1
    ·have:=(T.pair i j ip' _ h1 hi hip).1;rw[hd]at this;rcases this with h4|h4
     ·cases h4
     ·exact h4 hdx.symm
    ·have:=(T.pair j i _ ip' h1 hip hi).1;rw[hd]at this;rcases this with h4|h4
     ·cases h4
     ·exact h4 hdx
 ·have hne:=hno j _ (.inr rfl) hip;rw[zsg hne];exact V.no y (fun i ip' hL=>hno i ip' (.inl hL)) hno2
 ·by_cases hkp:x.p=k
  ·subst hkp;rw[yaq hxl,hsame _ hp,G.box j x hHj]
  ·rw[yas hkp];refine A.out k fun⟨i,y,hi,hyp,hL⟩=>hk ⟨i,y,hi,hyp,fun hh=>hh.elim hL fun e=>?_⟩
   subst e;rw[hHj]at hi;cases hi;exact hkp hyp
 ·obtain⟨i,y,hi,hyp,hL⟩:=hk;have hkp:x.p≠k:=fun e=>hL (.inr (G.inj i j y x hi hHj (hyp.trans e.symm)))
  rw[yas hkp];exact A.ins k ⟨i,y,hi,hyp,fun hh=>hL (.inl hh)⟩
 ·obtain⟨i,y,hi,hyp,hL⟩:=hk;exact hsame k ⟨i,y,hi,hyp,fun hh=>hL (.inl hh)⟩
 ·rw[<-hacts i ip' hi hki];constructor
  ·rintro(h1|h1)
   ·exact h1
   ·subst h1;rw[hip]at hi;cases hi;cases hki
  ·exact .inl
theorem zCD(tr:∀(j:Nat) (ip:Ip),l[j]?=some ip->Stp I md ip (S j) (S (j+1)))(G:Hoist b l (S 0) H){L:Nat->Prop}{t:List AV}{h:Store}(V:Inv S l H L t h)(hall:∀i,i<l.length->L i):t=(S l.length).t/\h=(S l.length).h:=by
 have hH:∀i y,H i=some y->L i:=fun i y hi=>by
  obtain⟨u,hs,hip⟩:=G.ip i y hi;exact hall i (yae.1 hip).1
 constructor
 ·refine List.ext_getElem? fun x=>?_
  by_cases hex:∃(i:Nat) (ip:Ip),l[i]?=some ip/\ip.d=some x
  ·obtain⟨i,ip,hi,hd⟩:=hex;exact V.yes i ip x (hall i (yae.1 hi).1) hi hd
  ·rw[V.no x (fun i ip _ hi hd=>hex ⟨i,ip,hi,hd⟩) fun i y hi hd=>by
    obtain⟨u,hs,hip⟩:=G.ip i y hi
    exact hex ⟨i,_,hip,by rw[hd]⟩]
   exact(tr_t tr l.length (by omega) (yag _) fun i ip _ _ hi hd=>hex ⟨i,ip,hi,hd⟩).symm
 ·obtain⟨m,hm,A,hsame,hacts⟩:=V.st;rw[A.eq fun k ⟨i,y,hi,_,hL⟩=>hL (hH i y hi)];refine(zpM tr l.length hm (yag _) fun i ip h1 h2 h3 h4=>?_).symm;have:=(hacts i ip h3 h4).1 (hall i h2);omega
end
theorem zGe{acc:Array Nat}{o:Oper}{e:Edge}(he:e∈o.after)(hb:yb1 .any e=true):(zf8 acc o).testBit e.on=true:=by
 have keep:∀(l:List Edge) (s i:Nat),s.testBit i=true->(l.foldl (fun s e=>if yb1 .any e then s ||| 2^e.on ||| acc.getD e.on 0 else s) s).testBit i=true:=by
  intro l
  induction l with
  |nil=>intro s i h;exact h
  |cons x l ih=>
   intro s i h;simp only[ybE];refine ih _ _ ?_;split
   ·simp[Nat.testBit_or,h]
   ·exact h
 have key:∀(l:List Edge) (s:Nat),e∈l->(l.foldl (fun s e=>if yb1 .any e then s ||| 2^e.on ||| acc.getD e.on 0 else s) s).testBit e.on=true:=by
  intro l
  induction l with
  |nil=>intro s h;simp at h
  |cons x l ih=>
   intro s h;simp only[ybE];rcases yaJ.1 h with rfl|h
   ·refine keep l _ _ ?_;rw[if_pos hb];simp[Nat.testBit_or,yb3]
   ·exact ih _ h
 unfold zf8;rw[<-ybV];exact key _ _ (by simpa using he)
theorem zGg{ops:Array Oper}{j:Nat}{o:Oper}(ho:ops[j]?=some o){e:Edge}(he:e∈o.after)(hb:yb1 .any e=true):((yat ops).getD j 0).testBit e.on=true:=by
 have hbe:yat ops=ops.toList.foldl (fun acc o=>acc.push (zf8 acc o)) #[]:=by
  unfold yat;rw[<-ybV];rfl
 obtain⟨h1,h2,h3⟩:=zz8 ops.toList #[];obtain⟨acc',a1,a2,a3⟩:=h3 j o (by simpa using ho);rw[<-hbe]at a2;simp only[Array.size_empty,yaQ]at a2;rw[a2];exact zGe he hb
section
variable {P:Program} {base:Base} {I:Ifc} {md:Nat} {ops:Array Oper} {l:List Ip} {S:Nat->St} {H:Nat->Option Hs}
theorem holes(n:Nat):∀{h:Store} {E:Env},Rel base h E->∃E',E'.w=E.w/\Rel base (h++yaA n hole) E'/\Step h E (h++yaA n hole) E':=by
 induction n with
 |zero=>intro h E R;exact⟨E,rfl,by simpa using R,by simpa using Step.refl h E⟩
 |succ n ih=>
  intro h E R;obtain⟨E1,hw1,R1,S1,_⟩:=zc2 (base:=base) R (e:=0) (w':=E.w) (v':=.slice none 0 0) (xs':=[]) (vals':=[]) rfl rfl rfl (yag _) (fun _ _=>rfl) (fun b hb=>by simp[zaP]at hb) ⟨by simp,.inl ⟨rfl,none,rfl⟩⟩ rfl (fun y hy=>by cases hy) (fun y hy=>by cases hy) .nil;obtain⟨R2,S2⟩:=ztL R1 [h.length]
  have e:shut [h.length] (h++[.row 0 0 false []])=h++[hole]:=by
   simp[shut,zdw,hole]
  rw[e]at R2 S2;obtain⟨E3,hw3,R3,S3⟩:=ih R2;refine⟨E3,hw3.trans hw1,?_,?_⟩
  ·rw[List.replicate_succ,<-ybz,<-yao];exact R3
  ·rw[List.replicate_succ,<-ybz,<-yao];exact(S1.trans S2 R.lt).trans S3 R.lt
theorem zCq{h:Store}{E:Env}(R:Rel base h E){p:Nat}(hp:h[p]?=some hole){cs:List AV}{vals:List Value}(hv:VL E cs vals)(h1:∀c,c∈cs->c.one=true)(ty:TypeId):
  ∃E',E'.w=E.w.alloc (.cells vals.toArray ty)/\Rel base (h.set p (.box ty cs)) E'/\Step h E (h.set p (.box ty cs)) E'/\VL E' [.bptr p 0] [.pointer (some ⟨E.w.heap.size,0,none⟩)]:=by
 obtain⟨hgen,htop,_⟩:=R.ent p _ hp;have hpl:p<h.length:=(yae.1 hp).1
 let E':Env:={E with w:=E.w.alloc (.cells vals.toArray ty),gen:=fun k=>if k=p then none else E.gen k,box:=fun k=>if k=p then E.w.heap.size else E.box k,own:=fun b=>E.own b\/b=E.w.heap.size}
 have hx:Ext E E':=⟨rfl,yag _,fun k hk=>yag _,fun k g hk hg hc=>by
   have hc':(if k=p then none else E.gen k)=some g:=hc;by_cases e:k=p
   ·rw[if_pos e]at hc';cases hc'
   ·rw[if_neg e]at hc';exact⟨hc',rfl,rfl⟩,fun k hk hg=>by
   have e:k≠p:=fun e=>by subst e;rw[hgen]at hg;cases hg
   exact⟨by show(if k=p then none else E.gen k)=none;rw[if_neg e];exact hg,if_neg e⟩,fun a v ho hc=>by
   have hlt:=block_lt_of_cell hc
   exact⟨fun h=>by rcases h with h|h;exact ho h;omega,by rw[<-hc];exact yba (heap_alloc_old E.w _ _ hlt)⟩⟩
 have hbo:∀j,j≠p->blkOf E' (h.set p (.box ty cs)) j=blkOf E h j:=fun j hj=>by
  unfold blkOf;rw[yas (ycb hj)]
  cases h[j]? with
  |none=>rfl
  |some e=>exact zbA (E:=E) (E':=E') (k:=j) rfl (if_neg hj) e
 have hnew:blkOf E' (h.set p (.box ty cs)) p=some E.w.heap.size:=by
  rw[zaN (e:=.box ty cs) (by rw[yaq hpl])];show some (if p=p then _ else _)=_;rw[if_pos rfl]
 have S:Step h E (h.set p (.box ty cs)) E':=⟨hx,rfl,rfl,rfl,by simp[E'],fun b hb _=>heap_alloc_old E.w _ b hb,fun b hb=>by
   rcases hb with hb|hb
   ·exact .inl hb
   ·exact .inr (by omega),fun b hb _=>.inl hb,fun j b hj=>by
   by_cases e:j=p
   ·subst e;rw[hnew]at hj;cases hj;exact .inr (yag _)
   ·rw[hbo j e]at hj;exact .inl ⟨j,hj⟩⟩
 have hb0:E'.box p=E.w.heap.size:=if_pos rfl;refine⟨E',rfl,Rel.upd p (.box ty cs) R S (by simp[E',R.n]) (by simp) (yaq hpl) (fun j hj=>yas (ycb hj)) (fun j hj=>⟨if_neg hj,rfl,rfl,rfl,if_neg hj⟩) (fun j hj b hjb=>⟨heap_alloc_old E.w _ b (zee R hjb),.inl (R.own j b hjb)⟩) ⟨if_pos rfl,htop,?_,h1,vals,?_,hv.ext hx⟩ (fun b hb=>?_) (fun b hb=>?_),S,?_⟩
 ·rw[hb0];exact R.le
 ·rw[hb0];exact heap_alloc_new E.w _
 ·rw[hnew]at hb;cases hb;exact⟨.inr rfl,fun j hj hjb=>by have:=zee R hjb;omega⟩
 ·rcases hb with hb|hb
  ·have:=R.lt b hb;simp[E'];omega
  ·simp[E',hb]
 ·rw[<-hb0];exact .bptr (by show p<E.n;rw[R.n];exact hpl) (if_pos rfl) .nil
theorem zPv{fz:List Nat}{d:Option Nat}{i0:Ir}{ty:TypeId}{n:Nat}{x:Od}(h:.box ty n x=fzIr fz d i0):i0=.box ty n x:=by
 unfold fzIr at h;unfold zuV at h
 (repeat' split at h)<;>first|(cases h;done)|exact h.symm
theorem zM5{Q:Exit->Act->World->Prop}{E:Env}{h:Store}{a:Act}{t:List AV}(R:Rel base h E)(ht:VL E t a.tmps.toList){j:Nat}{x:Hs}{u:Nat}{hs:List Nat}(hj:OpM P ops j ⟨some x.d,.box x.ty x.n (.c x.c),none,u,hs⟩)(hP:E.P=P)(hp:h[x.p]?=some hole)(hd:x.c.cells.length=x.n/\x.c.cells.all AV.one=true)
    {K:Act->World->Prop} (hK:∀E' v',Rel base (h.set x.p (.box x.ty x.c.cells)) E'->Step h E (h.set x.p (.box x.ty x.c.cells)) E'->VL E' [.bptr x.p 0] [v']->K (a.put (some x.d) v') E'.w):wpOp P ops Q j K a E.w:=by
  obtain⟨xp,xd,xn,xty,xc⟩:=x;simp only at hj hp hd hK⊢;obtain⟨o,ho,⟨i0,fz,hc,hfz⟩,hd0,hg⟩:=hj;have hi0:=zPv hfz;subst hi0;have hone:∀c,c∈xc.cells->c.one=true:=fun c hcm=>by simpa using yaS.1 hd.2 c hcm
  have hgn:o.guard=none:=by
    unfold zmN at hg;split at hg
    · assumption
    · split at hg<;>cases hg
  unfold wpOp;simp only[ho];rw[if_pos (by simp[Region.wanted,hgn])];refine .inl ?_;have hd1:o.dst=some xd:=hd0.symm;unfold zkL at hc;split at hc
  all_goals first
    |(cases hc;done)
    |(simp only[yap,reduceCtorEq,and_false,exists_false]at hc;done)
    |skip
  all_goals first
    |(rename_i e hop
      split at hc
      · rename_i z hz
        cases hc;obtain⟨i,zv,hi,hzv,_,hvl,_⟩:=za7 (E:=E) hz;obtain⟨E',hw,R',S,V⟩:=zCq R hp hvl hone xty;refine zaF (v:=.bptr xp 0) (h':=h.set xp (.box xty xc.cells)) ⟨_,E',.inl ?_,R',S,V⟩ (fun E2 v2 R2 S2 V2=>by rw[hd1];exact hK E2 v2 R2 S2 V2);rw[hw];simp[execOp,hop,Instr.alloc,zeroValue,typeInfo,hi,hzv,newVar,newRow]
      · cases hc)
    |(rename_i e y hop
      obtain⟨x',hx,hxe⟩:=zbJ hc;cases hxe;have hv:=zmL (zaS ht hx) hd.2;obtain⟨E',hw,R',S,V⟩:=zCq R hp hv hone xty;refine zaF (v:=.bptr xp 0) (h':=h.set xp (.box xty xc.cells)) ⟨_,E',.inl ?_,R',S,V⟩ (fun E2 v2 R2 S2 V2=>by rw[hd1];exact hK E2 v2 R2 S2 V2);rw[hw]
      simp[execOp,hop,Instr.box,newVar,newRow])
    |((repeat' split at hc)<;>first
       |(cases hc;done)
       |(simp only[yap,reduceCtorEq,and_false,exists_false]at hc;done))
theorem zPA{E:Env}{h:Store}(R:Rel base h E){t:List AV}{vs:List Value}(ht:VL E t vs){i:Ir}(hm:i.mainOk=true){k:Nat}(hk:(od t i.main).key=some k):k<h.length:=by
 unfold Ir.mainOk at hm;split at hm
 ·rename_i n hn;rw[hn]at hk;simp only[od]at hk;rw[<-R.n];by_cases hlt:n<t.length
  ·obtain⟨v,_,hv⟩:=ht.get n hlt;rw[show t.getD n .bad=t[n]by simp[hlt]]at hk;generalize t[n]=y at hv hk
   cases hv with
   |data h _=>cases h<;>simp[AV.key]at hk
   |sl h1=>simp[AV.key]at hk;subst hk;exact h1
   |sub h1=>simp[AV.key]at hk;subst hk;exact h1
   |bptr h1=>simp[AV.key]at hk;subst hk;exact h1
   |rptr h1=>simp[AV.key]at hk;subst hk;exact h1
   |_=>simp[AV.key]at hk
  ·rw[show t.getD n .bad=.bad by simp[Nat.le_of_not_lt hlt]]at hk;simp[AV.key]at hk
 ·rename_i v hv;rw[hv]at hk;simp only[od]at hk;rw[hk]at hm;simp at hm
theorem zGA(b:Array Nat)(l:List Ip)(S0:St):Hoist b l S0 (fun _=>none) where
 ip _ _ h:=by cases h
 bef _ _ h:=by cases h
 box _ _ h:=by cases h
 tmp _ _ h:=by cases h
 dat _ _ h:=by cases h
 inj _ _ _ _ h:=by cases h
 loose _ _ _ _ _ _ h:=by cases h
 fr _ _ _ _ _ _ h:=by cases h
theorem zHy{Q:Exit->Act->World->Prop}(hI:I.o=yac)(IH:zdx P base I)(hPr:zdf P base I)(hF:zhb P I)(hlen:l.length=ops.size)(M:∀(j:Nat) (ip:Ip),l[j]?=some ip->H j=none->OpM P ops j ip)(MH:∀(j:Nat) (x:Hs),H j=some x->∃u hs,OpM P ops j ⟨some x.d,.box x.ty x.n (.c x.c),none,u,hs⟩)
  (T:Tab (yat ops) l) (G:Hoist (yat ops) l (S 0) H) (tr:∀(j:Nat) (ip:Ip),l[j]?=some ip->Stp I md ip (S j) (S (j+1))):
  ∀(fuel:Nat) (listed:Array Bool) (E:Env) (a:Act) (t:List AV) (h:Store),listed.size=ops.size->listed.toList.count false<=fuel->E.P=P->Rel base h E->VL E t a.tmps.toList->
   Inv S l H (fun i=>listed.getD i false=true) t h->(∀j i,listed.getD j false=true->((yat ops).getD j 0).testBit i=true->listed.getD i false=true)->
   (∀E' a',Rel base (S l.length).h E'->Step h E (S l.length).h E'->VL E' (S l.length).t a'.tmps.toList->a'.defers=a.defers->Q .normal a' E'.w)->wpAny P .any ops Q fuel listed a E.w:=by
 have hLk:zv8 I:=fun f p hp=>(hPr f p hp).2.2
 have hdone:∀(listed:Array Bool),listed.size=ops.size->Region.ready .any ops listed=[]->∀i,i<ops.size->listed.getD i false=true:=by
  intro listed hs hr i
  induction i using Nat.strongRecOn with
  |ind i ih=>
   intro hi
   cases hl:listed.getD i false with
   |true=>rfl
   |false=>
    exfalso;have hi':i<listed.size:=by omega
    have hmem:i∈Region.ready .any ops listed:=by
     refine mem_ready.2 ⟨by simpa[hi']using hl,ops[i],ybl hi,fun e he hb=>?_⟩;have hbit:=zGg (ybl hi) he hb;have hlen:i<l.length:=by rw[hlen];exact hi
     have hlow:=T.low i _ (yad hlen)
     have hlt:e.on<i:=by
      refine Nat.lt_of_not_le fun hge=>?_
      have h6:2^i<=2^e.on:=Nat.pow_le_pow_right (by omega) hge;rw[Nat.testBit_lt_two_pow (by omega)]at hbit;cases hbit
     exact ih e.on hlt (by omega)
    rw[hr]at hmem;cases hmem
 intro fuel
 induction fuel with
 |zero=>
  intro listed E a t h hs hc hP R ht V C hQ
  have hr:Region.ready .any ops listed=[]:=by
   refine List.eq_nil_iff_forall_not_mem.2 fun j hj=>?_
   obtain⟨h1,o,ho,_⟩:=mem_ready.1 hj;have hjs:j<listed.size:=by rw[hs];exact(ya2.1 ho).1
   have h2:listed[j]=false:=by simpa[hjs]using h1
   have h3:false∈listed.toList:=by rw[<-h2];simp
   have:=List.count_pos_iff.2 h3;omega
  refine⟨hr,?_⟩;obtain⟨rfl,rfl⟩:=zCD tr G V fun i hi=>hdone listed hs hr i (by rw[<-hlen];exact hi)
  exact hQ E a R (Step.refl _ E) ht rfl
 |succ fuel ih=>
  intro listed E a t h hs hc hP R ht V C hQ;refine⟨fun hr=>?_,fun j hj=>?_⟩
  ·obtain⟨rfl,rfl⟩:=zCD tr G V fun i hi=>hdone listed hs hr i (by rw[<-hlen];exact hi)
   exact hQ E a R (Step.refl _ E) ht rfl
  ·obtain⟨h1,o,ho,hall⟩:=mem_ready.1 hj;have hjo:j<ops.size:=(ya2.1 ho).1;have hjs:j<listed.size:=by omega
   have hjl:j<l.length:=by rw[hlen];exact hjo
   have h2:listed[j]=false:=by simpa[hjs]using h1
   have hip:=yad hjl
   have hready:∀i,((yat ops).getD j 0).testBit i=true->listed.getD i false=true:=fun i hb=>by
    obtain⟨e,he,hbd,hh⟩:=zGf ho hb;rcases hh with rfl|hh
    ·exact hall e he hbd
    ·exact C e.on i (hall e he hbd) hh
   have hset:∀i,(listed.setIfInBounds j true).getD i false=true<->(listed.getD i false=true\/i=j):=fun i=>by
    by_cases hij:j=i
    ·subst hij;simp[hjs]
    ·rw[getD_set_ne false hij];constructor
     ·exact .inl
     ·rintro(h|h)
      ·exact h
      ·exact absurd h.symm hij
   have e:(fun i=>(listed.setIfInBounds j true).getD i false=true)=(fun i=>listed.getD i false=true\/i=j):=funext fun i=>propext (hset i)
   have next:∀(E':Env) (a':Act) (s':St),Rel base s'.h E'->Step h E s'.h E'->VL E' s'.t a'.tmps.toList->a'.defers=a.defers->Inv S l H (fun i=>listed.getD i false=true\/i=j) s'.t s'.h->wpAny P .any ops Q fuel (listed.setIfInBounds j true) a' E'.w:=by
    intro E' a' s' R' S' W' hdf V';refine ih _ E' a' s'.t s'.h (by simp[hs]) ?_ (S'.ext.P.trans hP) R' W' ?_ ?_ fun E2 a2 R2 S2 V2 hd2=>hQ E2 a2 R2 (S'.trans S2 R.lt) V2 (hd2.trans hdf)
    ·have:(listed.setIfInBounds j true).toList.count false=listed.toList.count false-1:=by
      rw[Array.toList_setIfInBounds,List.count_set (by simpa using hjs)];simp[h2]
     have h3:false∈listed.toList:=by rw[<-h2];simp
     have:=List.count_pos_iff.2 h3;omega
    ·rw[e];exact V'
    ·intro k i hk hb;rw[hset]at hk⊢;rcases hk with hk|rfl
     ·exact .inl (C k i hk hb)
     ·exact .inl (hready i hb)
   cases hH:H j with
   |none=>
    obtain⟨s',st,V'⟩:=zKr hLk tr T G V C hip hH (by simp[hjs,h2]) hready (fun k hk=>zPA R ht (T.main j _ hip) hk)
    refine zMz hI IH hPr hF hP R ht (M j _ hip hH) st fun E' a' R' S' W' hdf=>next E' a' s' R' S' W' hdf V'
   |some x=>
    obtain⟨hhole,V'⟩:=zKq tr T G V hH (by simp[hjs,h2]);obtain⟨u,hs',hop⟩:=MH j x hH;refine zM5 R ht hop hP hhole (G.dat j x hH).2 fun E' v' R' S' W'=>?_
    refine next E' _ ⟨put t (some x.d) (.bptr x.p 0),h.set x.p (.box x.ty x.c.cells)⟩ R' S' ?_ rfl V'
    exact zC3 ht S'.ext W' (some x.d)
theorem zM1{E:Env}{h:Store}{t:List AV}{a:Act}{Q:Exit->Act->World->Prop}{id:Nat}(hm:P.follows .mixedOrders=true)(hI:I.o=yac)(IH:zdx P base I)(hPr:zdf P base I)(hF:zhb P I)(hP:E.P=P)(R:Rel base h E)(ht:VL E t a.tmps.toList)(M:zmJ P ops l)(T:Tab (yat ops) l){s2:St}(he:zbl I md l ⟨t,h⟩=some s2)
  (hQ:∀E' a',Rel base s2.h E'->Step h E s2.h E'->VL E' s2.t a'.tmps.toList->a'.defers=a.defers->Q .normal a' E'.w):(Code.region id ops true).wp P Q a E.w:=by
 obtain⟨S,e1,e2,tr⟩:=zMH l he;subst e2;obtain⟨R1,S1⟩:=zp8 R;have V1:VL {E with w:=E.w.drew} t a.tmps.toList:=ht.ext S1.ext;refine wp_region_any hm ?_;refine zHy (H:=fun _=>none) (E:={E with w:=E.w.drew}) hI IH hPr hF M.1 (fun j ip hj _=>M.2 j ip hj) (fun j x hx=>by cases hx) T (zGA _ _ _) tr ops.size (Array.replicate ops.size false) a t h (by simp) (by simp[List.count_replicate]) hP R1 V1 ?_ ?_ fun E' a' R' S' V' hd=>hQ E' a' R' (S1.trans S' R.lt) V' hd
 ·refine⟨by rw[e1],fun i ip x hL=>?_,fun x _ _=>by rw[e1],0,by omega,⟨by rw[e1],fun k _=>by rw[e1],fun k hk=>?_⟩,fun k hk=>?_,fun i ip hi hk=>?_⟩
  ·exfalso;by_cases hi:i<ops.size<;>simp[hi]at hL
  ·obtain⟨i,x,hx,_⟩:=hk;cases hx
  ·obtain⟨i,x,hx,_⟩:=hk;cases hx
  ·by_cases hi:i<ops.size<;>simp[hi]
 ·intro j i hL;exfalso;by_cases hi:j<ops.size<;>simp[hi]at hL
end
def zbI(b:Array Nat)(ips:List Ip):List (Ip×Nat):=ips.zipIdx.filter fun(x,j)=>(zhB b x j).isSome
theorem zdr{b:Array Nat}{ip:Ip}{j d:Nat}(h:zhB b ip j=some d):∃ty n c,ip.i=.box ty n (.c c)/\ip.d=some d/\ip.g=none/\b.getD j 0=0/\(AV.agg c.cells).data=true:=by
 unfold zhB at h;split at h
 ·rename_i h1 h2 h3;split at h
  ·rename_i hc;cases h;exact⟨_,_,_,h1,h2,h3,hc.1,hc.2⟩
  ·cases h
 ·cases h
theorem zdq{b:Array Nat}{ips:List Ip}{q:Nat}{ip:Ip}{i:Nat}(h:(zbI b ips)[q]?=some (ip,i)):ips[i]?=some ip/\∃d,zhB b ip i=some d:=by
 have hm:=yam h;unfold zbI at hm;rw[List.mem_filter]at hm;exact⟨by simpa using ybA.1 hm.1,Option.isSome_iff_exists.1 hm.2⟩
theorem zIJ{b:Array Nat}{ips:List Ip}{ip:Ip}{i d:Nat}(h:ips[i]?=some ip)(hd:zhB b ip i=some d):∃q:Nat,(zbI b ips)[q]?=some (ip,i):=by
 have:(ip,i)∈zbI b ips:=by
  unfold zbI;rw[List.mem_filter];exact⟨ybA.2 (by simpa using h),by simp[hd]⟩
 exact ybN.1 this
theorem zCB(b:Array Nat)(ips:List Ip):((zbI b ips).map (·.2)).Nodup:=by
 refine List.Nodup.sublist (List.Sublist.map _ List.filter_sublist) ?_;rw[show(fun x:Ip×Nat=>x.2)=Prod.snd from rfl,List.zipIdx_map_snd];exact List.nodup_range'
theorem zsV{b:Array Nat}{ips:List Ip}{q q':Nat}{ip ip':Ip}{i:Nat}(h:(zbI b ips)[q]?=some (ip,i))(h':(zbI b ips)[q']?=some (ip',i)):q=q':=by
 have h1:((zbI b ips).map (·.2))[q]?=some i:=by rw[ybn,h];rfl
 have h2:((zbI b ips).map (·.2))[q']?=some i:=by rw[ybn,h'];rfl
 exact zu9 (zCB b ips) h1 h2
theorem zJS{I:Ifc}{md:Nat}:∀(F:List Ip) {t:List AV} {h:Store} {s1:St},(∀ip,ip∈F->∃d ty n c,ip.d=some d/\ip.i=.box ty n (.c c)/\ip.g=none)->(F.map (·.d)).Nodup->zbl I md F ⟨t,h⟩=some s1->
  s1.t.length=t.length/\s1.h.length=h.length+F.length/\(∀k,k<h.length->s1.h[k]?=h[k]?)/\(∀x,(∀ip,ip∈F->ip.d≠some x)->s1.t[x]?=t[x]?)/\
  ∀q ip,F[q]?=some ip->∀d ty n c,ip.d=some d->ip.i=.box ty n (.c c)->s1.h[h.length+q]?=some (.box ty c.cells)/\(d<t.length->s1.t[d]?=some (.bptr (h.length+q) 0))/\c.cells.length=n/\c.cells.all AV.one=true:=by
 intro F
 induction F with
 |nil=>intro t h s1 _ _ he;simp only[zbl]at he;cases he;exact⟨rfl,rfl,fun _ _=>rfl,fun _ _=>rfl,fun q ip hq=>by simp at hq⟩
 |cons ip F ih=>
  intro t h s1 hF hnd he;obtain⟨d,ty,n,c,hd,hi,hg⟩:=hF ip (by simp);obtain⟨s',st,he'⟩:=zhj he;rw[yaT,List.nodup_cons]at hnd;rcases st with⟨_,v,h1,m,hev,_,rfl⟩|⟨hw,_⟩
  ·rw[hi]at hev;simp only[evOp]at hev;split at hev
   ·rename_i hc;cases hev;have hc:c.cells.length=n/\c.cells.all AV.one=true:=hc;obtain⟨a1,a2,a3,a4,a5⟩:=ih (fun y hy=>hF y (by simp[hy])) hnd.2 he';rw[zlL]at a1;simp only[yaf,List.length_singleton]at a2 a3 a5;refine⟨a1,by simp;omega,fun k hk=>by rw[a3 k (by omega),yah hk],fun x hx=>by rw[a4 x fun y hy=>hx y (by simp[hy]),zsg (hx ip (by simp))],fun q y hq=>?_⟩
    cases q with
    |zero=>
     simp at hq;subst hq;intro d' ty' n' c' hd' hi';rw[hd]at hd';cases hd';rw[hi]at hi';cases hi';refine⟨by rw[yce,a3 _ (by omega)];simp[od],fun hl=>?_,hc.1,hc.2⟩;rw[a4 d fun y hy hyd=>hnd.1 (ybJ.2 ⟨y,hy,by rw[hyd,hd]⟩),hd];show(t.set d _)[d]?=_
     rw[yaq hl];rfl
    |succ q=>
     intro d' ty' n' c' hd' hi';obtain⟨b1,b2,b3⟩:=a5 q y (by simpa using hq) d' ty' n' c' hd' hi';rw[zlL]at b2;rw[show h.length+(q+1)=h.length+1+q by omega];exact⟨b1,b2,b3⟩
   ·cases hev
  ·simp[zfE,hg]at hw
theorem zJB{b:Array Nat}{ips:List Ip}{j:Nat}{y:Ip}(h:(zmq b ips)[j]?=some y):∃y0,ips[j]?=some y0/\y.d=y0.d/\y.g=y0.g/\((zhB b y0 j=none/\y=y0)\/∃d,zhB b y0 j=some d/\y.i=.mov (.t d)):=by
 unfold zmq at h;simp only[ybn,yap]at h;obtain⟨⟨y0,k⟩,hz,rfl⟩:=h;have hz':∃a,ips[j]?=some a/\a=y0/\j=k:=by simpa[ybZ]using hz
 obtain⟨y1,h1,e1,e2⟩:=hz';subst e2;rw[e1]at h1;refine⟨y0,h1,?_⟩;simp only;split
 ·rename_i d hd;exact⟨rfl,rfl,.inr ⟨d,hd,rfl⟩⟩
 ·rename_i hd;exact⟨rfl,rfl,.inl ⟨hd,rfl⟩⟩
theorem zIS{b:Array Nat}{ips:List Ip}{j:Nat}{y:Ip}(h:(zfZ b ips)[j]?=some y):∃y0,ips[j]?=some y0/\y.d=y0.d/\y.i=y0.i/\y.g=y0.g:=by
 unfold zfZ at h;simp only[ybn,yap]at h;obtain⟨⟨y0,k⟩,hz,rfl⟩:=h;have hz':∃a,ips[j]?=some a/\a=y0/\j=k:=by simpa[ybZ]using hz
 obtain⟨y1,h1,e1,e2⟩:=hz';subst e2;rw[e1]at h1;exact⟨y0,h1,rfl,rfl,rfl⟩
theorem zg7{b:Array Nat}{ips l:List Ip}{j:Nat}{y:Ip}(h:(znv b ips l)[j]?=some y):∃y0,l[j]?=some y0/\y.d=y0.d/\y.i=y0.i/\y.g=y0.g/\y.u=y0.u/\(kindOf y.i≠ .pure->y.hs=zu6 b ips j):=by
 unfold znv at h;simp only[ybn,yap]at h;obtain⟨⟨y0,k⟩,hz,rfl⟩:=h;have hz':∃a,l[j]?=some a/\a=y0/\j=k:=by simpa[ybZ]using hz
 obtain⟨y1,h1,e1,e2⟩:=hz';subst e2;rw[e1]at h1;refine⟨y0,h1,?_⟩;simp only;split
 ·rename_i hk;exact⟨rfl,rfl,rfl,rfl,fun hn=>absurd hk hn⟩
 ·exact⟨rfl,rfl,rfl,rfl,fun _=>rfl⟩
theorem Tab.mark{b:Array Nat}{ips l:List Ip}(T:Tab b l):Tab b (znv b ips l):=by
 refine⟨fun j y hy=>?_,fun j y hy=>?_,fun i j x y hij hx hy=>?_,fun j y hy=>?_,fun i j x y hx hy hne hkx hky hb1 hb2=>?_⟩
 ·obtain⟨y0,h0,_⟩:=zg7 hy;exact T.low j y0 h0
 ·obtain⟨y0,h0,_,e,_⟩:=zg7 hy;rw[e];exact T.main j y0 h0
 ·obtain⟨x0,hx0,xd,xi,xg,_⟩:=zg7 hx;obtain⟨y0,hy0,yd,yi,yg,_⟩:=zg7 hy;have hap:apartIp x y=apartIp x0 y0:=by simp only[apartIp,Ip.sees,xd,yd,xi,yi,xg,yg]
  rw[hap,xd,yd,xi,yi];exact T.pair i j x0 y0 hij hx0 hy0
 ·obtain⟨y0,h0,_,e,_,eu,_⟩:=zg7 hy;rw[e,eu];exact T.uk j y0 h0
 ·obtain⟨x0,hx0,xd,xi,xg,xu,_⟩:=zg7 hx;obtain⟨y0,hy0,yd,yi,yg,yu,_⟩:=zg7 hy;rw[xi]at hkx;rw[yi]at hky;rw[xu,yu];exact T.u i j x0 y0 hx0 hy0 hne hkx hky hb1 hb2
def AtH(b:Array Nat)(l0:List Ip)(N i:Nat)(x:Hs):Prop:=∃q ip,(zbI b l0)[q]?=some (ip,i)/\ip.i=.box x.ty x.n (.c x.c)/\ip.d=some x.d/\ip.g=none/\x.p=N+q
open Classical in
def hsAt(b:Array Nat)(l0:List Ip)(N i:Nat):Option Hs:=if h:∃x,AtH b l0 N i x then some h.choose else none
theorem zcz{b:Array Nat}{l0:List Ip}{N i:Nat}{x:Hs}(h:hsAt b l0 N i=some x):AtH b l0 N i x:=by
 unfold hsAt at h;split at h
 ·rename_i hx;cases h;exact hx.choose_spec
 ·cases h
theorem zzx{b:Array Nat}{l0:List Ip}{N i q:Nat}{ip:Ip}(h:(zbI b l0)[q]?=some (ip,i)):∃x,hsAt b l0 N i=some x/\x.p=N+q:=by
 obtain⟨h1,d,hd⟩:=zdq h;obtain⟨ty,n,c,e1,e2,e3,_⟩:=zdr hd;have hx:∃x,AtH b l0 N i x:=⟨⟨N+q,d,n,ty,c⟩,q,ip,h,e1,e2,e3,rfl⟩
 have h2:hsAt b l0 N i=some hx.choose:=by unfold hsAt;rw[dif_pos hx]
 refine⟨_,h2,?_⟩;obtain⟨q',ip',h3,_,_,_,h4⟩:=zcz h2;rw[h4,zsV h h3]
section
variable {P:Program} {base:Base} {I:Ifc} {md:Nat} {ops:Array Oper}
theorem zKl{E:Env}{h:Store}{t:List AV}{a:Act}{Q:Exit->Act->World->Prop}{id:Nat}(hm:P.follows .mixedOrders=true)(hI:I.o=yac)(IH:zdx P base I)(hPr:zdf P base I)(hF:zhb P I)(hP:E.P=P)(R:Rel base h E)(ht:VL E t a.tmps.toList){l0:List Ip}(M:zmJ P ops l0)
  (hd:zuO (yat ops) (zmq (yat ops) l0)=true) (hok:zzw (znv (yat ops) l0 (zfZ (yat ops) (zmq (yat ops) l0)))=true) {md0:Nat} {s1 s2:St} (he1:zbl I md0 (znW (yat ops) l0) ⟨t,h⟩=some s1)
  (he:zbl I md (znv (yat ops) l0 (zfZ (yat ops) (zmq (yat ops) l0))) s1=some s2)
  (hQ:∀E' a',Rel base s2.h E'->Step h E s2.h E'->VL E' s2.t a'.tmps.toList->a'.defers=a.defers->Q .normal a' E'.w):(Code.region id ops true).wp P Q a E.w:=by
 generalize hL:znv (yat ops) l0 (zfZ (yat ops) (zmq (yat ops) l0))=L at hok he;have T:Tab (yat ops) L:=by rw[<-hL];exact(zwS hd).mark
 generalize hb:yat ops=b at *
 have get:∀{j:Nat} {y:Ip},L[j]?=some y->∃y0,l0[j]?=some y0/\y.d=y0.d/\y.g=y0.g/\((zhB b y0 j=none/\y.i=y0.i)\/∃d,zhB b y0 j=some d/\y.i=.mov (.t d))/\(kindOf y.i≠ .pure->y.hs=zu6 b l0 j):=by
  intro j y hy;rw[<-hL]at hy;obtain⟨y1,h1,d1,i1,g1,u1,k1⟩:=zg7 hy;obtain⟨y2,h2,d2,i2,g2⟩:=zIS h1;obtain⟨y3,h3,d3,g3,hh⟩:=zJB h2;refine⟨y3,h3,d1.trans (d2.trans d3),g1.trans (g2.trans g3),?_,k1⟩;rcases hh with⟨h4,h5⟩|⟨d,h4,h5⟩
  ·subst h5;exact .inl ⟨h4,i1.trans i2⟩
  ·exact .inr ⟨d,h4,by rw[i1,i2,h5]⟩
 have hlen:L.length=l0.length:=by rw[<-hL];simp[znv,zfZ,zmq]
 have of:∀{j:Nat} {y0:Ip},l0[j]?=some y0->∃y,L[j]?=some y:=fun{j y0} h0=>by
  have:j<L.length:=by rw[hlen];exact(yae.1 h0).1
  exact⟨_,yad this⟩
 have hFL:znW b l0=(zbI b l0).map (·.1):=rfl
 have dist:((znW b l0).map (·.d)).Nodup:=by
  rw[hFL,List.map_map];refine List.pairwise_map.2 (ya6.2 fun q q' hq hq' hlt=>?_);have e1:=yad hq;have e2:=yad hq';generalize (zbI b l0)[q]=z at e1;generalize (zbI b l0)[q']=z' at e2;obtain⟨ip,i⟩:=z;obtain⟨ip',i'⟩:=z';obtain⟨g1,d,hd1⟩:=zdq e1;obtain⟨g2,d',hd2⟩:=zdq e2;have hne:i≠i':=fun e=>by subst e;have:=zsV e1 e2;omega
  obtain⟨y,hy⟩:=of g1;obtain⟨y',hy'⟩:=of g2;obtain⟨y0,a0,a1,_⟩:=get hy;obtain⟨y0',a0',a1',_⟩:=get hy';rw[g1]at a0;cases a0;rw[g2]at a0';cases a0';obtain⟨_,_,_,_,ed,_⟩:=zdr hd1;obtain⟨_,_,_,_,ed',_⟩:=zdr hd2;show ip.d≠ip'.d;rw[<-a1,<-a1'];rcases Nat.lt_or_gt_of_ne hne with h1|h1
  ·rcases(T.pair i i' y y' h1 hy hy').1 with h2|h2
   ·rw[a1,ed]at h2;cases h2
   ·exact h2
  ·rcases(T.pair i' i y' y h1 hy' hy).1 with h2|h2
   ·rw[a1',ed']at h2;cases h2
   ·exact ycb h2
 obtain⟨a1,a2,a3,a4,a5⟩:=zJS (znW b l0) (fun ip hip=>by
  rw[hFL,ybJ]at hip;obtain⟨⟨ip',i⟩,hz,rfl⟩:=hip;obtain⟨q,hq⟩:=ybN.1 hz;obtain⟨_,d,hd1⟩:=zdq hq;obtain⟨ty,n,c,e1,e2,e3,_⟩:=zdr hd1
  exact⟨d,ty,n,c,e2,e1,e3⟩) dist he1
 have hFlen:(znW b l0).length=(zbI b l0).length:=by rw[hFL];simp
 have fq:∀{q:Nat} {ip:Ip} {i:Nat},(zbI b l0)[q]?=some (ip,i)->(znW b l0)[q]?=some ip:=fun{q ip i} h0=>by
  rw[hFL,ybn,h0];rfl
 obtain⟨S,e1,e2,tr⟩:=zMH L he;subst e2
 have G:Hoist b L (S 0) (hsAt b l0 h.length):=by
  rw[e1];refine⟨fun i x hx=>?_,fun i x hx=>?_,fun i x hx=>?_,fun i x hx hl=>?_,fun i x hx=>?_,fun i j x y hx hy hp=>?_,fun j y hj hk i x hx hbit=>?_,fun j y hj hk i x hx hbit=>?_⟩
  ·obtain⟨q,ip,h1,h2,h3,h4,h5⟩:=zcz hx;obtain⟨h6,d,h7⟩:=zdq h1;obtain⟨y,hy⟩:=of h6;obtain⟨y0,b0,b1,b2,b3,_⟩:=get hy;rw[h6]at b0;cases b0;rcases b3 with⟨b3,_⟩|⟨d',b3,b4⟩
   ·rw[h7]at b3;cases b3
   ·obtain⟨_,_,_,_,c2,_⟩:=zdr b3;rw[h3]at c2;cases c2;refine⟨y.u,y.hs,?_⟩;rw[hy];obtain⟨yd,yi,yg,yu,yhs⟩:=y;simp only at b1 b2 b4;rw[b1,h3,b4,b2,h4]
  ·obtain⟨q,ip,h1,_⟩:=zcz hx;obtain⟨_,d,h7⟩:=zdq h1;exact(zdr h7).choose_spec.choose_spec.choose_spec.2.2.2.1
  ·obtain⟨q,ip,h1,h2,h3,h4,h5⟩:=zcz hx;rw[h5];exact(a5 q ip (fq h1) _ _ _ _ h3 h2).1
  ·obtain⟨q,ip,h1,h2,h3,h4,h5⟩:=zcz hx;rw[h5];exact(a5 q ip (fq h1) _ _ _ _ h3 h2).2.1 (by rw[<-a1];exact hl)
  ·obtain⟨q,ip,h1,h2,h3,h4,h5⟩:=zcz hx;obtain⟨_,_,c3,c4⟩:=a5 q ip (fq h1) _ _ _ _ h3 h2;obtain⟨_,d,h7⟩:=zdq h1;obtain⟨ty,n,c,g1,_,_,_,g5⟩:=zdr h7;rw[h2]at g1;cases g1;exact⟨g5,c3,c4⟩
  ·obtain⟨q,ip,h1,_,_,_,h5⟩:=zcz hx;obtain⟨q',ip',h1',_,_,_,h5'⟩:=zcz hy;have hqq:q=q':=by omega
   subst hqq;rw[h1]at h1';cases h1';rfl
  ·obtain⟨q,ip,h1,h2,h3,h4,h5⟩:=zcz hx;obtain⟨h6,d,h7⟩:=zdq h1;obtain⟨_,_,_,_,_,hhs⟩:=get hj;rw[hhs hk];unfold zu6;rw[List.mem_filterMap];refine⟨(ip,i),ybA.2 (by simpa using h6),?_⟩;obtain⟨_,_,_,_,c2,_⟩:=zdr h7;rw[h3]at c2;cases c2;simp only[h7,hbit];simp
  ·have hmem:x.d∈y.hs:=by
    obtain⟨q,ip,h1,h2,h3,h4,h5⟩:=zcz hx;obtain⟨h6,d,h7⟩:=zdq h1;obtain⟨_,_,_,_,_,hhs⟩:=get hj;rw[hhs (by rw[hk];simp)];unfold zu6;rw[List.mem_filterMap];refine⟨(ip,i),ybA.2 (by simpa using h6),?_⟩;obtain⟨_,_,_,_,c2,_⟩:=zdr h7;rw[h3]at c2;cases c2;simp only[h7,hbit];simp
   unfold zzw at hok;rw[yaS]at hok;have h1:=hok y (yam hj)
   have hne:y.hs.isEmpty=false:=by cases hyh:y.hs with
    |nil=>rw[hyh]at hmem;cases hmem
    |cons=>rfl
   simpa[hne,hk]using h1
 obtain⟨R0,S0⟩:=zp8 R;obtain⟨E1,hw1,R1,S1⟩:=holes (base:=base) (zbI b l0).length R0;have S01:=S0.trans S1 R.lt;have V1:VL E1 t a.tmps.toList:=ht.ext S01.ext;refine wp_region_any hm ?_;have ew:E1.w=E.w.drew:=hw1;show wpAny P .any ops Q ops.size (Array.replicate ops.size false) a E.w.drew;rw[<-ew];refine zHy (H:=hsAt b l0 h.length) (E:=E1) hI IH hPr hF (by rw[hlen];exact M.1) (fun j ip hj hno=>?_) (fun j x hx=>?_) (by rw[hb];exact T) (by rw[hb];exact G) tr ops.size (Array.replicate ops.size false) a t (h++yaA (zbI b l0).length hole) (by simp) (by simp[List.count_replicate]) (S01.ext.P.trans hP) R1 V1 ?_ ?_ fun E' a' R' S' V' hd=>hQ E' a' R' (S01.trans S' R.lt) V' hd
 ·obtain⟨y0,b0,b1,b2,b3,_⟩:=get hj;rcases b3 with⟨b3,b4⟩|⟨d,b3,_⟩
  ·obtain⟨o,ho,hc,hdd,hg⟩:=M.2 j y0 b0;exact⟨o,ho,by rw[b4];exact hc,by rw[b1];exact hdd,by rw[b2];exact hg⟩
  ·obtain⟨q,hq⟩:=zIJ b0 b3;obtain⟨x,hx,_⟩:=zzx (N:=h.length) hq;rw[hno]at hx;cases hx
 ·obtain⟨q,ip,h1,h2,h3,h4,h5⟩:=zcz hx;obtain⟨h6,_⟩:=zdq h1;refine⟨ip.u,ip.hs,?_⟩;have:=M.2 j ip h6;obtain⟨pd,pi,pg,pu,phs⟩:=ip;simp only at h2 h3 h4;rw[h2,h3,h4]at this;exact this
 ·have listed0:∀i,(Array.replicate ops.size false).getD i false=false:=fun i=>by
   by_cases hi:i<ops.size<;>simp[hi]
  refine⟨by rw[e1];exact a1.symm,fun i ip x hL0=>?_,fun x _ hno=>?_,0,by omega,⟨?_,fun k hk=>?_,fun k hk=>?_⟩,fun k hk=>rfl,fun i ip hi hk=>?_⟩
  ·simp only[listed0]at hL0;cases hL0
  ·rw[e1];refine(a4 x fun ip hip hdx=>?_).symm;rw[hFL,ybJ]at hip;obtain⟨⟨ip',i⟩,hz,rfl⟩:=hip;obtain⟨q,hq⟩:=ybN.1 hz;obtain⟨y,hy,_⟩:=zzx (N:=h.length) hq;obtain⟨q',ip2,h1,_,h3,_⟩:=zcz hy;have hqq:=zsV hq h1;subst hqq;rw[hq]at h1;cases h1;rw[h3]at hdx;cases hdx;exact hno i y hy rfl
  ·rw[e1,a2,hFlen];simp
  ·rw[e1];by_cases hkl:k<h.length
   ·rw[yah hkl,a3 k hkl]
   ·by_cases hkf:k-h.length<(zbI b l0).length
    ·exfalso;have hq:=yad hkf;obtain⟨y,hy,hyp⟩:=zzx (N:=h.length) (show(zbI b l0)[k-h.length]?=some ((zbI b l0)[k-h.length].1,(zbI b l0)[k-h.length].2)from hq);exact hk ⟨_,y,hy,by omega,by simp only[listed0];simp⟩
    ·rw[yau (by simp;omega),yau (by omega)]
  ·obtain⟨i,y,hy,rfl,_⟩:=hk;obtain⟨q,ip,h1,_,_,_,h5⟩:=zcz hy;have hql:=(yae.1 h1).1;rw[h5,yax (by omega),List.getElem?_replicate];rw[if_pos (by omega)]
  ·simp only[listed0];simp
 ·intro j i hL0;exfalso;by_cases hi:j<ops.size<;>simp[hi]at hL0
end
def zIE:X->Exit
 | .nor=>.normal
 | .brk id=>.exit id
 | .ret=>.ret
def zrz(P:Program)(c:Code)(Q:Exit->Act->World->Prop)(a:Act)(w:World):Prop:=
 ∀(b:Frame) (k:List Item) (cs:List Frame),∃e a' w',Q e a' w'/\Arrives P (lone (b.at a (.code c:: .inLoop c::k)) cs w) b k cs e a' w'
theorem zNg{P:Program}{c:Code}{Q:Exit->Act->World->Prop}{a:Act}{w:World}(h:zrz P c Q a w):(Code.loop c).wp P Q a w:=
 fun b k cs=>let⟨e,a',w',q,r⟩:=h b k cs;⟨e,a',w',q,.of_steps (.one step_loop) r⟩
theorem zGD{P:Program}{c:Code}{Q:Exit->Act->World->Prop}{a:Act}{w:World}(h:c.wp P (Exit.then (zrz P c Q) Q) a w):zrz P c Q a w:=by
 intro b k cs;obtain⟨e,a₁,w₁,hq,harr⟩:=h b (.inLoop c::k) cs
 cases e with
 |normal=>
  obtain⟨e₂,a₂,w₂,hq₂,harr₂⟩:=hq b k cs
  exact⟨e₂,a₂,w₂,hq₂,.of_steps (Steps.trans harr (.one step_inLoop)) harr₂⟩
 |exit id=>exact⟨_,a₁,w₁,hq,.pass (x:=.inLoop c) rfl (fun _ _=>.inl (by simp)) harr⟩
 |goto l=>exact⟨_,a₁,w₁,hq,.pass (x:=.inLoop c) rfl (fun _ _=>.inl (by simp)) harr⟩
 |ret=>exact⟨_,a₁,w₁,hq,.pass (x:=.inLoop c) rfl (fun _ _=>.inl (by simp)) harr⟩
 |panic ch=>exact⟨_,a₁,w₁,hq,.pass (x:=.inLoop c) rfl (fun _ _=>.inl (by simp)) harr⟩
 |outgrown=>exact⟨_,a₁,w₁,hq,.pass (x:=.inLoop c) rfl (fun _ _=>.inl (by simp)) harr⟩
def Lands(base:Base)(h:Store)(E:Env)(x:X)(s2:St)(a:Act)(Q:Exit->Act->World->Prop):Prop:=
 ∀E' a',Rel base s2.h E'->Step h E s2.h E'->VL E' s2.t a'.tmps.toList->a'.defers=a.defers->Q (zIE x) a' E'.w
theorem Lands.next{base:Base}{h h1:Store}{E E1:Env}{x:X}{s2:St}{a a1:Act}{Q:Exit->Act->World->Prop}(L:Lands base h E x s2 a Q)(R:Rel base h E)(S1:Step h E h1 E1)(hd:a1.defers=a.defers):Lands base h1 E1 x s2 a1 Q:=
 fun E' a' R' S' V' hd'=>L E' a' R' (S1.trans S' R.lt) V' (hd'.trans hd)
def zx0(P:Program)(base:Base)(I:Ifc):Prop:=
 ∀(fz rt:List Nat) (ex:List (Nat×List Nat)) (af:List Nat) (c:Code) (d:Cd),cmp P fz rt ex af c=some d->∀(lv:List Nat) (m:Nat) (s:St) (x:X) (s2:St),I.loop lv m d s=some (x,s2)->
  ∀(h0:Store) (E0 E:Env) (a:Act) (Q:Exit->Act->World->Prop),E.P=P->h0.length=m->E0.n=m->(∀b,E0.own b->b<E0.w.heap.size)->Rel base s.h E->Step h0 E0 s.h E->VL E s.t a.tmps.toList->Lands base h0 E0 x s2 a Q->zrz P c Q a E.w
theorem zmM{E:Env}{lv:List Nat}:∀{t:List AV} {vs:List Value} (i:Nat),VL E t vs->VL E (zhi lv i t) vs:=by
 intro t
 induction t with
 |nil=>intro vs i h;exact h
 |cons x t ih=>
  intro vs i h;obtain⟨v,us,rfl,h1,h2⟩:=h.uncons;unfold zhi
  cases lv.contains i with
  |true=>exact h1.cons (ih (i+1) h2)
  |false=>exact .bad (ih (i+1) h2)
def zgc(E:Env)(n N:Nat):Env:={E with n:=n,gen:=fun j=>if j<N then E.gen j else none}
theorem zyw{E:Env}{N:Nat}{n:Nat}(hn:n=min N E.n){l:List AV}{vs:List Value}(h:VL E l vs):his l<=N->VL (zgc E n N) l vs:=by
 induction h with
 |nil=>intro _;exact .nil
 |data h _ it=>intro hh;exact .data h (it (by simp only[his]at hh;omega))
 |agg _ _ ih it=>intro hh;simp only[his,hi]at hh;exact .agg (ih (by omega)) (it (by omega))
 |tup _ _ ih it=>intro hh;simp only[his,hi]at hh;exact .tup (ih (by omega)) (it (by omega))
 |sl hk hg h1 h _ it=>intro hh;simp only[his,hi]at hh;exact .sl (by show _<n;omega) hg h1 (fun hc=>h (by simp only[zgc]at hc;rw[if_pos (by omega)]at hc;exact hc)) (it (by omega))
 |sub hk hg h1 h _ it=>intro hh;simp only[his,hi]at hh;exact .sub (by show _<n;omega) hg h1 (fun hc=>h (by simp only[zgc]at hc;rw[if_pos (by omega)]at hc;exact hc)) (it (by omega))
 | @bptr b off r rs hk hgn _ it=>intro hh;simp only[his,hi]at hh;exact VL.bptr (E:=zgc E n N) (by show _<n;omega) (by show(if b<N then E.gen b else none)=none;rw[if_pos (by omega)];exact hgn) (it (by omega))
 |rptr hk hg h1 h _ it=>intro hh;simp only[his,hi]at hh;exact .rptr (by show _<n;omega) hg h1 (fun hc=>h (by simp only[zgc]at hc;rw[if_pos (by omega)]at hc;exact hc)) (it (by omega))
 |lptr hs h hr _ it=>intro hh;simp only[his,hi]at hh;exact VL.lptr (E:=zgc E n N) hs h hr (it (by omega))
 |fn _ _ ih it=>intro hh;simp only[his,hi]at hh;exact .fn (ih (by omega)) (it (by omega))
 |bad _ it=>intro hh;simp only[his,hi]at hh;exact .bad (it (by omega))
theorem zM7{h:Store}{k:Nat}{t:TypeId}{cs:List AV}:h[k]?=some (Ent.box t cs)->his cs<=hiS h:=by
 induction h generalizing k with
 |nil=>intro h;simp at h
 |cons e h ih=>
  intro hk
  cases k with
  |zero=>simp at hk;subst hk;simp only[hiS];omega
  |succ k=>
   have:=ih (by simpa using hk);cases e<;>simp only[hiS]<;>omega
theorem zzn{base:Base}{h0 h:Store}{E0 E:Env}{m N:Nat}(R:Rel base h E)(S:Step h0 E0 h E)(hm:E0.n=m)(hN:m<=N)(hh:hiS h<=N):Rel base (h.take N) (zgc E (h.take N).length N)/\Step h0 E0 (h.take N) (zgc E (h.take N).length N):=by
 have hlen:(h.take N).length=min N E.n:=by rw[yan,R.n]
 have hget:∀k e,(h.take N)[k]?=some e->k<N/\h[k]?=some e:=fun k e he=>by
  rw[yaM]at he;split at he
  ·rename_i hk;exact⟨hk,he⟩
  ·cases he
 have hblk:∀k b,blkOf (zgc E (h.take N).length N) (h.take N) k=some b->blkOf E h k=some b:=fun k b hb=>by
  obtain⟨e,he,hbe⟩:=zdo hb;rw[zaN (hget k e he).2]
  cases e with
  |box=>exact hbe
  |it=>exact hbe
  |row _ _ ro _=>cases ro<;>exact hbe
 refine⟨⟨rfl,R.lo,fun k e he=>?_,fun k hk=>?_,fun k b hb=>R.own k b (hblk k b hb),fun i j b hi hj=>R.inj i j b (hblk i b hi) (hblk j b hj),R.lt⟩,
  ⟨⟨S.ext.P,?_,S.ext.top,fun k g hk hg hc=>?_,fun k hk hg=>⟨by
   show(if k<N then E.gen k else none)=none;split
   ·exact(S.ext.box k hk hg).1
   ·rfl,(S.ext.box k hk hg).2⟩,S.ext.keep⟩,S.os,S.tape,S.output,S.size,S.heap,S.fresh,S.held,fun k b hb=>S.blk k b (hblk k b hb)⟩⟩
 ·obtain⟨hk,he⟩:=hget k e he;have hgen:(zgc E (h.take N).length N).gen k=E.gen k:=if_pos hk;have ho:=R.ent k e he
  cases e with
  |box t cs=>
   obtain⟨h1,h2,h3,h4,vals,h5,h6⟩:=ho
   exact⟨by rw[hgen];exact h1,h2,h3,h4,vals,h5,zyw hlen h6 (yaO (zM7 he) hh)⟩
  |row e g ro xs=>
   cases ro with
   |false=>
    obtain⟨h1,h2⟩:=ho
    exact⟨by rw[hgen];exact h1,h2⟩
   |true=>
    obtain⟨h1,h2⟩:=ho
    exact⟨by rw[hgen];exact h1,h2⟩
  |it s pos=>
   obtain⟨h1,h2⟩:=ho;exact⟨by rw[hgen];exact h1,h2⟩
 ·show(if k<N then E.gen k else none)=none;split
  ·rw[yan]at hk;exact R.nogen k (by omega)
  ·rfl
 ·show E0.n<=(h.take N).length;have:=S.ext.n;rw[hlen];omega
 ·have hc':(if k<N then E.gen k else none)=some g:=hc;rw[if_pos (by omega)]at hc';exact S.ext.gen k g hk hg hc'
section
variable {P:Program} {base:Base} {I:Ifc}
def zGb(P:Program)(base:Base)(I:Ifc):Prop:=
 ∀(c:Code) (fz rt:List Nat) (ex:List (Nat×List Nat)) (af:List Nat) (d:Cd),cmp P fz rt ex af c=some d->∀(ag:List Nat) (s:St) (x:X) (s2:St),I.seg ag d s=some (x,s2)->∀(E:Env) (a:Act) (Q:Exit->Act->World->Prop),E.P=P->Rel base s.h E->VL E s.t a.tmps.toList->Lands base s.h E x s2 a Q->c.wp P Q a E.w
def zBW(P:Program)(base:Base)(I:Ifc)(c:Code):Prop:=
 ∀(fz rt:List Nat) (ex:List (Nat×List Nat)) (af:List Nat) (d:Cd),cmp P fz rt ex af c=some d->∀(s:St) (x:X) (s2:St),exec I d s=some (x,s2)->∀(E:Env) (a:Act) (Q:Exit->Act->World->Prop),E.P=P->Rel base s.h E->VL E s.t a.tmps.toList->Lands base s.h E x s2 a Q->c.wp P Q a E.w
theorem zDM{c:Code}(ih:zBW P base I c){fz rt:List Nat}{ex:List (Nat×List Nat)}{af:List Nat}{d:Cd}(hc:cmp P fz rt ex af c=some d){ag:List Nat}{s:St}{x:X}{s2:St}(he:I.apart ag d s=some (x,s2)){E:Env}{a:Act}{Q:Exit->Act->World->Prop}(hP:E.P=P)(R:Rel base s.h E)(V:VL E s.t a.tmps.toList)(L:Lands base s.h E x s2 a Q):c.wp P Q a E.w:=by
 have hm:E.n=s.h.length:=R.n
 have out:∀(x1:X) (s1:St) (t1:List AV),exec I d s=some (x1,s1)->(∀(E':Env) (vs:List Value),VL E' s1.t vs->VL E' t1 vs)->x1=x->snip s.h.length ⟨t1,s1.h⟩=s2->c.wp P Q a E.w:=fun x1 s1 t1 he1 ht hx hs=>by
  subst hx;subst hs;refine ih fz rt ex af d hc s x1 s1 he1 E a Q hP R V fun E' a' R' S' V' hd=>?_
  obtain⟨R2,S2⟩:=zzn (N:=max s.h.length (max (his t1) (hiS s1.h))) R' S' hm (by omega) (by omega);have V2:=zyw (E:=E') (N:=max s.h.length (max (his t1) (hiS s1.h))) (n:=(s1.h.take (max s.h.length (max (his t1) (hiS s1.h)))).length) (by rw[yan,R'.n]) (ht E' _ V') (by omega);exact L (zgc E' (s1.h.take (max s.h.length (max (his t1) (hiS s1.h)))).length (max s.h.length (max (his t1) (hiS s1.h)))) a' R2 S2 V2 hd
 unfold Ifc.apart at he;split at he
 ·rename_i s1 he1;injection he with he;injection he with h1 h2;exact out _ s1 _ he1 (fun E' vs hv=>zmM 0 hv) h1 h2
 ·rename_i id s1 he1;injection he with he;injection he with h1 h2;exact out _ s1 s1.t he1 (fun E' vs hv=>hv) h1 h2
 ·rename_i s1 he1;injection he with he;injection he with h1 h2;exact out _ s1 s1.t he1 (fun E' vs hv=>hv) h1 h2
 ·cases he
theorem zGE(hL:zx0 P base I){c:Code}(ih:zBW P base I c){fz rt:List Nat}{ex:List (Nat×List Nat)}{af:List Nat}{d:Cd}(hc:cmp P fz rt ex af c=some d){lv:List Nat}{m:Nat}{s:St}{x:X}{s2:St}
  (he:I.round lv m d s=some (x,s2)) {h0:Store} {E0 E:Env} {a:Act} {Q:Exit->Act->World->Prop} (hP:E.P=P) (hl:h0.length=m) (hm:E0.n=m) (hlt:∀b,E0.own b->b<E0.w.heap.size)
  (R:Rel base s.h E) (S:Step h0 E0 s.h E) (V:VL E s.t a.tmps.toList) (L:Lands base h0 E0 x s2 a Q):zrz P c Q a E.w:=by
 refine zGD ?_
 have out:∀(x1:X) (s1:St),x1≠ .nor->exec I d s=some (x1,s1)->some (x1,snip m s1)=some (x,s2)->c.wp P (Exit.then (zrz P c Q) Q) a E.w:=fun x1 s1 hne he1 he=>by
  obtain⟨rfl,rfl⟩:x1=x/\snip m s1=s2:=by simpa using he
  refine ih fz rt ex af d hc s x1 s1 he1 E a _ hP R V fun E' a' R' S' V' hd=>?_
  have S1:=S.trans S' hlt;obtain⟨R2,S2⟩:=zzn (N:=max m (max (his s1.t) (hiS s1.h))) R' S1 hm (by omega) (by omega);have V2:=zyw (E:=E') (N:=max m (max (his s1.t) (hiS s1.h))) (n:=(s1.h.take (max m (max (his s1.t) (hiS s1.h)))).length) (by rw[yan,R'.n]) V' (by omega);have:=L (zgc E' (s1.h.take (max m (max (his s1.t) (hiS s1.h)))).length (max m (max (his s1.t) (hiS s1.h)))) a' R2 S2 V2 hd
  cases x1 with
  |nor=>exact absurd rfl hne
  |brk id=>exact this
  |ret=>exact this
 unfold Ifc.round at he;split at he
 ·rename_i s1 he1;refine ih fz rt ex af d hc s _ s1 he1 E a _ hP R V fun E' a' R' S' V' hd=>?_
  have S1:=S.trans S' hlt;obtain⟨R2,S2⟩:=zzn (N:=max m (max (his (zhi lv 0 s1.t)) (hiS s1.h))) R' S1 hm (by omega) (by omega);have V2:=zyw (E:=E') (N:=max m (max (his (zhi lv 0 s1.t)) (hiS s1.h))) (n:=(s1.h.take (max m (max (his (zhi lv 0 s1.t)) (hiS s1.h)))).length) (by rw[yan,R'.n]) (zmM (lv:=lv) 0 V') (by omega);exact hL fz rt ex af c d hc lv m (tidy lv m s1) x s2 he h0 E0 (zgc E' (s1.h.take (max m (max (his (zhi lv 0 s1.t)) (hiS s1.h)))).length (max m (max (his (zhi lv 0 s1.t)) (hiS s1.h)))) a' Q (S'.ext.P.trans hP) hl hm hlt R2 S2 V2 (fun E3 a3 R3 S3 V3 hd3=>L E3 a3 R3 S3 V3 (hd3.trans hd))
 ·rename_i id s1 he1;exact out _ s1 (by simp) he1 he
 ·rename_i s1 he1;exact out _ s1 (by simp) he1 he
 ·cases he
theorem zoL(hm:P.follows .mixedOrders=true)(hI:I.o=yac)(IH:zdx P base I)(hPr:zdf P base I)(hF:zhb P I)(hL:zx0 P base I)(hS:zGb P base I)(c:Code):zBW P base I c:=by
 induction c with
 |skip=>
  intro fz rt ex af d hc s x s2 he E a Q hP R V L;cases hc;cases he
  exact wp_skip (L E a R (Step.refl _ E) V rfl)
 |exit id=>
  intro fz rt ex af d hc s x s2 he E a Q hP R V L;cases hc;cases he
  exact wp_exit (L E a R (Step.refl _ E) (zmM 0 V) rfl)
 |ret=>
  intro fz rt ex af d hc s x s2 he E a Q hP R V L;cases hc;cases he
  exact wp_ret (L E a R (Step.refl _ E) (zmM 0 V) rfl)
 |region id ops draw=>
  intro fz rt ex af d hc s x s2 he E a Q hP R V L;unfold cmp at hc;split at hc
  ·rename_i l hl;have M:=zzm hl;split at hc
   ·cases hc;unfold exec at he;split at he
    ·rename_i s' hs';cases he;obtain⟨md,_,hs'⟩:=zpN hs';exact zJn hI IH hPr hF hP R V M hs' fun E' a' R' S' V' hd=>L E' a' R' S' V' hd
    ·cases he
   ·split at hc
    ·rename_i hd;cases hc;unfold exec at he;split at he
     ·rename_i s' hs';cases he;rw[yaB]at hd;obtain⟨md,_,hs'⟩:=zpN hs';exact zM1 hm hI IH hPr hF hP R V (zAP M) (zwS hd.1) hs' fun E' a' R' S' V' hd=>L E' a' R' S' V' hd
     ·cases he
    ·split at hc
     ·rename_i hd;cases hc;rw[yaB,yaB]at hd
      have key:∀(s' s3:St) (md0 md:Nat),zbl I md0 (znW (yat ops) l) s=some s'->zbl I md (znv (yat ops) l (zfZ (yat ops) (zmq (yat ops) l))) s'=some s3->x=.nor->s2=s3->(Code.region id ops true).wp P Q a E.w:=fun s' s3 md0 md h1 h2 hx hs=>by
       subst hx hs;exact zKl hm hI IH hPr hF hP R V M hd.1.1 hd.2 h1 h2 fun E' a' R' S' V' hd=>L E' a' R' S' V' hd
      simp only[exec]at he;split at he
      ·rename_i s' hs';split at hs'
       ·rename_i s1 hs1;cases hs';obtain⟨md0,_,hs1⟩:=zpN hs1;split at he
        ·rename_i s3 hs3;cases he;obtain⟨md,_,hs3⟩:=zpN hs3;exact key _ _ md0 md hs1 hs3 rfl rfl
        ·cases he
       ·cases hs'
      ·rename_i hno;split at he
       ·rename_i s1 hs1;rename_i hs1;exact absurd (by rw[hs1]) (hno s1)
       ·cases he
     ·cases hc
  ·cases hc
 |seq c1 c2 ih1 ih2=>
  intro fz rt ex af d hc s x s2 he E a Q hP R V L;unfold cmp at hc;split at hc
  ·rename_i d2 h2;split at hc
   ·rename_i d1 h1;cases hc;unfold exec at he;refine wp_seq ?_;split at he
    ·rename_i s1 he1;refine ih1 fz rt ex _ d1 h1 s _ s1 he1 E a _ hP R V fun E' a' R' S' V' hd=>?_
     have plain:exec I d2 s1=some (x,s2)->c2.wp P Q a' E'.w:=fun he=>ih2 fz rt ex af d2 h2 s1 x s2 he E' a' Q (S'.ext.P.trans hP) R' V' (L.next R S' hd)
     unfold zMB at he;split at he
     ·split at he
      ·simp only[exec]at he;exact hS c2 fz rt ex af d2 h2 _ _ x s2 he E' a' Q (S'.ext.P.trans hP) R' (zmM 0 V') (L.next R S' hd)
      ·exact plain he
     ·exact plain he
    ·rename_i hne;refine ih1 fz rt ex _ d1 h1 s x s2 he E a _ hP R V fun E' a' R' S' V' hd=>?_
     have:=L E' a' R' S' V' hd
     cases x with
     |nor=>exact absurd he (hne s2)
     |brk id=>exact this
     |ret=>exact this
   ·cases hc
  ·cases hc
 |cond o c1 c2 ih1 ih2=>
  intro fz rt ex af d hc s x s2 he E a Q hP R V L;unfold cmp at hc;split at hc
  ·rename_i o' d1 d2 ho h1 h2;cases hc;unfold exec at he;split at he
   ·rename_i hb;have hv:=zaS V ho;rw[zqM hb]at hv;exact wp_cond_true hv.sc_inv.1 (ih1 fz rt ex af d1 h1 s x s2 he E a Q hP R V L)
   ·rename_i hb;have hv:=zaS V ho;rw[zqM hb]at hv;exact wp_cond_false hv.sc_inv.1 (ih2 fz rt ex af d2 h2 s x s2 he E a Q hP R V L)
   ·cases he
  ·cases hc
 |block id c ih=>
  intro fz rt ex af d hc s x s2 he E a Q hP R V L;unfold cmp at hc;obtain⟨d1,h1,rfl⟩:=zbJ hc;unfold exec at he;refine wp_block ?_;split at he
  ·rename_i j s1 he1;refine ih fz rt ((id,af)::ex) af d1 h1 s _ s1 he1 E a _ hP R V fun E' a' R' S' V' hd=>?_
   simp only[zIE,Exit.inBlock];split at he
   ·rename_i hji;cases he;rw[if_pos hji];exact L E' a' R' S' V' hd
   ·rename_i hji;cases he;rw[if_neg hji];exact L E' a' R' S' V' hd
  ·rename_i hne;refine ih fz rt ((id,af)::ex) af d1 h1 s x s2 he E a _ hP R V fun E' a' R' S' V' hd=>?_
   have:=L E' a' R' S' V' hd
   cases x with
   |nor=>exact this
   |brk id=>exact absurd he (hne id s2)
   |ret=>exact this
 |loop c ih=>
  intro fz rt ex af d hc s x s2 he E a Q hP R V L;unfold cmp at hc;split at hc
  ·split at hc
   ·rename_i d2 h2;cases hc;simp only[exec]at he;exact zNg (hL fz rt ex _ c d2 h2 _ _ _ x s2 he s.h E E a Q hP rfl R.n R.lt R (Step.refl _ E) (zmM 0 V) L)
   ·cases hc
  ·cases hc
 |_=>intro fz rt ex af d hc;first|(unfold cmp at hc;cases hc;done)|(cases hc)
end
theorem zKy{base:Base}{h:Store}{E:Env}(R:Rel base h E){o:Ops}{ag:Bool}{n:Nat}{p v:AV}{pv:Value}(hp:VL E [p] [pv])(hl:loadAt o h ag n p=some v):∃A,pv=.pointer (some A):=by
 cases p with
 |bptr b off=>obtain⟨_,rfl⟩:=hp.bptr_inv;exact⟨_,rfl⟩
 |rptr k g i off=>
  simp only[loadAt]at hl;split at hl
  ·rename_i hr;obtain⟨_,_,h1⟩:=hp.rptr_inv;obtain⟨hgen,_⟩:=zbk R hr;obtain⟨b,_,rfl⟩:=h1 hgen;exact⟨_,rfl⟩
  ·cases hl
 |lptr e xs i off=>obtain⟨b,o,vals,_,_,_,rfl⟩:=hp.lptr_inv;exact⟨_,rfl⟩
 |_=>simp only[loadAt]at hl;cases hl
def zvI(tmps:Array Value):ResultVar->Sem Value
 | .tmp t=>pure (tmps.getD t undef)
 | .cell a t=>do loadVar t (<-asAddr (tmps.getD a undef))
theorem zw4{P:Program}{base:Base}{h:Store}{E:Env}(R:Rel base h E)(hP:E.P=P){t:List AV}{tmps:Array Value}(V:VL E t tmps.toList)(rl:List ResultVar):∀{rs:List Rs} {avs:List AV},zsM P rl=some rs->Go.Ab.results yac ⟨t,h⟩ rs=some avs->
  ∃us,(rl.mapM (zvI tmps)).run P E.w=Result.ok us E.w/\VL E avs us:=by
 induction rl with
 |nil=>intro rs avs hc hr;cases hc;simp only[Go.Ab.results]at hr;cases hr;exact⟨[],by simp,.nil⟩
 |cons x rl ih=>
  intro rs avs hc hr
  cases x with
  |tmp n=>
   simp only[zsM]at hc;obtain⟨rs',hrs,rfl⟩:=zbJ hc;simp only[Go.Ab.results]at hr;split at hr
   ·rename_i l hl;cases hr;obtain⟨us,h1,h2⟩:=ih hrs hl;exact⟨tmps.getD n undef::us,by simp[List.mapM_cons,h1,zvI],(VL.of_getD V n).cons h2⟩
   ·cases hr
  |cell a ty=>
   simp only[zsM]at hc;split at hc
   ·rename_i ag rs' hag hrs;split at hc
    ·rename_i hi;cases hc;simp only[Go.Ab.results]at hr;split at hr
     ·rename_i v l hv hl;cases hr;obtain⟨us,h1,h2⟩:=ih hrs hl;have hav:=VL.of_getD V a;obtain⟨A,hA⟩:=zKy R hav hv;obtain⟨v',h3,h4⟩:=zyJ R hP hag hi hav hv;rw[hA]at h3;have h5:(loadVar ty A).run P E.w=.ok v' E.w:=by simpa[Instr.loadAt,Instr.sureAddr]using h3
      refine⟨v'::us,?_,h4.cons h2⟩;rw[ybT]at hA;simp[List.mapM_cons,h1,zvI,hA,asAddr,h5]
     ·cases hr
    ·cases hc
   ·cases hc
theorem zs8(n:Nat):∀{h s:Store},zlZ n h=some s->s.length=n/\n<=h.length/\∀k,k<n->s[k]?=h[k]? /\∃t cs,h[k]?=some (Ent.box t cs)/\cs.all isSc=true:=by
 induction n with
 |zero=>intro h s he;simp only[zlZ]at he;cases he;exact⟨rfl,yaP _,fun k hk=>absurd hk (Nat.not_lt_zero _)⟩
 |succ n ih=>
  intro h s he
  cases h with
  |nil=>simp only[zlZ]at he;cases he
  |cons e h=>
   cases e with
   |row=>simp only[zlZ]at he;cases he
   |it=>simp only[zlZ]at he;cases he
   |box t cs=>
    simp only[zlZ]at he;split at he
    ·rename_i hcs;split at he
     ·rename_i s' hs';cases he;obtain⟨h1,h2,h3⟩:=ih hs';refine⟨by simp[h1],by simp[h2],fun k hk=>?_⟩
      cases k with
      |zero=>exact⟨by simp,t,cs,by simp,hcs⟩
      |succ k=>simpa using h3 k (by omega)
     ·cases he
    ·cases he
theorem zAl{h:Store}(ks:List Nat):∀{s:Store},kept h ks=some s->s.length=ks.length/\∀(j k:Nat),ks[j]?=some k->∃e g xs,h[k]?=some (Ent.row e g false xs)/\s[j]?=some (Ent.row e 0 false xs):=by
 induction ks with
 |nil=>intro s he;cases he;exact⟨rfl,fun j k h=>by simp at h⟩
 |cons k ks ih=>
  intro s he;unfold kept at he;split at he
  ·rename_i e g xs s' hk hs';cases he;obtain⟨h1,h2⟩:=ih hs';refine⟨by simp[h1],fun j k' hj=>?_⟩
   cases j with
   |zero=>simp at hj;subst hj;exact⟨e,g,xs,hk,by simp⟩
   |succ j=>simpa using h2 j k' (by simpa using hj)
  ·cases he
def zcj(E:Env)(h:Store)(n:Nat)(ks:List Nat):Env:=
 {E with
  n:=n+ks.length
  gen:=fun k=>if k<n then E.gen k else if k<n+ks.length then some 0 else none
  top:=fun k=>if k<n then E.top k else 0
  esz:=fun k=>if k<n then E.esz k else E.esz (ks.getD (k-n) 0)
  row:=fun k=>if k<n then E.row k else E.row (ks.getD (k-n) 0)
  own:=fun b=>E.own b/\∀k,blkOf E h k=some b->k<n\/k∈ks}
def KsOk(h:Store)(n:Nat)(ks:List Nat):Prop:=ks.Nodup/\∀k,k∈ks->n<=k
mutual
theorem zFW(n:Nat)(h:Store)(keep:Bool):∀(x:AV) {ks:List Nat} {x':AV} {ks':List Nat},lay1 yac n h keep x ks=some (x',ks')->KsOk h n ks->KsOk h n ks'/\(∃m,ks'=ks++m)/\(keep=false->ks'=ks):=by
 intro x ks x' ks' hl hk
 cases x with
 |sl k g=>
  simp only[lay1,zCG]at hl
  split at hl
  ·split at hl
   ·rename_i hc
    cases hl
    simp only[yaB,decide_eq_true_eq,Bool.not_eq_true']at hc
    refine⟨⟨?_,fun k' hk'=>?_⟩,⟨_,rfl⟩,fun hf=>by rw[hf]at hc;simp at hc⟩
    ·rw[List.nodup_append]
     refine⟨hk.1,by simp,fun a ha b hb=>?_⟩
     simp at hb;subst hb
     intro e;subst e
     have:=hc.2
     simp[ha]at this
    ·rcases yal.1 hk' with h1|h1
     ·exact hk.2 k' h1
     ·simp at h1;subst h1;exact hc.1.2
   ·split at hl
    ·cases hl
    ·cases hl;exact⟨hk,⟨[],by simp⟩,fun _=>rfl⟩
  ·cases hl
 |sub k g lo hi=>
  simp only[lay1,zCH]at hl
  split at hl
  ·split at hl
   ·cases hl
   ·split at hl
    ·cases hl;exact⟨hk,⟨[],by simp⟩,fun _=>rfl⟩
    ·cases hl
  ·cases hl
 |agg cs=>
  simp only[lay1]at hl
  split at hl
  ·rename_i hl';cases hl;exact zu2 n h keep cs hl' hk
  ·cases hl
 |tup cs=>
  simp only[lay1]at hl
  split at hl
  ·rename_i hl';cases hl;exact zu2 n h keep cs hl' hk
  ·cases hl
 |sc v=>simp only[lay1]at hl;cases hl;exact⟨hk,⟨[],by simp⟩,fun _=>rfl⟩
 |lit e f xs=>simp only[lay1]at hl;cases hl;exact⟨hk,⟨[],by simp⟩,fun _=>rfl⟩
 |_=>simp only[lay1]at hl;cases hl
theorem zu2(n:Nat)(h:Store)(keep:Bool):∀(l:List AV) {ks:List Nat} {l':List AV} {ks':List Nat},lay yac n h keep l ks=some (l',ks')->KsOk h n ks->KsOk h n ks'/\(∃m,ks'=ks++m)/\(keep=false->ks'=ks):=by
 intro l ks l' ks' hl hk
 cases l with
 |nil=>simp only[lay]at hl;cases hl;exact⟨hk,⟨[],by simp⟩,fun _=>rfl⟩
 |cons x r=>
  simp only[lay]at hl
  split at hl
  ·rename_i x' ks1 hx
   split at hl
   ·rename_i hr
    cases hl
    obtain⟨k1,⟨m1,e1⟩,f1⟩:=zFW n h keep x hx hk
    obtain⟨k2,⟨m2,e2⟩,f2⟩:=zu2 n h keep r hr k1
    exact⟨k2,⟨m1++m2,by rw[e2,e1];simp⟩,fun hf=>by rw[f2 hf,f1 hf]⟩
   ·cases hl
  ·cases hl
end
section
variable {base:Base} {s h:Store} {E0 E:Env} {ks:List Nat}
mutual
theorem zNe(R:Rel base h E){n:Nat}{keep:Bool}{fin:List Nat}(hbox:∀k,k<n->∃t cs,h[k]?=some (Ent.box t cs)):∀(x:AV) {v:Value} {ks:List Nat} {x':AV} {ks':List Nat},lay1 yac n h keep x ks=some (x',ks')->KsOk h n ks->VL E [x] [v]->(∃m,fin=ks'++m)->(keep=false->fin=[])->VL (zcj E h n fin) [x'] [v]:=by
 intro x v ks x' ks' hl hks hv hfin hk0
 have hnot:∀{k g e ro xs},zaV h k g=some (e,ro,xs)->n<=k:=fun{k g e ro xs} hr=>by
  refine Nat.le_of_not_lt fun hlt=>?_
  obtain⟨t,cs,hb⟩:=hbox k hlt
  rw[za2 hr]at hb;cases hb
 have hless:keep=false->∀b,(zcj E h n fin).own b->E.own b/\¬∃k,n<=k/\blkOf E h k=some b:=fun hf b hb=>⟨hb.1,fun⟨k,hnk,hkb⟩=>by
  rcases hb.2 k hkb with h1|h1
  ·omega
  ·rw[hk0 hf]at h1;simp at h1⟩
 cases x with
 |sl k g=>
  simp only[lay1,zCG]at hl
  split at hl
  ·rename_i e ro xs hr
   obtain⟨hgen,_⟩:=zbk R hr
   obtain⟨hkn,hg,h1,hrow⟩:=hv.sl_inv
   have hrow:=hrow hgen
   split at hl
   ·rename_i hc
    cases hl
    obtain⟨m,hm⟩:=hfin
    have hlt:ks.length<fin.length:=by rw[hm];simp
    have hget:fin.getD ks.length 0=k:=by rw[hm];simp[List.getD]
    refine .sl (by show n+ks.length<n+fin.length;omega) (by simp[zcj]) h1 (fun _=>?_) .nil
    simp only[zcj]
    rw[if_neg (by omega),Nat.add_sub_cancel_left,hget];exact hrow
   ·split at hl
    ·cases hl
    ·cases hl
     rename_i hf
     have hf':false=false:=rfl
     rw[hrow]
     exact .data ((zoZ (L:=fun b=>∃k,n<=k/\blkOf E h k=some b) R hr (fun b hb=>⟨k,hnot hr,hb⟩)).less (hless hf')) .nil
  ·cases hl
 |sub k g lo hi=>
  simp only[lay1,zCH]at hl
  split at hl
  ·rename_i e ro xs hr
   split at hl
   ·cases hl
   ·rename_i hf
    split at hl
    ·rename_i ys hys
     cases hl
     exact .data ((zGa (L:=fun b=>∃k,n<=k/\blkOf E h k=some b) R hv hr hys (fun b hb=>⟨k,hnot hr,hb⟩)).less (hless rfl)) .nil
    ·cases hl
  ·cases hl
 |agg cs=>
  simp only[lay1]at hl
  split at hl
  ·rename_i hl'
   cases hl
   obtain⟨us,rfl,h2⟩:=hv.agg_inv
   exact .agg (zyG R hbox cs hl' hks h2 hfin hk0) .nil
  ·cases hl
 |tup cs=>
  simp only[lay1]at hl
  split at hl
  ·rename_i hl'
   cases hl
   obtain⟨us,rfl,h2⟩:=hv.tup_inv
   exact .tup (zyG R hbox cs hl' hks h2 hfin hk0) .nil
  ·cases hl
 |sc u=>
  simp only[lay1]at hl;cases hl
  obtain⟨e1,e2⟩:=hv.sc_inv
  subst e1
  exact .data (.sc e2 .nil) .nil
 |lit e f xs=>
  simp only[lay1]at hl;cases hl
  exact .data (hv.lit_inv.less fun b hb=>hb.1) .nil
 |_=>simp only[lay1]at hl;cases hl
theorem zyG(R:Rel base h E){n:Nat}{keep:Bool}{fin:List Nat}(hbox:∀k,k<n->∃t cs,h[k]?=some (Ent.box t cs)):∀(l:List AV) {vs:List Value} {ks:List Nat} {l':List AV} {ks':List Nat},lay yac n h keep l ks=some (l',ks')->KsOk h n ks->VL E l vs->(∃m,fin=ks'++m)->(keep=false->fin=[])->VL (zcj E h n fin) l' vs:=by
 intro l vs ks l' ks' hl hks hv hfin hk0
 cases l with
 |nil=>simp only[lay]at hl;cases hl;cases hv;exact .nil
 |cons x r=>
  simp only[lay]at hl
  split at hl
  ·rename_i x' ks1 hx
   split at hl
   ·rename_i hr
    cases hl
    obtain⟨v,us,rfl,h1,h2⟩:=hv.uncons
    obtain⟨k1,_,_⟩:=zFW n h keep x hx hks
    obtain⟨_,⟨m2,hm2⟩,_⟩:=zu2 n h keep r hr k1
    refine VL.cons (zNe R hbox x hx hks h1 ?_ hk0) (zyG R hbox r hr k1 h2 hfin hk0)
    obtain⟨m,hm⟩:=hfin
    exact⟨m2++m,by rw[hm,hm2];simp⟩
   ·cases hl
  ·cases hl
end
theorem zNx{n:Nat}(R:Rel base h E){a b:Store}(ha:zlZ n h=some a)(hb:kept h ks=some b)(hk:KsOk h n ks):Rel base (a++b) (zcj E h n ks):=by
 obtain⟨a1,a2,a3⟩:=zs8 n ha;obtain⟨b1,b2⟩:=zAl ks hb
 have hget:∀k e,(a++b)[k]?=some e->(k<n/\h[k]?=some e/\∃t cs,e=Ent.box t cs/\cs.all isSc=true)\/(n<=k/\∃e' g xs,k-n<ks.length/\h[ks.getD (k-n) 0]?=some (Ent.row e' g false xs)/\e=Ent.row e' 0 false xs):=by
  intro k e he;by_cases hlt:k<n
  ·left;rw[yah (by omega)]at he;obtain⟨h1,t,cs,h2,h3⟩:=a3 k hlt;rw[h1]at he;refine⟨hlt,he,t,cs,?_,h3⟩;rw[h2]at he;cases he;rfl
  ·right;rw[yax (by omega),a1]at he
   have hlt2:k-n<ks.length:=by
    have:=(yae.1 he).1;omega
   obtain⟨e',g,xs,h1,h2⟩:=b2 (k-n) _ (yad hlt2);refine⟨by omega,e',g,xs,hlt2,?_,?_⟩
   ·rw[show ks.getD (k-n) 0=ks[k-n]by simp[hlt2]];exact h1
   ·rw[h2]at he;cases he;rfl
 have hblk:∀k g,blkOf (zcj E h n ks) (a++b) k=some g->∃k',blkOf E h k'=some g/\((k<n/\k'=k)\/(n<=k/\k-n<ks.length/\k'=ks.getD (k-n) 0)):=by
  intro k g hg;obtain⟨e,he,hee⟩:=zdo hg;rcases hget k e he with⟨hlt,h1,t,cs,rfl,_⟩|⟨hge,e',g',xs,hlt,h1,rfl⟩
  ·exact⟨k,by rw[zaN h1];exact hee,.inl ⟨hlt,rfl⟩⟩
  ·refine⟨ks.getD (k-n) 0,?_,.inr ⟨hge,hlt,rfl⟩⟩;rw[zaN h1];simp only[zbF,zcj]at hee⊢;rw[if_neg (by omega)]at hee;exact hee
 refine⟨?_,R.lo,fun k e he=>?_,fun k hk'=>?_,fun k g hg=>?_,fun k j g hkg hjg=>?_,fun g hg=>R.lt g hg.1⟩
 ·show n+ks.length=(a++b).length;simp[a1,b1]
 ·rcases hget k e he with⟨hlt,h1,t,cs,rfl,hsc⟩|⟨hge,e',g',xs,hlt,h1,rfl⟩
  ·obtain⟨e1,e2,e3,e4,vals,e5,e6⟩:=R.ent k _ h1;refine⟨by simp only[zcj];rw[if_pos hlt];exact e1,by simp only[zcj];rw[if_pos hlt];exact e2,e3,e4,vals,e5,zBU e6 hsc⟩
  ·obtain⟨e1,e2,e3,e4,vals,e5,e6,e7⟩:=R.ent _ _ h1;refine⟨by simp only[zcj];rw[if_neg (by omega),if_pos (by omega)],by simp only[zcj];rw[if_neg (by omega)],by simp only[zcj];rw[if_neg (by omega)];exact e3,e4,vals,?_,e6.less fun g hg=>hg.1,e7⟩;simp only[zcj];rw[if_neg (by omega)];exact e5
 ·have hk2:n+ks.length<=k:=by simp[a1,b1]at hk';omega
  simp only[zcj];rw[if_neg (by omega),if_neg (by omega)]
 ·obtain⟨k',h1,h2⟩:=hblk k g hg;refine⟨R.own k' g h1,fun k2 hk2=>?_⟩;have:=R.inj k2 k' g hk2 h1;subst this;rcases h2 with⟨h3,rfl⟩|⟨_,h3,h4⟩
  ·exact .inl h3
  ·right;rw[h4];simp[h3]
 ·obtain⟨k',h1,h2⟩:=hblk k g hkg;obtain⟨j',h3,h4⟩:=hblk j g hjg;have:=R.inj k' j' g h1 h3;subst this;have big:∀i,i<ks.length->n<=ks.getD i 0:=fun i hi=>hk.2 _ (by simp[hi])
  rcases h2 with⟨a1,a2⟩|⟨a0,a1,a2⟩<;>rcases h4 with⟨b1,b2⟩|⟨b0,b1,b2⟩
  ·omega
  ·have:=big _ b1;omega
  ·have:=big _ a1;omega
  ·rw[a2]at b2
   have h5:ks[k-n]'a1=ks[j-n]'b1:=by
    simpa[a1,b1]using b2
   have hnd:=ya6.1 hk.1;rcases ybr (k-n) (j-n)with h6|h6|h6
   ·exact absurd h5 (hnd _ _ a1 b1 h6)
   ·omega
   ·exact absurd h5.symm (hnd _ _ b1 a1 h6)
theorem zKK{n:Nat}(R0:Rel base s E0)(hn:s.length=n)(S:Step s E0 h E){a b:Store}(ha:zlZ n h=some a)(hb:kept h ks=some b)(R:Rel base h E):Step s E0 (a++b) (zcj E h n ks):=by
 have hsn:E0.n=n:=by rw[R0.n,hn]
 obtain⟨a1,a2,a3⟩:=zs8 n ha;obtain⟨b1,b2⟩:=zAl ks hb;refine⟨⟨S.ext.P,by show E0.n<=n+ks.length;omega,fun k hk=>?_,fun k g hk hg hgen=>?_,fun k hk hg=>⟨by simp only[zcj];rw[if_pos (by omega)];exact(S.ext.box k hk hg).1,(S.ext.box k hk hg).2⟩,fun A v h1 h2=>?_⟩,S.os,S.tape,S.output,S.size,S.heap,fun g hg=>S.fresh g hg.1,fun g h1 h2=>⟨S.held g h1 h2,fun k hk=>?_⟩,fun k g hg=>?_⟩
 ·simp only[zcj];rw[if_pos (by omega)];exact S.ext.top k hk
 ·simp only[zcj]at hgen⊢;rw[if_pos (by omega)]at hgen;rw[if_pos (by omega),if_pos (by omega)];exact S.ext.gen k g hk hg hgen
 ·obtain⟨h3,h4⟩:=S.ext.keep A v h1 h2;exact⟨fun hh=>h3 hh.1,h4⟩
 ·exfalso;rcases S.blk k g hk with⟨j,hj⟩|hge
  ·exact h2 j hj
  ·have:=R0.lt g h1;omega
 ·obtain⟨e,he,hee⟩:=zdo hg;by_cases hlt:k<n
  ·rw[yah (by omega)]at he;obtain⟨h1,t,cs,h2,h3⟩:=a3 k hlt;rw[h1,h2]at he;cases he;exact S.blk k g (by rw[zaN h2];exact hee)
  ·rw[yax (by omega),a1]at he
   have hlt2:k-n<ks.length:=by
    have:=(yae.1 he).1;omega
   obtain⟨e',g',xs,h1,h2⟩:=b2 (k-n) _ (yad hlt2);rw[h2]at he;cases he;refine S.blk (ks[k-n]) g ?_;rw[zaN h1];simp only[zbF,zcj]at hee⊢;rw[if_neg (by omega),show ks.getD (k-n) 0=ks[k-n]by simp[hlt2]]at hee;exact hee
end
theorem zyt{P:Program}{kmd:Md}{fz:List Nat}{f:FuncId}{fn:Fn}(h:zae P kmd fz f=some fn):∃g c,P.funcs[f]?=some g/\g.body=some c/\(∃rt af,cmp P fz rt [] af c=some fn.body)/\zsM P g.results.toList=some fn.results/\fn.ntmps=g.ntmps/\g.name≠ "runtime.NumGoroutine":=by
 unfold zae at h;split at h
 ·rename_i g hg;split at h
  ·rename_i c hc;split at h
   ·rename_i rs hrs;split at h
    ·rename_i b hb;split at h
     ·rename_i hn;cases h;exact⟨g,c,hg,hc,⟨_,_,hb⟩,hrs,rfl,hn⟩
     ·cases h
    ·cases h
   ·cases h
  ·cases h
 ·cases h
def zGM:List Value->Value
 | [v]=>v
 |l=>.tuple l.toArray
theorem zyW(fn:Func)(tmps:Array Value){P:Program}{w:World}{us:List Value}(h:(fn.results.toList.mapM (zvI tmps)).run P w=.ok us w):(Go.results fn tmps).run P w=.ok (zGM us) w:=by
 have e:Go.results fn tmps=(do let vs<-fn.results.mapM (zvI tmps);pure (if h:vs.size=1 then vs[0]else .tuple vs)):=by
  unfold Go.results;congr 1
 rw[e,Array.mapM_eq_mapM_toList];rcases us with _|⟨v,_|⟨v',r⟩⟩<;>simp[h,zGM]
theorem zF5{E:Env}{l:List AV}{us:List Value}(h:VL E l us):VL E [match(generalizing:=false) l with| [v]=>v|l=>.tup l] [zGM us]:=by
 have hl:=h.length
 match l,us,hl,h with
 | [],[],_,h=>exact .tup h .nil
 | [x],[v],_,h=>exact h
 |x::y::r,v::u::q,_,h=>exact .tup h .nil
theorem zEB{P:Program}{base:Base}{I:Ifc}(hm:P.follows .mixedOrders=true)(hI:I.o=yac)(IH:zdx P base I)(hPr:zdf P base I)(hF:zhb P I)(hL:zx0 P base I)(hS:zGb P base I){kmd:Md}{fz:List Nat}{f:FuncId}{fn:Fn}(hc:zae P kmd fz f=some fn){args:List AV}{s h2:Store}{r:AV}(hr:zak I fn args s=some (r,h2))(E:Env)(vs:List Value)(hP:E.P=P)(R:Rel base s E)(V:VL E args vs):
  Calls P f vs.toArray E.w fun e w'=>∃v E',e=.returned v/\E'.w=w'/\Rel base h2 E'/\Step s E h2 E'/\VL E' [r] [v]:=by
 obtain⟨g,c,hg,hb,⟨rt,af,hcc⟩,hrs,hnt,_⟩:=zyt hc;have hlen:vs.toArray.size=args.length:=by simpa using V.length
 have V0:VL E (args++yaA (fn.ntmps-args.length) .bad) (vs.toArray++Array.replicate (g.ntmps-vs.toArray.size) undef).toList:=by
  rw[yb2,hlen,hnt];refine VL.append V ?_;simp only[Array.toList_replicate];generalize g.ntmps-args.length=m
  induction m with
  |zero=>exact .nil
  |succ m ih=>exact .bad ih
 unfold zak at hr;split at hr
 ·cases hr
 ·cases hr
 ·rename_i x st hne hex;split at hr
  ·cases hr
  ·rename_i rs hres
   have lit:∀md:Md,(match lay I.o s.length st.h md.kp (ze0 fn.rsh rs) []with
     |none=>none
     |some (rs',ks)=>match zlZ s.length st.h,kept st.h ks with
      |some a,some b=>some (match(generalizing:=false) rs' with| [v]=>v|l=>.tup l,a++b)
      |_,_=>none)=some (r,h2)->
     Calls P f vs.toArray E.w fun e w'=>∃v E',e=.returned v/\E'.w=w'/\Rel base h2 E'/\Step s E h2 E'/\VL E' [r] [v]:=fun md hr=>by
    split at hr
    ·cases hr
    ·rename_i rs' ks hlay;split at hr
     ·rename_i a b ha hkb;simp only[ybh,ybs]at hr;obtain⟨rfl,rfl⟩:=hr;rw[hI]at hres hlay;refine calls_of_wp hg hb ?_;refine zoL hm hI IH hPr hF hL hS c fz rt [] af fn.body hcc _ x st hex E _ _ hP R V0 fun E1 a1 R1 S1 V1 hd=>?_
      obtain⟨us,h1,h3⟩:=zw4 R1 (S1.ext.P.trans hP) V1 g.results.toList hrs hres
      have hbox:∀k,k<s.length->∃t cs,st.h[k]?=some (Ent.box t cs):=fun k hk=>by
       obtain⟨_,_,h⟩:=zs8 _ ha;obtain⟨_,t,cs,h,_⟩:=h k hk;exact⟨t,cs,h⟩
      have hk0:KsOk st.h s.length []:=⟨List.nodup_nil,fun k hk=>by simp at hk⟩
      obtain⟨hks,_,hkf⟩:=zu2 _ _ _ _ hlay hk0;have V2:=zyG R1 hbox _ hlay hk0 (zmW _ _ h3) ⟨[],by simp⟩ hkf;have R2:=zNx R1 ha hkb hks;have S2:=zKK R rfl S1 ha hkb R1
      have hpost:a1.defers=[]/\∃v,(Go.results g a1.tmps).run P E1.w=.ok v E1.w/\∃v' E',Ending.returned v=.returned v'/\E'.w=E1.w/\Rel base (a++b) E'/\Step s E (a++b) E'/\VL E' [match(generalizing:=false) rs' with| [v]=>v|l=>.tup l] [v']:=
       ⟨hd,_,zyW g a1.tmps h1,_,zcj E1 st.h s.length ks,rfl,rfl,R2,S2,zF5 V2⟩
      cases x with
      |nor=>exact hpost
      |ret=>exact hpost
      |brk id=>exact absurd rfl (hne id)
     ·cases hr
   split at hr
   ·split at hr
    case h_1=>cases hr
    rename_i rs1 hs1 htr;split at hr
    ·cases hr
    ·rename_i rs' s' hgc;simp only[ybh,ybs]at hr;obtain⟨rfl,rfl⟩:=hr;rw[hI]at hres htr;refine calls_of_wp hg hb ?_;refine zoL hm hI IH hPr hF hL hS c fz rt [] af fn.body hcc _ x st hex E _ _ hP R V0 fun E1 a1 R1 S1 V1 hd=>?_
     obtain⟨us,h1,h3⟩:=zw4 R1 (S1.ext.P.trans hP) V1 g.results.toList hrs hres;obtain⟨E2,w2,R2,S2,V2⟩:=zNI R1 (zmW fn.rsh rs h3) htr;obtain⟨E3,w3,R3,S3,V3⟩:=gc_ok R (S1.trans S2 R.lt) R2 V2 hgc
     have hpost:a1.defers=[]/\∃v,(Go.results g a1.tmps).run P E1.w=.ok v E1.w/\∃v' E',Ending.returned v=.returned v'/\E'.w=E1.w/\Rel base s' E'/\Step s E s' E'/\VL E' [match(generalizing:=false) rs' with| [v]=>v|l=>.tup l] [v']:=
      ⟨hd,_,zyW g a1.tmps h1,_,E3,rfl,w3.trans w2,R3,S3,zF5 V3⟩
     cases x with
     |nor=>exact hpost
     |ret=>exact hpost
     |brk id=>exact absurd rfl (hne id)
   ·exact lit _ hr
end Go.Ab
