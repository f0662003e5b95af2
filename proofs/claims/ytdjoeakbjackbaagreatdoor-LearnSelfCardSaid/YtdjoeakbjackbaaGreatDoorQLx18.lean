/- Our texts for this statement, merged: what its theorem leads to. -/
import Derived.Lib.DecodeN
import Derived.Lib.RuneCountTail
import Derived.Lib.TrimU
import Derived.Test.YtdjoeakbjackbaaGreatDoorQLx11
import Derived.Test.YtdjoeakbjackbaaGreatDoorQLx12
import Derived.Test.YtdjoeakbjackbaaGreatDoorQLx13
import Derived.Test.YtdjoeakbjackbaaGreatDoorQLx14
import Derived.Test.YtdjoeakbjackbaaGreatDoorQLx15
import Derived.Test.YtdjoeakbjackbaaGreatDoorQLx16
import Derived.Test.YtdjoeakbjackbaaGreatDoorQLx17
set_option linter.unusedVariables false
set_option linter.unusedSimpArgs false
noncomputable section
namespace Go.Ab.Tryz.Pe
open Go.Ab.Tryz Go Go.Ab Go.Proofs
open Go.Ab.Ops renaming std->yac
open Go.IntKind renaming u64->ycr
open Int renaming toNat_natCast->yaR
open List renaming append_assoc->yao,append_nil->ybe,flatMap_cons->ybm,getElem?_eq_getElem->yad,getElem?_eq_some_iff->yae,length_append->yaf,length_cons->yav,length_drop->yar,mem_of_getElem?->yam,pairwise_iff_getElem->ya6,replicate->yaA,take_left->ya9
open Nat renaming add_assoc->yaU,le_refl->yag
open Option renaming bind_some->yaa
open Option.some renaming injEq->ybh
def PeOk(p:Peer):Prop:=0<=p.id/\p.id<18446744073709551616
def dist(a b:Int):Int:=(b-a)%18446744073709551616
theorem ring_Dist_eq(a b:Int):zjo a b=some (dist a b):=zw6 (by
 show some (ycr.wrap (b-a))=_
 rw[zxS];rfl)
theorem r03_Dist_eq{a b:Int}(ha:0<=a)(ha2:a<18446744073709551616)(hb:0<=b)(hb2:b<18446744073709551616):zm1 a b=some (dist a b):=zGT (by
 unfold ztf;show(bif yac.ile a b then some (ycr.wrap (b-a))else some (ycr.wrap (ycr.wrap (18446744073709551615-ycr.wrap (a-b))+1)))=_;simp only[zxS,dist,za4,zac];split
 ·rfl
 ·congr 1;omega)
def zff(me a b:Peer):Bool:=decide (dist me.id a.id<dist me.id b.id\/dist me.id a.id=dist me.id b.id/\a.addr<b.addr)
theorem zmY(me a b:Peer):znx me a b=some (zff me a b):=zAR (by
 simp only[zoe,ring_Dist_eq,yaa,zaq,zaf,zac,zff];split
 ·simp_all
 ·split<;>simp_all)
theorem zC6{me a b:Peer}(hm:PeOk me)(ha:PeOk a)(hb:PeOk b):zvn me a b=some (zff me a b):=zEn (by
 simp only[zq7,r03_Dist_eq hm.1 hm.2 ha.1 ha.2,r03_Dist_eq hm.1 hm.2 hb.1 hb.2,yaa,zaq,zaf,zac,zff];split
 ·rename_i h;simp[h]
 ·rename_i h;simp[h])
def isAt(addr:Int)(e:Entry):Bool:=decide (e.peer.addr=addr)
def place(l:List Entry)(addr:Int):Int:=fstI (isAt addr) l
theorem zo4{l:List Entry}{addr:Int}(hl:l.length<=1000):zkl l addr=some (place l addr)/\zkm l addr=some (place l addr)/\zqr l addr=some (place l addr):=by
 have e2:=zbu zaa (l:=l) (by omega) (p:=isAt addr) (L:=fun i=>zei l addr i) (fun h=>zfR (by simp[zcb,h]))
  (fun n x _ h1 h2 hp=>zfR (by
   have:zkQ x addr=some (isAt addr x):=zqm rfl
   simp[zcb,h1,h2,this,hp]))
  (fun n x r _ h1 h2 hp h=>zfR (by
   have:zkQ x addr=some (isAt addr x):=zqm rfl
   simp[zcb,h1,h2,this,hp];exact h))
 have e1:=zbu zaa (l:=l) (by omega) (p:=isAt addr) (L:=fun i=>zej l addr i) (fun h=>zfS (by simp[zcd,h]))
  (fun n x _ h1 h2 hp=>zfS (by
   have:zgl x addr=some (isAt addr x):=zmZ rfl
   simp[zcd,h1,h2,this,hp]))
  (fun n x r _ h1 h2 hp h=>zfS (by
   have:zgl x addr=some (isAt addr x):=zmZ rfl
   simp[zcd,h1,h2,this,hp];exact h))
 have e0:=zbu zaa (l:=l) (by omega) (p:=isAt addr) (L:=fun i=>zl6 l addr i) (fun h=>zm8 (by simp[zgy,h]))
  (fun n x _ h1 h2 hp=>zm8 (by
   have:yac.ieq x.peer.addr addr=true:=hp
   simp[zgy,h1,h2,this]))
  (fun n x r _ h1 h2 hp h=>zm8 (by
   have:yac.ieq x.peer.addr addr=false:=hp
   simp[zgy,h1,h2,this];exact h))
 refine⟨zus ?_,zut ?_,zEp ?_⟩
 ·rw[zir,e2];unfold place fstI;cases fst (isAt addr) l<;>rfl
 ·rw[zis,e1];unfold place fstI;cases fst (isAt addr) l<;>rfl
 ·rw[zq8,e0];unfold place fstI;cases fst (isAt addr) l<;>rfl
theorem peers_Place_eq{l:List Entry}{addr:Int}(hl:l.length<=1000):zeq l addr=some (place l addr):=zAS (by simp[zof,(zo4 hl).1])
theorem zC7{l:List Entry}{addr:Int}(hl:l.length<=1000):zqr l addr=some (place l addr):=(zo4 hl).2.2
def drp(addr:Int)(l:List Entry):List Entry:=l.filter fun e=>!isAt addr e
theorem zxq{addr:Int}{x:Entry}{l:List Entry}:drp addr (x::l)=bif isAt addr x then drp addr l else x::drp addr l:=by
 unfold drp;cases h:isAt addr x<;>simp[h]
theorem zCk{addr:Int}{l:List Entry}(h:∀x,x∈l->isAt addr x=false):drp addr l=l:=by
 unfold drp;rw[List.filter_eq_self];intro x hx;simp[h x hx]
theorem drp_le(addr:Int)(l:List Entry):(drp addr l).length<=l.length:=List.length_filter_le _ _
theorem zJ8(addr:Int)(l:List Entry):(l.flatMap fun x=>bif isAt addr x then []else [x])=drp addr l:=by
 induction l with
 |nil=>rfl
 |cons x l ih=>rw[ybm,ih,zxq];cases isAt addr x<;>rfl
theorem zEo{l:List Entry}{addr:Int}(hl:l.length<=1000):zxA l addr=some (drp addr l):=zGZ (by
 have h:=zqR zaa (l:=l) (by omega) (f:=fun x=>bif isAt addr x then []else [x]) (L:=fun i acc=>zkA l addr i acc) 1 (fun x _=>by cases isAt addr x<;>simp)
  (fun acc h=>zt3 (by simp[zhG,h]))
  (fun n x acc r ha hn _ h1 h2 h=>zt3 (by
   cases hx:isAt addr x with
   |true=>
    have hx':yac.ieq x.peer.addr addr=true:=hx;simp only[hx,cond_true,ybe]at h
    simp[zhG,h1,h2,hx',h]
   |false=>
    have hx':yac.ieq x.peer.addr addr=false:=hx;simp only[hx,cond_false]at h
    simp[zhG,h1,h2,hx',zax zaa (b:=24) (l:=acc) (l':=[x]) (by simp;omega) (by omega),h]))
 rw[ztl,h,zJ8]<;>rfl)
theorem zDV(addr:Int)(rest:List Entry):∀(kept:List Entry) (j0:Entry) (jt:List Entry),kept.length+(jt.length+1)+rest.length<=1000->
  ∃junk,zb8 addr (kept.length:Nat) ((kept++j0::jt).length:Nat) (kept++j0::jt++rest)=some ((((kept++drp addr rest).length:Nat):Int),kept++drp addr rest++junk):=by
 induction rest with
 |nil=>
  intro kept j0 jt h;refine⟨j0::jt,zdX ?_⟩;have:yac.ilt ((kept++j0::jt).length:Nat) (xlen zaa (kept++j0::jt++[]))=false:=by rw[ze5];simp
  rw[zbG,this]
  simp[drp]
 |cons x rest ih=>
  intro kept j0 jt h;simp only[yav]at h;have hlt:yac.ilt ((kept++j0::jt).length:Nat) (xlen zaa (kept++j0::jt++x::rest))=true:=by rw[ze5];simp
  have hg:xget zaa (kept++j0::jt++x::rest) ((kept++j0::jt).length:Nat)=some x:=by rw[zaO];simp
  have hadd:yac.iadd .i64 ((kept++j0::jt).length:Nat) 1=(((kept++j0::jt).length+1:Nat):Int):=zfY (by simp;omega);have hd:zgl x addr=some (isAt addr x):=zmZ rfl;rw[zxq]
  cases hx:isAt addr x with
  |true=>
   obtain⟨junk,h2⟩:=ih kept j0 (jt++[x]) (by simp;omega);refine⟨junk,zdX ?_⟩;rw[zbG,hlt,hg,hadd];simp only[cond_true,yaa,hd,hx]
   simpa[yaU]using h2
  |false=>
   have hg0:xget zaa (kept++j0::jt++x::rest) (kept.length:Nat)=some j0:=by rw[zaO];simp
   have hadd2:yac.iadd .i64 (kept.length:Nat) 1=((kept.length+1:Nat):Int):=zfY (by omega)
   have hset:xset (kept++j0::jt++x::rest) (kept.length:Nat) x=(kept++[x])++(jt++[x])++rest:=by
    unfold xset;simp
   have go:zb8 addr ((kept.length+1:Nat):Int) (((kept++j0::jt).length+1:Nat):Int) ((kept++[x])++(jt++[x])++rest)=zbG addr (kept.length:Nat) ((kept++j0::jt).length:Nat) (kept++j0::jt++x::rest):=by
    rw[zbG,hlt,hg,hadd];simp only[cond_true,yaa,hd,hx,cond_false,hg0,hadd2,hset]
   cases jt with
   |nil=>
    obtain⟨junk,h2⟩:=ih (kept++[x]) x [] (by simp;omega);refine⟨junk,zdX (go.symm.trans ?_)⟩
    simpa[yaU]using h2
   |cons j1 jt=>
    obtain⟨junk,h2⟩:=ih (kept++[x]) j1 (jt++[x]) (by simp at h⊢;omega);refine⟨junk,zdX (go.symm.trans ?_)⟩;simpa[yaU]using h2
theorem zc4(l:List Entry)(n:Nat)(h:n<=l.length):xsub zaa l 0 (n:Int)=some (l.take n):=by
 rw[zfc,if_pos (by omega)];simp
theorem zg9(l:List Entry)(n:Nat)(h:n<=l.length):xsub zaa l (n:Int) (xlen zaa l)=some (l.drop n):=by
 rw[zfc,zav,if_pos (by omega)];simp
theorem zAF{l:List Entry}{addr:Int}(hl:l.length<=1000):zle l addr=some (drp addr l):=zuv (by
 rw[ziE,(zo4 hl).2.1,yaa];unfold place fstI
 cases hf:fst (isAt addr) l with
 |none=>
  have:yac.ieq (-1) (-1)=true:=rfl
  simp[this,zCk (zlm hf)]
 |some n=>
  obtain⟨x,hx,hp,hn,hb⟩:=zb6 hf;have h1:yac.ieq (n:Int) (-1)=false:=ieqF (by omega);obtain⟨hn',hxe⟩:=yae.1 hx
  have hsplit:l=l.take n++x::l.drop (n+1):=by
   rw[<-hxe,<-List.drop_eq_getElem_cons hn,List.take_append_drop]
  have hkl:(l.take n).length=n:=by simp;omega
  have hbefore:drp addr (l.take n)=l.take n:=zCk fun y hy=>by
   obtain⟨i,hi,rfl⟩:=List.getElem_of_mem hy;rw[hkl]at hi;exact hb i _ hi (by rw[List.getElem_take];exact yad _)
  have hdrp:drp addr l=l.take n++drp addr (l.drop (n+1)):=by
   conv=>lhs;rw[hsplit]
   show List.filter _ _=_;rw[List.filter_append];show drp addr _++drp addr (x::_)=_;rw[hbefore,zxq,hp,cond_true]
  obtain⟨junk,hlo⟩:=zDV addr (l.drop (n+1)) (l.take n) x [] (by rw[hkl];simp;omega);rw[<-hdrp,yao,List.singleton_append,<-hsplit,yaf,hkl,List.length_singleton]at hlo;have hadd:yac.iadd .i64 (n:Int) 1=((n+1:Nat):Int):=zfY (by omega);have hz:yac.ieq 0 0=true:=rfl
  have hfil:xfil (drp addr l++junk) ((drp addr l).length:Nat) (xlen zaa (drp addr l++junk)) ⟨⟨0,0⟩,0⟩=drp addr l++yaA junk.length ⟨⟨0,0⟩,0⟩:=by
   unfold xfil;rw[zav];simp only[yaR];simp
  simp only[h1,cond_false,hadd,hlo,yaa,zg9 (drp addr l++junk) (drp addr l).length (by simp),hfil,zc4 (drp addr l++yaA junk.length ⟨⟨0,0⟩,0⟩) (drp addr l).length (by simp),hz,cond_true]
  simp)
theorem peers_Drop_eq{l:List Entry}{addr:Int}(hl:l.length<=1000):zoQ l addr=some (drp addr l):=zCR (by
 simp[zpo,zAF hl,zax zaa (b:=24) (l:=[]) (l':=l) (by simp;omega) (by omega)])
def firms(l:List Entry):List Peer:=l.flatMap fun x=>bif yac.ile x.misses 0 then [x.peer]else []
theorem some_eq{l:List Entry}(hl:l.length<=1000):zl1 l=some (firms l)/\zpu l=some (firms l)/\True:=by
 have h1:=zqR zaa (l:=l) (by omega) (f:=fun x=>bif yac.ile x.misses 0 then [x.peer]else []) (L:=fun i acc=>zfp l i acc) 1 (fun x _=>by cases yac.ile x.misses 0<;>simp)
  (fun acc h=>zoF (by simp[zef,h]))
  (fun n x acc r ha hn _ h1 h2 h=>zoF (by
   have hf:zta x=some (yac.ile x.misses 0):=zCW rfl
   cases hx:yac.ile x.misses 0 with
   |false=>simp only[hx,cond_false,ybe]at h;simp[zef,h1,h2,hf,hx,h]
   |true=>simp only[hx,cond_true]at h;simp[zef,h1,h2,hf,hx,h,zax zad (b:=16) (l:=acc) (l':=[x.peer]) (by simp;omega) (by omega)]))
 have h2:=zqR zaa (l:=l) (by omega) (f:=fun x=>bif yac.ile x.misses 0 then [x.peer]else []) (L:=fun i acc=>zkB l i acc) 1 (fun x _=>by cases yac.ile x.misses 0<;>simp)
  (fun acc h=>zt4 (by simp[zhI,h]))
  (fun n x acc r ha hn _ h1 h2 h=>zt4 (by
   have hf:yac.ilt x.misses 1=yac.ile x.misses 0:=by rw[zaq,za4];exact decide_eq_decide.2 (by omega)
   cases hx:yac.ile x.misses 0 with
   |false=>simp only[hx,cond_false,ybe]at h;simp[zhI,h1,h2,hf,hx,h]
   |true=>simp only[hx,cond_true]at h;simp[zhI,h1,h2,hf,hx,h,zax zad (b:=16) (l:=acc) (l':=[x.peer]) (by simp;omega) (by omega)]))
 refine⟨zCS ?_,zG0 ?_,trivial⟩
 ·simp[zpp,zzI (l:=l) (r:=firms l) (by simp[zm0,h1,firms])]
 ·simp[ztm,h2,firms]
theorem firms_le(l:List Entry):(firms l).length<=l.length:=by
 unfold firms
 induction l with
 |nil=>exact yag _
 |cons x l ih=>rw[ybm,yaf,yav];cases yac.ile x.misses 0<;>simp only[cond_true,cond_false,yav,List.length_nil]<;>omega
theorem Entry.ext3{a b:Entry}:a=b<->a.peer.id=b.peer.id/\a.peer.addr=b.peer.addr/\a.misses=b.misses:=by
 rw[Entry.ext',Peer.ext',and_assoc]
theorem r27_Same_eq{a b:List Entry}(hl:a.length<=1000):ztn a b=some (eqb a b):=zG1 (by
 rw[zto,zav,zav];by_cases he:a.length=b.length
 ·have h:=zqB zaa (l:=a) (l':=b) (by omega) he (L:=fun i=>znB a b i) (fun h=>zoi (by simp[zhK,h]))
   (fun n x r _ h1 h2 h3 h=>zoi (by simp[zhK,h1,h2,h3,zaf];exact h))
   (fun n x y _ h1 h2 h3 h=>zoi (by
    simp only[zhK,h1,h2,h3,zaf,zac,cond_true,yaa];rw[ne_eq,Entry.ext3]at h;split
    ·split
     ·split
      ·exact absurd ⟨‹_›,‹_›,‹_›⟩ h
      ·rfl
     ·rfl
    ·rfl))
  rw[ieqT (by omega),cond_true];rcases h with⟨h1,h2⟩|⟨h1,h2⟩
  ·rw[h2,h1,ziW];rfl
  ·rw[h2,znU h1];rfl
 ·rw[ieqF (by omega),znU (fun h=>he (by rw[h]))];rfl)
theorem zvi{a b:List Peer}(hl:a.length<=1000):zqq a b=some (eqb a b):=zwY (by
 rw[znz,zav,zav];by_cases he:a.length=b.length
 ·have h:=zqB zad (l:=a) (l':=b) (by omega) he (L:=fun i=>zi6 a b i) (fun h=>zex (by simp[zcA,h]))
   (fun n x r _ h1 h2 h3 h=>zex (by simp[zcA,h1,h2,h3,zaf];exact h))
   (fun n x y _ h1 h2 h3 h=>zex (by
    simp only[zcA,h1,h2,h3,zaf,zac,cond_true,yaa];rw[ne_eq,Peer.ext']at h;split
    ·split
     ·exact absurd ⟨‹_›,‹_›⟩ h
     ·rfl
    ·rfl))
  rw[ieqT (by omega),cond_true];rcases h with⟨h1,h2⟩|⟨h1,h2⟩
  ·rw[h2,h1,ziW];rfl
  ·rw[h2,znU h1];rfl
 ·rw[ieqF (by omega),znU (fun h=>he (by rw[h]))];rfl)
def owner(key:Int):Peer->List Peer->Peer
 |best,[]=>best
 |best,p::l=>if dist key p.id<dist key best.id then owner key p l else owner key best l
def miss(l:List Entry)(addr:Int):List Entry:=
 match fst (isAt addr) l with
 |none=>l
 |some n=>match l[n]? with
  |none=>l
  |some x=>if 2<=x.misses then l.eraseIdx n else l.set n ⟨x.peer,max x.misses 0+1⟩
theorem zHu{l:List Entry}{n:Nat}(hl:l.length<=1000)(hn:n<l.length):zo1 (n:Int) ((n+1:Nat):Int) l=some (l.eraseIdx n):=zzd (by
 have h1:xsub zaa l (n:Int) ((n+1:Nat):Int)=some ((l.take (n+1)).drop n):=by rw[zfc,if_pos (by omega)];simp only[yaR]
 have h2:=zg9 l (n+1) (by omega);have h3:yac.ieq (n:Int) ((n+1:Nat):Int)=false:=ieqF (by omega);have h4:=zc4 l n (by omega);have h5:yac.isub .i64 (xlen zaa l) (n:Int)=((l.length-n:Nat):Int):=by rw[zav,zsX (by omega) (by omega)];omega
 have h6:yac.ile (xlen zaa (l.drop (n+1))) ((l.length-n:Nat):Int)=true:=ileT (by rw[zav,yar];omega);have h7:yac.iadd .i64 (n:Int) (xlen zaa (l.drop (n+1)))=((l.length-1:Nat):Int):=by rw[zav,yar,znu (by omega) (by omega)];omega
 have hput:xput l (n:Int) (l.drop (n+1))=l.eraseIdx n++l.drop (l.length-1):=by
  unfold xput;rw[yaR,yar,List.eraseIdx_eq_take_drop_succ];congr 2;omega
 have hle:(l.eraseIdx n).length=l.length-1:=by rw[List.length_eraseIdx];simp[hn]
 have h8:xsub zaa (l.eraseIdx n++l.drop (l.length-1)) 0 ((l.length-1:Nat):Int)=some (l.eraseIdx n):=by
  rw[zc4 _ _ (by simp[hle]),<-hle,ya9]
 have h9:xsub zaa (l.eraseIdx n++l.drop (l.length-1)) (xlen zaa (l.eraseIdx n)) (xlen zaa l)=some (l.drop (l.length-1)):=by
  have e:xlen zaa l=xlen zaa (l.eraseIdx n++l.drop (l.length-1)):=by rw[zav,zav,yaf,hle,yar];omega
  rw[e,zav,zg9 _ _ (by simp),List.drop_left]
 have h10:xfil (l.eraseIdx n++l.drop (l.length-1)) (xlen zaa (l.eraseIdx n)) (xlen zaa l) ⟨⟨0,0⟩,0⟩=l.eraseIdx n++yaA 1 ⟨⟨0,0⟩,0⟩:=by
  unfold xfil;rw[zav,zav,yaR,yaR,ya9,hle,show l.length-(l.length-1)=1 by omega,yao,List.drop_eq_nil_of_le (by simp[hle]<;>omega),ybe]
 have h11:xsub zaa (l.eraseIdx n++yaA 1 ⟨⟨0,0⟩,0⟩) 0 ((l.length-1:Nat):Int)=some (l.eraseIdx n):=by
  rw[zc4 _ _ (by simp[hle]),<-hle,ya9]
 have hz:yac.ieq 0 0=true:=rfl
 simp only[zmG,h1,h2,h3,h4,h5,h6,h7,hput,h8,h9,h10,h11,hz,yaa,cond_true,cond_false])
theorem ztR{α:Type}(l:List α)(n:Nat)(x:α):xset l (n:Int) x=l.set n x:=rfl
theorem peers_Miss_eq{l:List Entry}{addr:Int}(hl:l.length<=1000):zs9 l addr=some (miss l addr):=zCT (by
 have hroom:zar zaa 24 [] l=true:=zax zaa (by simp;omega) (by omega);simp only[zpq,hroom,cond_true,peers_Place_eq hl,yaa,miss];unfold place fstI
 cases hf:fst (isAt addr) l with
 |none=>
  have:yac.ilt (-1) 0=true:=rfl
  simp only[this,cond_true]
 |some n=>
  obtain⟨x,hx,hp,hn,hb⟩:=zb6 hf;have hadd:yac.iadd .i64 (n:Int) 1=((n+1:Nat):Int):=zfY (by omega);have hg:xget zaa l (n:Int)=some x:=by rw[zaO,hx]
  have s0:∀y:Entry,zkP (n:Int) (l.set n y)=some (if 2<=y.misses then .inl (l.eraseIdx n)else .inr ((n:Int),l.set n y)):=fun y=>zyO (by
   have hg2:xget zaa (l.set n y) (n:Int)=some y:=by rw[zaO];simp[hn]
   have he:(l.set n y).eraseIdx n=l.eraseIdx n:=List.eraseIdx_set_eq;simp only[zl2,hg2,hadd,yaa,zHu (l:=l.set n y) (n:=n) (by simpa using hl) (by simpa using hn),za4,zac,he]
   split<;>rfl)
  have s1:∀y:Entry,xget zaa (l.set n y) (n:Int)=some y:=fun y=>by rw[zaO];simp[hn]
  simp only[hx,iltF (show¬(n:Int)<0 by omega),cond_false,hg,yaa,ztR,zaq,zac,s0];by_cases h0:x.misses<0
  ·rw[if_pos h0,if_neg (by omega),if_neg (by omega)];simp only[yaa,s1,ztR,List.set_set,znu (a:=0) (b:=1) (by omega) (by omega)];rw[Int.max_eq_right (by omega)]
  ·rw[if_neg h0];by_cases h2:2<=x.misses
   ·rw[if_pos h2,if_pos h2]
   ·rw[if_neg h2,if_neg h2];simp only[yaa,s1,ztR,List.set_set,znu (a:=x.misses) (b:=1) (by omega) (by omega)]
    rw[Int.max_eq_left (by omega)])
def ziZ(at_:Int):Nat->List Entry->List Entry
 |_,[]=>[]
 |n,x::l=>(if(n:Int)=at_ then(if 2<=x.misses then []else [⟨x.peer,max x.misses 0+1⟩])else [x])++ziZ at_ (n+1) l
theorem zt1{at_:Int}{l:List Entry}:∀{n:Nat},at_<n->ziZ at_ n l=l:=by
 induction l with
 |nil=>intro n h;rfl
 |cons x l ih=>intro n h;rw[ziZ,if_neg (by omega),ih (by omega)];rfl
theorem zD5{l:List Entry}{k:Nat}{x:Entry}:∀{n:Nat},l[k]?=some x->ziZ ((n+k:Nat):Int) n l=if 2<=x.misses then l.eraseIdx k else l.set k ⟨x.peer,max x.misses 0+1⟩:=by
 induction l generalizing k with
 |nil=>intro n h;simp at h
 |cons y l ih=>
  intro n h;rw[ziZ]
  cases k with
  |zero=>
   simp at h;subst h;rw[if_pos (by simp),zt1 (by omega)]
   split<;>simp
  |succ k=>
   rw[if_neg (by omega)];have:=ih (k:=k) (n:=n+1) (by simpa using h);rw[show n+1+k=n+(k+1)by omega]at this;rw[this];split<;>simp
theorem zD6(l:List Entry)(addr:Int):ziZ (place l addr) 0 l=miss l addr:=by
 unfold place fstI miss
 cases hf:fst (isAt addr) l with
 |none=>exact zt1 (by show(-1:Int)<_;omega)
 |some n=>
  obtain⟨x,hx,_⟩:=zb6 hf;have:=zD5 (n:=0) hx;rw[Nat.zero_add]at this;simp only[hx];exact this
theorem zD7(at_:Int)(l:List Entry):∀n,(ziZ at_ n l).length<=l.length:=by
 induction l with
 |nil=>intro n;exact yag _
 |cons x l ih=>intro n;rw[ziZ,yaf,yav];have:=ih (n+1);split<;>(try split)<;>simp<;>omega
theorem zDL{me a b c:Peer}(h1:zff me a b=true)(h2:zff me b c=true):zff me a c=true:=by
 simp only[zff,decide_eq_true_eq]at *
 omega
def RightP(me:Peer)(l:List Entry):Prop:=l.length<=15/\(∀x,x∈l->0<=x.misses/\x.misses<3/\x.peer.addr≠me.addr)/\l.Pairwise (fun a b=>a.peer.addr≠b.peer.addr/\zff me a.peer b.peer=true)
def zni(me:Peer)(l:List Entry)(n:Nat)(x:Entry):Prop:=0<=x.misses/\x.misses<3/\x.peer.addr≠me.addr/\place l x.peer.addr=n/\∀k y,n=k+1->l[k]?=some y->zff me y.peer x.peer=true
theorem place_at{l:List Entry}{n:Nat}{x:Entry}(hx:l[n]?=some x):place l x.peer.addr=n<->∀k y,k<n->l[k]?=some y->y.peer.addr≠x.peer.addr:=by
 unfold place fstI;obtain⟨m,hm⟩:=zIG (p:=isAt x.peer.addr) (l:=l) ⟨x,yam hx,by simp[isAt]⟩;rw[hm];obtain⟨z,hz,hp,hlt,hb⟩:=zb6 hm;constructor
 ·intro h k y hk hy he;have h':(m:Int)=n:=h;have:=hb k y (by omega) hy;rw[isAt,decide_eq_false_iff_not]at this;exact this he
 ·intro h;show(m:Int)=n;rcases Nat.lt_trichotomy m n with hlt|he|hgt
  ·exact absurd (by simpa[isAt]using hp) (h m z hlt hz)
  ·rw[he]
  ·have:=hb n x hgt hx;simp[isAt]at this
theorem zw5{me:Peer}{l:List Entry}:(∀n x,l[n]?=some x->zni me l n x)<->(∀x,x∈l->0<=x.misses/\x.misses<3/\x.peer.addr≠me.addr)/\l.Pairwise (fun a b=>a.peer.addr≠b.peer.addr/\zff me a.peer b.peer=true):=by
 constructor
 ·intro h;refine⟨fun x hx=>?_,ya6.2 fun i j hi hj hij=>?_⟩
  ·obtain⟨n,hn⟩:=List.getElem?_of_mem hx;obtain⟨h1,h2,h3,_⟩:=h n x hn;exact⟨h1,h2,h3⟩
  ·have hj':=h j l[j] (yad hj);refine⟨(place_at (yad hj)).1 hj'.2.2.2.1 i _ hij (yad hi),?_⟩
   have key:∀d (hd:i+1+d<l.length),zff me l[i].peer (l[i+1+d]).peer=true:=by
    intro d
    induction d with
    |zero=>intro hd;exact(h (i+1) _ (yad hd)).2.2.2.2 i _ rfl (yad hi)
    |succ d ih=>
     intro hd;have h1:=ih (by omega);have h2:=(h (i+1+d+1) _ (yad (by omega))).2.2.2.2 (i+1+d) _ rfl (yad (by omega));exact zDL h1 h2
   have:=key (j-(i+1)) (by omega);simpa[show i+1+(j-(i+1))=j by omega]using this
 ·rintro⟨h1,h2⟩ n x hx;obtain⟨a1,a2,a3⟩:=h1 x (yam hx);obtain⟨hn,hxe⟩:=yae.1 hx;rw[ya6]at h2;refine⟨a1,a2,a3,(place_at hx).2 fun k y hk hy=>?_,fun k y hk hy=>?_⟩
  ·obtain⟨hk',hye⟩:=yae.1 hy;have:=(h2 k n hk' hn hk).1;rw[hye,hxe]at this;exact this
  ·obtain⟨hk',hye⟩:=yae.1 hy;have:=(h2 k n hk' hn (by omega)).2;rw[hye,hxe]at this;exact this
theorem peers_Right_eq{me:Peer}{l:List Entry}(hl:l.length<=1000):zqX me l=some (dcd (RightP me l)):=zAT (by
 have h:=zxi zaa (l:=l) (by omega) (p:=fun n x=>dcd (zni me l n x)) (L:=fun i=>zjQ me l i)
  (fun h=>zlo (by simp[zeL,h]))
  (fun n x r hx h1 h2 hp h=>zlo (by
   obtain⟨a1,a2,a3,a4,a5⟩:=zr6.1 hp
   have s0:zjR me l (n:Int) (n:Int) x.peer.id x.peer.addr x.misses=some (.inl ((n:Int),x.peer.id,x.peer.addr,x.misses)):=zpr (by
    rw[zhm]
    cases n with
    |zero=>rfl
    |succ k=>
     have hk:k<l.length:=by have:=(yae.1 hx).1;omega
     have hg:xget zaa l (yac.isub .i64 ((k+1:Nat):Int) 1)=some l[k]:=by
      rw[zsX (by omega) (by omega),show((k+1:Nat):Int)-1=(k:Nat)by omega,zaO];exact yad hk
     have:=a5 k _ rfl (yad hk);simp only[iltT (show(0:Int)<((k+1:Nat):Int)by omega),cond_true,hg,yaa,zmY]
     rw[this];rfl)
   simp only[zeL,h1,h2,cond_true,yaa,iltF (show¬x.misses<0 by omega),ileF (show¬3<=x.misses by omega),ieqF a3,cond_false,peers_Place_eq hl,ieqT a4,s0]
   exact h))
  (fun n x hx h1 h2 hp=>zlo (by
   have hp':=zp7.1 hp;simp only[zeL,h1,h2,cond_true,yaa,zaq,za4,zaf,zac,peers_Place_eq hl];split
   ·rfl
   ·split
    ·rfl
    ·split
     ·rfl
     ·split
      ·rename_i b1 b2 b3 b4
       cases n with
       |zero=>exact absurd ⟨by omega,by omega,b3,b4,fun k y hk=>by omega⟩ hp'
       |succ k=>
        have hk:k<l.length:=by have:=(yae.1 hx).1;omega
        have hg:xget zaa l (yac.isub .i64 ((k+1:Nat):Int) 1)=some l[k]:=by
         rw[zsX (by omega) (by omega),show((k+1:Nat):Int)-1=(k:Nat)by omega,zaO];exact yad hk
        have ha:zff me l[k].peer x.peer=false:=by
         cases ha:zff me l[k].peer x.peer with
         |false=>rfl
         |true=>exact absurd ⟨by omega,by omega,b3,b4,fun k' y hk' hy=>by
          obtain rfl:k=k':=by omega
          rw[yad hk]at hy
          cases hy;exact ha⟩ hp'
        have s0:zjR me l ((k+1:Nat):Int) ((k+1:Nat):Int) x.peer.id x.peer.addr x.misses=some (.inr (x.peer.id,x.peer.addr,x.misses)):=zpr (by
         rw[zhm]
         simp only[iltT (show(0:Int)<((k+1:Nat):Int)by omega),cond_true,hg,yaa,zmY,ha,cond_false])
        rw[s0];rfl
      ·rfl))
 rw[zog,h];by_cases hr:∀n x,l[n]?=some x->zni me l n x
 ·have hall:allI (fun n x=>dcd (zni me l n x)) 0 l=true:=zxh.2 fun i x hx=>zr6.2 (by simpa using hr i x hx)
  rw[hall,cond_true];simp only[yaa];congr 1;rw[zav,za4];exact zGl (by unfold RightP;rw[<-zw5];exact⟨fun h=>⟨by omega,hr⟩,fun h=>by have:=h.1;omega⟩)
 ·have hall:allI (fun n x=>dcd (zni me l n x)) 0 l=false:=by
   cases ha:allI (fun n x=>dcd (zni me l n x)) 0 l with
   |false=>rfl
   |true=>exact absurd (fun n x hx=>by have:=zxh.1 ha n x hx;rw[zr6]at this;simpa using this) hr
  rw[hall,cond_false,zp7.2 (fun h=>hr (zw5.2 h.2))]
  rfl)
def EnOk(l:List Entry):Prop:=∀x,x∈l->PeOk x.peer
def isAh(me p:Peer)(x:Entry):Bool:=zff me p x.peer
def ins(me p:Peer):List Entry->List Entry
 | []=>[⟨p,0⟩]
 |x::l=>bif isAh me p x then⟨p,0⟩::x::l else x::ins me p l
def cut(l:List Entry):List Entry:=if 15<l.length then l.take (l.length-1)else l
def add(me:Peer)(l:List Entry)(p:Peer):List Entry:=
 if p.addr=me.addr then l else
 match fst (isAt p.addr) l with
 |none=>cut (ins me p (drp p.addr l))
 |some n=>match l[n]? with
  |none=>l
  |some x=>if x.peer=p then l.set n ⟨x.peer,0⟩else cut (ins me p (drp p.addr l))
theorem zFV(me p:Peer)(l:List Entry):(ins me p l).length=l.length+1:=by
 induction l with
 |nil=>rfl
 |cons x l ih=>rw[ins];cases isAh me p x<;>simp[ih]
theorem zAi(me p:Peer)(l:List Entry):ins me p l=match fst (isAh me p) l with|some n=>l.take n++⟨p,0⟩::l.drop n|none=>l++[⟨p,0⟩]:=by
 induction l with
 |nil=>rfl
 |cons x l ih=>
  rw[ins,fst]
  cases isAh me p x with
  |true=>rfl
  |false=>
   rw[cond_false,cond_false,ih]
   cases fst (isAh me p) l with
   |none=>rfl
   |some n=>simp
theorem zpZ{me p:Peer}{l:List Entry}(hl:l.length<=1000):zlQ l me.id me.addr p.id p.addr=some (fstI (isAh me p) l):=zwN (by
 have hc:∀x,zqV x me.id me.addr p.id p.addr=some (isAh me p x):=fun x=>zAQ (by
  rw[zod,zmY];rfl)
 have h:=zbu zaa (l:=l) (by omega) (p:=isAh me p) (L:=fun i=>zfd l me.id me.addr p.id p.addr i) (fun h=>zhc (by simp[zcH,h]))
  (fun n x _ h1 h2 hp=>zhc (by simp[zcH,h1,h2,hc,hp]))
  (fun n x r _ h1 h2 hp h=>zhc (by simp[zcH,h1,h2,hc,hp];exact h))
 rw[zko,h];unfold fstI
 cases fst (isAh me p) l<;>rfl)
theorem zqk{me p:Peer}{l r4:List Entry}{n:Nat}(hl:r4.length<=1000)(hn:n<=r4.length):∃t hi,zl0 me l p (n:Int) r4=some (hi,t)/\xsub zaa t 0 hi=some (cut (r4.take n++⟨p,0⟩::r4.drop n)):=by
 have hroom:zar zaa 24 r4 [⟨p,0⟩]=true:=zax zaa (by simp;omega) (by omega);have hlen:(r4.take n++([(⟨p,0⟩:Entry)]++r4.drop n)).length=r4.length+1:=by simp;omega
 have e:r4.take n++⟨p,0⟩::r4.drop n=r4.take n++([(⟨p,0⟩:Entry)]++r4.drop n):=rfl;rw[e];generalize hL:r4.take n++([(⟨p,0⟩:Entry)]++r4.drop n)=L at hlen;have hsub:∀k:Nat,k<=L.length->xsub zaa L 0 (k:Int)=some (L.take k):=fun k hk=>zc4 L k hk
 have h1:yac.isub .i64 (xlen zaa L) 1=(r4.length:Int):=by rw[zav,zsX (by omega) (by omega)];omega
 refine⟨L,((if 15<L.length then L.length-1 else L.length:Nat):Int),zzH ?_,?_⟩
 ·simp only[zmX,hroom,cond_true,zc4 r4 n hn,zg9 r4 n hn,yaa,hL,h1];rw[zav];by_cases h15:15<L.length
  ·by_cases h14:L.length=16
   ·rw[iltF (by omega),cond_false,iltT (by omega),cond_true,if_pos h15];have:=hsub r4.length (by omega);rw[this,yaa];congr 2;omega
   ·rw[iltF (by omega),cond_false,iltT (by omega),cond_true,if_pos h15];have:=hsub r4.length (by omega);rw[this,yaa];congr 2;omega
  ·rw[iltT (by omega),cond_true,iltF (by omega),cond_false,if_neg h15];have:=hsub L.length (yag _);rw[this,yaa]
 ·rw[hsub _ (by split<;>omega)];unfold cut;split
  ·rfl
  ·simp
theorem zyN{me p:Peer}{l:List Entry}(hl:l.length<=900):∃t hi,zi0 me l p=some (hi,t)/\xsub zaa t 0 hi=some (cut (ins me p (drp p.addr l))):=by
 have hd:=drp_le p.addr l;rw[zAi]
 cases hf:fst (isAh me p) (drp p.addr l)with
 |none=>
  obtain⟨t,hi,h1,h2⟩:=zqk (me:=me) (p:=p) (l:=l) (r4:=drp p.addr l) (n:=(drp p.addr l).length) (by omega) (yag _);refine⟨t,hi,zse ?_,by rw[h2];simp⟩;simp only[zjP,peers_Drop_eq (l:=l) (by omega),yaa,zpZ (l:=drp p.addr l) (by omega),fstI,hf];have:yac.ilt (-1) 0=true:=rfl
  simp only[this,cond_true,zav,h1,yaa]
 |some n=>
  have hn:=(zb6 hf).choose_spec.2.2.1;obtain⟨t,hi,h1,h2⟩:=zqk (me:=me) (p:=p) (l:=l) (r4:=drp p.addr l) (n:=n) (by omega) (by omega);refine⟨t,hi,zse ?_,h2⟩;simp only[zjP,peers_Drop_eq (l:=l) (by omega),yaa,zpZ (l:=drp p.addr l) (by omega),fstI,hf,iltF (show¬(n:Int)<0 by omega),cond_false,h1]
theorem peers_Add_eq{me p:Peer}{l:List Entry}(hl:l.length<=900):zn3 me l p=some (add me l p):=zEc (by
 have hroom:zar zaa 24 [] l=true:=zax zaa (by simp;omega) (by omega);obtain⟨t,hi,h1,h2⟩:=zyN (me:=me) (p:=p) (l:=l) hl;simp only[zqW,hroom,cond_true,peers_Place_eq (l:=l) (by omega),yaa,zaf,za4,zac,h1,h2,add];split
 ·rfl
 ·unfold place fstI
  cases hf:fst (isAt p.addr) l with
  |none=>dsimp only;rw[if_neg (by omega)]
  |some n=>
   obtain⟨x,hx,hp,hn,hb⟩:=zb6 hf;have hg:xget zaa l (n:Int)=some x:=by rw[zaO,hx]
   dsimp only;rw[if_pos (by omega)];simp only[hg,yaa,hx,Peer.ext',ztR];by_cases h3:x.peer.id=p.id
   ·by_cases h4:x.peer.addr=p.addr
    ·simp[h3,h4]
    ·simp[h3,h4]
   ·simp[h3])
theorem zAV{me p:Peer}{l:List Entry}(hl:l.length<=900)(hm:PeOk me)(hp:PeOk p)(ho:EnOk l):zhn me p l false 0 []=some (match fst (isAh me p) l with|some n=>(true,l.take n++⟨p,0⟩::l.drop n)|none=>(false,l)):=by
 have h:=zaW (σ:=Bool×List Entry) zaa (l:=l) (by omega) (L:=fun i s=>zhn me p l s.1 i s.2) (res:=fun _ s rest=>bif s.1 then(true,s.2++rest)else match fst (isAh me p) rest with|some n=>(true,s.2++(rest.take n++⟨p,0⟩::rest.drop n))|none=>(false,s.2++rest)) (Inv:=fun n s=>s.2.length<=n+(bif s.1 then 1 else 0))
  (fun s _ h=>zvk (by
   obtain⟨b,acc⟩:=s
   cases b<;>simp[zi7,h,fst]))
  (fun n x rest s hi hn hx hd h1 h2 h3 ih=>zvk (by
   obtain⟨b,acc⟩:=s;have hi':acc.length<=n+(bif b then 1 else 0):=hi;have hroom:∀(a:List Entry) (y:Entry),a.length<=n+2->zar zaa 24 a [y]=true:=fun a y ha=>zax zaa (by simp;omega) (by omega)
   cases b with
   |true=>
    rw[cond_true]at hi';simp only[zi7,h1,h2,cond_true,yaa,hroom acc x (by omega),h3];have:=ih (true,acc++[x]) (by simp;omega)
    simpa using this
   |false=>
    rw[cond_false]at hi';simp only[zi7,h1,h2,cond_true,cond_false,yaa,zC6 hm hp (ho x (yam hx)),fst];have e:zff me p x.peer=isAh me p x:=rfl;rw[e]
    cases isAh me p x with
    |true=>
     simp only[cond_true,hroom acc ⟨p,0⟩ (by omega),hroom (acc++[⟨p,0⟩]) x (by simp;omega),h3];have:=ih (true,acc++[⟨p,0⟩]++[x]) (by simp;omega)
     simpa using this
    |false=>
     simp only[cond_false,hroom acc x (by omega),cond_true,h3];have:=ih (false,acc++[x]) (by simp;omega);simp only[cond_false]at this;rw[this]
     cases fst (isAh me p) rest with
     |none=>simp
     |some m=>simp)) (false,[]) (by simp)
 simpa using h
theorem zAW{me p:Peer}{t:List Entry}(hl:t.length<=1000):∃r,zoS me p t=some r/\(match r with| .inl (hi,r3)=>(xsub zaa r3 0 hi).bind fun ys=>some ys| .inr r3=>some r3)=some (cut t):=by
 by_cases h15:15<t.length
 ·have h1:yac.isub .i64 (xlen zaa t) 1=((t.length-1:Nat):Int):=by rw[zav,zsX (by omega) (by omega)];omega
  refine⟨.inl (((t.length-1:Nat):Int),t),zvm ?_,?_⟩
  ·simp only[zl5,h1,zc4 t (t.length-1) (by omega),yaa];rw[zav,iltT (by omega),cond_true]
  ·simp only[zc4 t (t.length-1) (by omega),yaa,cut,if_pos h15]
 ·refine⟨.inr t,zvm ?_,by simp only[cut,if_neg h15]⟩;rw[zl5,zav,iltF (by omega),cond_false]
theorem zAX{me p:Peer}{l:List Entry}(hl:l.length<=900)(hm:PeOk me)(hp:PeOk p)(ho:EnOk l):∃r,zjV me l p=some r/\(match r with| .inl (hi,r3)=>(xsub zaa r3 0 hi).bind fun ys=>some ys| .inr r3=>some r3)=some (cut (ins me p (drp p.addr l))):=by
 have hd:=drp_le p.addr l;have hod:EnOk (drp p.addr l):=fun x hx=>ho x (List.mem_filter.1 hx).1
 have hil:=zFV me p (drp p.addr l);obtain⟨r,h1,h2⟩:=zAW (me:=me) (p:=p) (t:=ins me p (drp p.addr l)) (by omega);refine⟨r,zC5 ?_,h2⟩;have hl1:=zAV (me:=me) (p:=p) (l:=drp p.addr l) (by omega) hm hp hod;simp only[zpt,zEo (l:=l) (addr:=p.addr) (by omega),yaa,hl1];rw[zAi]at h1
 cases hf:fst (isAh me p) (drp p.addr l)with
 |none=>
  rw[hf]at h1;have hroom:zar zaa 24 (drp p.addr l) [⟨p,0⟩]=true:=zax zaa (by simp;omega) (by omega);simp only[yaa,cond_false,hroom,cond_true]at h1⊢
  rw[h1]<;>(rcases r with⟨a,b⟩|c<;>rfl)
 |some n=>
  rw[hf]at h1;simp only[yaa,cond_true]at h1⊢;rw[h1]<;>(rcases r with⟨a,b⟩|c<;>rfl)
theorem r27_Add_eq{me p:Peer}{l:List Entry}(hl:l.length<=900)(hm:PeOk me)(hp:PeOk p)(ho:EnOk l):zsk me l p=some (add me l p):=zI9 (by
 have hroom:zar zaa 24 [] l=true:=zax zaa (by simp;omega) (by omega);obtain⟨r,h1,h2⟩:=zAX (l:=l) hl hm hp ho;have s0:∀at_,zho me l p at_ false=some (.inr ()):=fun at_=>zvl (by rw[zl4,cond_false])
 rcases r with⟨hi,t⟩|t
 all_goals
  simp only[Option.bind_fun_some,ybh]at h2;simp only[zvj,zC7 (l:=l) (addr:=p.addr) (by omega),yaa,zaf,za4,zac,s0,h1,h2,add];split
  ·rfl
  ·unfold place fstI
   cases hf:fst (isAt p.addr) l with
   |none=>dsimp only;rw[if_neg (by omega)]
   |some n=>
    obtain⟨x,hx,hp,hn,hb⟩:=zb6 hf;have hg:xget zaa l (n:Int)=some x:=by rw[zaO,hx]
    have s1:zho me l p (n:Int) true=some (.inl (l.set n ⟨x.peer,0⟩)):=zvl (by
     rw[zl4,cond_true,hroom,cond_true,hg];rfl)
    dsimp only;rw[if_pos (by omega)];simp only[hg,yaa,hx,Peer.ext',s1];by_cases h3:x.peer.id=p.id
    ·by_cases h4:x.peer.addr=p.addr
     ·simp[h3,h4]
     ·simp[h3,h4]
    ·simp[h3])
theorem add_le(me p:Peer)(l:List Entry):(add me l p).length<=l.length+1:=by
 have hd:=drp_le p.addr l
 have hc:(cut (ins me p (drp p.addr l))).length<=l.length+1:=by
  unfold cut;have:=zFV me p (drp p.addr l);split
  ·rw[List.length_take];omega
  ·omega
 unfold add;split
 ·omega
 ·split
  ·exact hc
  ·split
   ·omega
   ·split
    ·rw[List.length_set];omega
    ·exact hc
theorem miss_le(l:List Entry)(addr:Int):(miss l addr).length<=l.length:=by rw[<-zD6];exact zD7 _ _ _
end Go.Ab.Tryz.Pe
namespace Go.Ab.Tryz
open Go Go.Ab Go.Proofs Go.Lib
open Go.Ab.Ops renaming std->yac
open Go.IntKind renaming i64->ybD
open Go.Utf8 renaming decode->yaH
open Option renaming bind_some->yaa
def byt(s:ByteArray)(i:Nat):Nat:=(s.get! i).toNat
theorem zyr(s:ByteArray)(i:Nat):byt s i<256:=(s.get! i).toNat_lt
theorem zM6(s:ByteArray)(i:Nat)(h:s.size<=i):byt s i=0:=by
 cases s with
 |mk d=>
  have h':d.size<=i:=h;show(d[i]!).toNat=0;rw[getElem!_neg d i (by omega)];rfl
theorem zlP{s:ByteArray}{i:Nat}(h:i<s.size):zcF s (i:Int)=some (byt s i:Int):=by
 show(if(0:Int)<=(i:Int)then(s[(i:Int).toNat]?).map fun c=>(c.toNat:Int)else none)=_;rw[if_pos (by omega),Int.toNat_natCast];have e1:s[i]?=some (s[i]'h):=getElem?_pos s i h
 have e2:s.get! i=s[i]'h:=by
  cases s with
  |mk d=>exact getElem!_pos d i h
 rw[e1];show some ((s[i]'h).toNat:Int)=_;rw[<-e2];rfl
theorem zwA{a b:Nat}(h:a+b<9223372036854775808):yac.iadd .i64 (a:Int) (b:Int)=((a+b:Nat):Int):=by
 show ybD.wrap _=_;unfold IntKind.wrap;simp[IntKind.signed,IntKind.bits];omega
theorem zM8{a b:Nat}(h:b<=a)(h2:a<9223372036854775808):yac.isub .i64 (a:Int) (b:Int)=((a-b:Nat):Int):=by
 show ybD.wrap _=_;unfold IntKind.wrap;simp[IntKind.signed,IntKind.bits];omega
theorem zbn(s:ByteArray):yac.slen s=(s.size:Int):=rfl
def wid(s:ByteArray)(i:Nat):Nat:=if yaH s i=(65533,1)then 0 else(yaH s i).2
def tl(b:Nat):Bool:=decide (128<=b/\b<=191)
theorem zq5(b:Nat):zi5 (b:Int)=some (tl b):=zGV (by
 simp only[zth,za4,zac,tl];split
 ·rename_i h;congr 1;exact decide_eq_decide.2 ⟨fun h2=>⟨by omega,by omega⟩,fun h2=>by omega⟩
 ·rename_i h;congr 1
  exact(decide_eq_false (by omega)).symm)
def wd3(b0 b1:Nat)(t:Bool):Option Nat:=bif t then(if b0=224 then(if b1<160 then some 0 else some 3)else if b0=237 then(if 159<b1 then some 0 else some 3)else some 3)else none
def wd4(b0 b1:Nat)(t:Bool):Nat:=bif t then(if b0=240 then(if b1<144 then 0 else 4)else if b0=244 then(if 143<b1 then 0 else 4)else 4)else 0
section
variable {s:ByteArray} {i:Nat} (hi:i<s.size) (hs:s.size<4611686018427387904)
include hi hs
theorem zzC:yac.isub .i64 (yac.slen s) (i:Int)=((s.size-i:Nat):Int):=zM8 (by omega) (by omega)
theorem zp1{k:Nat}(h:k<s.size-i)(hk:k<8):zcF s (yac.iadd .i64 (i:Int) (k:Int))=some (byt s (i+k):Int):=by
 rw[zwA (by omega)];exact zlP (by omega)
theorem s0_eq(h:1<s.size-i)(b:Nat)(t:Bool):zdE s (i:Int) (b:Int) t=some (match wd3 b (byt s (i+1)) t with|some n=>.inl (n:Int)|none=>.inr (b:Int)):=zsi (by
 have e1:zcF s (yac.iadd .i64 (i:Int) 1)=some (byt s (i+1):Int):=zp1 (k:=1) hi hs h (by decide);unfold zm3;cases t
 ·rfl
 ·simp only[cond_true,zaf,zaq,zac,wd3,e1,yaa];by_cases h1:b=224
  ·subst h1;by_cases h2:byt s (i+1)<160
   ·simp[h2,show(byt s (i+1):Int)<160 by omega]
   ·simp[h2,show¬(byt s (i+1):Int)<160 by omega]
  ·by_cases h3:b=237
   ·subst h3;by_cases h2:159<byt s (i+1)
    ·simp[h2,show(159:Int)<byt s (i+1)by omega]
    ·simp[h2,show¬(159:Int)<byt s (i+1)by omega]
   ·simp[h1,h3,show¬(b:Int)=224 by omega,show¬(b:Int)=237 by omega])
omit hi hs in
theorem zDm(b:Nat):zdE s (i:Int) (b:Int) false=some (.inr (b:Int)):=zsi rfl
theorem s1_eq(h:1<s.size-i)(b:Nat):zcR s (i:Int) (b:Int) true=some (.inl (wd4 b (byt s (i+1)) true:Nat)):=zsj (by
 have e1:zcF s (yac.iadd .i64 (i:Int) 1)=some (byt s (i+1):Int):=zp1 (k:=1) hi hs h (by decide);unfold zm4;simp only[cond_true,zaf,zaq,zac,wd4,e1,yaa];by_cases h1:b=240
 ·subst h1;by_cases h2:byt s (i+1)<144
  ·simp[h2,show(byt s (i+1):Int)<144 by omega]
  ·simp[h2,show¬(byt s (i+1):Int)<144 by omega]
 ·by_cases h3:b=244
  ·subst h3;by_cases h2:143<byt s (i+1)
   ·simp[h2,show(143:Int)<byt s (i+1)by omega]
   ·simp[h2,show¬(143:Int)<byt s (i+1)by omega]
  ·simp[h1,h3,show¬(b:Int)=240 by omega,show¬(b:Int)=244 by omega])
omit hi hs in
theorem zDn(b:Nat):zcR s (i:Int) (b:Int) false=some (.inr ()):=zsj rfl
theorem zMF(b:Nat):zeO s (i:Int) (b:Int)=some ((if 240<=b/\b<=244/\3<s.size-i/\tl (byt s (i+1))=true/\tl (byt s (i+2))=true/\tl (byt s (i+3))=true then wd4 b (byt s (i+1)) true else 0:Nat):Int):=zzK (by
 unfold zm5;simp only[za4,zaq,zac,zzC hi hs,zDn,yaa];split
 ·split
  ·split
   ·have e1:zcF s (yac.iadd .i64 (i:Int) 1)=some (byt s (i+1):Int):=zp1 (k:=1) hi hs (by omega) (by decide);have e2:zcF s (yac.iadd .i64 (i:Int) 2)=some (byt s (i+2):Int):=zp1 (k:=2) hi hs (by omega) (by decide);have e3:zcF s (yac.iadd .i64 (i:Int) 3)=some (byt s (i+3):Int):=zp1 (k:=3) hi hs (by omega) (by decide);simp only[e1,e2,e3,yaa,zq5];cases t1:tl (byt s (i+1))
    ·simp
    ·cases t2:tl (byt s (i+2))
     ·simp
     ·cases t3:tl (byt s (i+3))
      ·simp[zDn]
      ·simp only[cond_true,s1_eq hi hs (by omega:1<s.size-i),yaa];rw[if_pos ⟨by omega,by omega,by omega,trivial,trivial,trivial⟩]
   ·rw[if_neg (by omega)];rfl
  ·rw[if_neg (by omega)];rfl
 ·rw[if_neg (by omega)];rfl)
theorem s3_eq(b:Nat):zgt s (i:Int) (b:Int)=some ((if 224<=b/\b<=239/\2<s.size-i/\tl (byt s (i+1))=true/\tl (byt s (i+2))=true then(wd3 b (byt s (i+1)) true).getD 0
  else if 240<=b/\b<=244/\3<s.size-i/\tl (byt s (i+1))=true/\tl (byt s (i+2))=true/\tl (byt s (i+3))=true then wd4 b (byt s (i+1)) true else 0:Nat):Int):=zzL (by
 unfold zm6;simp only[za4,zaq,zac,zzC hi hs,zDm,yaa,zMF hi hs];split
 ·split
  ·split
   ·have e1:zcF s (yac.iadd .i64 (i:Int) 1)=some (byt s (i+1):Int):=zp1 (k:=1) hi hs (by omega) (by decide);have e2:zcF s (yac.iadd .i64 (i:Int) 2)=some (byt s (i+2):Int):=zp1 (k:=2) hi hs (by omega) (by decide);simp only[e1,e2,yaa,zq5];cases t1:tl (byt s (i+1))
    ·simp
    ·cases t2:tl (byt s (i+2))
     ·simp[zDm,zMF hi hs,t1,t2]
     ·simp only[cond_true,s0_eq hi hs (by omega:1<s.size-i),yaa];rw[if_pos ⟨by omega,by omega,by omega,trivial,trivial⟩];unfold wd3;simp only[cond_true]
      repeat' split
      all_goals first|rfl|simp_all
   ·rw[if_neg (c:=224<=b/\_) (by omega)]
  ·rw[if_neg (c:=224<=b/\_) (by omega)]
 ·rw[if_neg (c:=224<=b/\_) (by omega)])
def widN(n b0 b1 b2 b3:Nat):Nat:=
 if b0<128 then 1
 else if 194<=b0/\b0<=223/\1<n/\tl b1=true then 2
 else if 224<=b0/\b0<=239/\2<n/\tl b1=true/\tl b2=true then(wd3 b0 b1 true).getD 0
 else if 240<=b0/\b0<=244/\3<n/\tl b1=true/\tl b2=true/\tl b3=true then wd4 b0 b1 true else 0
theorem zHw:zi4 s (i:Int)=some (widN (s.size-i) (byt s i) (byt s (i+1)) (byt s (i+2)) (byt s (i+3)):Int):=zEi (by
 unfold zq4 widN;simp only[zlP hi,yaa,za4,zaq,zac,zzC hi hs,s3_eq hi hs];by_cases h1:byt s i<128
 ·rw[if_pos (by omega),if_pos h1];rfl
 ·rw[if_neg (by omega),if_neg h1];split
  ·split
   ·split
    ·have e1:zcF s (yac.iadd .i64 (i:Int) 1)=some (byt s (i+1):Int):=zp1 (k:=1) hi hs (by omega) (by decide);simp only[e1,yaa,zq5];cases t1:tl (byt s (i+1))
     ·simp
     ·simp only[cond_true];rw[if_pos ⟨by omega,by omega,by omega,trivial⟩];rfl
    ·rw[if_neg (c:=194<=byt s i/\_) (by omega)]
   ·rw[if_neg (c:=194<=byt s i/\_) (by omega)]
  ·rw[if_neg (c:=194<=byt s i/\_) (by omega)])
end
theorem zDx{b:Nat}(h:b<256):tl b=true<->b / 64=2:=by unfold tl;rw[decide_eq_true_eq];omega
set_option maxRecDepth 100000 in
set_option maxHeartbeats 4000000 in
theorem zNK{n b0 b1 b2 b3:Nat}(h0:b0<256)(h1:b1<256)(h2:b2<256)(h3:b3<256):widN n b0 b1 b2 b3=if decodeN n b0 b1 b2 b3=(65533,1)then 0 else(decodeN n b0 b1 b2 b3).2:=by
 unfold widN wd3 wd4
 simp only[zDx h1,zDx h2,zDx h3,cond_true]
 unfold decodeN
 repeat' split
 all_goals first|rfl|omega |(simp_all;done)|(simp_all;omega)
theorem zxg{s:ByteArray}{i:Nat}(hi:i<s.size)(hs:s.size<4611686018427387904):zi4 s (i:Int)=some (wid s i:Int):=by
 rw[zHw hi hs,zNK (zyr _ _) (zyr _ _) (zyr _ _) (zyr _ _)];unfold wid;rw[decode_at];rfl
end Go.Ab.Tryz
namespace Go.Ab.Tryz.Pe
open Go.Ab.Tryz Go Go.Ab Go.Proofs
open List renaming mem_of_getElem?->yam
theorem peOk{p:Peer}(h:p.Ok):PeOk p:=⟨h.1.1,by have:=h.1.2;omega⟩
theorem enOk{l:List Entry}(h:OkL Entry.Ok l):EnOk l:=fun x hx=>peOk (h.1 x hx).1
abbrev Heads(me:Peer)(a b:Peer):Prop:=a.addr≠b.addr/\zff me a b=true
theorem zHp{me:Peer}{l:List Entry}:RightP me l<->l.length<=15/\(∀x,x∈l->0<=x.misses/\x.misses<3/\x.peer.addr≠me.addr)/\(l.map Entry.peer).Pairwise (Heads me):=by
 unfold RightP;rw[List.pairwise_map]
theorem RightP.sub{me:Peer}{l l':List Entry}(h:RightP me l)(hs:l'.Sublist l):RightP me l':=
 ⟨Nat.le_trans hs.length_le h.1,fun x hx=>h.2.1 x (hs.subset hx),h.2.2.sublist hs⟩
theorem zCK{l:List Entry}{n:Nat}{x:Entry}(hx:l[n]?=some x)(m:Int):(l.set n ⟨x.peer,m⟩).map Entry.peer=l.map Entry.peer:=by
 rw[List.map_set];obtain⟨hn,rfl⟩:=List.getElem?_eq_some_iff.1 hx;have:l[n].peer=(l.map Entry.peer)[n]'(by simpa using hn):=by simp
 rw[this,List.set_getElem_self]
theorem RightP.set{me:Peer}{l:List Entry}(h:RightP me l){n:Nat}{x:Entry}(hx:l[n]?=some x){m:Int}(h0:0<=m)(h3:m<3):RightP me (l.set n ⟨x.peer,m⟩):=by
 rw[zHp]at h⊢;refine⟨by simpa using h.1,fun y hy=>?_,by rw[zCK hx];exact h.2.2⟩;rcases List.mem_or_eq_of_mem_set hy with hy|rfl
 ·exact h.2.1 y hy
 ·exact⟨h0,h3,(h.2.1 x (yam hx)).2.2⟩
theorem ins_mem{me p:Peer}{l:List Entry}{x:Entry}:x∈ins me p l<->x=⟨p,0⟩\/x∈l:=by
 induction l with
 |nil=>simp[ins]
 |cons y l ih=>
  rw[ins]
  cases isAh me p y with
  |true=>simp
  |false=>simp only[cond_false,List.mem_cons,ih];constructor<;>(rintro(h|h|h)<;>simp[h])
theorem place_neg{l:List Entry}{addr:Int}:place l addr<0<->∀x,x∈l->x.peer.addr≠addr:=by
 unfold place fstI
 cases hf:fst (isAt addr) l with
 |none=>
  refine⟨fun _ x hx=>?_,fun _=>by show(-1:Int)<0;omega⟩
  simpa[isAt]using zlm hf x hx
 |some n=>
  obtain⟨x,hx,hp,_⟩:=zb6 hf;refine⟨fun h=>by have h:(n:Int)<0:=h;omega,fun h=>absurd (by simpa[isAt]using hp) (h x (yam hx))⟩
end Go.Ab.Tryz.Pe
namespace Go.Ab.Tryz
open Go Go.Ab Go.Proofs Go.Lib
open Bool renaming and_eq_true->yaB,eq_false_iff->ycf,eq_iff_iff->ybB,false_or->ybC,or_eq_true->yaY
open Go.Ab.Ops renaming std->yac
open Go.Op renaming bytesLess->ybX
open Go.Utf8 renaming decode->yaH
open Int renaming toNat_natCast->yaR
open List renaming append_assoc->yao,drop_eq_getElem_cons->yaF,drop_eq_nil_of_le->yaL,drop_length->yb7,drop_of_length_le->yca,getElem?_eq_some_iff->yae,length_append->yaf,length_cons->yav,length_drop->yar,length_map->yaK,length_nil->ybw,length_take->yan,map_cons->yaT,mem_map->ybJ,mem_of_getElem?->yam,replicate->yaA,singleton_append->ybz,take_left->ya9,take_length->yb9
open Nat renaming add_assoc->yaU,le_refl->yag,le_trans->yaO,zero_add->yaQ
open Option renaming bind_some->yaa,map_eq_some_iff->yap
open Option.some renaming injEq->ybh
def zfz(s:ByteArray)(i:Nat):Bool:=decide (yaH s i=(65533,1))
theorem zqL{s:ByteArray}{i:Nat}(h:i<s.size):ztQ s (i:Int)=some (((yaH s i).1:Int),((i+(yaH s i).2:Nat):Int)):=by
 show(if 0<=(i:Int)/\(i:Int).toNat<s.size then some (((yaH s (i:Int).toNat).1:Int),(i:Int)+((yaH s (i:Int).toNat).2:Int))else none)=_;rw[if_pos ⟨by omega,by simpa using h⟩,yaR];simp
theorem zAD{s:ByteArray}{i:Nat}(h:¬i<s.size):ztQ s (i:Int)=none:=by
 show(if 0<=(i:Int)/\(i:Int).toNat<s.size then some (((yaH s (i:Int).toNat).1:Int),(i:Int)+((yaH s (i:Int).toNat).2:Int))else none)=_;rw[if_neg (by simpa using h)]
theorem zvT{s:ByteArray}{i:Nat}(h:i<s.size):zvS s (i:Int) ((yaH s i).1:Int)=some (zfz s i):=zEM (by
 unfold zrt;simp only[zaf,zac];split
 ·rename_i h1
  have e1:zwM s (i:Int) (yac.slen s)=some (s.extract i s.size):=by
   show(if 0<=(i:Int)/\(i:Int)<=(s.size:Int)/\(s.size:Int)<=(s.size:Int)then some (s.extract (i:Int).toNat (s.size:Int).toNat)else none)=_;rw[if_pos ⟨by omega,by omega,by omega⟩];simp
  have e2:ztQ (s.extract i s.size) 0=some (((yaH s i).1:Int),((yaH s i).2:Int)):=by
   have:=zqL (s:=s.extract i s.size) (i:=0) (by rw[tail_size];omega);rw[tail_decode]at this;simpa using this
  rw[e1,yaa,e2];simp only[xopt,zfz];congr 1;have h2:(yaH s i).1=65533:=by omega
  refine decide_eq_decide.2 ⟨fun h=>Prod.ext h2 (by show(yaH s i).2=1;omega),fun h=>by rw[h];rfl⟩
 ·rename_i h1;congr 1
  exact(decide_eq_false (fun h=>h1 (by rw[h];rfl))).symm)
def poss(s:ByteArray):Nat->Nat->List Nat
 |0,_=>[]
 |n+1,i=>if i<s.size then i::poss s n (i+(yaH s i).2)else []
theorem zK6(s:ByteArray):∀(n i:Nat),s.size-i<n->∃r,zjs s (i:Int)=some r/\(match r with| .inl _=>false| .inr _=>true)=(poss s n i).all fun j=>!zfz s j:=by
 intro n
 induction n with
 |zero=>intro i h;omega
 |succ n ih=>
  intro i h;by_cases hi:i<s.size
  ·have hw:=width_pos s i;cases hst:zfz s i
   ·obtain⟨r,hr,he⟩:=ih (i+(yaH s i).2) (by omega);refine⟨r,znn (by simp only[zgS,zqL hi,xopt,zvT hi,yaa,hst,cond_false];exact hr),?_⟩;rw[he];simp[poss,hi,hst]
   ·exact⟨_,znn (by simp only[zgS,zqL hi,xopt,zvT hi,yaa,hst,cond_true];rfl),by simp[poss,hi,hst]⟩
  ·exact⟨_,znn (by simp only[zgS,zAD hi,xopt];rfl),by simp[poss,hi]⟩
theorem zDC(s:ByteArray):zvR s=some ((poss s (s.size+1) 0).all fun j=>!zfz s j):=zEL (by
 obtain⟨r,hr,he⟩:=zK6 s (s.size+1) 0 (by omega);have hr:zjs s 0=some r:=hr;simp only[zrs,hr,yaa]
 cases r<;>exact congrArg some he)
theorem zKP(s:ByteArray):∀(n i:Nat),(poss s n i).length<=n:=by
 intro n
 induction n with
 |zero=>intro i;simp[poss]
 |succ n ih=>
  intro i;unfold poss;split
  ·have:=ih (i+(yaH s i).2);simp;omega
  ·simp
theorem zJ0(s:ByteArray):∀(n i k:Nat),s.size-i<n->k+n<9223372036854775808->∃a,zjr s (k:Int) (i:Int)=some (((k+(poss s n i).length:Nat):Int),a):=by
 intro n
 induction n with
 |zero=>intro i k h;omega
 |succ n ih=>
  intro i k h hk;by_cases hi:i<s.size
  ·have hw:=width_pos s i;obtain⟨a,ha⟩:=ih (i+(yaH s i).2) (k+1) (by omega) (by omega);refine⟨a,zsr ?_⟩;have e1:yac.iadd .i64 (k:Int) 1=((k+1:Nat):Int):=zwA (b:=1) (by omega);simp only[zkb,zqL hi,xopt,e1,ha];simp[poss,hi];omega
  ·exact⟨(i:Int),zsr (by simp only[zkb,zAD hi,xopt];simp[poss,hi])⟩
theorem zDB{s:ByteArray}(hs:s.size<4611686018427387904):zvQ s=some (((poss s (s.size+1) 0).length:Nat):Int):=zEK (by
 obtain⟨a,ha⟩:=zJ0 s (s.size+1) 0 0 (by omega) (by omega);have ha:zjr s 0 0=some (((0+(poss s (s.size+1) 0).length:Nat):Int),a):=ha
 simp only[zrr,ha,yaa,yaQ])
def zfq(s:ByteArray)(i:Nat):ByteArray:=s.extract i (i+(yaH s i).2)
theorem zJD(s:ByteArray)(i:Nat):(wid s i=0/\(yaH s i).2=1)\/(wid s i≠0/\wid s i=(yaH s i).2):=by
 unfold wid;split
 ·rename_i h;exact .inl ⟨rfl,by rw[h]⟩
 ·have:=width_pos s i;exact .inr ⟨by omega,rfl⟩
theorem zKM(s:ByteArray)(hs:s.size<1000000):∀(n i:Nat) (l:List ByteArray),s.size-i<n->l.length<=i->i<=s.size->(∀j,j<s.size->j+(yaH s j).2<=s.size)->zgm s (i:Int) l=some (l++(poss s n i).map (zfq s)):=by
 intro n
 induction n with
 |zero=>intro i l h;omega
 |succ n ih=>
  intro i l h hl hi0 hfit;by_cases hi:i<s.size
  ·have hw:=width_pos s i;have hf:=hfit i hi;have hr:∀z:ByteArray,zar vT 16 l [z]=true:=fun z=>zax vT (by simp;omega) (by omega)
   have hx:=ih (i+(yaH s i).2) (l++[zfq s i]) (by omega) (by simp;omega) hf hfit
   have hsub:∀w:Nat,i+w<=s.size->zwM s (i:Int) ((i+w:Nat):Int)=some (s.extract i (i+w)):=fun w hwl=>by
    show(if 0<=(i:Int)/\(i:Int)<=((i+w:Nat):Int)/\((i+w:Nat):Int)<=(s.size:Int)then some (s.extract (i:Int).toNat ((i+w:Nat):Int).toNat)else none)=_;rw[if_pos ⟨by omega,by omega,by omega⟩,yaR,yaR]
   refine zsh ?_;unfold zjU;simp only[zaq,zac,zbn,zxg hi (by omega),yaa,zaf];rw[if_pos (by omega)];rcases zJD s i with⟨h1,h2⟩|⟨h1,h2⟩
   ·have e1:yac.iadd .i64 (i:Int) 1=((i+1:Nat):Int):=zwA (b:=1) (by omega);rw[if_pos (by omega),e1,hsub 1 (by omega),yaa,hr,cond_true];rw[h2]at hx;simp only[poss,if_pos hi,yaT,h2];rw[show s.extract i (i+1)=zfq s i from by unfold zfq;rw[h2],hx];simp
   ·have e1:yac.iadd .i64 (i:Int) (wid s i:Int)=((i+wid s i:Nat):Int):=zwA (by omega);rw[if_neg (by omega),e1,hsub _ (by omega),yaa,hr,cond_true];rw[<-h2]at hx;simp only[poss,if_pos hi,yaT,<-h2];rw[show s.extract i (i+wid s i)=zfq s i from by unfold zfq;rw[h2],hx];simp
  ·exact zsh (by
    unfold zjU;simp only[zaq,zac,zbn];rw[if_neg (by omega)]
    simp[poss,hi])
theorem fits{s:ByteArray}{i:Nat}(h:i<s.size):i+(yaH s i).2<=s.size:=by
 rw[decode_at]
 have:∀n b0 b1 b2 b3,1<=n->(decodeN n b0 b1 b2 b3).2<=n:=fun n b0 b1 b2 b3 hn=>by
  unfold decodeN
  repeat' split
  all_goals (simp only;omega)
 have:=this (s.size-i) (s.get! i).toNat (s.get! (i+1)).toNat (s.get! (i+2)).toNat (s.get! (i+3)).toNat (by omega);omega
theorem zve{s:ByteArray}(hs:s.size<1000000):zqo s=some ((poss s (s.size+1) 0).map (zfq s)):=zEg (by
 have h:=zKM s hs (s.size+1) 0 [] (by omega) (by simp) (by omega) (fun j hj=>fits hj);have h:zgm s 0 []=some ((poss s (s.size+1) 0).map (zfq s)):=h
 simp only[zq2,h,yaa])
set_option maxRecDepth 100000 in
set_option maxHeartbeats 4000000 in
theorem zJ3{n b0 b1 b2 b3 r w:Nat}(hn:1<=n)(hd:decodeN n b0 b1 b2 b3=(r,w)):decodeN w b0 (if 1<w then b1 else 0) (if 2<w then b2 else 0) (if 3<w then b3 else 0)=(r,w):=by
 unfold decodeN at hd
 repeat' split at hd
 all_goals
  injection hd with e1 e2
  subst e1 e2
  unfold decodeN
  simp only[show¬1<1 by omega,show¬2<1 by omega,show¬3<1 by omega,show 1<2 by omega,show¬2<2 by omega,show¬3<2 by omega,show 1<3 by omega,show 2<3 by omega,show¬3<3 by omega,show 1<4 by omega,show 2<4 by omega,show 3<4 by omega,if_true,if_false,false_and,true_and,and_false]
  repeat' split
  all_goals first|rfl|(exfalso;omega)
theorem zxQ(s:ByteArray)(i j:Nat)(h:j<=s.size):(s.extract i j).size=j-i:=by
 simp[ByteArray.size_extract];omega
theorem zMP(s:ByteArray)(i j k:Nat)(h:j<=s.size)(hk:i+k<j):byt (s.extract i j) k=byt s (i+k):=by
 have h1:k<(s.extract i j).size:=by rw[zxQ s i j h];omega
 have e1:=zlP h1;have e2:=zlP (s:=s) (i:=i+k) (by omega);unfold byt
 have g1:(s.extract i j).get! k=(s.extract i j)[k]'h1:=by
  generalize s.extract i j=z at h1⊢
  cases z with
  |mk d=>exact getElem!_pos d k h1
 have g2:s.get! (i+k)=s[i+k]'(by omega):=by
  have h2:i+k<s.size:=by omega
  clear e1 e2 g1 h1
  cases s with
  |mk d=>exact getElem!_pos d (i+k) h2
 rw[g1,g2,ByteArray.getElem_extract]
theorem zAt{s:ByteArray}{i:Nat}(h:i<s.size):yaH (zfq s i) 0=yaH s i:=by
 have hf:=fits h;have hw:=width_pos s i;obtain⟨r,w,hd⟩:∃r w,yaH s i=(r,w):=⟨_,_,rfl⟩
 have hsz:(zfq s i).size=w:=by unfold zfq;rw[zxQ _ _ _ hf,hd];simp only;omega
 have hb:∀k,byt (zfq s i) k=if k<w then byt s (i+k)else 0:=fun k=>by
  split
  ·rename_i hk;unfold zfq;rw[hd]at hf⊢;exact zMP s i (i+w) k hf (by omega)
  ·exact zM6 _ _ (by omega)
 rw[hd]at hw⊢;rw[decode_at]at hd⊢;have b0:=hb 0;have b1:=hb 1;have b2:=hb 2;have b3:=hb 3;unfold byt at b0 b1 b2 b3;simp only[yaQ,Nat.sub_zero,Nat.add_zero]at b0 b1 b2 b3⊢;rw[hsz,b0,b1,b2,b3,if_pos (show 0<w from hw)];exact zJ3 (by omega) hd
theorem zAC(s:ByteArray)(i:Nat):(wid s i=0)<->zfz s i=true:=by
 unfold wid zfz;have:=width_pos s i;split
 ·rename_i h;simp[h]
 ·rename_i h;simp[h];omega
theorem zNJ{l:List ByteArray}(hl:l.length<=4611686018427387904)(hb:∀x,x∈l->0<x.size/\x.size<1000000):zi3 l 0=some (bif allI (fun _ x=>!zfz x 0) 0 l then .inr ()else .inl ()):=
 zxi vT hl (L:=fun i=>zi3 l i)
  (fun h=>zm2 (by simp[zgo,h]))
  (fun n x r hx h1 h2 hp h=>zm2 (by
   have hm:=hb x (yam hx);have hw:zi4 x 0=some (wid x 0:Int):=zxg hm.1 (by omega)
   have hz:¬(wid x 0=0):=fun h0=>by
    have:=(zAC x 0).1 h0;simp[this]at hp
   simp[zgo,h1,h2,hw,zaf,hz];exact h))
  (fun n x hx h1 h2 hp=>zm2 (by
   have hm:=hb x (yam hx);have hw:zi4 x 0=some (wid x 0:Int):=zxg hm.1 (by omega);have hz:wid x 0=0:=(zAC x 0).2 (by simpa using hp)
   simp[zgo,h1,h2,hw,zaf,hz]))
theorem zzJ(s:ByteArray):∀(n i:Nat),∀j,j∈poss s n i->j<s.size:=by
 intro n
 induction n with
 |zero=>intro i j h;simp[poss]at h
 |succ n ih=>
  intro i j h;unfold poss at h;split at h
  ·rename_i hi;rcases List.mem_cons.1 h with rfl|h
   ·exact hi
   ·exact ih _ j h
  ·cases h
theorem zJM{l:List ByteArray}{p:ByteArray->Bool}:∀n,allI (fun _ x=>p x) n l=l.all p:=by
 induction l with
 |nil=>intro n;rfl
 |cons x l ih=>intro n;simp[allI,ih]
theorem zC4{s:ByteArray}(hs:s.size<1000000):zvf s=some ((poss s (s.size+1) 0).all fun j=>!zfz s j):=zEh (by
 have hl:=zKP s (s.size+1) 0
 have hb:∀x,x∈(poss s (s.size+1) 0).map (zfq s)->0<x.size/\x.size<1000000:=fun x hx=>by
  obtain⟨j,hj,rfl⟩:=ybJ.1 hx;have h1:=zzJ s _ _ j hj;have h2:=fits h1;have h3:=width_pos s j;unfold zfq;rw[zxQ _ _ _ h2];omega
 have hv:=zNJ (l:=(poss s (s.size+1) 0).map (zfq s)) (by simp;omega) hb;rw[zJM]at hv
 have he:((poss s (s.size+1) 0).map (zfq s)).all (fun x=>!zfz x 0)=(poss s (s.size+1) 0).all fun j=>!zfz s j:=by
  rw[List.all_map];refine ybB.2 ?_;simp only[List.all_eq_true,Function.comp];refine⟨fun h j hj=>?_,fun h j hj=>?_⟩
  ·have:=h j hj;unfold zfz at this⊢;rwa[zAt (zzJ s _ _ j hj)]at this
  ·have:=h j hj;unfold zfz at this⊢;rwa[zAt (zzJ s _ _ j hj)]
 rw[he]at hv;simp only[zq3,zve hs,yaa,hv]
 cases (poss s (s.size+1) 0).all fun j=>!zfz s j<;>rfl)
def zoN(s:ByteArray):Bool:=decide (0<s.size/\s.size<=96)&&((poss s (s.size+1) 0).all fun j=>!zfz s j)&&decide ((poss s (s.size+1) 0).length<=32)
theorem zGW{s:ByteArray}(hs:s.size<1000000):zzM s=some (zoN s):=zI8 (by
 simp only[zvg,zaq,zac,zbn,zC4 hs,zve hs,yaa,zoN,zav,yaK];by_cases h1:0<s.size
 ·rw[if_pos (by omega)];by_cases h2:s.size<=96
  ·rw[if_pos (by omega)];cases (poss s (s.size+1) 0).all fun j=>!zfz s j
   ·simp
   ·simp[h1,h2];omega
  ·rw[if_neg (by omega)];simp[h2]
 ·rw[if_neg (by omega)];simp[h1])
theorem zGK{s:ByteArray}(hs:s.size<1000000):zzF s=some (zoN s):=zIU (by
 have h0:yac.seq s ⟨#[]⟩=true<->s.size=0:=by
  rw[zwK];constructor
  ·rintro rfl;rfl
  ·intro h
   cases s with
   |mk d=>
    have:d.size=0:=h;rw[Array.eq_empty_of_size_eq_zero this]
 simp only[zu7,za4,zac,zbn,zDC,zDB (show s.size<4611686018427387904 by omega),yaa,zoN];by_cases h1:s.size=0
 ·rw[h0.2 h1];simp[h1]
 ·rw[ycf.2 (fun h=>h1 (h0.1 h)),cond_false];by_cases h2:s.size<=96
  ·rw[if_pos (by omega)];cases (poss s (s.size+1) 0).all fun j=>!zfz s j
   ·simp
   ·have h3:0<s.size:=by omega
    simp only[cond_true,h2,h3,and_self,decide_true,Bool.true_and,ybh];exact decide_eq_decide.2 ⟨fun h=>by omega,fun h=>by omega⟩
  ·rw[if_neg (by omega)];simp[h2])
theorem iltT{a b:Int}(h:a<b):yac.ilt a b=true:=decide_eq_true h
theorem iltF{a b:Int}(h:¬a<b):yac.ilt a b=false:=decide_eq_false h
theorem ieqT{a b:Int}(h:a=b):yac.ieq a b=true:=decide_eq_true h
theorem ieqF{a b:Int}(h:¬a=b):yac.ieq a b=false:=decide_eq_false h
theorem zxM(a:ByteArray):yac.seq a a=true:=zwK.2 rfl
theorem zJQ(a b:Bool):yac.beq a b=decide (a=b):=by cases a<;>cases b<;>rfl
def n64(x:BitVec 64):Int:=(x.toNat:Int)
def mc1:BitVec 64:=13787848793156543929#64
def mc2:BitVec 64:=10723151780598845931#64
def mixB(u:BitVec 64):BitVec 64:=
 let a:=(u ^^^ (u >>> 30))*mc1
 let b:=(a ^^^ (a >>> 27))*mc2
 b ^^^ (b >>> 31)
def stepB(n:BitVec 64)(c:Nat):BitVec 64:=(n ^^^ BitVec.ofNat 64 c)*1099511628211#64
def zMA(f:BitVec 64->Nat->BitVec 64):Nat->Nat->BitVec 64->BitVec 64
 |0,_,x=>x
 |d+1,i,x=>zMA f d (i+1) (f x i)
def sumB(s:ByteArray)(d i:Nat)(x:BitVec 64):BitVec 64:=zMA (fun x i=>stepB x (byt s i)) d i x
def basis:BitVec 64:=14695981039346656037#64
def zPU(s:ByteArray):BitVec 64:=mixB (sumB s s.size 0 basis)
def zPw(s:ByteArray):Int:=n64 (zPU s)
def upto(a x b:Int):Bool:=decide (a=b)||(decide (x=b)||(decide (x≠a)&&decide ((x-a)%18446744073709551616<(b-a)%18446744073709551616)))
theorem zKt(a b:Int):yac.isub .u64 a b=(a-b)%18446744073709551616:=zxS _
theorem zvJ(a x b:Int):zlN a x b=some (upto a x b):=zEz (by
 have hd:∀u v,zjo u v=some ((v-u)%18446744073709551616):=fun u v=>zw6 (by rw[zrn,zKt])
 have hb:a≠b->zgO a x b=some (decide (x≠a)&&decide ((x-a)%18446744073709551616<(b-a)%18446744073709551616)):=fun h=>zsn (by
  simp only[zj8,hd,yaa,zaf,zaq,decide_eq_false h,cond_false,zac]
  by_cases hx:x=a<;>simp[hx])
 simp only[zro,zaf,zac,upto];by_cases h1:a=b
 ·simp[h1]
 ·by_cases h2:x=b
  ·simp[h1,h2]
  ·simp[h1,h2,hb h1])
theorem zq1{a x b:Int}(ha:0<=a/\a<18446744073709551616)(hx:0<=x/\x<18446744073709551616)(hb:0<=b/\b<18446744073709551616):zps a x b=some (upto a x b):=zGU (by
 simp only[ztg,zaq,za4,zac,upto];split
 ·split
  ·rename_i h1 h2;congr 1;rw[decide_eq_false (by omega:¬a=b),ybC,ybB];simp only[decide_eq_true_eq,yaY,yaB];omega
  ·rename_i h1 h2;congr 1;rw[decide_eq_false (by omega:¬a=b),ybC]
   symm
   rw[ycf];intro h;simp only[decide_eq_true_eq,yaY,yaB]at h;omega
 ·split
  ·split
   ·rename_i h1 h2 h3;congr 1
    symm
    simp only[decide_eq_true_eq,yaY,yaB];omega
   ·rename_i h1 h2 h3;congr 1;rw[ybB];simp only[decide_eq_true_eq,yaY,yaB];omega
  ·congr 1
   symm
   simp only[decide_eq_true_eq,yaY,yaB]
   omega)
theorem zxo{s:ByteArray}{i:Nat}(h:i<s.size):∃x,s.data.toList.drop i=x::s.data.toList.drop (i+1)/\byt s i=x.toNat:=by
 have hl:i<s.data.toList.length:=by simpa using h
 refine⟨s.data.toList[i],yaF hl,?_⟩;unfold byt;congr 1
 cases s with
 |mk d=>
  show d[i]! =_;rw[Array.getElem_toList];exact getElem!_pos d i (by simpa using hl)
theorem zIR(x y:UInt8)(a b:List UInt8):ybX (x::a) (y::b)=(decide (x.toNat<y.toNat)||(decide (x.toNat=y.toNat)&&ybX a b)):=by
 show(decide (x<y)||(x==y&&ybX a b))=_
 have e:(x==y)=decide (x.toNat=y.toNat):=by
  rw[ybB,beq_iff_eq,decide_eq_true_eq];exact⟨fun h=>by rw[h],fun h=>UInt8.toNat_inj.1 h⟩
 rw[e];rfl
theorem zAo{a b:ByteArray}(ha:a.size<4611686018427387904):∀(k i:Nat),i+k=a.size->i<=b.size->∃r,zkz a b (i:Int)=some r/\(match r with| .inl t=>t| .inr _=>yac.ilt (yac.slen a) (yac.slen b))=ybX (a.data.toList.drop i) (b.data.toList.drop i)
 |0,i,h,hi=>by
  refine⟨.inr (),zkR ?_,?_⟩
  ·have e:yac.ilt (i:Int) (yac.slen a)=false:=iltF (by rw[zbn];omega);rw[ze6,e];rfl
  ·rw[yca (by simp;omega:a.data.toList.length<=i)];show decide ((a.size:Int)<(b.size:Int))=_;by_cases hb:i<b.size
   ·obtain⟨y,hy,_⟩:=zxo hb;rw[hy,decide_eq_true (by omega)];rfl
   ·rw[yca (by simp;omega:b.data.toList.length<=i),decide_eq_false (by omega)];rfl
 |k+1,i,h,hi=>by
  have e:yac.ilt (i:Int) (yac.slen a)=true:=iltT (by rw[zbn];omega);obtain⟨x,hx,hxv⟩:=zxo (s:=a) (i:=i) (by omega);by_cases hb:i<b.size
  ·have e2:yac.ilt (i:Int) (yac.slen b)=true:=iltT (by rw[zbn];omega);obtain⟨y,hy,hyv⟩:=zxo hb;have g1:=zlP (s:=a) (i:=i) (by omega);have g2:=zlP hb;have ad:yac.iadd .i64 (i:Int) 1=((i+1:Nat):Int):=zfY (by omega);rw[hx,hy,zIR,<-hxv,<-hyv];by_cases he:byt a i=byt b i
   ·obtain⟨r,hr,hv⟩:=zAo (a:=a) (b:=b) ha k (i+1) (by omega) (by omega)
    have hs0:znA a b (i:Int)=some (.inl ((i+1:Nat):Int)):=zt2 (by
     rw[zkS,g1,g2,ad]
     simp only[yaa,ieqT (show(byt a i:Int)=byt b i by omega),cond_true])
    refine⟨r,zkR ?_,?_⟩
    ·rw[ze6,e,e2,hs0];exact hr
    ·rw[hv,he];simp
   ·have hs0:znA a b (i:Int)=some (.inr (yac.ilt (byt a i:Int) (byt b i:Int))):=zt2 (by
     rw[zkS,g1,g2,ad]
     simp only[yaa,ieqF (show¬(byt a i:Int)=byt b i by omega),cond_false])
    refine⟨.inl (yac.ilt (byt a i:Int) (byt b i:Int)),zkR ?_,?_⟩
    ·rw[ze6,e,e2,hs0];rfl
    ·simp only[decide_eq_false he,Bool.false_and,Bool.or_false];exact decide_eq_decide.2 ⟨fun h=>by omega,fun h=>by omega⟩
  ·have e2:yac.ilt (i:Int) (yac.slen b)=false:=iltF (by rw[zbn];omega);refine⟨.inr (),zkR (by rw[ze6,e,e2];rfl),?_⟩;rw[hx,yca (by simp;omega:b.data.toList.length<=i)];show decide ((a.size:Int)<(b.size:Int))=_;rw[decide_eq_false (by omega)];rfl
def lt(a b:ByteArray):Bool:=ybX a.data.toList b.data.toList
theorem zEl{a b:ByteArray}(ha:a.size<4611686018427387904):ztj a b=some (lt a b):=zGY (by
 obtain⟨r,hr,hv⟩:=zAo (a:=a) (b:=b) ha a.size 0 (by omega) (by omega);have hr':zkz a b 0=some r:=hr;rw[ztk,hr',yaa];rw[List.drop_zero,List.drop_zero]at hv;unfold lt;rw[<-hv]
 cases r<;>rfl)
theorem zvh{a b:List Pair}(hl:a.length<=1000000):zqp a b=some (eqb a b):=zEj (by
 rw[zq6,zav,zav];by_cases he:a.length=b.length
 ·have h:=zqB zag (l:=a) (l':=b) (by omega) he (L:=fun i=>zl3 a b i) (fun h=>zm7 (by simp[zgv,h]))
   (fun n x r _ h1 h2 h3 h=>zm7 (by simp[zgv,h1,h2,h3,zxM];exact h))
   (fun n x y _ h1 h2 h3 h=>zm7 (by
    simp only[zgv,h1,h2,h3,zF9,zac,cond_true,yaa];rw[ne_eq,Pair.ext']at h;split
    ·split
     ·exact absurd ⟨‹_›,‹_›⟩ h
     ·rfl
    ·rfl))
  rw[ieqT (by omega),cond_true];rcases h with⟨h1,h2⟩|⟨h1,h2⟩
  ·rw[h2,h1,ziW]<;>rfl
  ·rw[h2,znU h1]<;>rfl
 ·rw[ieqF (by omega),znU (fun h=>he (by rw[h]))]<;>rfl)
def isAt(key:ByteArray)(p:Pair):Bool:=yac.seq p.key key
def pl(l:List Pair)(key:ByteArray):Int:=fstI (isAt key) l
theorem zoR{l:List Pair}{key:ByteArray}(hl:l.length<=1000):znP l key=some (pl l key)/\zqv l key=some (pl l key):=by
 have e1:=zbu zag (l:=l) (by omega) (p:=isAt key) (L:=fun i=>zeX l key i) (fun h=>zf5 (by simp[zcv,h]))
  (fun n x _ h1 h2 hp=>zf5 (by
   have:zlc x key=some (isAt key x):=zqF rfl
   simp[zcv,h1,h2,this,hp]))
  (fun n x r _ h1 h2 hp h=>zf5 (by
   have:zlc x key=some (isAt key x):=zqF rfl
   simp[zcv,h1,h2,this,hp];exact h))
 have e0:=zbu zag (l:=l) (by omega) (p:=isAt key) (L:=fun i=>zmb l key i) (fun h=>zm9 (by simp[zgC,h]))
  (fun n x _ h1 h2 hp=>zm9 (by
   have:yac.seq x.key key=true:=hp
   simp[zgC,h1,h2,this]))
  (fun n x r _ h1 h2 hp h=>zm9 (by
   have:yac.seq x.key key=false:=hp
   simp[zgC,h1,h2,this];exact h))
 refine⟨zBl (zuy ?_),zEs ?_⟩
 ·rw[ziL,e1];unfold pl fstI;cases fst (isAt key) l<;>rfl
 ·rw[zrb,e0];unfold pl fstI;cases fst (isAt key) l<;>rfl
def getP(l:List Pair)(key:ByteArray):ByteArray×Bool:=match l.find? (isAt key)with
 |some x=>(x.val,true)
 |none=>(⟨#[]⟩,false)
theorem zph{p:Pair->Bool}:∀{l:List Pair},match fst p l with
  |some n=>∃x,l[n]?=some x/\l.find? p=some x/\p x=true/\n<l.length
  |none=>l.find? p=none
 | []=>rfl
 |x::l=>by
  have ih:=zph (p:=p) (l:=l);rw[fst,List.find?_cons]
  cases h:p x with
  |true=>exact⟨x,rfl,rfl,h,by simp⟩
  |false=>
   cases hf:fst p l with
   |none=>rw[hf]at ih;exact ih
   |some n=>
    rw[hf]at ih;obtain⟨y,h1,h2,h3,h4⟩:=ih;exact⟨y,by simpa using h1,h2,h3,by simp;omega⟩
theorem zCz{l:List Pair}{key:ByteArray}(hl:l.length<=1000):zvN l key=some (getP l key)/\zzP l key=some (getP l key):=by
 have h:=zph (p:=isAt key) (l:=l)
 have h1:znO l key=some (getP l key)/\zqu l key=some (getP l key):=by
  rw[znO,zqu,(zoR hl).1,(zoR hl).2,yaa];unfold pl fstI getP
  cases hf:fst (isAt key) l with
  |none=>
   rw[hf]at h
   simp only[h,iltT (show(-1:Int)<0 by omega),cond_true,and_self]
  |some n=>
   rw[hf]at h;obtain⟨x,h1,h2,h3,h4⟩:=h;simp only[h2,iltF (show¬(n:Int)<0 by omega),cond_false,zaO,h1,yaa,and_self]
 exact⟨zEI h1.1,zJc h1.2⟩
def isUp(key:ByteArray)(p:Pair):Bool:=lt key p.key
def setP(key val:ByteArray):List Pair->List Pair
 | []=>[]
 |x::l=>bif isAt key x then⟨x.key,val⟩::l else x::setP key val l
def insP(key val:ByteArray):List Pair->List Pair
 | []=>[⟨key,val⟩]
 |x::l=>bif isUp key x then⟨key,val⟩::x::l else x::insP key val l
def put(l:List Pair)(key val:ByteArray):List Pair×Int:=
 bif zoN key then
  (if 512<val.size then(l,5)else
  if 0<=pl l key then(setP key val l,0)else
  if 64<=l.length then(l,10)else(insP key val l,0))
 else(l,7)
theorem zzZ{key val:ByteArray}:∀{l:List Pair} {n:Nat} {x:Pair},fst (isAt key) l=some n->l[n]?=some x->l.set n ⟨x.key,val⟩=setP key val l
 | [],n,x,h,_=>by cases h
 |y::l,n,x,h,hx=>by
  rw[fst]at h;rw[setP]
  cases hy:isAt key y with
  |true=>
   rw[hy]at h;cases h;cases hx
   rfl
  |false=>
   rw[hy,cond_false]at h
   cases hf:fst (isAt key) l with
   |none=>rw[hf]at h;cases h
   |some m=>
    rw[hf]at h;cases h;rw[cond_false,<-zzZ hf (by simpa using hx)];rfl
theorem zyC(key val:ByteArray)(l:List Pair):insP key val l=match fst (isUp key) l with|some n=>l.take n++⟨key,val⟩::l.drop n|none=>l++[⟨key,val⟩]:=by
 induction l with
 |nil=>rfl
 |cons x l ih=>
  rw[insP,fst]
  cases isUp key x with
  |true=>rfl
  |false=>
   rw[cond_false,cond_false,ih]
   cases fst (isUp key) l with
   |none=>rfl
   |some n=>simp
theorem zKo(key val:ByteArray)(l:List Pair):(insP key val l).length=l.length+1:=by
 induction l with
 |nil=>rfl
 |cons x l ih=>rw[insP];cases isUp key x<;>simp[ih]
theorem zKZ(key val:ByteArray)(l:List Pair):(setP key val l).length=l.length:=by
 induction l with
 |nil=>rfl
 |cons x l ih=>rw[setP];cases isAt key x<;>simp[ih]
theorem zlL(l:List Pair)(key val:ByteArray):(put l key val).1.length<=max l.length 64:=by
 unfold put;cases zoN key
 ·exact Nat.le_max_left _ _
 ·rw[cond_true];split
  ·exact Nat.le_max_left _ _
  ·split
   ·rw[zKZ];exact Nat.le_max_left _ _
   ·split
    ·exact Nat.le_max_left _ _
    ·rw[zKo];omega
theorem zc4(l:List Pair)(n:Nat)(h:n<=l.length):xsub zag l 0 (n:Int)=some (l.take n):=by
 rw[zfc,if_pos (by omega)];simp
theorem zg9(l:List Pair)(n:Nat)(h:n<=l.length):xsub zag l (n:Int) (xlen zag l)=some (l.drop n):=by
 rw[zfc,zav,if_pos (by omega)];simp
theorem zBY{l:List Pair}{key:ByteArray}(hl:l.length<=1000):zlg l key=some (fstI (isUp key) l):=zux (by
 have hc:∀x,zrp x key=some (isUp key x):=fun x=>zBk rfl
 have h:=zbu zag (l:=l) (by omega) (p:=isUp key) (L:=fun i=>zeW l key i) (fun h=>zf4 (by simp[zct,h]))
  (fun n x _ h1 h2 hp=>zf4 (by simp[zct,h1,h2,hc,hp]))
  (fun n x r _ h1 h2 hp h=>zf4 (by simp[zct,h1,h2,hc,hp];exact h))
 rw[ziK,h];unfold fstI
 cases fst (isUp key) l<;>rfl)
theorem zy5{l:List Pair}{key val:ByteArray}(hl:l.length<=1000):zpL l key val=some (insP key val l):=zz0 (by
 have hroom:zar zag 32 l [⟨key,val⟩]=true:=zax zag (by simp;omega) (by omega)
 have h0:xsub zag l 0 (xlen zag l)=some l:=by
  rw[zav,zc4 l l.length (yag _),yb9]
 have h1:xsub zag l (xlen zag l) (xlen zag l)=some []:=by
  have:=zg9 l l.length (yag _);rw[zav]at this⊢;rw[this,yb7]
 rw[znl,zBY hl,yaa,hroom,zyC];have h:=zph (p:=isUp key) (l:=l);unfold fstI
 cases hf:fst (isUp key) l with
 |none=>simp only[iltT (show(-1:Int)<0 by omega),cond_true,h0,h1,yaa];simp
 |some n=>
  rw[hf]at h;obtain⟨x,hx,_,_,hn⟩:=h
  simp only[iltF (show¬(n:Int)<0 by omega),cond_false,cond_true,zc4 l n (by omega),zg9 l n (by omega),yaa];simp)
theorem zCY(l:List Pair)(key:ByteArray):(pl l key=-1/\fst (isAt key) l=none/\l.find? (isAt key)=none)\/∃n x,pl l key=(n:Nat)/\fst (isAt key) l=some n/\l[n]?=some x/\n<l.length/\l.find? (isAt key)=some x:=by
 have h:=zph (p:=isAt key) (l:=l);unfold pl fstI
 cases hf:fst (isAt key) l with
 |none=>rw[hf]at h;exact .inl ⟨rfl,rfl,h⟩
 |some n=>
  rw[hf]at h;obtain⟨x,h1,h2,h3,h4⟩:=h;exact .inr ⟨n,x,rfl,rfl,h1,h4,h2⟩
theorem zMy{a:Int}:yac.ile 0 a=decide (0<=a):=rfl
theorem zDt{l:List Pair}{key val:ByteArray}(hl:l.length<=1000)(hk:key.size<1000000):zvO l key val=some (put l key val):=zEJ (by
 have hroom:zar zag 32 [] l=true:=zax zag (by simp;omega) (by omega);rw[zrq,hroom,cond_true,(zoR hl).1,yaa,zGK hk,yaa];unfold put
 cases zoN key with
 |false=>rfl
 |true=>
  rw[cond_true,cond_true,zbn,zaq,zac];by_cases h5:512<val.size
  ·rw[if_pos h5,if_pos (by omega)]
  ·rw[if_neg h5,if_neg (by omega),zMy,zac];rcases zCY l key with⟨hp,hf,_⟩|⟨n,x,hp,hf,hx,hn,_⟩
   ·rw[hp,if_neg (by omega),if_neg (by omega),zav,za4,zac];by_cases h64:64<=l.length
    ·rw[if_pos h64,if_pos (by omega)]
    ·rw[if_neg h64,if_neg (by omega),zy5 hl];rfl
   ·rw[hp,if_pos (by omega),if_pos (by omega),zaO,hx,yaa];congr 2
    exact zzZ hf hx)
theorem zA0{l:List Pair}{key val:ByteArray}(hl:l.length<=1000)(hk:key.size<1000000):zl9 l key val 0=some (match fst (isUp key) l with|some n=>(n:Int)|none=>(l.length:Int)):=by
 have hc:∀x:Pair,ztj key x.key=some (isUp key x):=fun x=>zEl (by omega)
 have:=zaW (σ:=Unit) zag (l:=l) (by omega) (L:=fun i _=>zl9 l key val i) (res:=fun n _ rest=>match fst (isUp key) rest with|some m=>((n+m:Nat):Int)|none=>((n+rest.length:Nat):Int)) (Inv:=fun _ _=>True)
  (fun _ _ h=>zvr (by rw[zma,h];rfl))
  (fun n x rest s _ hn hx hd h1 h2 h3 ih=>zvr (by
   rw[zma,h1,h2,cond_true,yaa,hc,yaa,fst]
   cases hp:isUp key x with
   |true=>rfl
   |false=>
    rw[cond_false,h3,cond_false];have:=ih () trivial;rw[this]
    cases fst (isUp key) rest with
    |none=>simp only[Option.map_none,yav];congr 1;omega
    |some m=>simp only[Option.map_some];congr 1;omega)) () trivial
 rw[this];cases fst (isUp key) l<;>simp
theorem zG7{l:List Pair}{key val:ByteArray}(hl:l.length<=1000)(hk:key.size<1000000):zzQ l key val=some (put l key val):=zJd (by
 have hroom:zar zag 32 [] l=true:=zax zag (by simp;omega) (by omega);rw[zvq,zGW hk,yaa];unfold put
 cases zoN key with
 |false=>rfl
 |true=>
  rw[cond_true,cond_true,zbn,zaq,zac];by_cases h5:512<val.size
  ·rw[if_pos h5,if_pos (by omega)]
  ·rw[if_neg h5,if_neg (by omega),(zoR hl).2,yaa,zMy,zac];rcases zCY l key with⟨hp,hf,_⟩|⟨n,x,hp,hf,hx,hn,_⟩
   ·rw[hp,if_neg (by omega),if_neg (by omega),zav,zaq,zac];by_cases h64:64<=l.length
    ·rw[if_pos h64,if_pos (by omega)]
    ·rw[if_neg h64,if_neg (by omega),zA0 hl hk,yaa]
     have key2:∀n:Nat,n<=l.length->((xsub zag l 0 (n:Int)).bind fun ys=>bif zar zag 32 [] ys then(bif zar zag 32 ys [(⟨key,val⟩:Pair)]then(xsub zag l (n:Int) (xlen zag l)).bind fun ys1=>bif zar zag 32 (ys++[(⟨key,val⟩:Pair)]) ys1 then some (((ys++[(⟨key,val⟩:Pair)])++ys1),(0:Int))else none else none)else none)=some (l.take n++⟨key,val⟩::l.drop n,0):=fun n hn=>by
      rw[zc4 l n hn,yaa,zax zag (by simp;omega) (by omega),cond_true,zax zag (by simp;omega) (by omega),cond_true,zg9 l n hn,yaa,zax zag (by simp;omega) (by omega),cond_true];simp
     rw[zyC];have h:=zph (p:=isUp key) (l:=l);rw[zav]at key2
     cases hf2:fst (isUp key) l with
     |none=>
      have:=key2 l.length (yag _);rw[yb9,yb7]at this;simp only[]
      exact this
     |some n=>
      rw[hf2]at h;obtain⟨x,hx,_,_,hn⟩:=h;exact key2 n (by omega)
   ·rw[hp,if_pos (by omega),if_pos (by omega),hroom,cond_true,zaO,hx,yaa];congr 2
    exact zzZ hf hx)
def Keys(l:List Pair):Prop:=∀p,p∈l->p.key.size<1000000
def un(l:List Pair):Unit⊕(((List Pair)×Int)⊕Int)->List Pair×Int
 | .inl ()=>(l,0)
 | .inr (.inl r)=>r
 | .inr (.inr met)=>(l,met)
def zni(l:List Pair)(n:Nat)(x:Pair):Bool:=zoN x.key&&(decide (x.val.size<=512)&&(match n with|0=>true|k+1=>match l[k]? with|some y=>lt y.key x.key|none=>true))
def inP(a b:Int)(p:Pair):Bool:=upto a (zPw p.key) b
def rng(l:List Pair)(a b:Int):List Pair:=l.filter (inP a b)
theorem zJ1{α β:Type}(f:α->β)(xs:List α):cut8 (xs.map f)=(cut8 xs).map (List.map f):=by
 unfold cut8;rw[yaK,List.map_map];apply List.map_congr_left;intro k _;simp
theorem zNM{l:List Pair}(hl:l.length<=1000000):xcut zag 76 l=some (cut8 l):=by
 refine zrA ?_;show(if(l.map zag).length<=1000000 then some ((cut8 (l.map zag)).map (AV.lit 76 false))else none)=_;rw[if_pos (by rw[yaK];exact hl),zJ1,List.map_map];rfl
theorem zFO{l:List Pair}{c:List Pair}(hc:c∈cut8 l):c.length<=8:=by
 unfold cut8 at hc;obtain⟨k,_,rfl⟩:=ybJ.1 hc;rw[yan];omega
theorem zxp(l:List Pair):(cut8 l).length=(l.length+7) / 8:=by
 unfold cut8;rw[yaK,List.length_range]
def zyF(l:List Pair):Bool:=decide (100<l.length)|| !allI (fun _ p=>decide (p.key.size<=300)&&decide (p.val.size<=700)) 0 l
theorem zKw(l:List Pair):zvU l=some (zyF l):=zEO (by
 rw[zrv,zav];unfold zyF;by_cases h1:100<l.length
 ·rw[iltT (by omega),decide_eq_true h1];rfl
 ·have h:=zxi zag (l:=l) (by omega) (p:=fun _ p=>decide (p.key.size<=300)&&decide (p.val.size<=700)) (L:=fun i=>zmr l i)
   (fun h=>zno (by simp[zgV,h]))
   (fun n x r hx h1 h2 hp h=>zno (by
    rw[yaB,decide_eq_true_eq,decide_eq_true_eq]at hp
    rw[zgV,h1,h2,cond_true,yaa,zbn,zbn,iltF (by omega),iltF (by omega)];exact h))
   (fun n x hx h1 h2 hp=>zno (by
    rw[Bool.and_eq_false_iff,decide_eq_false_iff_not,decide_eq_false_iff_not]at hp;rw[zgV,h1,h2,cond_true,yaa,zbn,zbn];rcases hp with hp|hp
    ·rw[iltT (by omega)];rfl
    ·by_cases h3:300<x.key.size
     ·rw[iltT (by omega)];rfl
     ·rw[iltF (by omega),cond_false,iltT (by omega)];rfl))
  rw[h,yaa,iltF (by omega),decide_eq_false h1,cond_false,ybC]
  cases allI (fun _ p=>decide (p.key.size<=300)&&decide (p.val.size<=700)) 0 l<;>rfl)
theorem zIP{l:List Pair}(h:zyF l=false):l.length<=100/\Keys l:=by
 unfold zyF at h;rw[Bool.or_eq_false_iff,decide_eq_false_iff_not,Bool.not_eq_false']at h;refine⟨by omega,fun p hp=>?_⟩;obtain⟨i,hi⟩:=List.getElem?_of_mem hp;have:=zxh.1 h.2 i p hi;rw[yaB,decide_eq_true_eq]at this;omega
def fl(k:Int)(has:Bool):Int:=if k=1 then 4 else if k=2 then 18 else if k=4 then(bif has then 26 else 18)else if k=5 then 8 else if k=7 then 96 else if k=8 then 32 else if k=9 then(bif has then 66 else 2)else if k=10 then 130 else if k=12 then 1 else 0
theorem zvi{a b:List Peer}(hl:a.length<=1000000):zqq a b=some (eqb a b):=zwY (by
 rw[znz,zav,zav];by_cases he:a.length=b.length
 ·have h:=zqB zad (l:=a) (l':=b) (by omega) he (L:=fun i=>zi6 a b i) (fun h=>zex (by simp[zcA,h]))
   (fun n x r _ h1 h2 h3 h=>zex (by simp[zcA,h1,h2,h3,zaf];exact h))
   (fun n x y _ h1 h2 h3 h=>zex (by
    simp only[zcA,h1,h2,h3,zaf,zac,cond_true,yaa];rw[ne_eq,Peer.ext']at h;split
    ·split
     ·exact absurd ⟨‹_›,‹_›⟩ h
     ·rfl
    ·rfl))
  rw[ieqT (by omega),cond_true];rcases h with⟨h1,h2⟩|⟨h1,h2⟩
  ·rw[h2,h1,ziW]<;>rfl
  ·rw[h2,znU h1]<;>rfl
 ·rw[ieqF (by omega),znU (fun h=>he (by rw[h]))]<;>rfl)
theorem zEk{a b:Msg}(hp:a.peers.length<=1000000)(hq:a.pairs.length<=1000000):zxz a b=some (eqb a b):=zGX (by
 simp only[zti,zvi hp,zvh hq,yaa,zaf,zJQ,zF9,zac];obtain⟨k,rid,code,has,id,key,val,⟨pi,pa⟩,peers,pairs⟩:=a;obtain⟨k',rid',code',has',id',key',val',⟨pi',pa'⟩,peers',pairs'⟩:=b;simp only[eqb,Msg.mk.injEq,Peer.mk.injEq];by_cases c1:k=k'<;>by_cases c2:rid=rid'<;>by_cases c3:code=code'<;>by_cases c4:has=has'<;>by_cases c5:id=id'<;>simp only[c1,c2,c3,c4,c5,if_true,if_false,false_and,and_false,decide_false,true_and]<;>first|rfl|skip
 all_goals (by_cases c6:key=key'<;>by_cases c7:val=val'<;>by_cases c8:pi=pi'<;>by_cases c9:pa=pa'<;>by_cases c10:peers=peers'<;>by_cases c11:pairs=pairs'<;>simp_all))
structure Fit(m:Msg):Prop where
 key:m.key.size<1000000
 val:m.val.size<1000000
 peers:m.peers.length<=1000
 pairs:m.pairs.length<=1000
 keys:∀p,p∈m.pairs->p.key.size<1000000
theorem zwx{α:Type}{p:α->Bool}{l:List α}:decide (0<=fstI p l)=l.any p:=by
 unfold fstI
 cases h:fst p l with
 |none=>
  have:=zlm h
  have e:l.any p=false:=by
   rw[List.any_eq_false];intro x hx;simp[this x hx]
  rw[e]<;>rfl
 |some n=>
  obtain⟨x,hx,hp,_⟩:=zb6 h;rw[List.any_eq_true.2 ⟨x,yam hx,hp⟩];exact decide_eq_true (show(0:Int)<=(n:Int)by omega)
theorem eta2{α β:Type}{x:Option (α×β)}{p:α×β}(h:x=some p):x=some (p.1,p.2):=h
structure Sz(n:Node):Prop where
 pred:n.pred.length<=1000
 list:n.list.length<=1000
 fingers:n.fingers.length<=1000
 store:n.store.length<=200
 pends:n.pends.length<=1000
 jobs:n.jobs.length<=1000
 results:n.results.length<=1000
theorem zck{n:Node}(h:Sz n):zc1 n=some (n.me.id,n.me.addr,n.clock,n.joined,n.pred,n.list,n.fingers,n.store,n.pends,n.jobs,n.results,n.rid,n.jobID,n.nextBit):=zEd (by
 obtain⟨h1,h2,h3,h4,h5,h6,h7⟩:=h;rw[zqZ,zax zaa (by simp;omega) (by omega),zax zaa (by simp;omega) (by omega),zax zab (by simp;omega) (by omega),zax zag (by simp;omega) (by omega),zax zaL (by simp;omega) (by omega),zax eJob (by simp;omega) (by omega),zax zaj (by simp;omega) (by omega)]
 rfl)
def now(n:Node):Int:=if 0<=n.clock/\n.clock<=1099511627776 then n.clock else 0
theorem zCO(n:Node):zxy n=some (now n)/\zzS n=some (now n):=by
 unfold now;constructor
 ·refine zGP ?_;simp only[zte,zaq,zac]
  (repeat' split)<;>first|rfl|(exfalso;omega)
 ·refine zJg ?_;simp only[zvv,zaq,za4,zac]
  (repeat' split)<;>first|rfl|(exfalso;omega)|(congr 1;omega)
theorem zEb{m:Msg}(hp:m.peers.length<=1000000)(hq:m.pairs.length<=1000000):zxw m=some m:=zGJ (by
 rw[zs5,zax zad (by simpa using hp) (by omega),zax zag (by simpa using hq) (by omega)]
 rfl)
def askN(n:Node)(to_:Peer)(m:Msg)(why job:Int):Node×List Out:=
 if 63<n.pends.length then(n,[])else
 (⟨n.me,n.clock,n.joined,n.pred,n.list,n.fingers,n.store,n.pends++[⟨yac.iadd .u32 n.rid 1,m.kind,why,job,to_,yac.iadd .i64 (now n) 8⟩],n.jobs,n.results,yac.iadd .u32 n.rid 1,n.jobID,n.nextBit⟩,
  [⟨to_,⟨m.kind,yac.iadd .u32 n.rid 1,m.code,m.has,m.id,m.key,m.val,m.peer,m.peers,m.pairs⟩⟩])
theorem zky{n:Node}{to_:Peer}{m:Msg}{why job:Int}(h:Sz n)(hp:m.peers.length<=1000000)(hq:m.pairs.length<=1000000):zi1 n to_ m why job=some (askN n to_ m why job):=zGN (by
 have h5:=h.pends;rw[ztb,zck h,yaa];dsimp only;rw[zav,za4,zac,askN];by_cases hc:63<n.pends.length
 ·rw[if_pos (by omega),if_pos hc]
 ·rw[if_neg (by omega),if_neg hc,zEb hp hq,yaa,(zCO _).1,yaa,zax zaL (by simp;omega) (by omega)]
  rfl)
theorem zjY{n:Node}{to_:Peer}{m:Msg}{why job:Int}(h:Sz n):zil n to_ m why job=some (askN n to_ m why job):=zJe (by
 have h5:=h.pends;rw[zvs,zav,zaq,zac,askN];by_cases hc:63<n.pends.length
 ·rw[if_pos (by omega),if_pos hc]
 ·rw[if_neg (by omega),if_neg hc,zax zaL (by simp;omega) (by omega),cond_true,(zCO _).2,yaa,zax zaL (by simp;omega) (by omega)]
  rfl)
theorem zii{n:Node}{to_:Peer}{m:Msg}{why job:Int}(h:Sz n):Sz (askN n to_ m why job).1/\(askN n to_ m why job).2.length<=1:=by
 unfold askN;split
 ·exact⟨h,by simp⟩
 ·exact⟨⟨h.pred,h.list,h.fingers,h.store,by simp;omega,h.jobs,h.results⟩,by simp⟩
def ziz(fresh:Bool)(c:List Pair):Msg:=⟨10,0,0,fresh,0,⟨#[]⟩,⟨#[]⟩,⟨0,0⟩,[],c⟩
def zfk(to_:Peer)(fresh:Bool):List (List Pair)->Node->Node×List Out
 | [],n=>(n,[])
 |c::cs,n=>((zfk to_ fresh cs (askN n to_ (ziz fresh c) 6 0).1).1,(askN n to_ (ziz fresh c) 6 0).2++(zfk to_ fresh cs (askN n to_ (ziz fresh c) 6 0).1).2)
theorem zCA(to_:Peer)(fresh:Bool):∀(cs:List (List Pair)) {n:Node},Sz n->Sz (zfk to_ fresh cs n).1/\(zfk to_ fresh cs n).2.length<=cs.length
 | [],n,h=>⟨h,by simp[zfk]⟩
 |c::cs,n,h=>by
  obtain⟨h1,h2⟩:=zii (to_:=to_) (m:=ziz fresh c) (why:=6) (job:=0) h;obtain⟨h3,h4⟩:=zCA to_ fresh cs h1;refine⟨h3,?_⟩;simp only[zfk,yaf,yav];omega
def hand(n:Node)(to_:Peer)(l:List Pair)(fresh:Bool):Node×List Out:=zfk to_ fresh (cut8 l) n
theorem zDK{l:List Pair}(hl:l.length<=1000000):xcut zag 76 l=some (cut8 l):=zNM hl
theorem zBh{n:Node}{to_:Peer}{l:List Pair}{fresh:Bool}(h:Sz n)(hl:l.length<=1000):ztJ n to_ l fresh=some (hand n to_ l fresh):=zDo (by
 have hc:(cut8 l).length<=1000:=by rw[zxp];omega
 have hcs:∀c,c∈cut8 l->c.length<=8:=fun c hc=>zFO hc
 rw[zpJ,zck h,yaa];dsimp only;rw[zDK (by omega),yaa]
 have:=zaW (σ:=Node×List Out) (eL 76 zag) (l:=cut8 l) (by omega) (L:=fun i s=>zla to_ fresh (cut8 l) (xlen (eL 76 zag) (cut8 l)) i s.1 n.pred n.list n.fingers n.store n.pends n.jobs n.results s.2)
  (res:=fun k s rest=>((zfk to_ fresh rest s.1).1,n.pred,n.list,n.fingers,n.store,n.pends,n.jobs,n.results,s.2++(zfk to_ fresh rest s.1).2)) (Inv:=fun k s=>Sz s.1/\s.2.length<=k)
  (fun s hi h0=>zqC (by rw[ziA,h0];simp[zfk]))
  (fun k x rest s hi hn hx hd h1 h2 h3 ih=>zqC (by
   have hx8:=hcs x (yam hx);obtain⟨h4,h5⟩:=zii (to_:=to_) (m:=ziz fresh x) (why:=6) (job:=0) hi.1;have h6:=hi.2;rw[ziA,h1,h2,cond_true,yaa];rw[show(⟨10,0,0,fresh,0,⟨#[]⟩,⟨#[]⟩,⟨0,0⟩,[],x⟩:Msg)=ziz fresh x from rfl,eta2 (zky hi.1 (by simp[ziz]) (by simp[ziz];omega)),yaa];dsimp only;rw[zax eOut (by omega) (by omega),cond_true,h3];rw[ih ((askN s.1 to_ (ziz fresh x) 6 0).1,s.2++(askN s.1 to_ (ziz fresh x) 6 0).2) ⟨h4,by simp only[yaf];omega⟩]
   simp only[zfk,yao])) (n,[]) ⟨h,by simp⟩
 dsimp only at this;have e:(⟨⟨n.me.id,n.me.addr⟩,n.clock,n.joined,n.pred,n.list,n.fingers,n.store,n.pends,n.jobs,n.results,n.rid,n.jobID,n.nextBit⟩:Node)=n:=rfl;rw[e,this,yaa]
 simp[hand])
theorem zEw{n:Node}{to_:Peer}{l:List Pair}{fresh:Bool}(h:Sz n)(hl:l.length<=1000):zxG n to_ l fresh=some (hand n to_ l fresh):=zHf (by
 have hc:(cut8 l).length<=1000:=by rw[zxp];omega
 rw[ztz,zDK (by omega),yaa]
 have:=zaW (σ:=Node×List Out) (eL 76 zag) (l:=cut8 l) (by omega) (L:=fun i s=>znI to_ fresh (cut8 l) i s.1 s.2)
  (res:=fun k s rest=>((zfk to_ fresh rest s.1).1,s.2++(zfk to_ fresh rest s.1).2)) (Inv:=fun k s=>Sz s.1/\s.2.length<=k)
  (fun s hi h0=>zuf (by rw[zk1,h0];simp[zfk]))
  (fun k x rest s hi hn hx hd h1 h2 h3 ih=>zuf (by
   obtain⟨h4,h5⟩:=zii (to_:=to_) (m:=ziz fresh x) (why:=6) (job:=0) hi.1;have h6:=hi.2;rw[zk1,h1,h2,cond_true,yaa];rw[show(⟨10,0,0,fresh,0,⟨#[]⟩,⟨#[]⟩,⟨0,0⟩,[],x⟩:Msg)=ziz fresh x from rfl,eta2 (zjY hi.1),yaa];dsimp only;rw[zax eOut (by omega) (by omega),cond_true,h3];rw[ih ((askN s.1 to_ (ziz fresh x) 6 0).1,s.2++(askN s.1 to_ (ziz fresh x) 6 0).2) ⟨h4,by simp only[yaf];omega⟩]
   simp only[zfk,yao])) (n,[]) ⟨h,by simp⟩
 rw[this]
 simp[hand])
def zds(key val:ByteArray):List Peer->Node->Node×List Out
 | [],n=>(n,[])
 |p::ps,n=>((zds key val ps (hand n p [⟨key,val⟩] true).1).1,(hand n p [⟨key,val⟩] true).2++(zds key val ps (hand n p [⟨key,val⟩] true).1).2)
def zc3(n:Node)(l:List Pair):Node:=⟨n.me,n.clock,n.joined,n.pred,n.list,n.fingers,l,n.pends,n.jobs,n.results,n.rid,n.jobID,n.nextBit⟩
def zcO(n:Node)(key val:ByteArray):Node×List Out×Int:=
 if(put n.store key val).2=0 then((zds key val ((Pe.firms n.list).take 2) (zc3 n (put n.store key val).1)).1,(zds key val ((Pe.firms n.list).take 2) (zc3 n (put n.store key val).1)).2,0)
 else(n,[],(put n.store key val).2)
theorem zxt{n:Node}{p:Peer}{q:Pair}{fresh:Bool}(h:Sz n):Sz (hand n p [q] fresh).1/\(hand n p [q] fresh).2.length<=1:=by
 obtain⟨h1,h2⟩:=zCA p fresh (cut8 [q]) h;exact⟨h1,yaO h2 (by rw[zxp];simp)⟩
theorem zCF(key val:ByteArray):∀(ps:List Peer) {n:Node},Sz n->Sz (zds key val ps n).1/\(zds key val ps n).2.length<=ps.length
 | [],n,h=>⟨h,by simp[zds]⟩
 |p::ps,n,h=>by
  obtain⟨h1,h2⟩:=zxt (p:=p) (q:=⟨key,val⟩) (fresh:=true) h;obtain⟨h3,h4⟩:=zCF key val ps h1;refine⟨h3,?_⟩;simp only[zds,yaf,yav];omega
theorem zDD{n:Node}{l:List Pair}(h:Sz n)(hl:l.length<=200):Sz (zc3 n l):=⟨h.pred,h.list,h.fingers,hl,h.pends,h.jobs,h.results⟩
theorem zC2{n:Node}(h:Sz n)(key val:ByteArray):Sz (zc3 n (put n.store key val).1):=zDD h (by have:=zlL n.store key val;have:=h.store;omega)
theorem zfQ(l:List Peer)(n:Nat)(h:n<=l.length):xsub zad l 0 (n:Int)=some (l.take n):=by
 rw[zfc,if_pos (by omega)];simp
theorem zBi{n:Node}{key val:ByteArray}(h:Sz n)(hk:key.size<1000000):ztK n key val=some (zcO n key val):=zDp (by
 have hs:=h.store;have hf:=Pe.firms_le n.list;have hll:=h.list;have hz:=zC2 h key val;rw[zpK,zck h,yaa];dsimp only;rw[zDt (by omega) hk,zcO];obtain⟨⟨q,e⟩,hq⟩:∃z,put n.store key val=z:=⟨_,rfl⟩
 rw[hq]at hz⊢;rw[yaa];dsimp only at hz⊢;by_cases he:e=0
 ·rw[if_pos he,ieqT he,cond_true,(Pe.some_eq hll).1,yaa]
  have loop:∀(ys:List Peer),ys.length<=2->ze9 key val ys (xlen zad ys) 0 (zc3 n q) n.pred n.list n.fingers n.store n.pends n.jobs n.results (Pe.firms n.list) []=some ((zds key val ys (zc3 n q)).1,n.pred,n.list,n.fingers,n.store,n.pends,n.jobs,n.results,Pe.firms n.list,(zds key val ys (zc3 n q)).2):=fun ys hy=>by
   have:=zaW (σ:=Node×List Out) zad (l:=ys) (by omega) (L:=fun i s=>ze9 key val ys (xlen zad ys) i s.1 n.pred n.list n.fingers n.store n.pends n.jobs n.results (Pe.firms n.list) s.2)
    (res:=fun k s rest=>((zds key val rest s.1).1,n.pred,n.list,n.fingers,n.store,n.pends,n.jobs,n.results,Pe.firms n.list,s.2++(zds key val rest s.1).2)) (Inv:=fun k s=>Sz s.1/\s.2.length<=k)
    (fun s hi h0=>zqD (by rw[ziB,h0];simp[zds]))
    (fun k x rest s hi hn hx hd h1 h2 h3 ih=>zqD (by
     obtain⟨h4,h5⟩:=zxt (p:=x) (q:=⟨key,val⟩) (fresh:=true) hi.1;have h6:=hi.2;rw[ziB,h1,h2,cond_true,yaa,eta2 (zBh hi.1 (by simp)),yaa];dsimp only;rw[zax eOut (by omega) (by omega),cond_true,h3];rw[ih ((hand s.1 x [⟨key,val⟩] true).1,s.2++(hand s.1 x [⟨key,val⟩] true).2) ⟨h4,by simp only[yaf];omega⟩]
     simp only[zds,yao])) (zc3 n q,[]) ⟨hz,by simp⟩
   simpa using this
  have e0:(⟨⟨n.me.id,n.me.addr⟩,n.clock,n.joined,n.pred,n.list,n.fingers,q,n.pends,n.jobs,n.results,n.rid,n.jobID,n.nextBit⟩:Node)=zc3 n q:=rfl;rw[e0,zav,zaq,zac];by_cases h2:2<(Pe.firms n.list).length
  ·rw[if_pos (by omega),show(2:Int)=((2:Nat):Int)from rfl,zfQ _ 2 (by omega),yaa,loop _ (by rw[yan];omega),yaa]
  ·rw[if_neg (by omega),zfQ _ _ (yag _),yaa,yb9,loop _ (by omega),yaa,List.take_of_length_le (by omega)]
 ·rw[if_neg he,ieqF he,cond_false])
theorem zw0{n:Node}{key val:ByteArray}(h:Sz n)(hk:key.size<1000000):zxH n key val=some (zcO n key val):=zHg (by
 have hs:=h.store;have hf:=Pe.firms_le n.list;have hll:=h.list;have hz:=zC2 h key val;rw[ztA,zG7 (by omega) hk,zcO];obtain⟨⟨q,e⟩,hq⟩:∃z,put n.store key val=z:=⟨_,rfl⟩
 rw[hq]at hz⊢;rw[yaa];dsimp only at hz⊢;by_cases he:e=0
 ·rw[if_pos he,ieqT he,cond_true,(Pe.some_eq hll).2.1,yaa];have e0:(⟨n.me,n.clock,n.joined,n.pred,n.list,n.fingers,q,n.pends,n.jobs,n.results,n.rid,n.jobID,n.nextBit⟩:Node)=zc3 n q:=rfl;rw[e0]
  have loop:∀(ps:List Peer) (k:Nat) (m:Node) (o:List Out),Sz m->o.length<=k->k<=2->(Pe.firms n.list).drop k=ps->znJ key val (k:Int) m o (Pe.firms n.list)=some ((zds key val (ps.take (2-k)) m).1,o++(zds key val (ps.take (2-k)) m).2,Pe.firms n.list):=by
   intro ps
   induction ps with
   |nil=>
    intro k m o hm ho hk2 hd;have hle:(Pe.firms n.list).length<=k:=by simpa using hd
    refine zug ?_;rw[zk2,ze5,zac,if_neg (by omega)]
    simp[zds]
   |cons p ps ih=>
    intro k m o hm ho hk2 hd
    have hlt:k<(Pe.firms n.list).length:=by
     rcases Nat.lt_or_ge k (Pe.firms n.list).length with h1|h1
     ·exact h1
     ·rw[yaL h1]at hd;cases hd
    have hx:(Pe.firms n.list)[k]?=some p:=by
     have:((Pe.firms n.list).drop k)[0]?=some p:=by rw[hd];rfl
     simpa using this
    have hd2:(Pe.firms n.list).drop (k+1)=ps:=by
     rw[<-List.drop_drop,hd];rfl
    refine zug ?_;rw[zk2,ze5,zac,if_pos hlt,zaq,zac];by_cases hk3:k<2
    ·rw[if_pos (by omega)];obtain⟨h4,h5⟩:=zxt (p:=p) (q:=⟨key,val⟩) (fresh:=true) hm
     have hs0:zri key val (k:Int) m o (Pe.firms n.list)=some (((k+1:Nat):Int),(hand m p [⟨key,val⟩] true).1,o++(hand m p [⟨key,val⟩] true).2,Pe.firms n.list):=zBb (by
      rw[zow,zaO,hx,yaa,eta2 (zEw hm (by simp)),yaa];dsimp only;rw[zax eOut (by omega) (by omega),cond_true]
      rw[show yac.iadd .i64 (k:Int) 1=((k+1:Nat):Int)from zfY (by omega)])
     rw[hs0,yaa];dsimp only;rw[ih (k+1) _ _ h4 (by simp only[yaf];omega) (by omega) hd2,show 2-k=(2-(k+1))+1 by omega];simp only[List.take_succ_cons,zds,yao]
    ·rw[if_neg (by omega),show 2-k=0 by omega];simp[zds]
  have:=loop (Pe.firms n.list) 0 (zc3 n q) [] hz (by simp) (by omega) rfl;rw[show((0:Nat):Int)=0 from rfl]at this;rw[this,yaa];simp
 ·rw[if_neg he,ieqF he,cond_false])
theorem zzz{n:Node}{key val:ByteArray}(h:Sz n):Sz (zcO n key val).1/\(zcO n key val).2.1.length<=2:=by
 unfold zcO;split
 ·obtain⟨h1,h2⟩:=zCF key val ((Pe.firms n.list).take 2) (zC2 h key val);exact⟨h1,yaO h2 (by rw[yan];omega)⟩
 ·exact⟨h,by simp⟩
theorem zxm(a:Bool):yac.beq a a=true:=by cases a<;>rfl
theorem zAZ{l:List Finger}(hl:l.length<=1000):zxC l l=some true:=zG4 (by
 have:=zaW (σ:=Unit) zab (l:=l) (by omega) (L:=fun i _=>znD l l i) (res:=fun _ _ _=>.inr ()) (Inv:=fun _ _=>True)
  (fun _ _ h=>zt8 (by rw[zkW,h];rfl))
  (fun n x rest s _ hn hx hd h1 h2 h3 ih=>zt8 (by
   simp only[zkW,h1,h2,cond_true,yaa,ieqT,h3];exact ih () trivial)) () trivial
 rw[ztq,ieqT rfl,cond_true,this];rfl)
theorem zzT{l:List Pend}(hl:l.length<=1000):zvw l l=some true:=zEt (by
 have:=zaW (σ:=Unit) zaL (l:=l) (by omega) (L:=fun i _=>zme l l i) (res:=fun _ _ _=>.inr ()) (Inv:=fun _ _=>True)
  (fun _ _ h=>zsm (by rw[zjZ,h];rfl))
  (fun n x rest s _ hn hx hd h1 h2 h3 ih=>zsm (by
   simp only[zjZ,h1,h2,cond_true,yaa,ieqT,h3];exact ih () trivial)) () trivial
 rw[zrc,ieqT rfl,cond_true,this];rfl)
theorem zA4{n:Node}(hj:n.jobs.length<=1000)(hr:n.results.length<=1000):zxD n n=some true:=zHb (by
 have e0:=zaW (σ:=Unit) eJob (l:=n.jobs) (by omega) (L:=fun i _=>znF n n i) (res:=fun _ _ _=>.inr ()) (Inv:=fun _ _=>True)
  (fun _ _ h=>zub (by rw[zkY,h];rfl))
  (fun k x rest s _ hn hx hd h1 h2 h3 ih=>zub (by
   simp only[zkY,h1,h2,cond_true,yaa,ieqT,zxM,zxm,h3];exact ih () trivial)) () trivial
 have e1:=zaW (σ:=Unit) zaj (l:=n.results) (by omega) (L:=fun i _=>znG n n i) (res:=fun _ _ _=>.inr ()) (Inv:=fun _ _=>True)
  (fun _ _ h=>zuc (by rw[zkZ,h];rfl))
  (fun k x rest s _ hn hx hd h1 h2 h3 ih=>zuc (by
   simp only[zkZ,h1,h2,cond_true,yaa,ieqT,zxM,zxm,h3];exact ih () trivial)) () trivial
 rw[ztu,ieqT rfl,ieqT rfl,cond_true,cond_true];refine zA3 ?_;rw[zoq,e0,yaa];dsimp only
 rw[e1];rfl)
theorem zop{n:Node}(h:Sz n):zna n n=some true:=zHa (by
 have h1:zrd n n=some true:=zA1 (by
  rw[zon,zvh (by have:=h.store;omega),yaa,ziW,cond_true,zzT h.pends,yaa,cond_true,zA4 h.jobs h.results])
 have h2:zre n n=some true:=zA2 (by
  rw[zoo,Pe.r27_Same_eq h.pred,yaa,ziW,cond_true,Pe.r27_Same_eq h.list,yaa,ziW,cond_true,zAZ h.fingers,yaa,cond_true,h1])
 simp only[ztt,ieqT,zxm,cond_true,h2])
def zMI(l:List Out):Prop:=l.length<=1000/\∀o,o∈l->o.msg.peers.length<=1000000/\o.msg.pairs.length<=1000000
theorem zua{l:List Out}(h:zMI l):zpz l l=some true:=zG9 (by
 have:=zaW (σ:=Unit) eOut (l:=l) (by have:=h.1;omega) (L:=fun i _=>znE l l i) (res:=fun _ _ _=>.inr ()) (Inv:=fun _ _=>True)
  (fun _ _ h=>zt9 (by rw[zkX,h];rfl))
  (fun k x rest s _ hn hx hd h1 h2 h3 ih=>zt9 (by
   obtain⟨hp,hq⟩:=h.2 x (yam hx)
   simp only[zkX,h1,h2,cond_true,yaa,ieqT,zEk hp hq,ziW,h3];exact ih () trivial)) () trivial
 rw[zts,ieqT rfl,cond_true,this];rfl)
theorem zAf{α:Type}{p:α->Bool}{l:List α}:match fst p l with
  |some n=>∃x,l[n]?=some x/\l.find? p=some x/\p x=true/\n<l.length
  |none=>l.find? p=none:=by
 induction l with
 |nil=>rfl
 |cons x l ih=>
  cases hp:p x with
  |true=>simp[fst,hp]
  |false=>
   simp only[fst,hp,cond_false,List.find?_cons]
   cases hf:fst p l with
   |none=>rw[hf]at ih;exact ih
   |some n=>
    rw[hf]at ih;obtain⟨y,h1,h2,h3,h4⟩:=ih;exact⟨y,by simpa using h1,h2,h3,by simp;omega⟩
def isJ(id:Int)(j:Job):Bool:=decide (j.id=id)
def zem(l:List Job)(id:Int):Int:=fstI (isJ id) l
theorem zpi{l:List Job}{id:Int}(hl:l.length<=10000):znY l id=some (zem l id):=zD1 (by
 have hf:∀x:Job,zqS x id=some (isJ id x):=fun x=>zAN rfl
 have:=zbu eJob (l:=l) (by omega) (p:=isJ id) (L:=fun i=>zfe l id i) (fun h=>zhg (by simp[zcM,h]))
  (fun n x _ h1 h2 hp=>zhg (by simp[zcM,h1,h2,hf,hp]))
  (fun n x r _ h1 h2 hp h=>zhg (by simp[zcM,h1,h2,hf,hp,h]))
 rw[zqT];refine zwO ?_;rw[zkp,this];unfold zem fstI
 cases fst (isJ id) l<;>rfl)
theorem zkC{l:List Job}{id:Int}(hl:l.length<=10000):zpA l id=some (zem l id):=zHc (by
 have hf:∀x:Job,yac.ieq x.id id=isJ id x:=fun x=>rfl
 have:=zbu eJob (l:=l) (by omega) (p:=isJ id) (L:=fun i=>znH l id i) (fun h=>zor (by simp[zhX,h]))
  (fun n x _ h1 h2 hp=>zor (by simp[zhX,h1,h2,hf,hp]))
  (fun n x r _ h1 h2 hp h=>zor (by simp[zhX,h1,h2,hf,hp,h]))
 rw[ztv,this];unfold zem fstI
 cases fst (isJ id) l<;>rfl)
def setJ:List Job->Job->List Job
 | [],_=>[]
 |x::r,j=>if x.id=j.id then j::r else x::setJ r j
theorem zKV(l:List Job)(j:Job):(setJ l j).length=l.length:=by
 induction l with
 |nil=>rfl
 |cons x r ih=>unfold setJ;split<;>simp[ih]
theorem zKW{l:List Job}{j j':Job}(h:j.id=j'.id):setJ (setJ l j) j'=setJ l j':=by
 induction l with
 |nil=>rfl
 |cons x r ih=>
  by_cases hx:x.id=j.id
  ·simp[setJ,hx,h]
  ·simp[setJ,hx,ih,<-h]
theorem zAz{l:List Job}{j:Job}(h:fst (isJ j.id) l=none):setJ l j=l:=by
 have:=zlm h;clear h
 induction l with
 |nil=>rfl
 |cons x r ih=>
  have hx:¬x.id=j.id:=by simpa[isJ]using this x (by simp)
  rw[setJ,if_neg hx,ih fun y hy=>this y (by simp[hy])]
theorem zvM{l:List Job}{j:Job}{n:Nat}(h:fst (isJ j.id) l=some n):setJ l j=l.set n j:=by
 induction l generalizing n with
 |nil=>cases h
 |cons x r ih=>
  by_cases hx:x.id=j.id
  ·have:n=0:=by simpa[fst,isJ,hx]using h.symm
   subst this;simp[setJ,hx]
  ·simp only[fst,isJ,hx,decide_false,cond_false,yap]at h;obtain⟨m,hm,rfl⟩:=h;rw[setJ,if_neg hx,ih hm];rfl
theorem zJt{l:List Job}{j:Job}{n:Nat}(h:fst (isJ j.id) l=some n)(hj:l[n]?=some j):setJ l j=l:=by
 rw[zvM h];obtain⟨hn,he⟩:=yae.1 hj;rw[<-he,List.set_getElem_self]
def zxT(n:Node)(l:List Job):Node:=⟨n.me,n.clock,n.joined,n.pred,n.list,n.fingers,n.store,n.pends,l,n.results,n.rid,n.jobID,n.nextBit⟩
def setN(n:Node)(j:Job):Node:=zxT n (setJ n.jobs j)
theorem zxO(n:Node){j j':Job}(h:j.id=j'.id):setN (setN n j) j'=setN n j':=by
 show zxT (setN n j) (setJ (setJ n.jobs j) j')=_;rw[zKW h];rfl
theorem zeA{n:Node}(h:Sz n)(j:Job):Sz (setN n j):=⟨h.pred,h.list,h.fingers,h.store,h.pends,by show(setJ n.jobs j).length<=1000;rw[zKV];exact h.jobs,h.results⟩
theorem zKu{α:Type}(l:List α)(n:Nat)(x:α):xset l (n:Int) x=l.set n x:=rfl
theorem zwW{n:Node}{j:Job}(h:Sz n):zsY n j=some (n.me.id,n.me.addr,n.clock,n.joined,n.pred,n.list,n.fingers,n.store,n.pends,setJ n.jobs j,n.results,n.rid,n.jobID,n.nextBit):=zGC (by
 have hj:=h.jobs;rw[zs0,zck h,yaa];dsimp only;rw[zpi (by omega),yaa,za4,zac];unfold zem fstI
 cases hf:fst (isJ j.id) n.jobs with
 |none=>dsimp only;rw[if_neg (by omega),zAz hf]
 |some k=>
  obtain⟨x,hx,_,hk,_⟩:=zb6 hf;dsimp only
  rw[if_pos (by omega),zaO,hx,yaa,zKu,zvM hf])
def repl(j:Job):Int->List Job->List Job
 |_,[]=>[]
 |k,x::r=>(if k=0 then j else x)::repl j (k-1) r
theorem zxI(j:Job):∀(l:List Job) (k:Int),k<0->repl j k l=l
 | [],_,_=>rfl
 |x::r,k,h=>by rw[repl,if_neg (by omega),zxI j r (k-1) (by omega)]
theorem zDj(j:Job):∀(l:List Job) (n:Nat),repl j (n:Int) l=l.set n j
 | [],_=>rfl
 |x::r,0=>by rw[repl,if_pos (by omega),zxI j r _ (by omega)];rfl
 |x::r,n+1=>by rw[repl,if_neg (by omega),show((n+1:Nat):Int)-1=(n:Int)by omega,zDj j r n];rfl
theorem zen{n:Node}{j:Job}(h:Sz n):zgF n j=some (setN n j):=zJh (by
 have hj:=h.jobs
 have key:zj0 n j (zem n.jobs j.id) 0 []=some (repl j (zem n.jobs j.id) n.jobs):=by
  have:=zaW (σ:=List Job) eJob (l:=n.jobs) (by omega) (L:=fun i acc=>zj0 n j (zem n.jobs j.id) i acc) (res:=fun k acc rest=>acc++repl j (zem n.jobs j.id-(k:Int)) rest) (Inv:=fun k acc=>acc.length=k)
   (fun acc _ hh=>zvy (by rw[zmf,hh];simp[repl]))
   (fun k x rest acc ha hn hx hd h1 h2 h3 ih=>zvy (by
    rw[zmf,h1,cond_true,zaf,zac];have ih':=fun(y:Job)=>ih (acc++[y]) (by simp[ha])
    by_cases hk:(k:Int)=zem n.jobs j.id
    ·rw[if_pos hk,zax eJob (by simp;omega) (by omega),cond_true,h3,ih',repl,if_pos (by omega)];simp only[yao,ybz];rw[show zem n.jobs j.id-((k+1:Nat):Int)=zem n.jobs j.id-(k:Int)-1 by omega]
    ·rw[if_neg hk,h2,yaa,zax eJob (by simp;omega) (by omega),cond_true,h3,ih',repl,if_neg (by omega)];simp only[yao,ybz]
     rw[show zem n.jobs j.id-((k+1:Nat):Int)=zem n.jobs j.id-(k:Int)-1 by omega])) [] rfl
  simpa using this
 rw[zvx,zkC (by omega),yaa,key,yaa]
 have e:repl j (zem n.jobs j.id) n.jobs=setJ n.jobs j:=by
  unfold zem fstI
  cases hf:fst (isJ j.id) n.jobs with
  |none=>dsimp only;rw[zxI _ _ _ (by omega),zAz hf]
  |some k=>dsimp only;rw[zDj,zvM hf]
 rw[e];rfl)
def delJ:List Job->Int->List Job
 | [],_=>[]
 |x::r,id=>if x.id=id then r else x::delJ r id
theorem zJ4(l:List Job)(id:Int):(delJ l id).length<=l.length:=by
 induction l with
 |nil=>exact yag _
 |cons x r ih=>unfold delJ;split<;>simp<;>omega
theorem zAc{l:List Job}{id:Int}{n:Nat}(h:fst (isJ id) l=some n):delJ l id=l.eraseIdx n:=by
 induction l generalizing n with
 |nil=>cases h
 |cons x r ih=>
  by_cases hx:x.id=id
  ·have:n=0:=by simpa[fst,isJ,hx]using h.symm
   subst this;simp[delJ,hx]
  ·simp only[fst,isJ,hx,decide_false,cond_false,yap]at h;obtain⟨m,hm,rfl⟩:=h;rw[delJ,if_neg hx,ih hm];rfl
def zbo(x:Job)(has:Bool)(val:ByteArray)(e:Int):Result:=⟨x.id,x.kind,x.key,val,has,e⟩
def told(l:List Result)(x:Job)(has:Bool)(val:ByteArray)(e:Int):List Result:=
 if x.kind=2\/x.kind=3 then(l++[zbo x has val e]).drop ((l++[zbo x has val e]).length-16)else l
theorem zK4(l:List Result)(x:Job)(has:Bool)(val:ByteArray)(e:Int)(h:l.length<=1000):(told l x has val e).length<=1000:=by
 unfold told;split
 ·simp;omega
 ·exact h
def zay(n:Node)(id:Int)(has:Bool)(val:ByteArray)(e:Int):Node:=match n.jobs.find? (isJ id)with
 |none=>n
 |some x=>⟨n.me,n.clock,n.joined,n.pred,n.list,n.fingers,n.store,n.pends,delJ n.jobs id,told n.results x has val e,n.rid,n.jobID,n.nextBit⟩
theorem zeu{n:Node}(h:Sz n)(id:Int)(has:Bool)(val:ByteArray)(e:Int):Sz (zay n id has val e):=by
 unfold zay;split
 ·exact h
 ·exact⟨h.pred,h.list,h.fingers,h.store,h.pends,yaO (zJ4 _ _) h.jobs,zK4 _ _ _ _ _ h.results⟩
theorem zkv(l:List Job)(id:Int):(zem l id=-1/\fst (isJ id) l=none/\l.find? (isJ id)=none)\/∃n x,zem l id=(n:Nat)/\fst (isJ id) l=some n/\l[n]?=some x/\n<l.length/\l.find? (isJ id)=some x/\x.id=id:=by
 have h:=zAf (p:=isJ id) (l:=l);unfold zem fstI
 cases hf:fst (isJ id) l with
 |none=>rw[hf]at h;exact .inl ⟨rfl,rfl,h⟩
 |some n=>
  rw[hf]at h;obtain⟨x,h1,h2,h3,h4⟩:=h;exact .inr ⟨n,x,rfl,rfl,h1,h4,h2,of_decide_eq_true h3⟩
theorem zlK{α:Type}(e:α->AV)[Inj e](l:List α)(n:Nat)(h:n<=l.length):xsub e l 0 (n:Int)=some (l.take n):=by
 rw[zfc,if_pos (by omega)];simp
theorem zfl{α:Type}(e:α->AV)[Inj e](l:List α)(n:Nat)(h:n<=l.length):xsub e l (n:Int) (xlen e l)=some (l.drop n):=by
 rw[zfc,zav,if_pos (by omega)];simp
theorem zAG{l:List Job}{n:Nat}(hl:l.length<=1000)(hn:n<l.length):zsy (n:Int) ((n+1:Nat):Int) l=some (l.eraseIdx n):=zBV (by
 have h1:xsub eJob l (n:Int) ((n+1:Nat):Int)=some ((l.take (n+1)).drop n):=by rw[zfc,if_pos (by omega)];simp only[yaR]
 have h2:=zfl eJob l (n+1) (by omega);have h3:yac.ieq (n:Int) ((n+1:Nat):Int)=false:=ieqF (by omega);have h4:=zlK eJob l n (by omega);have h5:yac.isub .i64 (xlen eJob l) (n:Int)=((l.length-n:Nat):Int):=by rw[zav,zsX (by omega) (by omega)];omega
 have h6:yac.ile (xlen eJob (l.drop (n+1))) ((l.length-n:Nat):Int)=true:=ileT (by rw[zav,yar];omega);have h7:yac.iadd .i64 (n:Int) (xlen eJob (l.drop (n+1)))=((l.length-1:Nat):Int):=by rw[zav,yar,znu (by omega) (by omega)];omega
 have hput:xput l (n:Int) (l.drop (n+1))=l.eraseIdx n++l.drop (l.length-1):=by
  unfold xput;rw[yaR,yar,List.eraseIdx_eq_take_drop_succ];congr 2;omega
 have hle:(l.eraseIdx n).length=l.length-1:=by rw[List.length_eraseIdx];simp[hn]
 have h8:xsub eJob (l.eraseIdx n++l.drop (l.length-1)) 0 ((l.length-1:Nat):Int)=some (l.eraseIdx n):=by
  rw[zlK eJob _ _ (by simp[hle]),<-hle,ya9]
 have h9:xsub eJob (l.eraseIdx n++l.drop (l.length-1)) (xlen eJob (l.eraseIdx n)) (xlen eJob l)=some (l.drop (l.length-1)):=by
  have e:xlen eJob l=xlen eJob (l.eraseIdx n++l.drop (l.length-1)):=by rw[zav,zav,yaf,hle,yar];omega
  rw[e,zav,zfl eJob _ _ (by simp),List.drop_left]
 have h10:∀z:Job,xfil (l.eraseIdx n++l.drop (l.length-1)) (xlen eJob (l.eraseIdx n)) (xlen eJob l) z=l.eraseIdx n++yaA 1 z:=fun z=>by
  unfold xfil;rw[zav,zav,yaR,yaR,ya9,hle,show l.length-(l.length-1)=1 by omega,yao,yaL (by simp[hle]<;>omega),List.append_nil]
 have h11:∀z:Job,xsub eJob (l.eraseIdx n++yaA 1 z) 0 ((l.length-1:Nat):Int)=some (l.eraseIdx n):=fun z=>by
  rw[zlK eJob _ _ (by simp[hle]),<-hle,ya9]
 have hz:yac.ieq 0 0=true:=rfl
 simp only[zo2,h1,h2,h3,h4,h5,h6,h7,hput,h8,h9,h10,h11,hz,yaa,cond_true,cond_false])
theorem zyE{j:Job}{has:Bool}{val:ByteArray}{e a b c:Int}{d:Bool}{f g k:Int}{r1 r2:List Entry}{r3:List Finger}{r4:List Pair}{r5:List Pend}{r6:List Job}{r7:List Result}(h:r7.length<=1000):
  zlU j has val e a b c d f g k r1 r2 r3 r4 r5 r6 r7=some ((r7++[zbo j has val e]).drop ((r7++[zbo j has val e]).length-16)):=zzy (by
 have hlen:(r7++[zbo j has val e]).length=r7.length+1:=by simp
 have hs:yac.isub .i64 (xlen zaj (r7++[zbo j has val e])) 16=((r7.length:Int)+1)-16:=by rw[zav,hlen,zsX (by omega) (by omega)];omega
 show(bif zar zaj 64 r7 [zbo j has val e]then bif yac.ilt 0 (yac.isub .i64 (xlen zaj (r7++[zbo j has val e])) 16)then(xsub zaj (r7++[zbo j has val e]) (yac.isub .i64 (xlen zaj (r7++[zbo j has val e])) 16) (xlen zaj (r7++[zbo j has val e]))).bind fun ys=>bif zar zaj 64 [] ys then some ys else none
  else(xsub zaj (r7++[zbo j has val e]) 0 (xlen zaj (r7++[zbo j has val e]))).bind fun ys=>bif zar zaj 64 [] ys then some ys else none else none)=_
 rw[zax zaj (by simp;omega) (by omega),cond_true,hs,zaq,zac];by_cases hc:15<r7.length
 ·have e2:((r7.length:Int)+1)-16=((r7.length-15:Nat):Int):=by omega
  rw[if_pos (by omega),e2,zfl zaj _ _ (by rw[hlen];omega),yaa,zax zaj (by rw[ybw,yar,hlen];omega) (by omega),cond_true,hlen];congr 2
 ·rw[if_neg (by omega),show(0:Int)=((0:Nat):Int)from rfl,zfl zaj _ 0 (by omega),yaa,List.drop_zero,zax zaj (by rw[ybw,hlen];omega) (by omega),cond_true,hlen,show r7.length+1-16=0 by omega,List.drop_zero])
theorem zmR{n:Node}{id:Int}{has:Bool}{val:ByteArray}{e:Int}(h:Sz n):zkw n id has val e=some (zay n id has val e):=zAO (by
 have hj:=h.jobs;rw[zoc,zck h,yaa];dsimp only;rw[zpi (by omega),yaa,zaq,zac];unfold zay;rcases zkv n.jobs id with⟨h1,h2,h3⟩|⟨k,x,h1,h2,h3,h4,h5,h6⟩
 ·rw[h1,if_pos (by omega),h3]
 ·rw[h1,if_neg (by omega),h5,zaO,h3,yaa,zfY (by omega),zAG (by omega) h4,yaa,zAc h2]
  have e1:zu0 x has val e n.me.id n.me.addr n.clock n.joined n.rid n.jobID n.nextBit n.pred n.list n.fingers n.store n.pends (n.jobs.eraseIdx k) n.results=some (if x.kind=2\/x.kind=3 then .inl (n.results++[zbo x has val e],told n.results x has val e)else .inr ()):=zD2 (by
   rw[zqU,zyE h.results,yaa,zaf,zaf,zac,zac];unfold told;by_cases c2:x.kind=2
   ·rw[if_pos c2,if_pos (.inl c2),if_pos (.inl c2)];rfl
   ·by_cases c3:x.kind=3
    ·rw[if_neg c2,if_pos c3,if_pos (.inr c3),if_pos (.inr c3)];rfl
    ·rw[if_neg c2,if_neg c3,if_neg (by omega)])
  rw[e1,yaa];by_cases c:x.kind=2\/x.kind=3
  ·rw[if_pos c]
  ·rw[if_neg c];dsimp only
   rw[told,if_neg c])
theorem zzU{l:List Job}{n:Nat}(hl:l.length<=1000)(hn:n<l.length):zrg l (n:Int)=some (l.eraseIdx n):=zA8 (by
 have:=zaW (σ:=List Job) eJob (l:=l) (by omega) (L:=fun i acc=>zgG l (n:Int) i acc) (res:=fun k acc rest=>acc++(if k<=n then rest.eraseIdx (n-k)else rest)) (Inv:=fun k acc=>acc.length<=k)
  (fun acc _ hh=>zpC (by rw[zhp,hh];simp))
  (fun k x rest acc ha hk hx hd h1 h2 h3 ih=>zpC (by
   rw[zhp,h1,cond_true,zaf,zac];by_cases hc:k=n
   ·rw[if_pos (by omega),h3,ih acc (by omega),if_neg (by omega),if_pos (by omega),hc,Nat.sub_self];rfl
   ·rw[if_neg (by omega),h2,yaa,zax eJob (by simp;omega) (by omega),cond_true,h3,ih (acc++[x]) (by simp;omega)];by_cases hlt:k<=n
    ·rw[if_pos (by omega),if_pos hlt,show n-k=(n-(k+1))+1 by omega,List.eraseIdx_cons_succ];simp
    ·rw[if_neg (by omega),if_neg hlt];simp)) [] (by simp)
 rw[zos,this]
 simp)
theorem zEu{l:List Result}{x:Job}{has:Bool}{val:ByteArray}{e:Int}(hl:l.length<=1000):zxE l x has val e=some (told l x has val e):=zHd (by
 have hlen:(l++[zbo x has val e]).length=l.length+1:=by simp
 have sub:∀k:Nat,k<=l.length+1->xsub zaj (l++[zbo x has val e]) (k:Int) ((l.length+1:Nat):Int)=some ((l++[zbo x has val e]).drop k):=fun k hk=>by
  have:=zfl zaj (l++[zbo x has val e]) k (by rw[hlen];exact hk)
  rwa[zav,hlen]at this
 have lenD:∀k:Nat,xlen zaj ((l++[zbo x has val e]).drop k)=((l.length+1-k:Nat):Int):=fun k=>by rw[zav,yar,hlen]
 have loop:∀d k:Nat,k+d=l.length+1-16->1<=k->16<l.length+1->ze7 l x has val e (k:Int) ((l.length+1:Nat):Int)=some (.inr (((l.length+1-16:Nat):Int),((l.length+1:Nat):Int))):=by
  intro d
  induction d with
  |zero=>
   intro k hk h1 h16;refine zqx ?_;show((xsub zaj (l++[zbo x has val e]) (k:Int) ((l.length+1:Nat):Int)).bind _)=_
   rw[sub k (by omega),yaa,lenD,zaq,zac,if_neg (by omega),show k=l.length+1-16 by omega]
  |succ d ih=>
   intro k hk h1 h16;refine zqx ?_;show((xsub zaj (l++[zbo x has val e]) (k:Int) ((l.length+1:Nat):Int)).bind _)=_
   have s1:xsub zaj ((l++[zbo x has val e]).drop k) 1 ((l.length+1-k:Nat):Int)=some (((l++[zbo x has val e]).drop k).drop 1):=by
    have:=zfl zaj ((l++[zbo x has val e]).drop k) 1 (by rw[yar,hlen];omega)
    rwa[lenD]at this
   rw[sub k (by omega),yaa,lenD,zaq,zac,if_pos (by omega),ieqF (show(k:Int)≠0 by omega),cond_false,s1,yaa,zfY (by omega),znu (by omega) (by omega),show(k:Int)+((l.length+1-k:Nat):Int)=((l.length+1:Nat):Int)by omega];exact ih (k+1) (by omega) (by omega) h16
 have s0:zkD l x has val e=some (if 16<l.length+1 then .inr (((l.length+1-16:Nat):Int),((l.length+1:Nat):Int))else .inl ()):=zA7 (by
  show(bif zar zaj 64 [] l then bif zar zaj 64 l [zbo x has val e]then zrf l x has val e else none else none)=_;rw[zax zaj (by simp;omega) (by omega),zax zaj (by simp;omega) (by omega),cond_true,cond_true];refine zA6 ?_;show(bif yac.ilt 16 (xlen zaj (l++[zbo x has val e]))then(xsub zaj (l++[zbo x has val e]) 1 (xlen zaj (l++[zbo x has val e]))).bind fun ys=>ze7 l x has val e 1 (xlen zaj (l++[zbo x has val e]))else some (.inl ()))=_;rw[zav,hlen,zaq,zac];by_cases hc:16<l.length+1
  ·have:=sub 1 (by omega);rw[if_pos (by omega),if_pos hc,show(1:Int)=((1:Nat):Int)from rfl,this,yaa];exact loop (l.length+1-16-1) 1 (by omega) (by omega) hc
  ·rw[if_neg (by omega),if_neg hc])
 have fin:(zkD l x has val e).bind (fun r=>match r with| .inl ()=>some (l++[zbo x has val e])| .inr (lo,hi)=>(xsub zaj (l++[zbo x has val e]) lo hi).bind fun ys=>some ys)=some ((l++[zbo x has val e]).drop ((l++[zbo x has val e]).length-16)):=by
  rw[s0,yaa,hlen];by_cases hc:16<l.length+1
  ·rw[if_pos hc];dsimp only;rw[sub _ (by omega)];rfl
  ·rw[if_neg hc,show l.length+1-16=0 by omega];rfl
 unfold told;rw[ztx,zaf,zaf,zac,zac];by_cases c2:x.kind=2
 ·rw[if_pos c2,if_pos (.inl c2)];exact fin
 ·by_cases c3:x.kind=3
  ·rw[if_neg c2,if_pos c3,if_pos (.inr c3)];exact fin
  ·rw[if_neg c2,if_neg c3,if_neg (by omega)])
theorem zA5{n:Node}{id:Int}{has:Bool}{val:ByteArray}{e:Int}(h:Sz n):ztw n id has val e=some (zay n id has val e):=zDc (by
 have hj:=h.jobs;rw[zpB,zkC (by omega),yaa,zaq,zac];unfold zay;rcases zkv n.jobs id with⟨h1,h2,h3⟩|⟨k,x,h1,h2,h3,h4,h5,h6⟩
 ·rw[h1,if_pos (by omega),h3]
 ·rw[h1,if_neg (by omega),h5,zaO,h3,yaa,zEu h.results,yaa,zzU (by omega) h4,yaa,zAc h2])
def isB(bit:Int)(f:Finger):Bool:=decide (f.bit=bit)
def gtB(bit:Int)(f:Finger):Bool:=decide (bit<f.bit)
def updF(bit:Int)(p:Peer):List Finger->List Finger
 | []=>[]
 |x::r=>if x.bit=bit then⟨x.bit,p⟩::r else x::updF bit p r
def insF(bit:Int)(p:Peer):List Finger->List Finger
 | []=>[⟨bit,p⟩]
 |x::r=>if bit<x.bit then⟨bit,p⟩::x::r else x::insF bit p r
def setF(l:List Finger)(bit:Int)(p:Peer):List Finger:=if bit<0\/63<bit then l else if l.any (isB bit)=true then updF bit p l else insF bit p l
theorem zK5(bit:Int)(p:Peer)(l:List Finger):(updF bit p l).length=l.length:=by
 induction l with
 |nil=>rfl
 |cons x r ih=>unfold updF;split<;>simp[ih]
theorem zCC(bit:Int)(p:Peer)(l:List Finger):(insF bit p l).length=l.length+1:=by
 induction l with
 |nil=>rfl
 |cons x r ih=>unfold insF;split<;>simp[ih]
theorem zxN(l:List Finger)(bit:Int)(p:Peer):(setF l bit p).length<=l.length+1:=by
 unfold setF;split
 ·omega
 ·split
  ·rw[zK5];omega
  ·rw[zCC];omega
theorem zJC{bit:Int}{p:Peer}{l:List Finger}{n:Nat}{x:Finger}(h:fst (isB bit) l=some n)(hx:l[n]?=some x):updF bit p l=l.set n ⟨x.bit,p⟩:=by
 induction l generalizing n with
 |nil=>cases h
 |cons y r ih=>
  by_cases hy:y.bit=bit
  ·have:n=0:=by simpa[fst,isB,hy]using h.symm
   subst this;obtain rfl:y=x:=by simpa using hx
   simp[updF,hy]
  ·simp only[fst,isB,hy,decide_false,cond_false,yap]at h;obtain⟨m,hm,rfl⟩:=h;rw[updF,if_neg hy,ih hm (by simpa using hx)];rfl
theorem zGB(bit:Int)(p:Peer)(l:List Finger):insF bit p l=match fst (gtB bit) l with|some n=>l.take n++([⟨bit,p⟩]++l.drop n)|none=>l++[⟨bit,p⟩]:=by
 induction l with
 |nil=>rfl
 |cons x r ih=>
  by_cases hx:bit<x.bit
  ·simp[insF,fst,gtB,hx]
  ·simp only[insF,fst,gtB,if_neg hx,decide_eq_false hx,cond_false,ih];show _=match(fst (gtB bit) r).map (· +1)with|some n=>_|none=>_
   cases fst (gtB bit) r with
   |none=>rfl
   |some n=>simp
theorem zAH{l:List Finger}{bit:Int}(hl:l.length<=2000):ziG l bit=some (fstI (isB bit) l):=zsz (by
 have hf:∀x:Finger,zqO x bit=some (isB bit x):=fun x=>zAL rfl
 have:=zbu zab (l:=l) (by omega) (p:=isB bit) (L:=fun i=>zdY l bit i) (fun h=>ze1 (by simp[zbZ,h]))
  (fun n x _ h1 h2 hp=>ze1 (by simp[zbZ,h1,h2,hf,hp]))
  (fun n x r _ h1 h2 hp h=>ze1 (by simp[zbZ,h1,h2,hf,hp,h]))
 rw[zhd,this];unfold fstI
 cases fst (isB bit) l<;>rfl)
theorem zAI{l:List Finger}{bit:Int}(hl:l.length<=2000):ziH l bit=some (fstI (gtB bit) l):=zsA (by
 have hf:∀x:Finger,zqP x bit=some (gtB bit x):=fun x=>zAM rfl
 have:=zbu zab (l:=l) (by omega) (p:=gtB bit) (L:=fun i=>zdZ l bit i) (fun h=>ze2 (by simp[zb1,h]))
  (fun n x _ h1 h2 hp=>ze2 (by simp[zb1,h1,h2,hf,hp]))
  (fun n x r _ h1 h2 hp h=>ze2 (by simp[zb1,h1,h2,hf,hp,h]))
 rw[zhe,this];unfold fstI
 cases fst (gtB bit) l<;>rfl)
theorem zCv{l:List Finger}{bit:Int}{p:Peer}(hl:l.length<=1000):zuS l bit p=some (setF l bit p):=zDY (by
 rw[zqQ,zax zab (by simp;omega) (by omega),cond_true,zaq,zac,zaq,zac];unfold setF;by_cases h1:bit<0
 ·rw[if_pos h1,if_pos (.inl h1)]
 by_cases h2:63<bit
 ·rw[if_neg h1,if_pos h2,if_pos (.inr h2)]
 rw[if_neg h1,if_neg h2,if_neg (by omega)];refine zzt ?_;have hroom:zar zab 24 l [(⟨bit,p⟩:Finger)]=true:=zax zab (by simp;omega) (by omega);rw[zmP,zAH (by omega),yaa,zAI (by omega),yaa,hroom,cond_true,cond_true,za4,zac,zaq,zac]
 cases hf:fst (isB bit) l with
 |some n=>
  obtain⟨x,hx,_,_⟩:=zb6 hf;have e1:fstI (isB bit) l=(n:Int):=by unfold fstI;rw[hf]
  have ha:l.any (isB bit)=true:=by rw[<-zwx,e1];simp
  rw[e1,if_pos (by omega),if_pos ha,zaO,hx,yaa,zJC hf hx];rfl
 |none=>
  have e1:fstI (isB bit) l=-1:=by unfold fstI;rw[hf]
  have ha:¬l.any (isB bit)=true:=by rw[<-zwx,e1];simp
  rw[e1,if_neg (by omega),if_neg ha,zGB]
  cases hg:fst (gtB bit) l with
  |none=>
   have e3:fstI (gtB bit) l=-1:=by unfold fstI;rw[hg]
   have h0:xsub zab l 0 (xlen zab l)=some l:=by rw[zav,zlK zab l l.length (yag _),yb9]
   have h1:xsub zab l (xlen zab l) (xlen zab l)=some []:=by
    have:=zfl zab l l.length (yag _);rw[zav]at this⊢;rw[this,yb7]
   rw[e3,if_pos (by omega),h0,yaa,h1,yaa];simp
  |some n=>
   obtain⟨_,_,_,hn,_⟩:=zb6 hg;have e3:fstI (gtB bit) l=(n:Int):=by unfold fstI;rw[hg]
   rw[e3,if_neg (by omega),zlK zab l n (by omega),yaa,zfl zab l n (by omega),yaa])
theorem zG2{l:List Finger}{bit:Int}(hl:l.length<=1000):∃q,zzN l bit=some (q,l.any (isB bit)):=by
 have:∃z,zfr l bit 0=some z/\(z.isLeft=l.any (isB bit)):=by
  have key:=zaW (σ:=Unit) zab (l:=l) (by omega) (L:=fun i _=>(zfr l bit i).map (·.isLeft)) (res:=fun _ _ rest=>rest.any (isB bit)) (Inv:=fun _ _=>True)
   (fun _ _ h=>by
    have e:zfr l bit (l.length:Int)=some (.inr ()):=zpv (by rw[zjc,h];rfl)
    rw[e];rfl)
   (fun n x rest s _ hn hx hd h1 h2 h3 ih=>by
    cases hp:isB bit x with
    |true=>
     have e:zfr l bit (n:Int)=some (.inl (x.peer.id,x.peer.addr)):=zpv (by
      have hp':yac.ieq x.bit bit=true:=hp
      rw[zjc,h1,h2,cond_true,yaa,hp'];rfl)
     rw[e,List.any_cons,hp];rfl
    |false=>
     have h4:=ih () trivial;obtain⟨z,hz,hz2⟩:=yap.1 h4
     have e:zfr l bit (n:Int)=some z:=zpv (by
      have hp':yac.ieq x.bit bit=false:=hp
      rw[zjc,h1,h2,cond_true,yaa,hp',cond_false,h3,hz])
     rw[e,List.any_cons,hp,ybC,<-hz2];rfl) () trivial
  exact yap.1 key
 obtain⟨z,h1,h2⟩:=this;rcases z with⟨a,b⟩|u
 ·exact⟨⟨a,b⟩,zAu (by rw[zqs,h1,<-h2];rfl)⟩
 ·exact⟨⟨0,0⟩,zAu (by rw[zqs,h1,<-h2];rfl)⟩
def insG(bit:Int)(p:Peer):List Finger->List Finger
 | []=>[]
 |x::r=>if bit<x.bit then⟨bit,p⟩::x::r else x::insG bit p r
theorem zKm{bit:Int}{p:Peer}{l:List Finger}:(if l.any (gtB bit)=true then insG bit p l else insG bit p l++[⟨bit,p⟩])=insF bit p l:=by
 induction l with
 |nil=>rfl
 |cons x r ih=>
  by_cases hx:bit<x.bit
  ·simp[insG,insF,gtB,hx]
  ·have hx':gtB bit x=false:=decide_eq_false hx;rw[List.any_cons,hx',ybC,insG,insF,if_neg hx,if_neg hx,<-ih];by_cases ha:r.any (gtB bit)=true
   ·rw[if_pos ha,if_pos ha]
   ·rw[if_neg ha,if_neg ha];rfl
theorem zqt{l:List Finger}{bit i a b c d e:Int}{p:Peer}{there put_:Bool}{r3:List Finger}(hr:r3.length<=5000):zjW l bit p there put_ i a b r3 c d e=
  some (there,(if there=true then put_ else put_||decide (bit<c)),i,a,b,(if there=true\/put_=true then r3++[⟨c,⟨d,e⟩⟩]else if bit<c then(r3++[⟨bit,p⟩])++[⟨c,⟨d,e⟩⟩]else r3++[⟨c,⟨d,e⟩⟩]),c,d,e):=zC8 (by
 have hroom:∀(k:Nat) (r:List Finger) (x:Finger),r.length<=5000+k->k<=1->zar zab 24 r [x]=true:=fun k r x h1 h2=>zax zab (by simp;omega) (by omega)
 rw[zpx,hroom 0 _ _ (by omega) (by omega),hroom 0 _ _ (by omega) (by omega),hroom 1 _ _ (by simp;omega) (by omega),zaq,zac];cases there
 ·cases put_
  ·by_cases hc:bit<c
   ·simp[hc]
   ·simp[hc]
  ·simp
 ·simp)
theorem zDa{l:List Finger}{bit a b:Int}{p:Peer}(hl:l.length<=1000):zcl l bit p true false 0 a b []=some (l.any (isB bit),a,b,updF bit p l):=by
 have:=zaW (σ:=Bool×List Finger) zab (l:=l) (by omega) (L:=fun i s=>zcl l bit p true s.1 i a b s.2) (res:=fun _ s rest=>(s.1||rest.any (isB bit),a,b,s.2++(if s.1=true then rest else updF bit p rest))) (Inv:=fun n s=>s.2.length<=n)
  (fun s _ h=>zl7 (by rw[zgA,h];rcases s with⟨s1,s2⟩;cases s1<;>simp[updF]))
  (fun n x rest s hs hn hx hd h1 h2 h3 ih=>zl7 (by
   rcases s with⟨s1,s2⟩
   have hs':s2.length<=n:=hs;have ih':∀(c:Bool) (y:Finger),zcl l bit p true c ((n+1:Nat):Int) a b (s2++[y])=some (c||rest.any (isB bit),a,b,(s2++[y])++(if c=true then rest else updF bit p rest)):=fun c y=>ih (c,s2++[y]) (by show(s2++[y]).length<=n+1;simp;omega)
   dsimp only;rw[zgA,h1,h2,cond_true,yaa,cond_true,zqt (by omega),zqt (by omega),zqt (by omega)];simp only[yaa,h3,ih',if_true,true_or]
   cases s1 with
   |true=>simp
   |false=>
    rw[cond_false,zaf,zac];by_cases hc:x.bit=bit
    ·simp[hc,updF,isB]
    ·simp[hc,updF,isB])) (false,[]) (by simp)
 simpa using this
theorem zG6{l:List Finger}{bit a b:Int}{p:Peer}(hl:l.length<=1000):zcl l bit p false false 0 a b []=some (l.any (gtB bit),a,b,insG bit p l):=by
 have:=zaW (σ:=Bool×List Finger) zab (l:=l) (by omega) (L:=fun i s=>zcl l bit p false s.1 i a b s.2) (res:=fun _ s rest=>(s.1||rest.any (gtB bit),a,b,s.2++(if s.1=true then rest else insG bit p rest))) (Inv:=fun n s=>s.2.length<=2*n)
  (fun s _ h=>zl7 (by rw[zgA,h];rcases s with⟨s1,s2⟩;cases s1<;>simp[insG]))
  (fun n x rest s hs hn hx hd h1 h2 h3 ih=>zl7 (by
   rcases s with⟨s1,s2⟩
   have hs':s2.length<=2*n:=hs;have ih':∀(c:Bool) (y:List Finger),y.length<=2->zcl l bit p false c ((n+1:Nat):Int) a b (s2++y)=some (c||rest.any (gtB bit),a,b,(s2++y)++(if c=true then rest else insG bit p rest)):=fun c y hy=>ih (c,s2++y) (by show(s2++y).length<=2*(n+1);simp;omega)
   dsimp only;rw[zgA,h1,h2,cond_true,yaa,cond_false,zqt (by omega)]
   cases s1 with
   |true=>
    have:=ih' true [x] (by simp);simp[h3]at this⊢
    exact this
   |false=>
    by_cases hc:bit<x.bit
    ·have:=ih' true [⟨bit,p⟩,x] (by simp);simp[h3,hc,gtB,insG]at this⊢;exact this
    ·have:=ih' false [x] (by simp);simp[h3,hc,gtB,insG]at this⊢
     exact this)) (false,[]) (by simp)
 simpa using this
theorem zG5{l:List Finger}{bit:Int}{p:Peer}(hl:l.length<=1000):zzO l bit p=some (setF l bit p):=zJa (by
 rw[zvo,zaq,zac,zaq,zac];unfold setF;by_cases h1:bit<0
 ·rw[if_pos h1,if_pos (.inl h1)]
 by_cases h2:63<bit
 ·rw[if_neg h1,if_pos h2,if_pos (.inr h2)]
 rw[if_neg h1,if_neg h2,if_neg (by omega)];obtain⟨q,hq⟩:=zG2 (l:=l) (bit:=bit) hl
 have e:ztr l bit p=some (q.id,q.addr,if l.any (isB bit)=true then updF bit p l else insF bit p l):=zC9 (by
  rw[zpy,hq,yaa];dsimp only
  cases ha:l.any (isB bit)with
  |true=>
   rw[zDa hl,yaa,ha];rfl
  |false=>
   have hins:=zKm (bit:=bit) (p:=p) (l:=l);rw[zG6 hl,yaa]
   have hgl:(insG bit p l).length<=2000:=by
    have e1:=zCC bit p l;rw[<-hins]at e1;split at e1
    ·omega
    ·simp at e1;omega
   cases hb:l.any (gtB bit)with
   |true=>rw[hb,if_pos rfl]at hins;rw[hins];rfl
   |false=>
    rw[hb,if_neg (by simp)]at hins;simp only[cond_false,zax zab (b:=24) (l:=insG bit p l) (l':=[⟨bit,p⟩]) (by simp;omega) (by omega),cond_true,hins]
    rfl)
 rw[e];rfl)
def drpF(bit:Int)(l:List Finger):List Finger:=l.filter fun f=>!isB bit f
theorem zuP{bit:Int}{x:Finger}{l:List Finger}:drpF bit (x::l)=bif isB bit x then drpF bit l else x::drpF bit l:=by
 unfold drpF;cases h:isB bit x<;>simp[h]
theorem zAd{bit:Int}{l:List Finger}(h:∀x,x∈l->isB bit x=false):drpF bit l=l:=by
 unfold drpF;rw[List.filter_eq_self];intro x hx;simp[h x hx]
theorem zzo(bit:Int)(l:List Finger):(drpF bit l).length<=l.length:=List.length_filter_le _ _
theorem zJ7(bit:Int)(a b:List Finger):drpF bit (a++b)=drpF bit a++drpF bit b:=List.filter_append ..
def zd3(n:Node)(l:List Finger):Node:=⟨n.me,n.clock,n.joined,n.pred,n.list,l,n.store,n.pends,n.jobs,n.results,n.rid,n.jobID,n.nextBit⟩
theorem zCj(N:Node)(j:Job)(o:List Out)(rest:List Finger):∀(kept:List Finger) (j0:Finger) (jt:List Finger),kept.length+(jt.length+1)+rest.length<=1000->
  ∃junk,zbR j o (kept.length:Nat) ((kept++j0::jt).length:Nat) (zd3 N (kept++j0::jt++rest))=some ((((kept++drpF j.bit rest).length:Nat):Int),zd3 N (kept++drpF j.bit rest++junk)):=by
 induction rest with
 |nil=>
  intro kept j0 jt h;refine⟨j0::jt,zdm ?_⟩;have:yac.ilt ((kept++j0::jt).length:Nat) (xlen zab (kept++j0::jt++[]))=false:=by rw[ze5];simp
  rw[zbz,show(zd3 N (kept++j0::jt++[])).fingers=kept++j0::jt++[]from rfl,this]
  simp[drpF]
 |cons x rest ih=>
  intro kept j0 jt h;simp only[yav]at h;have hfi:(zd3 N (kept++j0::jt++x::rest)).fingers=kept++j0::jt++x::rest:=rfl;have hlt:yac.ilt ((kept++j0::jt).length:Nat) (xlen zab (kept++j0::jt++x::rest))=true:=by rw[ze5];simp
  have hg:xget zab (kept++j0::jt++x::rest) ((kept++j0::jt).length:Nat)=some x:=by rw[zaO];simp
  have hadd:yac.iadd .i64 ((kept++j0::jt).length:Nat) 1=(((kept++j0::jt).length+1:Nat):Int):=zfY (by simp;omega);have hd:zdQ x (zd3 N (kept++j0::jt++x::rest)) j o=some (isB j.bit x):=zmC rfl;rw[zuP]
  cases hx:isB j.bit x with
  |true=>
   obtain⟨junk,h2⟩:=ih kept j0 (jt++[x]) (by simp;omega);refine⟨junk,zdm ?_⟩;rw[zbz,hfi,hlt,hg,hadd];simp only[cond_true,yaa,hd,hx]
   simpa[yaU]using h2
  |false=>
   have hg0:xget zab (kept++j0::jt++x::rest) (kept.length:Nat)=some j0:=by rw[zaO];simp
   have hadd2:yac.iadd .i64 (kept.length:Nat) 1=((kept.length+1:Nat):Int):=zfY (by omega)
   have hset:xset (kept++j0::jt++x::rest) (kept.length:Nat) x=(kept++[x])++(jt++[x])++rest:=by
    unfold xset;simp
   have go:zbR j o ((kept.length+1:Nat):Int) (((kept++j0::jt).length+1:Nat):Int) (zd3 N ((kept++[x])++(jt++[x])++rest))=zbz j o (kept.length:Nat) ((kept++j0::jt).length:Nat) (zd3 N (kept++j0::jt++x::rest)):=by
    rw[zbz,hfi,hlt,hg,hadd];simp only[cond_true,yaa,hd,hx,cond_false,hg0,hadd2,hset];rfl
   cases jt with
   |nil=>
    obtain⟨junk,h2⟩:=ih (kept++[x]) x [] (by simp;omega);refine⟨junk,zdm (go.symm.trans ?_)⟩
    simpa[yaU]using h2
   |cons j1 jt=>
    obtain⟨junk,h2⟩:=ih (kept++[x]) j1 (jt++[x]) (by simp at h⊢;omega);refine⟨junk,zdm (go.symm.trans ?_)⟩;simpa[yaU]using h2
theorem zBX{N:Node}{j:Job}{o:List Out}(hl:N.fingers.length<=1000):zlf N j o=some (fstI (isB j.bit) N.fingers):=zuw (by
 have hf:∀x:Finger,zdQ x N j o=some (isB j.bit x):=fun x=>zmC rfl
 have:=zbu zab (l:=N.fingers) (by omega) (p:=isB j.bit) (L:=fun i=>zeV N j o i) (fun h=>zf3 (by simp[zcr,h]))
  (fun n x _ h1 h2 hp=>zf3 (by simp[zcr,h1,h2,hf,hp]))
  (fun n x r _ h1 h2 hp h=>zf3 (by simp[zcr,h1,h2,hf,hp,h]))
 rw[ziJ,this];unfold fstI
 cases fst (isB j.bit) N.fingers<;>rfl)
theorem zAE{N:Node}{j:Job}{o:List Out}(hl:N.fingers.length<=1000):zkk N j o=some (drpF j.bit N.fingers,N.me.id,N.me.addr,N.clock,N.joined,N.pred,N.list,N.store,N.pends,N.jobs,N.results,N.rid,N.jobID,N.nextBit):=zur (by
 rw[ziq,zBX hl,yaa];unfold fstI
 cases hf:fst (isB j.bit) N.fingers with
 |none=>
  rw[zAd (zlm hf)];rfl
 |some n=>
  obtain⟨x,hx,hp,hn,hb⟩:=zb6 hf;obtain⟨hn',hxe⟩:=yae.1 hx
  have hsplit:N.fingers=N.fingers.take n++x::N.fingers.drop (n+1):=by
   rw[<-hxe,<-yaF hn,List.take_append_drop]
  have hkl:(N.fingers.take n).length=n:=by simp;omega
  have hbefore:drpF j.bit (N.fingers.take n)=N.fingers.take n:=zAd fun y hy=>by
   obtain⟨i,hi,rfl⟩:=List.mem_iff_getElem.1 hy;have hin:i<n:=by rw[hkl]at hi;exact hi
   exact hb i _ hin (by rw[List.getElem_take,List.getElem?_eq_getElem])
  obtain⟨junk,hloop⟩:=zCj N j o (N.fingers.drop (n+1)) (N.fingers.take n) x [] (by simp;omega)
  have hdr:drpF j.bit N.fingers=N.fingers.take n++drpF j.bit (N.fingers.drop (n+1)):=by
   rw[congrArg (drpF j.bit) hsplit,zJ7,hbefore,zuP,hp];rfl
  have hN:zd3 N (N.fingers.take n++[x]++N.fingers.drop (n+1))=N:=by
   rw[yao,ybz,<-hsplit];rfl
  rw[hN,<-hdr,hkl]at hloop;rw[show(N.fingers.take n++[x]).length=n+1 by rw[yaf,hkl];rfl]at hloop;have hz:yac.ieq 0 0=true:=rfl
  have hsub:∀z:Finger,xsub zab (xfil (drpF j.bit N.fingers++junk) (((drpF j.bit N.fingers).length:Nat):Int) (xlen zab (drpF j.bit N.fingers++junk)) z) 0 (((drpF j.bit N.fingers).length:Nat):Int)=some (drpF j.bit N.fingers):=fun z=>by
   unfold xfil;rw[zav,yaR,yaR,ya9,yao,zlK zab _ _ (by simp),ya9]
  have hf2:(zd3 N (drpF j.bit N.fingers++junk)).fingers=drpF j.bit N.fingers++junk:=rfl;dsimp only;rw[ieqF (show(n:Int)≠ -1 by omega),cond_false,zfY (by omega),hloop,yaa];dsimp only;rw[hf2,zfl zab _ _ (by simp),yaa,hsub,yaa,hz,cond_true]
  rfl)
theorem zBe{j:Job}{owner:Peer}{N:Node}(hl:N.fingers.length<=1000):zj6 j owner 0 N []=some (N,drpF j.bit N.fingers):=by
 have:=zaW (σ:=List Finger) zab (l:=N.fingers) (by omega) (L:=fun i acc=>zj6 j owner i N acc) (res:=fun _ acc rest=>(N,acc++drpF j.bit rest)) (Inv:=fun k acc=>acc.length<=k)
  (fun acc _ h=>zvC (by rw[zmg,h];simp[drpF]))
  (fun k x rest acc ha hk hx hd h1 h2 h3 ih=>zvC (by
   rw[zmg,h1,h2,cond_true,yaa,zuP,h3];show(bif isB j.bit x then _ else _)=_
   cases hc:isB j.bit x with
   |true=>rw[cond_true,cond_true,ih acc (by omega)]
   |false=>rw[cond_false,cond_false,zax zab (by simp;omega) (by omega),cond_true,ih (acc++[x]) (by simp;omega)];simp)) [] (by simp)
 simpa using this
end Go.Ab.Tryz
namespace Go.Ab.Tryz
open Go Go.Ab Go.Proofs Go.Lib
open Pe (dist PeOk)
open Bool renaming and_eq_true->yaB,or_eq_true->yaY
open List renaming getElem?_take->yaM,length_append->yaf,length_map->yaK,mem_cons->yaJ,mem_cons_of_mem->ya3,mem_iff_getElem?->ybN,mem_of_getElem?->yam,nil_append->ya4,take_length->yb9,take_of_length_le->yaN
open Nat renaming le_refl->yag
open Option renaming bind_some->yaa
def btw(a x b:Int):Bool:=decide (x≠a)&&(decide (a=b)||decide (dist a x<dist a b))
theorem zqz(a x b:Int):zgO a x b=some (btw a x b):=zsn (by
 simp only[zj8,Pe.ring_Dist_eq,yaa,zaf,zaq,zac,btw];by_cases h1:x=a<;>by_cases h2:a=b<;>simp[h1,h2]
 all_goals (by_cases h3:x=b<;>simp[h3]))
theorem zjT{a x b:Int}(ha:0<=a/\a<18446744073709551616)(hx:0<=x/\x<18446744073709551616)(hb:0<=b/\b<18446744073709551616):zny a x b=some (btw a x b):=zAU (by
 simp only[zoh,zq1 ha hx hb,zaf,zac,btw,upto,dist];by_cases h1:a=b
 ·subst h1;simp
 ·by_cases h2:x=b
  ·subst h2;simp[h1]
  ·simp[h1,h2]
   first|done|rfl|(congr 1;exact decide_eq_decide.2 Iff.rfl)|(congr 2))
def hLe(me:Peer)(x y:Peer):Bool:=!zqg me.id (y.id,y.addr) (x.id,x.addr)
theorem zmQ{me x y:Peer}:hLe me x y=true<->dist me.id y.id<dist me.id x.id\/(dist me.id x.id=dist me.id y.id/\x.addr<=y.addr):=by
 simp only[hLe,zqg,dist,Bool.not_eq_true',Bool.or_eq_false_iff,Bool.and_eq_false_iff,decide_eq_false_iff_not];omega
def zqf(me:Peer)(l:List Peer):List Peer:=l.mergeSort (hLe me)
theorem zCU:∀{l:List Peer},(∀p,p∈l->PeOk p)->zmK (l.map zad)=some (l.map fun p=>(p.id,p.addr))
 | [],_=>rfl
 |p::l,h=>by
  have hp:=h p (by simp);have ih:=zCU (l:=l) fun q hq=>h q (by simp[hq])
  have e:zx2 (zad p)=some (p.id,p.addr):=by
   show(if 0<=p.id/\p.id<18446744073709551616 then some (p.id,p.addr)else none)=_;exact if_pos hp
  simp only[List.map_cons,zmK,e,ih]
theorem zNO{me:Peer}{l:List Peer}(hl:l.length<=1000000)(ho:∀p,p∈l->PeOk p):xsrt zad me.id l=some (zqf me l):=by
 refine zrA ?_
 show(match zmK (l.map zad)with
  |some l=>if l.length<=1000000 then some ((hopSort me.id l).map zdD)else none
  |none=>none)=_
 rw[zCU ho];simp only[yaK,hl,if_true];congr 1;have hm:(l.mergeSort (hLe me)).map (fun p=>(p.id,p.addr))=(l.map fun p=>(p.id,p.addr)).mergeSort fun x y=>!zqg me.id y x:=List.map_mergeSort (fun a _ b _=>rfl)
 rw[hopSort,<-hm,List.map_map];rfl
def bef(me y p:Peer):Bool:=decide (dist me.id p.id<dist me.id y.id)||(decide (dist me.id y.id=dist me.id p.id)&&decide (y.addr<p.addr))
def posH(me p:Peer):List Peer->Nat
 | []=>0
 |y::r=>if bef me y p=true then posH me p r+1 else 0
def insH(me p:Peer):List Peer->List Peer
 | []=>[p]
 |y::r=>if bef me y p=true then y::insH me p r else p::y::r
theorem zF6(me p:Peer):∀l,posH me p l<=l.length
 | []=>yag _
 |y::r=>by
  have:=zF6 me p r;simp only[posH];split<;>simp<;>omega
theorem zyB(me p:Peer):∀l,l.take (posH me p l)++[p]++l.drop (posH me p l)=insH me p l
 | []=>rfl
 |y::r=>by
  have ih:=zyB me p r;simp only[posH,insH];split
  ·simp only[List.take_succ_cons,List.drop_succ_cons,List.cons_append,ih]
  ·rfl
theorem znX(me p:Peer):∀l,(insH me p l).Perm (p::l)
 | []=>List.Perm.refl _
 |y::r=>by
  simp only[insH];split
  ·exact((znX me p r).cons y).trans (List.Perm.swap p y r)
  ·exact List.Perm.refl _
theorem zwV(me p:Peer):∀{l},l.Pairwise (fun a b=>hLe me a b=true)->(insH me p l).Pairwise (fun a b=>hLe me a b=true)
 | [],_=>by simp[insH]
 |y::r,h=>by
  rw[List.pairwise_cons]at h;simp only[insH];split
  ·rename_i hb;refine List.pairwise_cons.2 ⟨fun z hz=>?_,zwV me p h.2⟩;rcases yaJ.1 ((znX me p r).mem_iff.1 hz)with rfl|hz
   ·rw[zmQ];simp only[bef,yaY,yaB,decide_eq_true_eq]at hb;omega
   ·exact h.1 z hz
  ·rename_i hb
   have hpy:hLe me p y=true:=by
    rw[zmQ];simp only[bef,yaY,yaB,decide_eq_true_eq]at hb;omega
   refine List.pairwise_cons.2 ⟨fun z hz=>?_,List.pairwise_cons.2 h⟩;rcases yaJ.1 hz with rfl|hz
   ·exact hpy
   ·have:=h.1 z hz;rw[zmQ]at *
    omega
def zku(me:Peer)(out cs:List Peer):List Peer:=cs.foldl (fun o p=>insH me p o) out
theorem zuY(me:Peer):∀(cs:List Peer) {out:List Peer},out.Pairwise (fun a b=>hLe me a b=true)->(zku me out cs).Pairwise (fun a b=>hLe me a b=true)/\(zku me out cs).Perm (out++cs)
 | [],out,h=>⟨h,by simp[zku]⟩
 |p::cs,out,h=>by
  obtain⟨h1,h2⟩:=zuY me cs (zwV me p h);refine⟨h1,h2.trans ?_⟩;exact((znX me p out).append_right cs).trans ((List.perm_middle (l₁:=out) (l₂:=cs) (a:=p)).symm)
theorem zHt{me:Peer}(hm:PeOk me){l:List Peer}(ho:∀p,p∈l->PeOk p):zku me [] l=zqf me l:=by
 obtain⟨h1,h2⟩:=zuY me l (out:=[]) List.Pairwise.nil;rw[ya4]at h2
 have h3:(zqf me l).Pairwise (fun a b=>hLe me a b=true):=List.pairwise_mergeSort (fun a b c hab hbc=>by rw[zmQ]at *;omega) (fun a b=>by
  rw[yaY,zmQ,zmQ];omega) l
 have h4:(zqf me l).Perm l:=List.mergeSort_perm l (hLe me);refine List.Perm.eq_of_pairwise (le:=fun a b=>hLe me a b=true) (fun a b ha hb hab hba=>?_) h1 h3 (h2.trans h4.symm);have oa:=ho a (h2.mem_iff.1 ha);have ob:=ho b (h4.mem_iff.1 hb);rw[zmQ]at hab hba;have e1:dist me.id a.id=dist me.id b.id:=by omega
 have e2:a.addr=b.addr:=by omega
 have e3:a.id=b.id:=by
  simp only[dist,PeOk]at *
  omega
 obtain⟨ai,aa⟩:=a;obtain⟨bi,ba⟩:=b;simp only at e2 e3;rw[e2,e3]
def has(l:List Peer)(a:Int):Bool:=l.any fun q=>decide (q.addr=a)
def filt(me:Peer)(key:Int):List Peer->List Peer->List Peer
 |_,[]=>[]
 |pre,p::r=>if has pre p.addr=false/\p.addr≠me.addr/\btw me.id p.id key=true then p::filt me key (pre++[p]) r else filt me key (pre++[p]) r
def zsL(me:Peer)(key:Int):List Peer->List Peer->List Peer
 |_,[]=>[]
 |met,p::r=>if has met p.addr=true\/p.addr=me.addr then zsL me key met r else if btw me.id p.id key=true then p::zsL me key (met++[p]) r else zsL me key (met++[p]) r
def metR(me:Peer):List Peer->List Peer->List Peer
 |met,[]=>met
 |met,p::r=>if has met p.addr=true\/p.addr=me.addr then metR me met r else metR me (met++[p]) r
theorem zwy(l:List Peer)(p:Peer)(a:Int):has (l++[p]) a=(has l a||decide (p.addr=a)):=by simp[has]
theorem zp5(me:Peer)(key:Int):∀(l met pre:List Peer),(∀a,a≠me.addr->has met a=has pre a)->zsL me key met l=filt me key pre l
 | [],_,_,_=>rfl
 |p::r,met,pre,h=>by
  simp only[zsL,filt];by_cases hm:p.addr=me.addr
  ·rw[if_pos (.inr hm),if_neg (fun h=>h.2.1 hm)];refine zp5 me key r met _ fun a ha=>?_
   rw[zwy,h a ha];have:decide (p.addr=a)=false:=by rw[decide_eq_false_iff_not];omega
   rw[this,Bool.or_false]
  ·have hp:=h p.addr hm
   cases hh:has pre p.addr with
   |true=>
    rw[if_pos (.inl (hp.trans hh)),if_neg (fun h=>by cases h.1)];refine zp5 me key r met _ fun a ha=>?_
    rw[zwy,h a ha];by_cases hpa:p.addr=a
    ·rw[<-hpa,hh];rfl
    ·rw[decide_eq_false hpa,Bool.or_false]
   |false=>
    have ih:=zp5 me key r (met++[p]) (pre++[p]) fun a ha=>by rw[zwy,zwy,h a ha]
    rw[if_neg (fun h2=>by rcases h2 with h2|h2;rw[hp,hh]at h2;cases h2;exact hm h2)];by_cases hb:btw me.id p.id key=true
    ·rw[if_pos hb,if_pos ⟨rfl,hm,hb⟩,ih]
    ·rw[if_neg hb,if_neg (fun h=>hb h.2.2),ih]
theorem zsS(me:Peer)(key:Int):∀(l pre:List Peer) (p:Peer),p∈filt me key pre l->p∈l
 | [],_,_,h=>by cases h
 |q::r,pre,p,h=>by
  simp only[filt]at h;split at h
  ·rcases yaJ.1 h with rfl|h
   ·simp
   ·exact ya3 _ (zsS me key r _ p h)
  ·exact ya3 _ (zsS me key r _ p h)
theorem zCs(me:Peer)(key:Int):∀(l pre:List Peer),(filt me key pre l).length<=l.length
 | [],_=>yag _
 |q::r,pre=>by
  have:=zCs me key r (pre++[q]);simp only[filt];split<;>simp<;>omega
theorem zIF{all:List Peer}{n:Nat}{x:Peer}(hx:all[n]?=some x):fstI (fun q=>decide (q.addr=x.addr)) all=(n:Int)<->has (all.take n) x.addr=false:=by
 have hxm:=yam hx;obtain⟨k,hk⟩:=zIG (p:=fun q:Peer=>decide (q.addr=x.addr)) (l:=all) ⟨x,hxm,by simp⟩;obtain⟨y,hy,hpy,hkl,hbe⟩:=zb6 hk;have e:fstI (fun q:Peer=>decide (q.addr=x.addr)) all=(k:Int):=by unfold fstI;rw[hk]
 rw[e];constructor
 ·intro hkn;have hkn:k=n:=by omega
  subst hkn;rw[has,List.any_eq_false];intro q hq;obtain⟨i,hi⟩:=ybN.1 hq;rw[yaM]at hi;split at hi
  ·rename_i hlt;have:=hbe i q hlt hi;simpa using this
  ·cases hi
 ·intro hh;rw[has,List.any_eq_false]at hh;rcases Nat.lt_trichotomy k n with h1|h1|h1
  ·exfalso;have hyt:y∈all.take n:=ybN.2 ⟨k,by rw[yaM,if_pos h1];exact hy⟩;exact hh y hyt hpy
  ·omega
  ·exfalso;have:=hbe n x h1 hx;simp at this
theorem zze{l:List Peer}{id addr:Int}(hl:l.length<=10000):zmH l id addr=some (fstI (fun q=>decide (q.addr=addr)) l):=zxe (by
 have hf:∀x:Peer,zpe x id addr=some (decide (x.addr=addr)):=fun x=>zzs rfl
 have:=zbu zad (l:=l) (by omega) (p:=fun q=>decide (q.addr=addr)) (L:=fun i=>zfV l id addr i) (fun h=>ziu (by simp[zda,h]))
  (fun n x _ h1 h2 hp=>ziu (by simp[zda,h1,h2,hf,hp]))
  (fun n x r _ h1 h2 hp h=>ziu (by simp[zda,h1,h2,hf,hp,h]))
 rw[zli,this];unfold fstI
 cases fst (fun q:Peer=>decide (q.addr=addr)) l<;>rfl)
def allP(l:List Entry)(f:List Finger):List Peer:=Pe.firms l++f.map Finger.peer
def hops(me:Peer)(l:List Entry)(f:List Finger)(key most:Int):List Peer:=(zqf me (filt me key [] (allP l f))).take most.toNat
theorem zII(me:Peer)(l:List Peer):(zqf me l).length=l.length:=List.length_mergeSort ..
theorem zAK{me:Peer}{l:List Entry}{f:List Finger}{key most:Int}(hl:l.length<=1000)(hf:f.length<=1000)(ho:∀p,p∈allP l f->PeOk p)(hmost:most<1000):zsU me l f key most=some (hops me l f key most):=zCu (by
 have hfl:=Pe.firms_le l;rw[zpf,(Pe.some_eq hl).1,yaa]
 have e0:=zaW (σ:=List Peer) zab (l:=f) (by omega) (L:=fun i s=>zkM me f key most i s) (res:=fun _ s rest=>s++rest.map Finger.peer) (Inv:=fun n s=>s.length<=(Pe.firms l).length+n)
  (fun s _ h=>zqd (by rw[ziw,h];simp))
  (fun n x rest s hi hn hx hd h1 h2 h3 ih=>zqd (by
   rw[ziw,h1,h2,cond_true,yaa,zax zad (by simp;omega) (by omega),cond_true,h3,ih _ (by simp;omega)]
   simp)) (Pe.firms l) (by omega)
 rw[e0,yaa];show((zc0 me key most (allP l f) (xlen zad (allP l f)) 0 (allP l f) []).bind _)=_;have hal:(allP l f).length<=2000:=by simp only[allP,yaf,yaK];omega
 have e1:=zaW (σ:=List Peer) zad (l:=allP l f) (by omega) (L:=fun i s=>zc0 me key most (allP l f) (xlen zad (allP l f)) i (allP l f) s)
  (res:=fun n s rest=>(allP l f,s++filt me key ((allP l f).take n) rest)) (Inv:=fun n s=>s.length<=n)
  (fun s _ h=>zqe (by rw[zix,h];simp[filt]))
  (fun n x rest s hi hn hx hd h1 h2 h3 ih=>zqe (by
   have ht:(allP l f).take (n+1)=(allP l f).take n++[x]:=by rw[List.take_add_one,hx];rfl
   rw[zix,h1,h2,cond_true,yaa,zze (by omega),yaa,h3,zaf,zac];have hfi:=zIF hx;simp only[filt];by_cases c1:has ((allP l f).take n) x.addr=false
   ·rw[if_pos (hfi.2 c1),zaf,zac];by_cases c2:x.addr=me.addr
    ·rw[if_pos c2,if_neg (fun h=>h.2.1 c2),ih s (by omega),ht]
    ·rw[if_neg c2,zqz,yaa]
     cases c3:btw me.id x.id key with
     |true=>
      rw[cond_true,zax zad (by simp;omega) (by omega),cond_true,if_pos ⟨c1,c2,rfl⟩,ih _ (by simp;omega),ht]
      simp
     |false=>
      rw[cond_false,if_neg (fun h=>by cases h.2.2),ih s (by omega),ht]
   ·rw[if_neg (fun h=>c1 (hfi.1 h)),if_neg (fun h=>c1 h.1),ih s (by omega),ht])) [] (by simp)
 rw[e1,yaa];dsimp only;rw[ya4,List.take_zero];have hfo:∀p,p∈filt me key [] (allP l f)->PeOk p:=fun p hp=>ho p (zsS me key _ _ p hp)
 have hfl2:=zCs me key (allP l f) [];rw[zNO (by omega) hfo,yaa,hops];have hsl:=zII me (filt me key [] (allP l f));obtain⟨q,hq⟩:∃q,zqf me (filt me key [] (allP l f))=q:=⟨_,rfl⟩
 rw[hq]at hsl⊢;rw[zaq,zac,zav,zaq,zac,zaq,zac];by_cases c1:most<0
 ·rw[if_pos c1,show most.toNat=0 by omega,List.take_zero];by_cases c2:(0:Int)<(q.length:Int)
  ·rw[if_pos c2,show xsub zad q 0 0=some (q.take 0)from zfQ q 0 (Nat.zero_le _)];rfl
  ·rw[if_neg c2,zfQ q _ (yag _),yb9];have:q=[]:=List.eq_nil_of_length_eq_zero (by omega);rw[this];rfl
 ·rw[if_neg c1];by_cases c2:most<(q.length:Int)
  ·rw[if_pos c2];obtain⟨m,rfl⟩:∃m:Nat,most=(m:Int):=⟨most.toNat,by omega⟩
   rw[zfQ q m (by omega)];rfl
  ·rw[if_neg c2,zfQ q _ (yag _),yb9,yaa,yaN (by omega)])
theorem zDb{l:List Peer}{a:Int}(hl:l.length<=10000):zvp l a=some (has l a):=zEr (by
 have:=zaW (σ:=Unit) zad (l:=l) (by omega) (L:=fun i _=>zl8 l a i) (res:=fun _ _ rest=>bif has rest a then .inl ()else .inr ()) (Inv:=fun _ _=>True)
  (fun _ _ h=>zsl (by rw[zjX,h];rfl))
  (fun n x rest s _ hn hx hd h1 h2 h3 ih=>zsl (by
   rw[zjX,h1,h2,cond_true,yaa,zaf,zac,h3];by_cases c:x.addr=a
   ·rw[if_pos c];simp[has,c]
   ·rw[if_neg c,ih () trivial];simp[has,c])) () trivial
 rw[zra,this,yaa]
 cases has l a<;>rfl)
theorem zKO{me p:Peer}{key most i:Int}{out r2 r3:List Peer}(hm:PeOk me)(ho:∀q,q∈out->PeOk q)(hl:out.length<=10000):
  zik me key most out i 0 (dist me.id p.id) r2 r3 p.id p.addr=some (out,i,(posH me p out:Int),r2,r3,p.id,p.addr):=by
 have:=zaW (σ:=Unit) zad (l:=out) (by omega) (L:=fun k _=>zik me key most out i k (dist me.id p.id) r2 r3 p.id p.addr) (res:=fun n _ rest=>(out,i,((n+posH me p rest:Nat):Int),r2,r3,p.id,p.addr)) (Inv:=fun _ _=>True)
  (fun _ _ h=>zt6 (by rw[zkU,h];rfl))
  (fun n x rest s _ hn hx hd h1 h2 h3 ih=>zt6 (by
   have hxo:=ho x (yam hx);rw[zkU,h1,h2,cond_true,yaa,Pe.r03_Dist_eq hm.1 hm.2 hxo.1 hxo.2,yaa,zaq,zac,zaf,zac,zaq,zac,h3];have ihh:=ih () trivial
   (try dsimp only at ihh)
   have e:((n+1+posH me p rest:Nat):Int)=((n+(posH me p rest+1):Nat):Int):=by omega
   rw[e]at ihh;simp only[posH,bef,yaY,yaB,decide_eq_true_eq];by_cases c1:dist me.id p.id<dist me.id x.id
   ·rw[if_pos c1,if_pos (.inl c1)];exact ihh
   ·rw[if_neg c1];by_cases c2:dist me.id x.id=dist me.id p.id
    ·rw[if_pos c2];by_cases c3:x.addr<p.addr
     ·rw[if_pos c3,if_pos (.inr ⟨c2,c3⟩)];exact ihh
     ·rw[if_neg c3,if_neg (by omega)];rfl
    ·rw[if_neg c2,if_neg (by omega)];rfl)) () trivial
 simpa using this
theorem zJb{me p:Peer}{key most i:Int}{out r2 r3:List Peer}(hm:PeOk me)(hp:PeOk p)(hk:0<=key/\key<18446744073709551616)(ho:∀q,q∈out->PeOk q)(hl:out.length<=5000)(h3:r3.length<=5000):
  zq9 me key most out i r2 r3 p.id p.addr=some (if btw me.id p.id key=true then .inl (insH me p out,i,r2,r3++[p],p.id,p.addr)else .inr (out,i,r2,r3++[p],p.id,p.addr)):=zAY (by
 have hpl:=zF6 me p out;rw[zom,zax zad (by simp;omega) (by omega),cond_true,zjT hm hp hk,yaa];have ep:(⟨p.id,p.addr⟩:Peer)=p:=rfl;rw[ep]
 cases hb:btw me.id p.id key with
 |false=>rfl
 |true=>
  rw[cond_true,Pe.r03_Dist_eq hm.1 hm.2 hp.1 hp.2,yaa,zKO hm ho (by omega),yaa];dsimp only
  have hxd:xsub zad out ((posH me p out:Nat):Int) (xlen zad out)=some (out.drop (posH me p out)):=by
   rw[zfc,zav,if_pos (by omega)];simp
  rw[zfQ out _ hpl,yaa,zax zad (by simp;omega) (by omega),cond_true,zax zad (by simp;omega) (by omega),cond_true,hxd,yaa,zax zad (by simp;omega) (by omega),cond_true,ep,zyB]
  rfl)
theorem zKn(me p:Peer)(l:List Peer):(insH me p l).length=l.length+1:=by rw[(znX me p l).length_eq];rfl
theorem zEq{me:Peer}{l:List Entry}{f:List Finger}{key most:Int}(hl:l.length<=1000)(hf:f.length<=1000)(hm:PeOk me)(hk:0<=key/\key<18446744073709551616)(ho:∀p,p∈allP l f->PeOk p):zxB me l f key most=some (hops me l f key most):=zG3 (by
 have hfl:=Pe.firms_le l;rw[ztp,(Pe.some_eq hl).2.1,yaa]
 have e0:=zaW (σ:=List Peer) zab (l:=f) (by omega) (L:=fun i s=>znC me f key most i s) (res:=fun _ s rest=>s++rest.map Finger.peer) (Inv:=fun n s=>s.length<=(Pe.firms l).length+n)
  (fun s _ h=>zt5 (by rw[zkT,h];simp))
  (fun n x rest s hi hn hx hd h1 h2 h3 ih=>zt5 (by
   rw[zkT,h1,h2,cond_true,yaa,zax zad (by simp;omega) (by omega),cond_true,h3,ih _ (by simp;omega)]
   simp)) (Pe.firms l) (by omega)
 rw[e0,yaa];show((zer me key most [] 0 (allP l f) []).bind _)=_;have hal:(allP l f).length<=2000:=by simp only[allP,yaf,yaK];omega
 have e1:=zaW (σ:=List Peer×List Peer) zad (l:=allP l f) (by omega) (L:=fun i s=>zer me key most s.1 i (allP l f) s.2)
  (res:=fun n s rest=>(zku me s.1 (zsL me key s.2 rest),allP l f,metR me s.2 rest)) (Inv:=fun n s=>s.1.length<=n/\s.2.length<=n/\∀q,q∈s.1->PeOk q)
  (fun s _ h=>zt7 (by rw[zkV,h];rfl))
  (fun n x rest s hi hn hx hd h1 h2 h3 ih=>zt7 (by
   obtain⟨hi1,hi2,hi3⟩:=hi;have hxo:=ho x (yam hx);rw[zkV,h1,h2,cond_true,yaa,zDb (by omega),yaa,h3];simp only[zsL,metR]
   cases c1:has s.2 x.addr with
   |true=>rw[cond_true,if_pos (.inl rfl),if_pos (.inl rfl)];exact ih s ⟨by omega,by omega,hi3⟩
   |false=>
    rw[cond_false,zaf,zac];by_cases c2:x.addr=me.addr
    ·rw[if_pos c2,if_pos (.inr c2),if_pos (.inr c2)];exact ih s ⟨by omega,by omega,hi3⟩
    ·have hno:¬(false=true\/x.addr=me.addr):=fun h=>h.elim (fun h=>by cases h) c2
     rw[if_neg c2,if_neg hno,if_neg hno,zJb hm hxo hk hi3 (by omega) (by omega),yaa];by_cases c3:btw me.id x.id key=true
     ·rw[if_pos c3,if_pos c3];dsimp only;rw[h3]
      exact ih (insH me x s.1,s.2++[x]) ⟨by rw[zKn];omega,by simp;omega,fun q hq=>by
       rcases yaJ.1 ((znX me x s.1).mem_iff.1 hq)with rfl|hq
       ·exact hxo
       ·exact hi3 q hq⟩
     ·rw[if_neg c3,if_neg c3];dsimp only;rw[h3]
      exact ih (s.1,s.2++[x]) ⟨by show s.1.length<=_;omega,by simp;omega,hi3⟩)) ([],[]) ⟨by simp,by simp,fun q hq=>by cases hq⟩
 dsimp only at e1;rw[e1,yaa];dsimp only;have hfo:∀p,p∈filt me key [] (allP l f)->PeOk p:=fun p hp=>ho p (zsS me key _ _ p hp)
 rw[zp5 me key (allP l f) [] [] (fun _ _=>rfl),zHt hm hfo,hops];obtain⟨q,hq⟩:∃q,zqf me (filt me key [] (allP l f))=q:=⟨_,rfl⟩
 rw[hq,zaq,zac,zav,zaq,zac];by_cases c1:most<0
 ·rw[if_pos c1,show most.toNat=0 by omega,List.take_zero]
 ·rw[if_neg c1];by_cases c2:most<(q.length:Int)
  ·rw[if_pos c2];obtain⟨m,rfl⟩:∃m:Nat,most=(m:Int):=⟨most.toNat,by omega⟩
   rw[zfQ q m (by omega)];rfl
  ·rw[if_neg c2,yaN (by omega)])
end Go.Ab.Tryz
namespace Go.Ab.Tryz
open Go Go.Ab Go.Proofs Go.Lib
open Pe (dist PeOk EnOk)
open Bool renaming false_or->ybC
open Go.Ab.Ops renaming std->yac
open List renaming mem_append->yal,mem_of_getElem?->yam,nil_append->ya4
open Nat renaming zero_le->yaP
open Option renaming bind_some->yaa,map_eq_some_iff->yap,map_some->yb0
structure NOk(n:Node):Prop where
 me:PeOk n.me
 pred:EnOk n.pred
 list:EnOk n.list
 fingers:∀x,x∈n.fingers->PeOk x.peer
theorem zCw{l:List Entry}(h:EnOk l):∀p,p∈Pe.firms l->PeOk p:=fun p hp=>by
 unfold Pe.firms at hp;obtain⟨x,hx,hpx⟩:=List.mem_flatMap.1 hp;cases hb:yac.ile x.misses 0<;>rw[hb]at hpx
 ·cases hpx
 ·simp only[cond_true,List.mem_singleton]at hpx;subst hpx;exact h x hx
theorem zER{n:Node}(h:NOk n):∀p,p∈allP n.list n.fingers->PeOk p:=fun p hp=>by
 rcases yal.1 hp with hp|hp
 ·exact zCw h.list p hp
 ·obtain⟨x,hx,rfl⟩:=List.mem_map.1 hp;exact h.fingers x hx
def ze4(n:Node)(key:Int):Bool:=match n.pred with
 | []=>false
 |x::_=>decide (x.misses<=0)&&upto x.peer.id key n.me.id
theorem zyY(n:Node)(key:Int):zpI n key=some (ze4 n key):=zzW (by
 rw[znj,zav,zaq,zac,ze4]
 cases hp:n.pred with
 |nil=>rfl
 |cons x r=>
  rw[if_pos (by simp<;>omega),show(0:Int)=((0:Nat):Int)from rfl,zaO];show(bif yac.ile x.misses 0 then zlN x.peer.id key n.me.id else some false)=_;rw[za4,zac,zvJ]
  by_cases c:x.misses<=0<;>simp[c])
def zs1(n:Node)(key:Int):Peer×List Peer×Bool:=if(hops n.me n.list n.fingers key 4).length=0 then(n.me,[],true)else(⟨0,0⟩,hops n.me n.list n.fingers key 4,false)
def zfx(n:Node)(key:Int):Peer×List Peer×Bool:=match Pe.firms n.list with
 | []=>(n.me,[],true)
 |f::_=>if key=n.me.id then(n.me,[],true)else if upto n.me.id key f.id=true then(f,[],true)else if ze4 n key=true then(n.me,[],true)else zs1 n key
theorem zul{n:Node}{key:Int}(h:Sz n)(ok:NOk n):ztH n key=some (zfx n key):=zDk (by
 have hl:=h.list;rw[zpH,(Pe.some_eq hl).1,yaa,zav,zaf,zac,zaf,zac,zfx]
 cases hf:Pe.firms n.list with
 |nil=>rfl
 |cons f r=>
  rw[if_neg (by simp<;>omega)];dsimp only;by_cases c1:key=n.me.id
  ·rw[if_pos c1,if_pos c1]
  ·rw[if_neg c1,if_neg c1]
   have e:zoz n key (f::r)=some (if upto n.me.id key f.id=true then .inl (f.id,f.addr,f::r)else if ze4 n key=true then .inl (n.me.id,n.me.addr,f::r)else if(hops n.me n.list n.fingers key 4).length=0 then .inl (n.me.id,n.me.addr,f::r)else .inr (hops n.me n.list n.fingers key 4,f::r)):=zyX (by
    rw[zmm,show(0:Int)=((0:Nat):Int)from rfl,zaO];show(zlN n.me.id key f.id).bind _=_;rw[zvJ,yaa,zyY,yaa,zAK hl h.fingers (zER ok) (by omega),yaa,zav,zaq];cases upto n.me.id key f.id
    ·cases ze4 n key
     ·by_cases c:(hops n.me n.list n.fingers key 4).length=0
      ·rw[decide_eq_false (by omega)];simp[c]
      ·rw[decide_eq_true (by omega)];simp[c]
     ·rfl
    ·rfl)
   rw[e,yaa,zs1];by_cases c2:upto n.me.id key f.id=true
   ·rw[if_pos c2,if_pos c2]
   ·rw[if_neg c2,if_neg c2];by_cases c3:ze4 n key=true
    ·rw[if_pos c3,if_pos c3]
    ·rw[if_neg c3,if_neg c3];by_cases c4:(hops n.me n.list n.fingers key 4).length=0
     ·rw[if_pos c4,if_pos c4]
     ·rw[if_neg c4,if_neg c4])
theorem zEv{n:Node}{key:Int}(h:Sz n)(ok:NOk n)(hk:0<=key/\key<18446744073709551616):zxF n key=some (zfx n key):=zHe (by
 have hl:=h.list;have hfo:=zCw ok.list;rw[zty,(Pe.some_eq hl).2.1,yaa,zav,zaf,zac,zaf,zac,zfx]
 cases hf:Pe.firms n.list with
 |nil=>rfl
 |cons f r=>
  rw[hf]at hfo;have hfp:=hfo f (by simp);rw[if_neg (by simp<;>omega)];dsimp only;by_cases c1:key=n.me.id
  ·rw[if_pos c1,if_pos c1]
  ·rw[if_neg c1,if_neg c1]
   have e0:zim n key (f::r)=some (if(hops n.me n.list n.fingers key 4).length=0 then .inl (f::r)else .inr (hops n.me n.list n.fingers key 4,f::r)):=zA9 (by
    rw[zou,zEq hl h.fingers ok.me hk (zER ok),yaa,zav,zaf,zac];by_cases c:(hops n.me n.list n.fingers key 4).length=0
    ·rw[if_pos (by omega),if_pos c]
    ·rw[if_neg (by omega),if_neg c])
   obtain⟨w,hw,hwz⟩:∃w,zim n key (f::r)=some w/\(match w with| .inl _=>((n.me,[],true):Peer×List Peer×Bool)| .inr (t,_)=>(⟨0,0⟩,t,false))=zs1 n key:=by
    by_cases c:(hops n.me n.list n.fingers key 4).length=0
    ·exact⟨.inl (f::r),by rw[e0,if_pos c],by rw[zs1,if_pos c]⟩
    ·exact⟨.inr (hops n.me n.list n.fingers key 4,f::r),by rw[e0,if_neg c],by rw[zs1,if_neg c]⟩
   have e:∃z,zrh n key (f::r)=some z/\(match z with| .inl (a,b,_)=>((⟨a,b⟩,[],true):Peer×List Peer×Bool)| .inr (t,_)=>(⟨0,0⟩,t,false))=(if upto n.me.id key f.id=true then(f,[],true)else if ze4 n key=true then(n.me,[],true)else zs1 n key):=by
    refine Exists.elim (?_:∃z,zk0 n key (f::r)=some z/\_) fun z hz=>⟨z,zBa hz.1,hz.2⟩
    have hx0:xget zad (f::r) 0=some f:=zaO zad (f::r) 0;rw[zk0,hx0,yaa,zq1 ok.me hk hfp,yaa]
    cases hu:upto n.me.id key f.id with
    |true=>exact⟨_,rfl,rfl⟩
    |false=>
     rw[cond_false,hw,yaa,if_neg (by simp),zav,zaq,zac]
     cases hp:n.pred with
     |nil=>
      have hb:ze4 n key=false:=by rw[ze4,hp]
      rw[if_neg (by simp),hb,if_neg (by simp)]
      rcases w with a|⟨t,b⟩<;>exact⟨_,rfl,hwz⟩
     |cons x rr=>
      have hb:ze4 n key=(decide (x.misses<=0)&&upto x.peer.id key n.me.id):=by rw[ze4,hp]
      have hxo:=ok.pred x (by rw[hp];simp);have hx1:xget zaa (x::rr) 0=some x:=zaO zaa (x::rr) 0;rw[if_pos (by simp<;>omega),hx1,yaa,zaq,zac];by_cases c2:x.misses<1
      ·rw[decide_eq_true (by omega:x.misses<=0),Bool.true_and]at hb;rw[if_pos c2,zq1 hxo hk ok.me,yaa,hb]
       cases upto x.peer.id key n.me.id with
       |true=>exact⟨_,rfl,rfl⟩
       |false=>
        rw[cond_false,if_neg (by simp)];rcases w with a|⟨t,b⟩<;>exact⟨_,rfl,hwz⟩
      ·rw[decide_eq_false (by omega:¬x.misses<=0),Bool.false_and]at hb;rw[if_neg c2,hb,if_neg (by simp)];rcases w with a|⟨t,b⟩<;>exact⟨_,rfl,hwz⟩
   obtain⟨z,hz,hzz⟩:=e;rw[hz,yaa,<-hzz]
   rcases z with⟨a,b,c⟩|⟨a,b⟩<;>rfl)
def jAt(j:Job)(to_:Peer):Job:=⟨j.id,j.kind,j.bit,j.key,j.val,j.target,j.via,to_,j.doing,j.hops,j.tries,j.due⟩
def jDo(j:Job)(b:Bool):Job:=⟨j.id,j.kind,j.bit,j.key,j.val,j.target,j.via,j.at_,b,j.hops,j.tries,j.due⟩
def jHop(j:Job)(h:Int):Job:=⟨j.id,j.kind,j.bit,j.key,j.val,j.target,j.via,j.at_,j.doing,h,j.tries,j.due⟩
def zjM(j:Job)(h:Int):Job:=⟨j.id,j.kind,j.bit,j.key,j.val,j.target,j.via,j.at_,false,h,j.tries,j.due⟩
def jTry(j:Job)(t:Int):Job:=⟨j.id,j.kind,j.bit,j.key,j.val,j.target,j.via,j.at_,j.doing,j.hops,t,j.due⟩
def goM(j:Job):Msg:=⟨1,0,0,false,j.target,⟨#[]⟩,⟨#[]⟩,⟨0,0⟩,[],[]⟩
def actM(j:Job):Msg:=if j.kind=2 then⟨7,0,0,false,0,j.key,j.val,⟨0,0⟩,[],[]⟩else if j.kind=3 then⟨8,0,0,false,0,j.key,⟨#[]⟩,⟨0,0⟩,[],[]⟩else⟨3,0,0,false,0,⟨#[]⟩,⟨#[]⟩,⟨0,0⟩,[],[]⟩
def zhk(n:Node)(j:Job)(to_:Peer):Node×List Out:=askN (setN n (jAt j to_)) to_ (goM j) 4 j.id
def actN(n:Node)(j:Job)(to_:Peer):Node×List Out:=askN (setN n (jAt (jDo j true) to_)) to_ (actM j) 5 j.id
def endL(n:Node)(j:Job)(owner:Peer):Node×List Out:=
 if j.kind=1 then actN n j j.via else
 if j.kind=2 then(if(zcO n j.key j.val).2.2=0 then(zay (zcO n j.key j.val).1 j.id true j.val 0,(zcO n j.key j.val).2.1)else(zay n j.id false ⟨#[]⟩ (zcO n j.key j.val).2.2,[]))else
 if j.kind=3 then(zay n j.id (getP n.store j.key).2 (getP n.store j.key).1 0,[])else
 if owner.addr=n.me.addr then(zay (zd3 n (drpF j.bit n.fingers)) j.id false ⟨#[]⟩ 0,[])else
 (zay (zd3 n (setF n.fingers j.bit owner)) j.id false ⟨#[]⟩ 0,[])
def endN(n:Node)(j:Job)(owner:Peer):Node×List Out:=
 if owner.addr≠n.me.addr/\j.kind≠4 then actN n j owner else endL (setN n j) j owner
def zk9(n:Node)(j:Job):Node×List Out:=
 if j.kind=1 then zhk n (zjM j 0) j.via else
 if(zfx n j.target).2.2=true then endN n (zjM j 0) (zfx n j.target).1 else
 match(zfx n j.target).2.1 with
 | []=>(n,[])
 |x::_=>zhk n (zjM j 1) x
def zdp(n:Node)(j:Job)(why:Int):Node×List Out:=
 if j.kind=1 then(setN n (jDo j false),[])else
 if j.kind=4\/3<=j.tries then(zay n j.id false ⟨#[]⟩ why,[])else
 zk9 n (jTry j (if j.tries<0 then 1 else j.tries+1))
def near(n:Node)(j:Job)(p:Peer):Bool:=!decide (p.addr=n.me.addr)&&btw j.at_.id p.id j.target
def znw(n:Node)(j:Job)(l:List Peer):Node×List Out:=
 match l.find? (near n j)with
 |none=>zdp n j 15
 |some p=>if j.hops<64 then zhk n (jHop j (if j.hops<0 then 1 else j.hops+1)) p else if j.kind=1 then zdp n j 19 else(zay n j.id false ⟨#[]⟩ 19,[])
structure JOk(j:Job):Prop where
 target:0<=j.target/\j.target<18446744073709551616
 at_:PeOk j.at_
 key:j.key.size<1000000
theorem znM{n:Node}{j:Job}{to_:Peer}(h:Sz n):zjn n j to_=some (zhk n j to_):=zHj (by
 show(zgF n (jAt j to_)).bind _=_
 rw[zen h,yaa,zjY (zeA h _)];rfl)
theorem zyS{n:Node}{j:Job}{to_:Peer}(h:Sz n):zwH n j to_=some (actN n j to_):=zJi (by
 have s0:∀(k:Int) (key val:ByteArray),zoT n j to_ k key val=some (if j.kind=3 then((askN (setN n (jAt (jDo j true) to_)) to_ ⟨8,0,0,false,0,j.key,⟨#[]⟩,⟨0,0⟩,[],[]⟩ 5 j.id).2,(askN (setN n (jAt (jDo j true) to_)) to_ ⟨8,0,0,false,0,j.key,⟨#[]⟩,⟨0,0⟩,[],[]⟩ 5 j.id).1,8,j.key,⟨#[]⟩)
   else((askN (setN n (jAt (jDo j true) to_)) to_ ⟨k,0,0,false,0,key,val,⟨0,0⟩,[],[]⟩ 5 j.id).2,(askN (setN n (jAt (jDo j true) to_)) to_ ⟨k,0,0,false,0,key,val,⟨0,0⟩,[],[]⟩ 5 j.id).1,k,key,val)):=fun k key val=>zDe (by
  show(bif yac.ieq j.kind 3 then(zgF n (jAt (jDo j true) to_)).bind _ else(zgF n (jAt (jDo j true) to_)).bind _)=_;rw[zen h,yaa,yaa,zjY (zeA h _),zjY (zeA h _),zaf,zac]
  split<;>rfl)
 rw[zvz,s0,s0,zaf,zac];unfold actN actM;by_cases c2:j.kind=2
 ·rw[if_pos c2,if_pos c2,if_neg (by omega)];rfl
 ·rw[if_neg c2,if_neg c2];by_cases c3:j.kind=3
  ·rw[if_pos c3,if_pos c3];rfl
  ·rw[if_neg c3,if_neg c3];rfl)
theorem zby{n:Node}{j:Job}{has:Bool}{val:ByteArray}{e:Int}(h:Sz n):zbv n j has val e=some (zay n j.id has val e):=zDf (zA5 h)
theorem znq{n:Node}(h:Sz n){l:List Finger}(hl:l.length<=1000):Sz (zd3 n l):=⟨h.pred,h.list,hl,h.store,h.pends,h.jobs,h.results⟩
def prE:zmi->Node×List Out
 | .inl (o,_,n)=>(n,o)
 | .inr (.inl (_,n,_))=>(n,[])
 | .inr (.inr (.inl (_,n)))=>(n,[])
 | .inr (.inr (.inr (_,n)))=>(n,[])
theorem zBf{n:Node}{j:Job}{owner:Peer}(h:Sz n)(hf:n.fingers.length<=900)(hk:j.key.size<1000000):∃z,zmh n j owner=some z/\prE z=endL (setN n j) j owner:=by
 have hs:=zeA h j;have hfs:(setN n j).fingers.length<=900:=hf;unfold endL;by_cases c1:j.kind=1
 ·refine⟨_,zgN (by rw[zdF,zen h,yaa,zaf,zac,if_pos c1,zyS hs,yaa]),?_⟩;rw[if_pos c1];rfl
 by_cases c2:j.kind=2
 ·rw[if_neg c1,if_pos c2];by_cases c0:(zcO (setN n j) j.key j.val).2.2=0
  ·refine⟨_,zgN (by rw[zdF,zen h,yaa,zaf,zac,if_neg c1,zaf,zac,if_pos c2,zw0 hs hk,yaa];dsimp only;rw[zaf,zac,if_pos c0,zby (zzz hs).1,yaa]),?_⟩;rw[if_pos c0];rfl
  ·refine⟨_,zgN (by rw[zdF,zen h,yaa,zaf,zac,if_neg c1,zaf,zac,if_pos c2,zw0 hs hk,yaa];dsimp only;rw[zaf,zac,if_neg c0,zby hs,yaa]),?_⟩;rw[if_neg c0];rfl
 by_cases c3:j.kind=3
 ·rw[if_neg c1,if_neg c2,if_pos c3];refine⟨_,zgN (by rw[zdF,zen h,yaa,zaf,zac,if_neg c1,zaf,zac,if_neg c2,zaf,zac,if_pos c3,(zCz (l:=(setN n j).store) (key:=j.key) (by have:=hs.store;omega)).2,yaa];dsimp only;rw[zby hs,yaa]),?_⟩;rfl
 rw[if_neg c1,if_neg c2,if_neg c3];by_cases c4:owner.addr=(setN n j).me.addr
 ·rw[if_pos c4]
  refine⟨_,zgN (by
   rw[zdF,zen h,yaa,zaf,zac,if_neg c1,zaf,zac,if_neg c2,zaf,zac,if_neg c3,zaf,zac,if_pos c4,zBe (by omega),yaa];show(zbv (zd3 (setN n j) (drpF j.bit (setN n j).fingers)) j false ⟨#[]⟩ 0).bind _=_
   rw[zby (znq hs (by have:=zzo j.bit (setN n j).fingers;omega)),yaa]),?_⟩
  rfl
 ·rw[if_neg c4]
  refine⟨_,zgN (by
   rw[zdF,zen h,yaa,zaf,zac,if_neg c1,zaf,zac,if_neg c2,zaf,zac,if_neg c3,zaf,zac,if_neg c4,zG5 (by omega),yaa];show(zbv (zd3 (setN n j) (setF (setN n j).fingers j.bit owner)) j false ⟨#[]⟩ 0).bind _=_
   rw[zby (znq hs (by have:=zxN (setN n j).fingers j.bit owner;omega)),yaa]),?_⟩
  rfl
theorem zyT{n:Node}{j:Job}{owner:Peer}(h:Sz n)(hf:n.fingers.length<=900)(hk:j.key.size<1000000):zwI n j owner=some (endN n j owner):=zJj (by
 obtain⟨z,h1,h2⟩:=zBf (owner:=owner) h hf hk
 have e:(zmh n j owner).bind (fun r=>match r with
   | .inl (t7,b0,b3)=>some (b3,t7)
   | .inr (.inl (b0,b3,b5))=>some (b3,[])
   | .inr (.inr (.inl (b0,b3)))=>some (b3,[])
   | .inr (.inr (.inr (b0,b3)))=>some (b3,[]))=some (endL (setN n j) j owner):=by
  rw[h1,yaa,<-h2];rcases z with⟨a,b,c⟩|⟨a,b,c⟩|⟨a,b⟩|⟨a,b⟩<;>rfl
 rw[zvB,zaf,zac,zaf,zac];unfold endN;by_cases c1:owner.addr=n.me.addr
 ·rw[if_pos c1,if_neg (fun hh=>hh.1 c1)];exact e
 ·rw[if_neg c1];by_cases c4:j.kind=4
  ·rw[if_pos c4,if_neg (fun hh=>hh.2 c4)];exact e
  ·rw[if_neg c4,if_pos ⟨c1,c4⟩];exact zyS h)
theorem zy4{n:Node}{key:Int}(h:(zfx n key).2.2=false):∃x r,(zfx n key).2.1=x::r:=by
 unfold zfx at h⊢;split at h
 ·cases h
 ·rename_i f r hf
  try dsimp only
  by_cases c1:key=n.me.id
  ·rw[if_pos c1]at h;cases h
  rw[if_neg c1]at h⊢;by_cases c2:upto n.me.id key f.id=true
  ·rw[if_pos c2]at h;cases h
  rw[if_neg c2]at h⊢;by_cases c3:ze4 n key=true
  ·rw[if_pos c3]at h;cases h
  rw[if_neg c3]at h⊢;unfold zs1 at h⊢;by_cases c4:(hops n.me n.list n.fingers key 4).length=0
  ·rw[if_pos c4]at h;cases h
  rw[if_neg c4]
  cases hh:hops n.me n.list n.fingers key 4 with
  |nil=>rw[hh]at c4;exact absurd rfl c4
  |cons x r=>exact⟨x,r,rfl⟩
theorem zw1{n:Node}{j:Job}(h:Sz n)(ok:NOk n)(hf:n.fingers.length<=900)(hj:JOk j):znf n j=some (zk9 n j):=zHk (by
 rw[ztD,zaf,zac];unfold zk9;by_cases c1:j.kind=1
 ·rw[if_pos c1,if_pos c1];exact znM (j:=zjM j 0) h
 rw[if_neg c1,if_neg c1,zEv h ok hj.target,yaa]
 cases hb:(zfx n j.target).2.2 with
 |true=>
  obtain⟨⟨o,l,b⟩,hq⟩:∃z,zfx n j.target=z:=⟨_,rfl⟩
  rw[hq]at hb⊢;dsimp only at hb⊢
  rw[hb,cond_true,if_pos rfl];exact zyT (j:=zjM j 0) h hf hj.key
 |false=>
  obtain⟨x,r,hx⟩:=zy4 hb;obtain⟨⟨o,l,b⟩,hq⟩:∃z,zfx n j.target=z:=⟨_,rfl⟩
  rw[hq]at hb hx⊢;dsimp only at hb hx⊢;rw[hb,cond_false,if_neg (by simp),hx,show(0:Int)=((0:Nat):Int)from rfl,zaO]
  exact znM (j:=zjM j 1) h)
theorem zwB{j:Job}(h:JOk j)(t:Int):JOk (jTry j t):=⟨h.target,h.at_,h.key⟩
theorem znL{n:Node}{j:Job}{why:Int}(h:Sz n)(ok:NOk n)(hf:n.fingers.length<=900)(hj:JOk j):zne n j why=some (zdp n j why):=zHi (by
 have s0:¬3<=j.tries->∃a,zrl n j=some ((zk9 n (jTry j (if j.tries<0 then 1 else j.tries+1))).2,a,(zk9 n (jTry j (if j.tries<0 then 1 else j.tries+1))).1):=fun h3=>by
  by_cases c0:j.tries<0
  ·refine⟨_,zui (by
    rw[zk6,zaq,zac,if_pos c0];show(znf n (jTry j 1)).bind _=_
    rw[zw1 h ok hf (zwB hj 1),yaa,if_pos c0])⟩
  ·refine⟨_,zui (by
    rw[zk6,zaq,zac,if_neg c0,znu (a:=j.tries) (b:=1) (by omega) (by omega)];show(znf n (jTry j (j.tries+1))).bind _=_
    rw[zw1 h ok hf (zwB hj _),yaa,if_neg c0])⟩
 rw[ztC,zaf,zac,zaf,zac,za4,zac];unfold zdp;by_cases c1:j.kind=1
 ·rw[if_pos c1,if_pos c1];show(zgF n (jDo j false)).bind _=_;rw[zen h];rfl
 rw[if_neg c1,if_neg c1];by_cases c4:j.kind=4
 ·rw[if_pos c4,if_pos (.inl c4),zby h];rfl
 rw[if_neg c4];by_cases c3:3<=j.tries
 ·rw[if_pos c3,if_pos (.inr c3),zby h];rfl
 ·obtain⟨a,ha⟩:=s0 c3
  rw[if_neg c3,if_neg (by omega),ha];rfl)
theorem zxc{n:Node}{j:Job}{o:List Out}(h:Sz n):zfb n j o=some (setN n j,n.fingers):=zzc (by
 rw[zmD,zwW h];rfl)
theorem zv0{n:Node}{j:Job}{o:List Out}(h:Sz n):zd7 n j o=some (setN n j,n.fingers):=zwQ (by
 rw[zkr,zwW h];rfl)
theorem zpV{m n:Node}{j:Job}{o more:List Out}(ho:o.length<=1000)(hm:more.length<=1000):zg5 m more n j o=some (n.fingers,o++more):=zxY (by
 rw[zlC,zax eOut (by omega) (by omega)];rfl)
theorem zBp{m n:Node}{j:Job}{o more:List Out}(ho:o.length<=1000)(hm:more.length<=1000):zhx m more n j o=some (o++more):=zv7 (by
 rw[zjK,zax eOut (by omega) (by omega)];rfl)
theorem zxa{n:Node}{j:Job}{to_:Peer}{m:Msg}{why:Int}{o:List Out}(h:Sz n)(ho:o.length<=900)(hp:m.peers.length<=1000000)(hq:m.pairs.length<=1000000):
  zfa to_ m why n j o=some ((askN (setN n (jAt j to_)) to_ m why j.id).1,jAt j to_,n.fingers,o++(askN (setN n (jAt j to_)) to_ m why j.id).2):=zzb (by
 show(zfb n (jAt j to_) o).bind _=_;rw[zxc h,yaa]
 try dsimp only
 rw[zky (zeA h _) hp hq,yaa]
 try dsimp only
 rw[zpV (by omega) (by have:=(zii (to_:=to_) (m:=m) (why:=why) (job:=j.id) (zeA h (jAt j to_))).2;omega),yaa]
 rfl)
theorem zDG{n:Node}{j:Job}{to_:Peer}{m:Msg}{why:Int}{o:List Out}(h:Sz n)(ho:o.length<=900)(hp:m.peers.length<=1000000)(hq:m.pairs.length<=1000000):
  zmx to_ m why n j o=some ((askN (setN n (jAt j to_)) to_ m why j.id).1,jAt j to_,n.fingers,o++(askN (setN n (jAt j to_)) to_ m why j.id).2):=zwP (by
 show(zd7 n (jAt j to_) o).bind _=_;rw[zv0 h,yaa]
 try dsimp only
 rw[zky (zeA h _) hp hq,yaa]
 try dsimp only
 rw[zpV (by omega) (by have:=(zii (to_:=to_) (m:=m) (why:=why) (job:=j.id) (zeA h (jAt j to_))).2;omega),yaa]
 rfl)
theorem zpS{n:Node}{j:Job}{to_:Peer}{o:List Out}(h:Sz n)(ho:o.length<=900):zcD to_ n j o=some ((zhk n j to_).1,jAt j to_,n.fingers,o++(zhk n j to_).2):=zxW (zxa h ho (yaP _) (yaP _))
theorem zBo{n:Node}{j:Job}{to_:Peer}{o:List Out}(h:Sz n)(ho:o.length<=900):zlw to_ n j o=some ((zhk n j to_).1,jAt j to_,n.fingers,o++(zhk n j to_).2):=zv4 (zDG h ho (yaP _) (yaP _))
theorem zw9{n:Node}{j:Job}{to_:Peer}{o:List Out}(h:Sz n)(ho:o.length<=900):zld to_ n j o=some ((actN n j to_).1,jAt (jDo j true) to_,n.fingers,o++(actN n j to_).2):=zza (by
 have e:=fun(m:Msg) h1 h2=>zxa (n:=n) (j:=jDo j true) (to_:=to_) (m:=m) (why:=5) (o:=o) h ho h1 h2
 rw[zmw,zaf,zac,zaf,zac];unfold actN actM;by_cases c2:j.kind=2
 ·rw[if_pos c2,if_pos c2];exact e _ (yaP _) (yaP _)
 rw[if_neg c2,if_neg c2];by_cases c3:j.kind=3
 ·rw[if_pos c3,if_pos c3];exact e _ (yaP _) (yaP _)
 ·rw[if_neg c3,if_neg c3];exact e _ (yaP _) (yaP _))
theorem zcB{n:Node}{j:Job}{has:Bool}{val:ByteArray}{e:Int}{o:List Out}(h:Sz n):zba has val e n j o=some (zay n j.id has val e,n.fingers):=zv6 (by
 rw[zjJ,zmR h];rfl)
theorem zqJ{n:Node}{j:Job}{has:Bool}{val:ByteArray}{e:Int}{o:List Out}(h:Sz n):zdV has val e n j o=some (zay n j.id has val e):=ztO (zmR h)
theorem zy9{n:Node}{j:Job}{has:Bool}{val:ByteArray}{e:Int}{o:List Out}(h:Sz n):zjI has val e n j o=some (zay n j.id has val e,n.fingers):=ztP (by
 rw[zhw,zmR h];rfl)
theorem zz5{n:Node}{j:Job}{owner:Peer}{mine:Bool}{o:List Out}(h:Sz n)(hf:n.fingers.length<=900):∃f,zlv owner mine n j o=some (zay (zd3 n (if mine=true then drpF j.bit n.fingers else setF n.fingers j.bit owner)) j.id false ⟨#[]⟩ 0,f):=by
 cases mine with
 |true=>
  refine⟨_,zn9 (by
   rw[zfN,cond_true,zAE (by omega),yaa];dsimp only;show zba false ⟨#[]⟩ 0 (zd3 n (drpF j.bit n.fingers)) j o=_
   rw[zcB (znq h (by have:=zzo j.bit n.fingers;omega))];rfl)⟩
 |false=>
  refine⟨_,zn9 (by
   rw[zfN,cond_false,zCv (by omega),yaa];show(zdV false ⟨#[]⟩ 0 (zd3 n (setF n.fingers j.bit owner)) j o).bind _=_
   rw[zqJ (znq h (by have:=zxN n.fingers j.bit owner;omega))];rfl)⟩
theorem zDH{n:Node}{j:Job}{o:List Out}(h:Sz n)(ho:o.length<=900)(hk:j.key.size<1000000):∃f,znr n j o=some (if(zcO n j.key j.val).2.2=0 then(zay (zcO n j.key j.val).1 j.id true j.val 0,f,o++(zcO n j.key j.val).2.1)else(zay n j.id false ⟨#[]⟩ (zcO n j.key j.val).2.2,f,o)):=by
 refine⟨n.fingers,zxX ?_⟩;rw[zlz,zBi h hk,yaa];obtain⟨hk1,hk2⟩:=zzz (key:=j.key) (val:=j.val) h;obtain⟨⟨a,b,c⟩,hq⟩:∃z,zcO n j.key j.val=z:=⟨_,rfl⟩
 rw[hq]at hk1 hk2⊢;dsimp only at hk1 hk2⊢;rw[zaf,zac];by_cases c0:c=0
 ·rw[if_pos c0,if_pos c0,zpV (by omega) (by omega),yaa];dsimp only;rw[zqJ hk1];rfl
 ·rw[if_neg c0,if_neg c0,zy9 h];rfl
theorem zKX(n:Node)(j:Job)(to_:Peer):actN (setN n j) j to_=actN n j to_:=by
 unfold actN;rw[zxO n (show j.id=(jAt (jDo j true) to_).id from rfl)]
theorem zKY(n:Node)(j:Job)(owner:Peer):endN (setN n j) j owner=endN n j owner:=by
 unfold endN;rw[zKX,zxO n rfl];rfl
theorem zp9{n:Node}{j:Job}(hl:setN n j=n)(owner:Peer):endN n j owner=if owner.addr≠n.me.addr/\j.kind≠4 then actN n j owner else endL n j owner:=by
 unfold endN;rw[hl]
theorem zxb{n:Node}{j:Job}{owner:Peer}{o:List Out}(h:Sz n)(hf:n.fingers.length<=900)(hl:setN n j=n)(ho:o.length<=900)(hk:j.key.size<1000000)(h1:1<=j.kind)(h4:j.kind<=4):
  ∃q f,zig owner n j o=some ((endN n j owner).1,q,f,o++(endN n j owner).2):=by
 have s0:∀t:Bool,(t=true->j.kind=3/\owner.addr=n.me.addr)->(t=false->owner.addr≠n.me.addr/\j.kind≠4)->∃q f,zhq owner n j o t=some ((endN n j owner).1,q,f,o++(endN n j owner).2):=fun t ht hff=>by
  rw[zp9 hl]
  cases t with
  |true=>
   obtain⟨k3,ka⟩:=ht rfl;rw[if_neg (fun hh=>hh.1 ka)];unfold endL;rw[if_neg (by omega),if_neg (by omega),if_pos k3];dsimp only;rw[List.append_nil]
   exact⟨_,_,zn8 (by
    rw[zfM,cond_true,(zCz (l:=n.store) (key:=j.key) (by have:=h.store;omega)).1,yaa]
    try dsimp only
    rw[zcB h,yaa])⟩
  |false=>
   obtain⟨ka,k4⟩:=hff rfl;refine⟨_,_,zn8 (by rw[zfM,cond_false,if_pos ⟨ka,k4⟩];exact zw9 h ho)⟩
 have s1:∀t:Bool,(t=true->j.kind=2/\owner.addr=n.me.addr)->(t=false->j.kind≠4/\(owner.addr=n.me.addr->j.kind=3))->∃q f,zhr owner n j o (yac.ieq owner.addr n.me.addr) t=some ((endN n j owner).1,q,f,o++(endN n j owner).2):=fun t ht hff=>by
  cases t with
  |true=>
   obtain⟨k2,ka⟩:=ht rfl;obtain⟨f,hkp⟩:=zDH (n:=n) (j:=j) (o:=o) h ho hk;rw[zp9 hl,if_neg (fun hh=>hh.1 ka)];unfold endL;rw[if_neg (by omega),if_pos k2];by_cases c0:(zcO n j.key j.val).2.2=0
   ·rw[if_pos c0]at hkp⊢;exact⟨_,_,zdM (by rw[zbN,cond_true,hkp];rfl)⟩
   ·rw[if_neg c0]at hkp⊢
    exact⟨_,_,zdM (by rw[zbN,cond_true,hkp];simp;exact⟨rfl,rfl⟩)⟩
  |false=>
   obtain⟨k4,ka⟩:=hff rfl;by_cases k3:j.kind=3
   ·by_cases kk:owner.addr=n.me.addr
    ·obtain⟨q,f,hz⟩:=s0 true (fun _=>⟨k3,kk⟩) (fun hh=>by cases hh);exact⟨q,f,zdM (by rw[zbN,cond_false,zaf,zac,if_pos k3,zaf,decide_eq_true kk];exact hz)⟩
    ·obtain⟨q,f,hz⟩:=s0 false (fun hh=>by cases hh) (fun _=>⟨kk,k4⟩);exact⟨q,f,zdM (by rw[zbN,cond_false,zaf,zac,if_pos k3,zaf,decide_eq_false kk];exact hz)⟩
   ·obtain⟨q,f,hz⟩:=s0 false (fun hh=>by cases hh) (fun _=>⟨fun hh=>k3 (ka hh),k4⟩);exact⟨q,f,zdM (by rw[zbN,cond_false,zaf,zac,if_neg k3];exact hz)⟩
 have s2:∀t:Bool,(t=true->j.kind=1/\owner.addr=n.me.addr)->(t=false->(j.kind=1->owner.addr≠n.me.addr))->∃q f,zhs owner n j o t=some ((endN n j owner).1,q,f,o++(endN n j owner).2):=fun t ht hff=>by
  cases t with
  |true=>
   obtain⟨k1,ka⟩:=ht rfl
   refine⟨_,_,zdO (by
    rw[zbO,cond_true,zp9 hl,if_neg (fun hh=>hh.1 ka)];unfold endL
    rw[if_pos k1];exact zw9 h ho)⟩
  |false=>
   have hn:=hff rfl;by_cases k4:j.kind=4
   ·obtain⟨f,hfi⟩:=zz5 (n:=n) (j:=j) (owner:=owner) (mine:=yac.ieq owner.addr n.me.addr) (o:=o) h hf
    have e:endN n j owner=(zay (zd3 n (if yac.ieq owner.addr n.me.addr=true then drpF j.bit n.fingers else setF n.fingers j.bit owner)) j.id false ⟨#[]⟩ 0,[]):=by
     rw[zp9 hl,if_neg (fun hh:owner.addr≠n.me.addr/\j.kind≠4=>hh.2 k4)];unfold endL;rw[if_neg (show¬j.kind=1 by omega),if_neg (show¬j.kind=2 by omega),if_neg (show¬j.kind=3 by omega),zaf];by_cases ka:owner.addr=n.me.addr
     ·rw[if_pos ka,if_pos (decide_eq_true ka)]
     ·rw[if_neg ka,if_neg (by simpa using ka)]
    refine⟨j,f,zdO ?_⟩;rw[zbO,cond_false,show yac.ieq j.kind 4=true from decide_eq_true k4,cond_true,hfi,yaa,e];simp
   ·by_cases k2:j.kind=2
    ·by_cases kk:owner.addr=n.me.addr
     ·obtain⟨q,f,hz⟩:=s1 true (fun _=>⟨k2,kk⟩) (fun hh=>by cases hh);refine⟨q,f,zdO ?_⟩;rw[zbO,cond_false,zaf,zac,if_neg k4,zaf,zac,if_pos k2];rw[show yac.ieq owner.addr n.me.addr=true from decide_eq_true kk]at hz⊢;exact hz
     ·obtain⟨q,f,hz⟩:=s1 false (fun hh=>by cases hh) (fun _=>⟨k4,fun hh=>absurd hh kk⟩);refine⟨q,f,zdO ?_⟩;rw[zbO,cond_false,zaf,zac,if_neg k4,zaf,zac,if_pos k2];rw[show yac.ieq owner.addr n.me.addr=false from decide_eq_false kk]at hz⊢;exact hz
    ·obtain⟨q,f,hz⟩:=s1 false (fun hh=>by cases hh) (fun _=>⟨k4,fun hh=>by
      by_cases k1:j.kind=1
      ·exact absurd hh (hn k1)
      ·omega⟩)
     refine⟨q,f,zdO ?_⟩;rw[zbO,cond_false,zaf,zac,if_neg k4,zaf,zac,if_neg k2];exact hz
 by_cases k1:j.kind=1
 ·by_cases kk:owner.addr=n.me.addr
  ·obtain⟨q,f,hz⟩:=s2 true (fun _=>⟨k1,kk⟩) (fun hh=>by cases hh);exact⟨q,f,zmA (by rw[zfL,zaf,zac,if_pos k1,zaf,decide_eq_true kk];exact hz)⟩
  ·obtain⟨q,f,hz⟩:=s2 false (fun hh=>by cases hh) (fun _ _=>kk);exact⟨q,f,zmA (by rw[zfL,zaf,zac,if_pos k1,zaf,decide_eq_false kk];exact hz)⟩
 ·obtain⟨q,f,hz⟩:=s2 false (fun hh=>by cases hh) (fun _ hh=>absurd hh k1);exact⟨q,f,zmA (by rw[zfL,zaf,zac,if_neg k1];exact hz)⟩
theorem zv2{n:Node}{j:Job}{o:List Out}(h:Sz n)(ok:NOk n)(hf:n.fingers.length<=900)(hj:JOk j)(ho:o.length<=900)(h1:1<=j.kind)(h4:j.kind<=4):
  ∃q f,zeD n j o=some ((zk9 n j).1,q,f,o++(zk9 n j).2):=by
 unfold zk9;by_cases c1:j.kind=1
 ·rw[if_pos c1];exact⟨_,_,zlB (by rw[zeT,zaf,zac,if_pos c1];exact zpS (j:=zjM j 0) h ho)⟩
 rw[if_neg c1]
 cases hb:(zfx n j.target).2.2 with
 |true=>
  rw[if_pos rfl];obtain⟨q,f,he⟩:=zxb (n:=setN n (zjM j 0)) (j:=zjM j 0) (owner:=(zfx n j.target).1) (o:=o) (zeA h _) hf (zxO n rfl) ho hj.key h1 h4;rw[zKY]at he;refine⟨q,n.fingers,zlB ?_⟩;rw[zeT,zaf,zac,if_neg c1,zul h ok,yaa];obtain⟨⟨ow,l,b⟩,hq⟩:∃z,zfx n j.target=z:=⟨_,rfl⟩
  rw[hq]at hb he⊢;dsimp only at hb he⊢;rw[hb,cond_true];show(zd7 n (zjM j 0) o).bind _=_;rw[zv0 h,yaa];show(zig ow (setN n (zjM j 0)) (zjM j 0) o).bind _=_
  rw[he];rfl
 |false=>
  rw[if_neg (by simp)];obtain⟨x,r,hx⟩:=zy4 hb;rw[hx]
  refine⟨_,_,zlB (by
   rw[zeT,zaf,zac,if_neg c1,zul h ok,yaa];obtain⟨⟨ow,l,b⟩,hq⟩:∃z,zfx n j.target=z:=⟨_,rfl⟩
   rw[hq]at hb hx⊢;dsimp only at hb hx⊢;rw[hb,cond_false,hx,show(0:Int)=((0:Nat):Int)from rfl,zaO]
   exact zBo (j:=zjM j 1) h ho)⟩
def prF(o:List Out):zht->Node×List Out
 | .inl (n,_,_)=>(n,o)
 | .inr (n,_,_,r)=>(n,r)
theorem zjz{n:Node}{j:Job}{why:Int}{o:List Out}(h:Sz n)(ok:NOk n)(hf:n.fingers.length<=900)(hj:JOk j)(ho:o.length<=900)(h1:1<=j.kind)(h4:j.kind<=4):
  ∃z,zcC why n j o=some z/\prF o z=((zdp n j why).1,o++(zdp n j why).2):=by
 unfold zdp;by_cases c1:j.kind=1
 ·rw[if_pos c1]
  refine⟨_,zeR (by
   rw[zcn,zaf,zac,if_pos c1];show(zfb n (jDo j false) o).bind _=_
   rw[zxc h,yaa]),?_⟩
  simp[prF]
 rw[if_neg c1];by_cases c4:j.kind=4
 ·rw[if_pos (.inl c4)];refine⟨_,zeR (by rw[zcn,zaf,zac,if_neg c1,zaf,zac,if_pos c4,zcB h,yaa]),?_⟩;simp[prF]
 by_cases c3:3<=j.tries
 ·rw[if_pos (.inr c3)];refine⟨_,zeR (by rw[zcn,zaf,zac,if_neg c1,zaf,zac,if_neg c4,za4,zac,if_pos c3,zcB h,yaa]),?_⟩;simp[prF]
 rw[if_neg (by omega)];by_cases c0:j.tries<0
 ·obtain⟨q,f,hs⟩:=zv2 (n:=n) (j:=jTry j 1) (o:=o) h ok hf (zwB hj _) ho h1 h4;rw[if_pos c0]
  refine⟨_,zeR (by
   rw[zcn,zaf,zac,if_neg c1,zaf,zac,if_neg c4,za4,zac,if_neg c3,zaq,zac,if_pos c0];show(zeD n (jTry j 1) o).bind _=_
   rw[hs,yaa]),rfl⟩
 ·obtain⟨q,f,hs⟩:=zv2 (n:=n) (j:=jTry j (j.tries+1)) (o:=o) h ok hf (zwB hj _) ho h1 h4;rw[if_neg c0]
  refine⟨_,zeR (by
   rw[zcn,zaf,zac,if_neg c1,zaf,zac,if_neg c4,za4,zac,if_neg c3,zaq,zac,if_neg c0,znu (a:=j.tries) (b:=1) (by omega) (by omega)];show(zeD n (jTry j (j.tries+1)) o).bind _=_
   rw[hs,yaa]),rfl⟩
def ziC(n:Node)(id:Int):Option Job:=match n.jobs.find? (isJ id)with
 |none=>none
 |some x=>if 1<=x.kind/\x.kind<=4 then some x else none
theorem zka{n:Node}{id:Int}{x:Job}(h:ziC n id=some x):x∈n.jobs/\x.id=id/\1<=x.kind/\x.kind<=4/\setN n x=n:=by
 unfold ziC at h;rcases zkv n.jobs id with⟨h1,h2,h3⟩|⟨k,y,h1,h2,h3,h4,h5,h6⟩
 ·rw[h3]at h;cases h
 ·rw[h5]at h;dsimp only at h;split at h
  ·rename_i hk;cases h;refine⟨yam h3,h6,hk.1,hk.2,?_⟩;show zxT n (setJ n.jobs x)=n;rw[zJt (n:=k) (by rw[h6];exact h2) h3];rfl
  ·cases h
theorem ztM{n:Node}{id:Int}(h:Sz n):zsv n id=some (match ziC n id with|some x=>(true,n,x,[])|none=>(false,n,⟨0,0,0,⟨#[]⟩,⟨#[]⟩,0,⟨0,0⟩,⟨0,0⟩,false,0,0,0⟩,[])):=zJE (by
 have hj:=h.jobs;rw[zv1,zck h,yaa];dsimp only;rw[zpi (by omega),yaa,zaq,zac];unfold ziC;rcases zkv n.jobs id with⟨h1,h2,h3⟩|⟨k,x,h1,h2,h3,h4,h5,h6⟩
 ·rw[h1,if_pos (by omega),h3]
 ·rw[h1,if_neg (by omega),h5,zaO,h3,yaa,zaq,zac,zaq,zac];dsimp only;by_cases c1:x.kind<1
  ·rw[if_pos c1,if_neg (by omega)]
  ·by_cases c4:4<x.kind
   ·rw[if_neg c1,if_pos c4,if_neg (by omega)]
   ·rw[if_neg c1,if_neg c4,if_pos (by omega)]
    have e:∀(a b:List Entry) (c:List Pair) (d:List Pend) (f:List Job) (g:List Result),zoX n (k:Int) a b c d f g n=some (a,b,c,d,f,g,n,x):=fun a b c d f g=>zDJ (by
     rw[zpU,zaO,h3];rfl)
    show(zoX n (k:Int) n.pred n.list n.store n.pends n.jobs n.results n).bind _=_
    rw[e];rfl)
theorem zvE{n:Node}{id:Int}(h:Sz n):∃k:Int,zqy n id=some k/\(match ziC n id with|some x=>0<=k/\xget eJob n.jobs k=some x|none=>k<0):=by
 have hj:=h.jobs;unfold ziC;rcases zkv n.jobs id with⟨h1,h2,h3⟩|⟨k,x,h1,h2,h3,h4,h5,h6⟩
 ·rw[h3];exact⟨-1,zrm (by rw[zkG,zkC (by omega),yaa,h1];rfl),by omega⟩
 ·rw[h5];dsimp only;by_cases c:1<=x.kind/\x.kind<=4
  ·rw[if_pos c]
   refine⟨(k:Int),zrm (by
    rw[zkG,zkC (by omega),yaa,h1,za4,zac,if_pos (by omega),zaO,h3,yaa,zaq,zac,if_neg (by omega),zaq,zac,if_neg (by omega)]),by omega,by rw[zaO,h3]⟩
  ·rw[if_neg c]
   refine⟨-1,zrm (by
    rw[zkG,zkC (by omega),yaa,h1,za4,zac,if_pos (by omega),zaO,h3,yaa,zaq,zac,zaq,zac];by_cases c1:x.kind<1
    ·rw[if_pos c1]
    ·rw[if_neg c1,if_pos (by omega)]),by show(-1:Int)<0;omega⟩
def zyy(n:Node)(id why:Int):Node×List Out:=match ziC n id with|some x=>zdp n x why|none=>(n,[])
def zpg(n:Node)(x:Job)(m:Msg):Node×List Out:=
 if m.kind=12 then zdp n x (yac.iwrap .i64 m.code)else
 if m.kind=2 then(if m.has=true then(match m.peers with| []=>(n,[])|p::_=>endN n x p)else znw n x m.peers)else(n,[])
def zkt(n:Node)(id:Int)(m:Msg):Node×List Out:=match ziC n id with
 |some x=>if x.doing=true then(n,[])else zpg n x m
 |none=>(n,[])
def zlV(n:Node)(x:Job):Node×List Out:=
 askN ⟨(zay n x.id false ⟨#[]⟩ 0).me,(zay n x.id false ⟨#[]⟩ 0).clock,true,(zay n x.id false ⟨#[]⟩ 0).pred,Pe.add (zay n x.id false ⟨#[]⟩ 0).me (zay n x.id false ⟨#[]⟩ 0).list x.at_,(zay n x.id false ⟨#[]⟩ 0).fingers,(zay n x.id false ⟨#[]⟩ 0).store,(zay n x.id false ⟨#[]⟩ 0).pends,(zay n x.id false ⟨#[]⟩ 0).jobs,(zay n x.id false ⟨#[]⟩ 0).results,(zay n x.id false ⟨#[]⟩ 0).rid,(zay n x.id false ⟨#[]⟩ 0).jobID,(zay n x.id false ⟨#[]⟩ 0).nextBit⟩ x.at_ ⟨5,0,0,false,0,⟨#[]⟩,⟨#[]⟩,(zay n x.id false ⟨#[]⟩ 0).me,[],[]⟩ 2 0
def zsO(n:Node)(x:Job)(m:Msg):Node×List Out:=
 if m.kind=12 then zdp n x (yac.iwrap .i64 m.code)else
 if m.kind=4/\x.kind=1 then zlV n x else
 if m.kind=6/\x.kind=2 then(zay n x.id true x.val 0,[])else
 if m.kind=9/\x.kind=3 then(zay n x.id m.has m.val 0,[])else(n,[])
def zlS(n:Node)(id:Int)(m:Msg):Node×List Out:=match ziC n id with
 |some x=>if x.doing=true then zsO n x m else(n,[])
 |none=>(n,[])
def JsOk(n:Node):Prop:=∀j,j∈n.jobs->JOk j
theorem zbL{n:Node}{j:Job}{o:List Out}:zaU n j o=some (n.me.id,n.me.addr,n.clock,n.joined,n.pred,n.list,n.store,n.pends,n.jobs,n.results,n.rid,n.jobID,n.nextBit):=zxV rfl
theorem zif{n:Node}{j:Job}{o:List Out}:za9 n j o=some n:=zv3 rfl
theorem zz4{n:Node}{id why:Int}(h:Sz n)(ok:NOk n)(hf:n.fingers.length<=900)(hj:JsOk n):zin n id why=some (zyy n id why):=zBm (by
 rw[zoB,ztM h,yaa];unfold zyy
 cases ht:ziC n id with
 |none=>dsimp only;rw[cond_false,zbL];rfl
 |some x=>
  obtain⟨t1,t2,t3,t4,t5⟩:=zka ht;obtain⟨z,hz,hp⟩:=zjz (n:=n) (j:=x) (why:=why) (o:=[]) h ok hf (hj x t1) (by simp) t3 t4;dsimp only;rw[cond_true,hz,yaa];rw[ya4]at hp;rw[<-show(zdp n x why)=((zdp n x why).1,(zdp n x why).2)from rfl]at hp;rw[<-hp];rcases z with⟨a,b,c⟩|⟨a,b,c,d⟩
  ·dsimp only;rw[zbL];rfl
  ·dsimp only;rw[zif];rfl)
def hopN(n:Node)(j:Job)(p:Peer):Node×List Out:=if j.hops<64 then zhk n (jHop j (if j.hops<0 then 1 else j.hops+1)) p else if j.kind=1 then zdp n j 19 else(zay n j.id false ⟨#[]⟩ 19,[])
theorem zAr(n:Node)(j:Job)(l:List Peer):znw n j l=match l.find? (near n j)with|none=>zdp n j 15|some p=>hopN n j p:=rfl
def prS:zj3->Node×List Out
 | .inl (o,n,_)=>(n,o)
 | .inr (n,_)=>(n,[])
theorem zyR{n:Node}{id:Int}{m:Msg}{j:Job}{a b:Int}(h:Sz n)(ok:NOk n)(hf:n.fingers.length<=900)(hj:JOk j):∃z,zpD n id m j a b=some z/\prS z=hopN n j ⟨a,b⟩:=by
 unfold hopN;by_cases c:j.hops<64
 ·rw[if_pos c];have c':¬63<j.hops:=by omega
  by_cases c0:j.hops<0
  ·rw[if_pos c0]
   have e:zgI n id m j a b=some (.inr ((zhk n (jHop j 1) ⟨a,b⟩).2,(zhk n (jHop j 1) ⟨a,b⟩).1,jHop j 1,a,b)):=znd (by
    rw[zgJ,zaq,zac,if_neg c',zaq,zac,if_pos c0];show(zjn n (jHop j 1) ⟨a,b⟩).bind _=_
    rw[znM h];rfl)
   exact⟨_,zj4 (by rw[zez,zaq,zac,if_neg c',e,yaa]),rfl⟩
  ·rw[if_neg c0]
   have e:zgI n id m j a b=some (.inr ((zhk n (jHop j (j.hops+1)) ⟨a,b⟩).2,(zhk n (jHop j (j.hops+1)) ⟨a,b⟩).1,jHop j (j.hops+1),a,b)):=znd (by
    rw[zgJ,zaq,zac,if_neg c',zaq,zac,if_neg c0,znu (a:=j.hops) (b:=1) (by omega) (by omega)];show(zjn n (jHop j (j.hops+1)) ⟨a,b⟩).bind _=_
    rw[znM h];rfl)
   exact⟨_,zj4 (by rw[zez,zaq,zac,if_neg c',e,yaa]),rfl⟩
 ·rw[if_neg c];have c':63<j.hops:=by omega
  by_cases k1:j.kind=1
  ·rw[if_pos k1];exact⟨_,zj4 (by rw[zez,zaq,zac,if_pos c',zaf,zac,if_pos k1,znL h ok hf hj,yaa]),rfl⟩
  ·rw[if_neg k1]
   have e:zgI n id m j a b=some (.inl (zay n j.id false ⟨#[]⟩ 19,j,a,b)):=znd (by
    rw[zgJ,zaq,zac,if_pos c',zby h];rfl)
   exact⟨_,zj4 (by rw[zez,zaq,zac,if_pos c',zaf,zac,if_neg k1,e,yaa]),rfl⟩
def prL:zj1->(Node×List Out)⊕Job
 | .inl (o,n,_)=>.inl (n,o)
 | .inr (.inl (n,_))=>.inl (n,[])
 | .inr (.inr j)=>.inr j
theorem zyQ{n:Node}{id:Int}{m:Msg}{j:Job}(h:Sz n)(ok:NOk n)(hf:n.fingers.length<=900)(hj:JOk j)(hl:m.peers.length<=1000000)(hp:∀p,p∈m.peers->PeOk p):
  ∃z,zcS n id m 0 j=some z/\prL z=match m.peers.find? (near n j)with|none=>.inr j|some p=>.inl (hopN n j p):=by
 have key:=zaW (σ:=Unit) zad (l:=m.peers) (by omega) (L:=fun i _=>(zcS n id m i j).map prL) (res:=fun _ _ rest=>match rest.find? (near n j)with|none=>.inr j|some p=>.inl (hopN n j p)) (Inv:=fun _ _=>True)
  (fun _ _ hh=>by
   have e:zcS n id m (m.peers.length:Int) j=some (.inr (.inr j)):=zj2 (by rw[zey,hh];rfl)
   rw[e];rfl)
  (fun k x rest s _ hk hx hd h1 h2 h3 ih=>by
   have hxo:=hp x (yam hx)
   have nxt:near n j x=false->yac.ieq x.addr n.me.addr=true\/(yac.ieq x.addr n.me.addr=false/\btw j.at_.id x.id j.target=false):=fun hn=>by
    unfold near at hn;rw[zaf];by_cases ca:x.addr=n.me.addr
    ·exact .inl (decide_eq_true ca)
    ·exact .inr ⟨decide_eq_false ca,by simpa[ca]using hn⟩
   rw[List.find?_cons]
   cases hn:near n j x with
   |true=>
    have hn':¬x.addr=n.me.addr/\btw j.at_.id x.id j.target=true:=by simpa[near]using hn
    obtain⟨z,hz,hz2⟩:=zyR (id:=id) (m:=m) (a:=x.id) (b:=x.addr) h ok hf hj
    have e:∃w,zcS n id m (k:Int) j=some w/\prL w=.inl (prS z):=by
     rcases z with⟨o,a,b⟩|⟨a,b⟩
     ·exact⟨_,zj2 (by rw[zey,h1,cond_true,h2,yaa,zaf,decide_eq_false hn'.1,cond_false,zjT hj.at_ hxo hj.target,yaa,hn'.2,cond_true,hz,yaa]),rfl⟩
     ·exact⟨_,zj2 (by rw[zey,h1,cond_true,h2,yaa,zaf,decide_eq_false hn'.1,cond_false,zjT hj.at_ hxo hj.target,yaa,hn'.2,cond_true,hz,yaa]),rfl⟩
    obtain⟨w,hw,hw2⟩:=e
    rw[hw,yb0,hw2,hz2]
   |false=>
    have h4:=ih () trivial;obtain⟨w,hw,hw2⟩:=yap.1 h4
    have e:zcS n id m (k:Int) j=some w:=zj2 (by
     rw[zey,h1,cond_true,h2,yaa,h3];rcases nxt hn with c|⟨c1,c2⟩
     ·rw[c,cond_true];exact hw
     ·rw[c1,cond_false,zjT hj.at_ hxo hj.target,yaa,c2,cond_false];exact hw)
    rw[e,yb0,hw2]) () trivial
 exact yap.1 key
def prG(n:Node):zj5->Node×List Out
 | .inl (o,_,b)=>(b,o)
 | .inr (.inl _)=>(n,[])
 | .inr (.inr (b,_))=>(b,[])
theorem zDd{n:Node}{id:Int}{m:Msg}(h:Sz n)(ok:NOk n)(hf:n.fingers.length<=900)(hj:JsOk n)(hl:m.peers.length<=1000000)(hp:∀p,p∈m.peers->PeOk p):zlM n id m=some (zkt n id m):=zEy (by
 obtain⟨k,hk,hx⟩:=zvE (id:=id) h;rw[zrk,hk,yaa,zaq,zac];unfold zkt
 cases ht:ziC n id with
 |none=>rw[ht]at hx;rw[if_pos hx]
 |some x=>
  rw[ht]at hx;rw[if_neg (by omega),hx.2,yaa];dsimp only
  cases hd:x.doing with
  |true=>rfl
  |false=>
   have xo:=hj x (zka ht).1
   have s3:∃z,zpE n id m k=some z/\prG n z=zpg n x m:=by
    unfold zpg;by_cases k12:m.kind=12
    ·rw[if_pos k12];exact⟨_,zdi (by rw[zbW,hx.2,yaa,zaf,zac,if_pos k12,znL h ok hf xo,yaa]),rfl⟩
    rw[if_neg k12];by_cases k2:m.kind=2
    ·rw[if_pos k2]
     cases hh:m.has with
     |true=>
      rw[if_pos rfl]
      cases hpe:m.peers with
      |nil=>exact⟨_,zdi (by rw[zbW,hx.2,yaa,zaf,zac,if_neg k12,zaf,zac,if_pos k2,hh,cond_true,hpe,zav];rfl),rfl⟩
      |cons p r=>
       have e0:xget zad (p::r) 0=some p:=by rw[show(0:Int)=((0:Nat):Int)from rfl,zaO];rfl
       exact⟨_,zdi (by rw[zbW,hx.2,yaa,zaf,zac,if_neg k12,zaf,zac,if_pos k2,hh,cond_true,hpe,zav,ieqF (by simp only[List.length_cons];omega),cond_false,e0,yaa,zyT h hf xo.key,yaa]),rfl⟩
     |false=>
      rw[if_neg (by simp),zAr];obtain⟨z,hz,hz2⟩:=zyQ (id:=id) (m:=m) h ok hf xo hl hp
      cases hfi:m.peers.find? (near n x)with
      |none=>
       rw[hfi]at hz2
       have:z=.inr (.inr x):=by
        rcases z with⟨o,a,b⟩|⟨a,b⟩|a
        ·cases hz2
        ·cases hz2
        ·cases hz2;rfl
       subst this
       exact⟨_,zdi (by rw[zbW,hx.2,yaa,zaf,zac,if_neg k12,zaf,zac,if_pos k2,hh,cond_false,hz,yaa];dsimp only;rw[znL h ok hf xo,yaa]),rfl⟩
      |some p=>
       rw[hfi]at hz2;rcases z with⟨o,a,b⟩|⟨a,b1,b2,b3⟩|a
       ·refine⟨.inl (o,false,a),zdi (by rw[zbW,hx.2,yaa,zaf,zac,if_neg k12,zaf,zac,if_pos k2,hh,cond_false,hz,yaa]),?_⟩;exact Sum.inl.inj (show(Sum.inl (a,o):(Node×List Out)⊕Job)=Sum.inl (hopN n x p)from hz2)
       ·refine⟨.inr (.inr (a,b1,b2,b3)),zdi (by rw[zbW,hx.2,yaa,zaf,zac,if_neg k12,zaf,zac,if_pos k2,hh,cond_false,hz,yaa]),?_⟩;exact Sum.inl.inj (show(Sum.inl (a,[]):(Node×List Out)⊕Job)=Sum.inl (hopN n x p)from hz2)
       ·cases hz2
    ·rw[if_neg k2];exact⟨_,zdi (by rw[zbW,hx.2,yaa,zaf,zac,if_neg k12,zaf,zac,if_neg k2]),rfl⟩
   obtain⟨z,hz,hz2⟩:=s3;rw[cond_false,hz,yaa,if_neg (by simp),<-hz2]
   rcases z with⟨o,a,b⟩|⟨a,b⟩|⟨a,b⟩<;>rfl)
def prD:zk4->Node×List Out
 | .inl (o,_,b)=>(b,o)
 | .inr (b,_)=>(b,[])
theorem zwC{n:Node}{x:Job}(h:Sz n)(hl:n.list.length<=900)(p:Peer)(b:Bool):Sz (⟨(zay n x.id false ⟨#[]⟩ 0).me,(zay n x.id false ⟨#[]⟩ 0).clock,b,(zay n x.id false ⟨#[]⟩ 0).pred,Pe.add (zay n x.id false ⟨#[]⟩ 0).me (zay n x.id false ⟨#[]⟩ 0).list p,(zay n x.id false ⟨#[]⟩ 0).fingers,(zay n x.id false ⟨#[]⟩ 0).store,(zay n x.id false ⟨#[]⟩ 0).pends,(zay n x.id false ⟨#[]⟩ 0).jobs,(zay n x.id false ⟨#[]⟩ 0).results,(zay n x.id false ⟨#[]⟩ 0).rid,(zay n x.id false ⟨#[]⟩ 0).jobID,(zay n x.id false ⟨#[]⟩ 0).nextBit⟩:Node):=by
 have hs:=zeu h x.id false ⟨#[]⟩ 0;have e:(zay n x.id false ⟨#[]⟩ 0).list=n.list:=by unfold zay;split<;>rfl
 exact⟨hs.pred,by show(Pe.add _ _ _).length<=1000;have:=Pe.add_le (zay n x.id false ⟨#[]⟩ 0).me p (zay n x.id false ⟨#[]⟩ 0).list;rw[e]at this⊢;omega,hs.fingers,hs.store,hs.pends,hs.jobs,hs.results⟩
theorem znN(n:Node)(id:Int)(has:Bool)(val:ByteArray)(e:Int):(zay n id has val e).me=n.me/\(zay n id has val e).list=n.list/\(zay n id has val e).fingers=n.fingers/\(zay n id has val e).pred=n.pred:=by
 unfold zay;split<;>exact⟨rfl,rfl,rfl,rfl⟩
theorem zEm{n:Node}{x:Job}(h:Sz n)(ok:NOk n)(hli:n.list.length<=900)(xo:JOk x):zsk (zay n x.id false ⟨#[]⟩ 0).me (zay n x.id false ⟨#[]⟩ 0).list x.at_=some (Pe.add (zay n x.id false ⟨#[]⟩ 0).me (zay n x.id false ⟨#[]⟩ 0).list x.at_):=by
 obtain⟨e1,e2,e3,e4⟩:=znN n x.id false ⟨#[]⟩ 0;rw[e1,e2];exact Pe.r27_Add_eq hli ok.me xo.at_ ok.list
theorem zEx{n:Node}{id:Int}{m:Msg}(h:Sz n)(ok:NOk n)(hf:n.fingers.length<=900)(hli:n.list.length<=900)(hj:JsOk n):znb n id m=some (zlS n id m):=zHh (by
 obtain⟨k,hk,hx⟩:=zvE (id:=id) h;rw[ztB,hk,yaa,zaq,zac];unfold zlS
 cases ht:ziC n id with
 |none=>rw[ht]at hx;rw[if_pos hx]
 |some x=>
  rw[ht]at hx;rw[if_neg (by omega),hx.2,yaa];dsimp only
  cases hd:x.doing with
  |false=>rfl
  |true=>
   have xo:=hj x (zka ht).1
   have d2:∃a,zkF n id m x=some (if m.kind=6/\x.kind=2 then zay n x.id true x.val 0 else if m.kind=9/\x.kind=3 then zay n x.id m.has m.val 0 else n,a):=by
    have d1:znK n id m x=some (if m.kind=9/\x.kind=3 then zay n x.id m.has m.val 0 else n,x):=zBc (by
     rw[zox,zaf,zac,zaf,zac,zby h]
     by_cases a:m.kind=9<;>by_cases b:x.kind=3<;>simp[a,b])
    refine⟨x,zBd ?_⟩;rw[zoy,zaf,zac,zaf,zac,zby h,d1];by_cases a:m.kind=6<;>by_cases b:x.kind=2<;>simp[a,b]
   obtain⟨da,d2⟩:=d2
   have d0:∀t:Bool,∃z,zkE n id m t x=some z/\(t=true->∃a b,z=.inl ((zlV n x).2,a,(zlV n x).1,b))/\(t=false->z=.inr x):=fun t=>by
    cases t with
    |false=>exact⟨_,zuh (by rw[zk3,cond_false]),by simp,fun _=>rfl⟩
    |true=>
     obtain⟨e1,e2,e3,e4⟩:=znN n x.id false ⟨#[]⟩ 0
     refine⟨_,zuh (by
      rw[zk3,cond_true,zby h,yaa,zEm h ok hli xo,yaa,zjY (zwC h hli x.at_ true),yaa];rfl),fun _=>⟨_,_,rfl⟩,by simp⟩
   have s3:∃z,zrj n id m k=some z/\prD z=zsO n x m:=by
    unfold zsO;by_cases k12:m.kind=12
    ·rw[if_pos k12];exact⟨_,zk5 (by rw[ze8,hx.2,yaa,zaf,zac,if_pos k12,znL h ok hf xo,yaa]),rfl⟩
    rw[if_neg k12]
    have tail:∀q:Bool,q=false->∃w,((zkE n id m q x).bind fun r=>match r with
      | .inl (t7,b0,b2,b4)=>some (.inl (t7,b0,b2))
      | .inr b4=>(zkF n id m b4).bind fun⟨b2,b41⟩=>some (.inr (b2,b41)))=some w/\prD w=(if m.kind=6/\x.kind=2 then(zay n x.id true x.val 0,[])else if m.kind=9/\x.kind=3 then(zay n x.id m.has m.val 0,[])else(n,[])):=fun q hq=>by
     obtain⟨z,hz,_,hz2⟩:=d0 q;rw[hz,yaa,hz2 hq];dsimp only;rw[d2,yaa];refine⟨_,rfl,?_⟩;show((if m.kind=6/\x.kind=2 then _ else _),[])=_;split
     ·rfl
     ·split<;>rfl
    by_cases k4:m.kind=4
    ·by_cases k1:x.kind=1
     ·rw[if_pos ⟨k4,k1⟩];obtain⟨z,hz,hz2,_⟩:=d0 true;obtain⟨a,b,rfl⟩:=hz2 rfl;exact⟨_,zk5 (by rw[ze8,hx.2,yaa,zaf,zac,if_neg k12,zaf,zac,if_pos k4,zaf,decide_eq_true k1,hz,yaa]),rfl⟩
     ·rw[if_neg (fun hh=>k1 hh.2)];obtain⟨w,hw,hw2⟩:=tail (yac.ieq x.kind 1) (decide_eq_false k1);exact⟨w,zk5 (by rw[ze8,hx.2,yaa,zaf,zac,if_neg k12,zaf,zac,if_pos k4];exact hw),hw2⟩
    ·rw[if_neg (fun hh=>k4 hh.1)];obtain⟨w,hw,hw2⟩:=tail false rfl;exact⟨w,zk5 (by rw[ze8,hx.2,yaa,zaf,zac,if_neg k12,zaf,zac,if_neg k4];exact hw),hw2⟩
   obtain⟨z,hz,hz2⟩:=s3;rw[cond_true,hz,yaa,if_pos rfl,<-hz2]
   rcases z with⟨o,a,b⟩|⟨a,b⟩<;>rfl)
theorem zry{l:List Peer}{n:Node}{j:Job}{o:List Out}(hl:l.length<=1000000):zlh l n j o=some (fstI (near n j) l):=zuz (by
 have hf:∀x:Peer,zjH x n j o=some (near n j x):=fun x=>ztN (by
  rw[zhv,zaf,zqz];unfold near
  cases decide (x.addr=n.me.addr)<;>rfl)
 have:=zbu zad (l:=l) (by omega) (p:=near n j) (L:=fun i=>zeY l n j o i) (fun h=>zf6 (by simp[zcx,h]))
  (fun n' x _ h1 h2 hp=>zf6 (by simp[zcx,h1,h2,hf,hp]))
  (fun n' x r _ h1 h2 hp h=>zf6 (by simp[zcx,h1,h2,hf,hp,h]))
 rw[ziM,this];unfold fstI
 cases fst (near n j) l<;>rfl)
theorem zDI{n:Node}{j:Job}{l:List Peer}{o:List Out}(h:Sz n)(ok:NOk n)(hf:n.fingers.length<=900)(hj:JOk j)(ho:o.length<=900)(h1:1<=j.kind)(h4:j.kind<=4)(hl:l.length<=1000000):
  ∃z,zhu l n j o=some z/\prF o z=((znw n j l).1,o++(znw n j l).2):=by
 rw[zAr];have hfi:=zAf (p:=near n j) (l:=l)
 cases hc:fst (near n j) l with
 |none=>
  rw[hc]at hfi;rw[hfi];obtain⟨z,hz,hz2⟩:=zjz (n:=n) (j:=j) (why:=15) (o:=o) h ok hf hj ho h1 h4;refine⟨z,zob ?_,hz2⟩;rw[zfP,zry hl,yaa];unfold fstI;rw[hc];dsimp only
  rw[iltT (by omega),cond_true];exact hz
 |some k=>
  rw[hc]at hfi;obtain⟨p,hp,hp2,_,hk⟩:=hfi;rw[hp2];dsimp only
  have pre:∀r,((bif yac.ilt j.hops 64 then
    bif yac.ilt j.hops 0 then
     (xget zad l (k:Int)).bind fun x=>(zcD x n (jHop j (yac.iadd .i64 0 1)) o).bind fun⟨b0_node1,zaX,r1,r21⟩=>some (.inr (b0_node1,zaX,r1,r21))
    else
     (xget zad l (k:Int)).bind fun x=>(zcD x n (jHop j (yac.iadd .i64 j.hops 1)) o).bind fun⟨b0_node1,zaX,r1,r21⟩=>some (.inr (b0_node1,zaX,r1,r21))
   else
    bif yac.ieq j.kind 1 then zcC 19 n j o else
    (zba false ⟨#[]⟩ 19 n j o).bind fun⟨b0_node1,r1⟩=>some (.inr (b0_node1,j,r1,o))):Option zfO)=some r->zhu l n j o=some r:=fun r hr=>zob (by
   rw[zfP,zry hl,yaa];unfold fstI;rw[hc];dsimp only
   rw[iltF (by omega),cond_false];exact hr)
  unfold hopN;by_cases c:j.hops<64
  ·rw[if_pos c];by_cases c0:j.hops<0
   ·rw[if_pos c0];refine⟨_,pre _ (by rw[zaq,zac,if_pos c,zaq,zac,if_pos c0,zaO,hp,yaa];show(zcD p n (jHop j 1) o).bind _=_;rw[zpS h ho,yaa]),rfl⟩
   ·rw[if_neg c0];refine⟨_,pre _ (by rw[zaq,zac,if_pos c,zaq,zac,if_neg c0,znu (a:=j.hops) (b:=1) (by omega) (by omega),zaO,hp,yaa,zpS h ho,yaa]),rfl⟩
  ·rw[if_neg c];by_cases k1:j.kind=1
   ·rw[if_pos k1];obtain⟨z,hz,hz2⟩:=zjz (n:=n) (j:=j) (why:=19) (o:=o) h ok hf hj ho h1 h4;exact⟨z,pre _ (by rw[zaq,zac,if_neg c,zaf,zac,if_pos k1];exact hz),hz2⟩
   ·rw[if_neg k1];refine⟨_,pre _ (by rw[zaq,zac,if_neg c,zaf,zac,if_neg k1,zcB h,yaa]),?_⟩;simp[prF]
theorem zAj{j:Job}{b:Bool}(h:j.doing=b):(⟨j.id,j.kind,j.bit,j.key,j.val,j.target,j.via,j.at_,b,j.hops,j.tries,j.due⟩:Job)=j:=by subst h;rfl
def prZ:zfF->Node×List Out
 | .inl (_,n,_,_,o)=>(n,o)
 | .inr (.inl (_,n,_,o))=>(n,o)
 | .inr (.inr (n,_,_,o))=>(n,o)
theorem zlt{n0 n:Node}{id:Int}{m:Msg}{t has:Bool}{j:Job}{o:List Out}(h:Sz n)(ok:NOk n)(hf:n.fingers.length<=900)(hj:JOk j)(ho:o.length<=900)(h1:1<=j.kind)(h4:j.kind<=4)(hl:setN n j=n)(hpl:m.peers.length<=1000000)(hth:t=true->m.peers≠[]):
  ∃z,zie n0 id m t has n j o=some z/\prZ z=(if t=true then(match m.peers with| []=>(n,o)|p::_=>((endN n j p).1,o++(endN n j p).2))else if m.kind=2/\has=false then((znw n j m.peers).1,o++(znw n j m.peers).2)else(n,o)):=by
 cases t with
 |true=>
  rw[if_pos rfl]
  cases hpe:m.peers with
  |nil=>exact absurd hpe (hth rfl)
  |cons p r=>
   obtain⟨q,f,he⟩:=zxb (n:=n) (j:=j) (owner:=p) (o:=o) h hf hl ho hj.key h1 h4;have e0:xget zad (p::r) 0=some p:=by rw[show(0:Int)=((0:Nat):Int)from rfl,zaO];rfl
   exact⟨_,zfG (by rw[zcU,cond_true,hpe,e0,yaa,he,yaa]),rfl⟩
 |false=>
  rw[if_neg (by simp)];by_cases k2:m.kind=2
  ·cases has with
   |true=>
    rw[if_neg (by simp)]
    exact⟨_,zfG (by rw[zcU,cond_false,zaf,zac,if_pos k2,cond_true]),rfl⟩
   |false=>
    rw[if_pos ⟨k2,rfl⟩];obtain⟨z,hz,hz2⟩:=zDI (n:=n) (j:=j) (l:=m.peers) (o:=o) h ok hf hj ho h1 h4 hpl;rw[<-hz2];rcases z with⟨a,b,c⟩|⟨a,b,c,d⟩
    ·exact⟨_,zfG (by rw[zcU,cond_false,zaf,zac,if_pos k2,cond_false,hz,yaa]),rfl⟩
    ·exact⟨_,zfG (by rw[zcU,cond_false,zaf,zac,if_pos k2,cond_false,hz,yaa]),rfl⟩
  ·rw[if_neg (fun hh=>k2 hh.1)];exact⟨_,zfG (by rw[zcU,cond_false,zaf,zac,if_neg k2]),rfl⟩
def prY:zfI->Node×List Out
 | .inl (o,_,n,_)=>(n,o)
 | .inr (.inl (o,_,n,_))=>(n,o)
 | .inr (.inr (o,_,n,_))=>(n,o)
theorem zxU{n0 n:Node}{id:Int}{m:Msg}{j:Job}(h:Sz n)(ok:NOk n)(hf:n.fingers.length<=900)(hj:JOk j)(h1:1<=j.kind)(h4:j.kind<=4)(hl:setN n j=n)(hpl:m.peers.length<=1000000):
  ∃z,zoC n0 id m n j []=some z/\prY z=zpg n j m:=by
 unfold zpg;by_cases k12:m.kind=12
 ·rw[if_pos k12];obtain⟨z,hz,hz2⟩:=zjz (n:=n) (j:=j) (why:=yac.iwrap .i64 m.code) (o:=[]) h ok hf hj (by simp) h1 h4;rw[ya4]at hz2;have hz3:zdp n j (yac.iwrap .i64 m.code)=prF [] z:=hz2.symm;rw[hz3];rcases z with⟨a,b,c⟩|⟨a,b,c,d⟩
  ·exact⟨_,zfJ (by rw[zcV,zaf,zac,if_pos k12,hz,yaa];dsimp only;rw[zbL,yaa]),rfl⟩
  ·exact⟨_,zfJ (by rw[zcV,zaf,zac,if_pos k12,hz,yaa];dsimp only;rw[zif,yaa]),rfl⟩
 rw[if_neg k12]
 have fin:∀z0:zfF,∃z,((match z0 with
     | .inl (za1,b4_node1,zaD,r5,r61)=>(za9 b4_node1 zaD r61).bind fun r0=>some (.inr (.inl (r61,za1,r0,b4_node1,zaD,r5,r61)))
     | .inr (.inl (za1,b4_node1,zaD,r61))=>(zaU b4_node1 zaD r61).bind fun⟨r0_0,r0_1,r0_2,r0_3,r0_4,r0_5,r0_7,r0_8,r0_9,r0_10,r0_11,r0_12,r0_13⟩=>some (.inr (.inr (r61,za1,(⟨(⟨r0_0,r0_1⟩:Peer),r0_2,r0_3,r0_4,r0_5,b4_node1.fingers,r0_7,r0_8,r0_9,r0_10,r0_11,r0_12,r0_13⟩:Node),b4_node1,zaD,r61)))
     | .inr (.inr (b4_node1,zaD,r5,r61))=>(zaU b4_node1 zaD r61).bind fun⟨r0_0,r0_1,r0_2,r0_3,r0_4,r0_5,r0_7,r0_8,r0_9,r0_10,r0_11,r0_12,r0_13⟩=>some (.inl (r61,false,(⟨(⟨r0_0,r0_1⟩:Peer),r0_2,r0_3,r0_4,r0_5,b4_node1.fingers,r0_7,r0_8,r0_9,r0_10,r0_11,r0_12,r0_13⟩:Node),b4_node1,zaD,r5,r61))):Option zfI)=some z/\prY z=prZ z0:=fun z0=>by
  rcases z0 with⟨a,b,c,d,e⟩|⟨a,b,c,d⟩|⟨a,b,c,d⟩
  ·exact⟨_,by dsimp only;rw[zif,yaa],rfl⟩
  ·exact⟨_,by dsimp only;rw[zbL,yaa],rfl⟩
  ·exact⟨_,by dsimp only;rw[zbL,yaa],rfl⟩
 by_cases k2:m.kind=2
 ·rw[if_pos k2]
  cases hh:m.has with
  |true=>
   rw[if_pos rfl]
   have et:yac.ilt 0 (xlen zad m.peers)=true<->m.peers≠[]:=by
    rw[zav,zaq,decide_eq_true_iff];cases m.peers<;>simp<;>omega
   obtain⟨z0,hz0,hz1⟩:=zlt (n0:=n0) (id:=id) (m:=m) (t:=yac.ilt 0 (xlen zad m.peers)) (has:=true) (o:=[]) h ok hf hj (by simp) h1 h4 hl hpl et.1;obtain⟨z,hz,hz2⟩:=fin z0;refine⟨z,zfJ (by rw[zcV,zaf,zac,if_neg k12,zaf,zac,if_pos k2,hh,cond_true,hz0,yaa];exact hz),?_⟩;rw[hz2,hz1]
   cases hpe:m.peers with
   |nil=>simp[zav,zaq]
   |cons p r=>rw[if_pos (by rw[<-hpe];exact et.2 (by rw[hpe];simp))];simp
  |false=>
   rw[if_neg (by simp)];obtain⟨z0,hz0,hz1⟩:=zlt (n0:=n0) (id:=id) (m:=m) (t:=false) (has:=false) (o:=[]) h ok hf hj (by simp) h1 h4 hl hpl (by simp);obtain⟨z,hz,hz2⟩:=fin z0;refine⟨z,zfJ (by rw[zcV,zaf,zac,if_neg k12,zaf,zac,if_pos k2,hh,cond_false,hz0,yaa];exact hz),?_⟩;rw[hz2,hz1,if_neg (by simp),if_pos ⟨k2,rfl⟩];simp
 ·rw[if_neg k2];obtain⟨z0,hz0,hz1⟩:=zlt (n0:=n0) (id:=id) (m:=m) (t:=false) (has:=m.has) (o:=[]) h ok hf hj (by simp) h1 h4 hl hpl (by simp);obtain⟨z,hz,hz2⟩:=fin z0;refine⟨z,zfJ (by rw[zcV,zaf,zac,if_neg k12,zaf,zac,if_neg k2,hz0,yaa];exact hz),?_⟩;rw[hz2,hz1,if_neg (by simp),if_neg (fun hh=>k2 hh.1)]
theorem zBn{n:Node}{id:Int}{m:Msg}(h:Sz n)(ok:NOk n)(hf:n.fingers.length<=900)(hj:JsOk n)(hpl:m.peers.length<=1000000):zkj n id m=some (zkt n id m):=zDF (by
 rw[zpR,ztM h,yaa];unfold zkt
 cases ht:ziC n id with
 |none=>dsimp only;rw[cond_false,zbL];rfl
 |some x=>
  obtain⟨t1,t2,t3,t4,t5⟩:=zka ht;dsimp only
  cases hd:x.doing with
  |true=>rw[cond_true,cond_true,zbL];rfl
  |false=>
   obtain⟨z,hz,hz2⟩:=zxU (n0:=n) (id:=id) (m:=m) h ok hf (hj x t1) t3 t4 t5 hpl;rw[cond_true,cond_false,zAj hd,hz,yaa,if_neg (by simp),<-hz2]
   rcases z with⟨a,b,c,d⟩|⟨a,b,c,d⟩|⟨a,b,c,d⟩<;>rfl)
theorem zz6{n:Node}{j:Job}{o:List Out}(h:Sz n)(hli:n.list.length<=900)(ho:o.length<=900):zly n j o=some ((zlV n j).1,n.fingers,o++(zlV n j).2):=zv5 (by
 obtain⟨e1,e2,e3,e4⟩:=znN n j.id false ⟨#[]⟩ 0;rw[zjG,zcB h,yaa];dsimp only;rw[Pe.peers_Add_eq (by rw[e2];exact hli),yaa,zky (zwC h hli j.at_ true) (yaP _) (yaP _),yaa];show(zhx (zlV n j).1 (zlV n j).2 _ j o).bind _=_;have hs:(zlV n j).2.length<=1:=(zii (zwC h hli j.at_ true)).2;rw[zBp (by omega) (by omega),yaa]
 rfl)
def prW:zkf->Node×List Out
 | .inl (n,_,_,o)=>(n,o)
 | .inr (n,_,o)=>(n,o)
def prV:zg2->Node×List Out
 | .inl (o,n,_)=>(n,o)
 | .inr (.inl (o,n,_))=>(n,o)
 | .inr (.inr (o,n,_))=>(n,o)
theorem zy8{n0 n:Node}{id:Int}{m:Msg}{j:Job}(h:Sz n)(ok:NOk n)(hf:n.fingers.length<=900)(hli:n.list.length<=900)(hj:JOk j)(h1:1<=j.kind)(h4:j.kind<=4):
  ∃z,zpQ n0 id m n j []=some z/\prV z=zsO n j m:=by
 have d0:∀t:Bool,∃z,zmt n0 id m j.kind t n j []=some z/\prW z=(if t=true then(zay n j.id true j.val 0,[])else if m.kind=9/\j.kind=3 then(zay n j.id m.has m.val 0,[])else(n,[])):=fun t=>by
  cases t with
  |true=>exact⟨_,zkg (by rw[zeB,cond_true,zcB h,yaa]),rfl⟩
  |false=>
   rw[if_neg (by simp)];by_cases k9:m.kind=9
   ·by_cases k3:j.kind=3
    ·rw[if_pos ⟨k9,k3⟩];exact⟨_,zkg (by rw[zeB,cond_false,zaf,zac,if_pos k9,zaf,zac,if_pos k3,zcB h,yaa]),rfl⟩
    ·rw[if_neg (fun hh=>k3 hh.2)];exact⟨_,zkg (by rw[zeB,cond_false,zaf,zac,if_pos k9,zaf,zac,if_neg k3]),rfl⟩
   ·rw[if_neg (fun hh=>k9 hh.1)];exact⟨_,zkg (by rw[zeB,cond_false,zaf,zac,if_neg k9]),rfl⟩
 have d1:∀t:Bool,∃z,zmu n0 id m j.kind t n j []=some z/\prW z=(if t=true then zlV n j else if m.kind=6/\j.kind=2 then(zay n j.id true j.val 0,[])else if m.kind=9/\j.kind=3 then(zay n j.id m.has m.val 0,[])else(n,[])):=fun t=>by
  cases t with
  |true=>exact⟨_,zki (by rw[zeC,cond_true,zz6 h hli (by simp),yaa]),by rw[if_pos rfl];simp[prW]⟩
  |false=>
   rw[if_neg (by simp)];by_cases k6:m.kind=6
   ·by_cases k2:j.kind=2
    ·obtain⟨z,hz,hz2⟩:=d0 true;exact⟨z,zki (by rw[zeC,cond_false,zaf,zac,if_pos k6,zaf,decide_eq_true k2];exact hz),by rw[hz2,if_pos rfl,if_pos ⟨k6,k2⟩]⟩
    ·obtain⟨z,hz,hz2⟩:=d0 false;exact⟨z,zki (by rw[zeC,cond_false,zaf,zac,if_pos k6,zaf,decide_eq_false k2];exact hz),by rw[hz2,if_neg (by simp),if_neg (fun hh:m.kind=6/\j.kind=2=>k2 hh.2)]⟩
   ·obtain⟨z,hz,hz2⟩:=d0 false;exact⟨z,zki (by rw[zeC,cond_false,zaf,zac,if_neg k6];exact hz),by rw[hz2,if_neg (by simp),if_neg (fun hh:m.kind=6/\j.kind=2=>k6 hh.1)]⟩
 unfold zsO;by_cases k12:m.kind=12
 ·rw[if_pos k12];obtain⟨z,hz,hz2⟩:=zjz (n:=n) (j:=j) (why:=yac.iwrap .i64 m.code) (o:=[]) h ok hf hj (by simp) h1 h4;rw[ya4]at hz2;have hz3:zdp n j (yac.iwrap .i64 m.code)=prF [] z:=hz2.symm;rw[hz3];rcases z with⟨a,b,c⟩|⟨a,b,c,d⟩
  ·exact⟨_,zg3 (by rw[zdk,zaf,zac,if_pos k12,hz,yaa];dsimp only;rw[zbL,yaa]),rfl⟩
  ·exact⟨_,zg3 (by rw[zdk,zaf,zac,if_pos k12,hz,yaa];dsimp only;rw[zif,yaa]),rfl⟩
 rw[if_neg k12]
 have fin:∀z0:zkh,∃z,((match z0 with
     | .inl (b4_node1,zaD,r5,r61)=>(za9 b4_node1 zaD r61).bind fun r0=>some (.inr (.inl (r61,r0,b4_node1,zaD,r5,r61)))
     | .inr (b4_node1,zaD,r61)=>(zaU b4_node1 zaD r61).bind fun⟨r0_0,r0_1,r0_2,r0_3,r0_4,r0_5,r0_7,r0_8,r0_9,r0_10,r0_11,r0_12,r0_13⟩=>some (.inr (.inr (r61,(⟨(⟨r0_0,r0_1⟩:Peer),r0_2,r0_3,r0_4,r0_5,b4_node1.fingers,r0_7,r0_8,r0_9,r0_10,r0_11,r0_12,r0_13⟩:Node),b4_node1,zaD,r61)))):Option zg2)=some z/\prV z=prW z0:=fun z0=>by
  rcases z0 with⟨a,b,c,d⟩|⟨a,b,c⟩
  ·exact⟨_,by dsimp only;rw[zif,yaa],rfl⟩
  ·exact⟨_,by dsimp only;rw[zbL,yaa],rfl⟩
 by_cases k4:m.kind=4
 ·by_cases k1:j.kind=1
  ·obtain⟨z0,hz0,hz1⟩:=d1 true;obtain⟨z,hz,hz2⟩:=fin z0;refine⟨z,zg3 (by rw[zdk,zaf,zac,if_neg k12,zaf,zac,if_pos k4,zaf,decide_eq_true k1,hz0,yaa];exact hz),?_⟩;rw[hz2,hz1,if_pos rfl,if_pos ⟨k4,k1⟩]
  ·obtain⟨z0,hz0,hz1⟩:=d1 false;obtain⟨z,hz,hz2⟩:=fin z0;refine⟨z,zg3 (by rw[zdk,zaf,zac,if_neg k12,zaf,zac,if_pos k4,zaf,decide_eq_false k1,hz0,yaa];exact hz),?_⟩;rw[hz2,hz1,if_neg (by simp),if_neg (fun hh:m.kind=4/\j.kind=1=>k1 hh.2)]
 ·obtain⟨z0,hz0,hz1⟩:=d1 false;obtain⟨z,hz,hz2⟩:=fin z0;refine⟨z,zg3 (by rw[zdk,zaf,zac,if_neg k12,zaf,zac,if_neg k4,hz0,yaa];exact hz),?_⟩;rw[hz2,hz1,if_neg (by simp),if_neg (fun hh:m.kind=4/\j.kind=1=>k4 hh.1)]
theorem zDE{n:Node}{id:Int}{m:Msg}(h:Sz n)(ok:NOk n)(hf:n.fingers.length<=900)(hli:n.list.length<=900)(hj:JsOk n):zlO n id m=some (zlS n id m):=zEQ (by
 rw[zrw,ztM h,yaa];unfold zlS
 cases ht:ziC n id with
 |none=>dsimp only;rw[cond_false,zbL];rfl
 |some x=>
  obtain⟨t1,t2,t3,t4,t5⟩:=zka ht;dsimp only
  cases hd:x.doing with
  |false=>rw[cond_true,cond_false,zbL];rfl
  |true=>
   obtain⟨z,hz,hz2⟩:=zy8 (n0:=n) (id:=id) (m:=m) h ok hf hli (hj x t1) t3 t4;rw[cond_true,cond_true,zAj hd,hz,yaa,if_pos rfl,<-hz2]
   rcases z with⟨a,b,c⟩|⟨a,b,c⟩|⟨a,b,c⟩<;>rfl)
def ln(n:Node)(p:Peer):Node:=⟨n.me,n.clock,n.joined,n.pred,Pe.add n.me n.list p,n.fingers,n.store,n.pends,n.jobs,n.results,n.rid,n.jobID,n.nextBit⟩
def pn(n:Node)(p:Peer):Node:=⟨n.me,n.clock,n.joined,[⟨p,0⟩],Pe.add n.me n.list p,n.fingers,n.store,n.pends,n.jobs,n.results,n.rid,n.jobID,n.nextBit⟩
theorem zBS{n:Node}{p:Peer}(h:Sz n)(hl:n.list.length<=900):Sz (ln n p)/\Sz (pn n p):=by
 have h1:=Pe.add_le n.me p n.list;exact⟨⟨h.pred,by show(Pe.add n.me n.list p).length<=1000;omega,h.fingers,h.store,h.pends,h.jobs,h.results⟩,⟨by simp[pn],by show(Pe.add n.me n.list p).length<=1000;omega,h.fingers,h.store,h.pends,h.jobs,h.results⟩⟩
structure MSz(M:Msg):Prop where
 key:M.key.size<1000000
 pairs:M.pairs.length<=1000
 keys:Keys M.pairs
structure MPl(M:Msg):Prop where
 id:0<=M.id/\M.id<18446744073709551616
 peer:PeOk M.peer
def MFit(m:Msg):Prop:=m.peers.length<=1000000/\m.pairs.length<=1000000
def AFit(l:List Out):Prop:=∀o,o∈l->MFit o.msg
theorem AFit.nil:AFit []:=fun o ho=>by cases ho
theorem AFit.one{o:Out}(h:MFit o.msg):AFit [o]:=fun q hq=>by rw[List.mem_singleton.1 hq];exact h
theorem AFit.cons{o:Out}{l:List Out}(h:MFit o.msg)(hl:AFit l):AFit (o::l):=fun q hq=>by
 rcases List.mem_cons.1 hq with e|e
 ·rw[e];exact h
 ·exact hl q e
theorem AFit.app{a b:List Out}(ha:AFit a)(hb:AFit b):AFit (a++b):=fun q hq=>(yal.1 hq).elim (ha q) (hb q)
theorem zxk{n:Node}{to_:Peer}{m:Msg}{why job:Int}(h:MFit m):AFit (askN n to_ m why job).2:=by
 unfold askN;split
 ·exact AFit.nil
 ·exact AFit.one h
theorem zAg(to_:Peer)(fresh:Bool):∀(cs:List (List Pair)) (n:Node),(∀c,c∈cs->c.length<=1000000)->AFit (zfk to_ fresh cs n).2
 | [],n,h=>AFit.nil
 |c::cs,n,h=>AFit.app (zxk ⟨yaP _,h c (by simp)⟩) (zAg to_ fresh cs _ fun x hx=>h x (by simp[hx]))
theorem zKk{n:Node}{to_:Peer}{l:List Pair}{fresh:Bool}:AFit (hand n to_ l fresh).2:=zAg to_ fresh (cut8 l) n fun c hc=>by have:=zFO hc;omega
theorem zAk(key val:ByteArray):∀(ps:List Peer) (n:Node),AFit (zds key val ps n).2
 | [],n=>AFit.nil
 |p::ps,n=>AFit.app zKk (zAk key val ps _)
theorem zKv{n:Node}{key val:ByteArray}:AFit (zcO n key val).2.1:=by
 unfold zcO;split
 ·exact zAk key val _ _
 ·exact AFit.nil
def bigJ(x:Job):Bool:=decide (300<x.key.size)||decide (700<x.val.size)
def bigR(x:Result):Bool:=decide (300<x.key.size)||decide (700<x.val.size)
theorem zIY{n:Node}(h:n.jobs.length<=1000):zju n 0=some (bif n.jobs.any bigJ then .inl ()else .inr ()):=
 zaW (σ:=Unit) eJob (l:=n.jobs) (by omega) (L:=fun i _=>zju n i) (res:=fun _ _ rest=>bif rest.any bigJ then .inl ()else .inr ()) (Inv:=fun _ _=>True)
  (fun _ _ hh=>zst (by rw[zkd,hh]<;>rfl))
  (fun k x rest s _ hn hx hd h1 h2 h3 ih=>zst (by
   rw[zkd,h1,cond_true,h2,yaa,zbn,zbn,List.any_cons,bigJ];by_cases a:300<x.key.size
   ·rw[iltT (by omega),decide_eq_true a]<;>rfl
   ·rw[iltF (by omega),decide_eq_false a,cond_false];by_cases b:700<x.val.size
    ·rw[iltT (by omega),decide_eq_true b]<;>rfl
    ·rw[iltF (by omega),decide_eq_false b,cond_false,h3,ih () trivial]<;>rfl)) () trivial
theorem zIZ{n:Node}(h:n.results.length<=1000):zjv n 0=some (bif n.results.any bigR then .inl ()else .inr ()):=
 zaW (σ:=Unit) zaj (l:=n.results) (by omega) (L:=fun i _=>zjv n i) (res:=fun _ _ rest=>bif rest.any bigR then .inl ()else .inr ()) (Inv:=fun _ _=>True)
  (fun _ _ hh=>zsu (by rw[zke,hh]<;>rfl))
  (fun k x rest s _ hn hx hd h1 h2 h3 ih=>zsu (by
   rw[zke,h1,cond_true,h2,yaa,zbn,zbn,List.any_cons,bigR];by_cases a:300<x.key.size
   ·rw[iltT (by omega),decide_eq_true a]<;>rfl
   ·rw[iltF (by omega),decide_eq_false a,cond_false];by_cases b:700<x.val.size
    ·rw[iltT (by omega),decide_eq_true b]<;>rfl
    ·rw[iltF (by omega),decide_eq_false b,cond_false,h3,ih () trivial]<;>rfl)) () trivial
structure Sm(n:Node):Prop where
 pred:n.pred.length<=5
 list:n.list.length<=40
 fingers:n.fingers.length<=80
 pends:n.pends.length<=100
 jobs:n.jobs.length<=20
 results:n.results.length<=40
 store:n.store.length<=100
 keys:Keys n.store
theorem Sm.sz{n:Node}(h:Sm n):Sz n:=by
 obtain⟨h1,h2,h3,h4,h5,h6,h7,_⟩:=h;exact⟨by omega,by omega,by omega,by omega,by omega,by omega,by omega⟩
def zsd(m:Msg):Bool:=decide (300<m.key.size)||(decide (700<m.val.size)||(decide (40<m.peers.length)||(decide (20<m.pairs.length)||m.pairs.any fun p=>decide (300<p.key.size)||decide (700<p.val.size))))
theorem zIT{m:Msg}(h:m.pairs.length<=1000):zjt m 0=some (bif m.pairs.any fun p=>decide (300<p.key.size)||decide (700<p.val.size)then .inl ()else .inr ()):=
 zaW (σ:=Unit) zag (l:=m.pairs) (by omega) (L:=fun i _=>zjt m i) (res:=fun _ _ rest=>bif rest.any fun p=>decide (300<p.key.size)||decide (700<p.val.size)then .inl ()else .inr ()) (Inv:=fun _ _=>True)
  (fun _ _ hh=>zss (by rw[zkc,hh]<;>rfl))
  (fun n x rest s _ hn hx hd h1 h2 h3 ih=>zss (by
   rw[zkc,h1,cond_true,h2,yaa,zbn,zbn,List.any_cons];by_cases a:300<x.key.size
   ·rw[iltT (by omega),decide_eq_true a]<;>rfl
   ·rw[iltF (by omega),decide_eq_false a,cond_false];by_cases b:700<x.val.size
    ·rw[iltT (by omega),decide_eq_true b]<;>rfl
    ·rw[iltF (by omega),decide_eq_false b,cond_false,h3,ih () trivial]<;>rfl)) () trivial
theorem zAq(m:Msg):zqH m=some (zsd m):=zEN (by
 rw[zru,zbn,zbn,zav,zav,zsd];by_cases h1:300<m.key.size
 ·rw[iltT (by omega),decide_eq_true h1]<;>rfl
 ·rw[iltF (by omega),decide_eq_false h1,cond_false,ybC];by_cases h2:700<m.val.size
  ·rw[iltT (by omega),decide_eq_true h2]<;>rfl
  ·rw[iltF (by omega),decide_eq_false h2,cond_false,ybC];by_cases h3:40<m.peers.length
   ·rw[iltT (by omega),decide_eq_true h3]<;>rfl
   ·rw[iltF (by omega),decide_eq_false h3,cond_false,ybC];by_cases h4:20<m.pairs.length
    ·rw[iltT (by omega),decide_eq_true h4]<;>rfl
    ·rw[iltF (by omega),decide_eq_false h4,cond_false,ybC,zIT (by omega),yaa]
     cases m.pairs.any fun p=>decide (300<p.key.size)||decide (700<p.val.size)<;>rfl)
structure MSm(m:Msg):Prop where
 key:m.key.size<=300
 val:m.val.size<=700
 peers:m.peers.length<=40
 pairs:m.pairs.length<=20
 all:∀p,p∈m.pairs->p.key.size<=300/\p.val.size<=700
theorem zIV{m:Msg}(h:zsd m=false):MSm m:=by
 simp only[zsd,Bool.or_eq_false_iff,decide_eq_false_iff_not,List.any_eq_false,Bool.or_eq_true,decide_eq_true_eq,not_or]at h;obtain⟨h1,h2,h3,h4,h5⟩:=h;exact⟨by omega,by omega,by omega,by omega,fun p hp=>by have:=h5 p hp;omega⟩
end Go.Ab.Tryz
namespace Go.Ab.Tryz
open Go Go.Ab Go.Proofs Go.Lib
open Pe (PeOk EnOk)
open Bool renaming false_or->ybC
open List renaming length_append->yaf
open Nat renaming zero_le->yaP
open Option renaming bind_some->yaa
def isH(why addr:Int)(p:Pend):Bool:=decide (p.why=why/\p.to_.addr=addr)
theorem zMJ(p q:Prop)[Decidable p][Decidable q]:(bif decide p then some (decide q)else some false)=some (decide (p/\q)):=by by_cases p<;>simp[*]
theorem zEe{l:List Pend}{why addr:Int}(hl:l.length<=10000):zxx l why addr=some (l.any (isH why addr)):=zGO (by
 have hf:∀x:Pend,ztc x why addr=some (isH why addr x):=fun x=>zCX (zMJ _ _)
 have:=zbu zaL (l:=l) (by omega) (p:=isH why addr) (L:=fun i=>zfW l why addr i) (fun h=>ziv (by simp[zdc,h]))
  (fun n x _ h1 h2 hp=>ziv (by simp[zdc,h1,h2,hf,hp]))
  (fun n x r _ h1 h2 hp h=>ziv (by simp[zdc,h1,h2,hf,hp,h]))
 rw[ztd];refine zuq ?_
 have e:zmI l why addr=some (fstI (isH why addr) l):=zxf (by
  rw[zlj,this];unfold fstI
  cases fst (isH why addr) l<;>rfl)
 rw[zio,e,yaa,za4,zwx])
theorem zG8{l:List Pend}{why addr:Int}(hl:l.length<=10000):zzR l why addr=some (l.any (isH why addr)):=zJf (by
 have:=zaW (σ:=Unit) zaL (l:=l) (by omega) (L:=fun i _=>zmc l why addr i) (res:=fun _ _ rest=>if rest.any (isH why addr)=true then Sum.inl ()else Sum.inr ()) (Inv:=fun _ _=>True)
  (fun _ _ h=>zvu (by rw[zmd,h];rfl))
  (fun n x rest s _ hn hx hd h1 h2 h3 ih=>zvu (by
   rw[zmd,h1,h2,cond_true,yaa,zaf,zaf,List.any_cons,h3,ih () trivial];unfold isH
   by_cases a:x.why=why<;>by_cases b:x.to_.addr=addr<;>simp[a,b])) () trivial
 rw[zvt,this]
 cases l.any (isH why addr)<;>rfl)
def isP(p:Peer)(x:Entry):Bool:=decide (x.peer.id=p.id/\x.peer.addr=p.addr)
theorem zD3{l:List Entry}{p:Peer}(hl:l.length<=10000):ziD l p.id p.addr=some (l.any (isP p)):=zsx (by
 have hf:∀x:Entry,zpj x p.id p.addr=some (isP p x):=fun x=>zzA (by
  rw[zmS,zaf,zaf];unfold isP
  by_cases a:x.peer.id=p.id<;>by_cases b:x.peer.addr=p.addr<;>simp[a,b])
 have:=zbu zaa (l:=l) (by omega) (p:=isP p) (L:=fun i=>zek l p.id p.addr i) (fun h=>zfT (by simp[zcf,h]))
  (fun n x _ h1 h2 hp=>zfT (by simp[zcf,h1,h2,hf,hp]))
  (fun n x r _ h1 h2 hp h=>zfT (by simp[zcf,h1,h2,hf,hp,h]))
 have e:zkn l p.id p.addr=some (fstI (isP p) l):=zuu (by
  rw[zit,this];unfold fstI
  cases fst (isP p) l<;>rfl)
 rw[zha,e,yaa,za4,zwx])
def zqn:Msg:=⟨11,0,0,false,0,⟨#[]⟩,⟨#[]⟩,⟨0,0⟩,[],[]⟩
def zBR(n:Node)(p:Peer):Bool:=decide (p.addr=n.me.addr)||(n.list.any (isP p)||n.pends.any (isH 3 p.addr))
def zeZ(n:Node)(p:Peer):Node×List Out:=if zBR n p=true then(n,[])else askN n p zqn 3 0
def zcP:List Peer->Node->Node×List Out
 | [],n=>(n,[])
 |p::l,n=>((zcP l (zeZ n p).1).1,(zeZ n p).2++(zcP l (zeZ n p).1).2)
theorem zB0(n:Node)(to_:Peer)(m:Msg)(why job:Int):∃l r,(askN n to_ m why job).1=⟨n.me,n.clock,n.joined,n.pred,n.list,n.fingers,n.store,l,n.jobs,n.results,r,n.jobID,n.nextBit⟩:=by
 unfold askN;split
 ·exact⟨n.pends,n.rid,rfl⟩
 ·exact⟨_,_,rfl⟩
theorem zAp:∀(l:List Peer) (n:Node),∃q r,(zcP l n).1=⟨n.me,n.clock,n.joined,n.pred,n.list,n.fingers,n.store,q,n.jobs,n.results,r,n.jobID,n.nextBit⟩
 | [],n=>⟨n.pends,n.rid,rfl⟩
 |p::l,n=>by
  obtain⟨q,r,h⟩:=zAp l (zeZ n p).1
  have:∃q r,(zeZ n p).1=⟨n.me,n.clock,n.joined,n.pred,n.list,n.fingers,n.store,q,n.jobs,n.results,r,n.jobID,n.nextBit⟩:=by
   unfold zeZ;split
   ·exact⟨n.pends,n.rid,rfl⟩
   ·exact zB0 ..
  obtain⟨q',r',h'⟩:=this;refine⟨q,r,h.trans ?_⟩;rw[h']
theorem zxv{n:Node}{p:Peer}(h:Sz n):Sz (zeZ n p).1/\(zeZ n p).2.length<=1:=by
 unfold zeZ;split
 ·exact⟨h,by simp⟩
 ·exact zii h
theorem zzE:∀(l:List Peer) {n:Node},Sz n->Sz (zcP l n).1/\(zcP l n).2.length<=l.length
 | [],n,h=>⟨h,by simp[zcP]⟩
 |p::l,n,h=>by
  obtain⟨h1,h2⟩:=zxv (p:=p) h;obtain⟨h3,h4⟩:=zzE l h1;refine⟨h3,?_⟩;simp only[zcP,yaf,List.length_cons];omega
theorem zCL:∀(l:List Peer) (n:Node),AFit (zcP l n).2
 | [],n=>AFit.nil
 |p::l,n=>by
  have h1:AFit (zeZ n p).2:=by
   unfold zeZ;split
   ·exact AFit.nil
   ·exact zxk ⟨yaP _,yaP _⟩
  exact h1.app (zCL l _)
theorem zt0{n:Node}{l:List Peer}(h:Sz n)(hl:l.length<=10000):zoO n l=some (zcP l n):=zCI (by
 rw[zpk,zck h,yaa];dsimp only
 have:=zaW (σ:=Node×List Out) zad (l:=l) (by omega) (L:=fun i s=>zd9 l i s.1 n.pred n.list n.fingers n.store n.pends n.jobs n.results s.2)
  (res:=fun k s rest=>((zcP rest s.1).1,n.pred,n.list,n.fingers,n.store,n.pends,n.jobs,n.results,s.2++(zcP rest s.1).2)) (Inv:=fun k s=>Sz s.1/\s.2.length<=k)
  (fun s hi h0=>zqi (by rw[ziy,h0];simp[zcP]))
  (fun k x rest s hi hn hx hd h1 h2 h3 ih=>zqi (by
   obtain⟨h4,h5⟩:=zxv (p:=x) hi.1;have h6:=hi.2;have hli:=hi.1.list;have hpe:=hi.1.pends;have go:=ih ((zeZ s.1 x).1,s.2++(zeZ s.1 x).2) ⟨h4,by simp only[yaf];omega⟩;rw[ziy,h1,h2,cond_true,yaa,zD3 (by omega),yaa,zaf,zac,zEe (by omega),yaa,h3];simp only[zcP];have hk:zeZ s.1 x=if zBR s.1 x=true then(s.1,[])else askN s.1 x zqn 3 0:=rfl
   unfold zBR at hk;by_cases c1:x.addr=s.1.me.addr
   ·rw[decide_eq_true c1,Bool.true_or,if_pos rfl]at hk;rw[if_pos c1];rw[hk]at go⊢;simpa using go
   ·rw[if_neg c1];rw[decide_eq_false c1,ybC]at hk
    cases c2:s.1.list.any (isP x)with
    |true=>
     rw[c2,Bool.true_or,if_pos rfl]at hk
     rw[cond_true];rw[hk]at go⊢;simpa using go
    |false=>
     rw[c2,ybC]at hk;rw[cond_false]
     cases c3:s.1.pends.any (isH 3 x.addr)with
     |true=>
      rw[c3,if_pos rfl]at hk
      rw[cond_true];rw[hk]at go⊢;simpa using go
     |false=>
      rw[c3,if_neg (by simp)]at hk;rw[hk]at h5;rw[cond_false];show(zi1 s.1 x zqn 3 0).bind _=_;rw[eta2 (zky hi.1 (by simp[zqn]) (by simp[zqn])),yaa];dsimp only
      rw[zax eOut (by omega) (by omega),cond_true];rw[hk]at go⊢;simpa using go)) (n,[]) ⟨h,by simp⟩
 dsimp only at this;have e:(⟨⟨n.me.id,n.me.addr⟩,n.clock,n.joined,n.pred,n.list,n.fingers,n.store,n.pends,n.jobs,n.results,n.rid,n.jobID,n.nextBit⟩:Node)=n:=rfl;rw[e,this,yaa]
 simp)
theorem zw2{n:Node}{l:List Peer}(h:Sz n)(hl:l.length<=10000):ztE n l=some (zcP l n):=zHl (by
 have:=zaW (σ:=Node×List Out) zad (l:=l) (by omega) (L:=fun i s=>zdu l i s.1 s.2)
  (res:=fun k s rest=>((zcP rest s.1).1,s.2++(zcP rest s.1).2)) (Inv:=fun k s=>Sz s.1/\s.2.length<=k)
  (fun s hi h0=>zuk (by rw[zk8,h0];simp[zcP]))
  (fun k x rest s hi hn hx hd h1 h2 h3 ih=>zuk (by
   obtain⟨h4,h5⟩:=zxv (p:=x) hi.1;have h6:=hi.2;have hli:=hi.1.list;have hpe:=hi.1.pends;have go:=ih ((zeZ s.1 x).1,s.2++(zeZ s.1 x).2) ⟨h4,by simp only[yaf];omega⟩
   have hin:∀b,zdt l (k:Int) b 0 s.1 s.2=some ((k:Int),b||s.1.list.any (isP x),s.1,s.2):=fun b=>
    zaW (σ:=Bool) zaa (l:=s.1.list) (by omega) (L:=fun i t=>zdt l (k:Int) t i s.1 s.2) (res:=fun _ t rest=>((k:Int),t||rest.any (isP x),s.1,s.2)) (Inv:=fun _ _=>True)
     (fun t _ h0=>zuj (by rw[zk7,h0];simp))
     (fun j y rest' t _ hn' hx' hd' g1 g2 g3 ih'=>zuj (by
      rw[zk7,g1,cond_true,g2,yaa,h2,yaa,zaf,zaf,g3,ih' true trivial,ih' false trivial,List.any_cons];unfold isP;cases t
      ·by_cases a:y.peer.id=x.id<;>by_cases b:y.peer.addr=x.addr<;>simp[a,b]
      ·simp)) b trivial
   have h7:=(zii (to_:=x) (m:=zqn) (why:=3) (job:=0) hi.1).2
   have hend:∀b,b=(decide (x.addr=s.1.me.addr)||s.1.pends.any (isH 3 x.addr))->(bif (b||s.1.list.any (isP x))then zdu l ((k+1:Nat):Int) s.1 s.2 else(zil s.1 x zqn 3 0).bind fun q=>bif zar eOut 136 s.2 q.2 then zdu l ((k+1:Nat):Int) q.1 (s.2++q.2)else none)=some ((zcP (x::rest) s.1).1,s.2++(zcP (x::rest) s.1).2):=fun b hb=>by
    have hk:zeZ s.1 x=if(b||s.1.list.any (isP x))=true then(s.1,[])else askN s.1 x zqn 3 0:=by
     rw[hb];unfold zeZ zBR;cases decide (x.addr=s.1.me.addr)<;>cases s.1.pends.any (isH 3 x.addr)<;>cases s.1.list.any (isP x)<;>rfl
    simp only[zcP]
    cases c:(b||s.1.list.any (isP x))with
    |true=>rw[c,if_pos rfl]at hk;rw[cond_true];rw[hk]at go⊢;simpa using go
    |false=>
     rw[c,if_neg (by simp)]at hk;rw[cond_false,zjY hi.1,yaa,zax eOut (by omega) (by omega),cond_true];rw[hk]at go⊢;simpa using go
   rw[zk8,h1,h2,cond_true,yaa,zaf,zac,zG8 (by omega),yaa,hin,hin,yaa,yaa];dsimp only;rw[h2,yaa,h3];by_cases c1:x.addr=s.1.me.addr
   ·rw[if_pos c1];exact hend true (by rw[decide_eq_true c1];rfl)
   ·rw[if_neg c1];exact hend _ (by rw[decide_eq_false c1];rfl))) (n,[]) ⟨h,by simp⟩
 rw[ztF,this]
 simp)
end Go.Ab.Tryz
namespace Go.Ab.Tryz
open Go Go.Ab Go.Proofs Go.Lib
open Pe (dist PeOk EnOk)
open Nat renaming zero_le->yaP
open Option renaming bind_some->yaa
def Good(r:Node×List Out):Prop:=Sz r.1/\r.2.length<=200/\AFit r.2
theorem Good.same{r:Node×List Out}(h:Good r):zna r.1 r.1=some true/\zpz r.2 r.2=some true:=⟨zop h.1,zua ⟨by have:=h.2.1;omega,h.2.2⟩⟩
theorem Good.nil{n:Node}(h:Sz n):Good (n,[]):=⟨h,yaP _,AFit.nil⟩
theorem Good.ask{n:Node}{to_:Peer}{m:Msg}{why job:Int}(h:Sz n)(hm:MFit m):Good (askN n to_ m why job):=⟨(zii h).1,by have:=(zii (to_:=to_) (m:=m) (why:=why) (job:=job) h).2;omega,zxk hm⟩
theorem zuW{n:Node}{j:Job}{p:Peer}(h:Sz n):Good (zhk n j p):=Good.ask (zeA h _) ⟨yaP _,yaP _⟩
theorem zBZ{n:Node}{j:Job}{p:Peer}(h:Sz n):Good (actN n j p):=Good.ask (zeA h _) (by
 unfold actM;split
 ·exact⟨yaP _,yaP _⟩
 ·split<;>exact⟨yaP _,yaP _⟩)
theorem zIB{n:Node}{j:Job}{p:Peer}(h:Sz n)(hf:n.fingers.length<=900):Good (endL n j p):=by
 unfold endL;split
 ·exact zBZ h
 split
 ·have hk:=zzz (key:=j.key) (val:=j.val) h;split
  ·exact⟨zeu hk.1 _ _ _ _,by have:=hk.2;show(zcO n j.key j.val).2.1.length<=200;omega,zKv⟩
  ·exact Good.nil (zeu h _ _ _ _)
 split
 ·exact Good.nil (zeu h _ _ _ _)
 split
 ·exact Good.nil (zeu (znq h (by have:=zzo j.bit n.fingers;omega)) _ _ _ _)
 ·exact Good.nil (zeu (znq h (by have:=zxN n.fingers j.bit p;omega)) _ _ _ _)
theorem zCm{n:Node}{j:Job}{p:Peer}(h:Sz n)(hf:n.fingers.length<=900):Good (endN n j p):=by
 unfold endN;split
 ·exact zBZ h
 ·exact zIB (zeA h _) hf
theorem zJr{n:Node}{j:Job}(h:Sz n)(hf:n.fingers.length<=900):Good (zk9 n j):=by
 unfold zk9;split
 ·exact zuW h
 split
 ·exact zCm h hf
 split
 ·exact Good.nil h
 ·exact zuW h
theorem zqc{n:Node}{j:Job}{why:Int}(h:Sz n)(hf:n.fingers.length<=900):Good (zdp n j why):=by
 unfold zdp;split
 ·exact Good.nil (zeA h _)
 split
 ·exact Good.nil (zeu h _ _ _ _)
 ·exact zJr h hf
theorem zIW{n:Node}{j:Job}{l:List Peer}(h:Sz n)(hf:n.fingers.length<=900):Good (znw n j l):=by
 unfold znw;split
 ·exact zqc h hf
 split
 ·exact zuW h
 split
 ·exact zqc h hf
 ·exact Good.nil (zeu h _ _ _ _)
theorem zIN{n:Node}{j:Job}(h:Sz n)(hli:n.list.length<=900):Good (zlV n j):=Good.ask (zwC h hli j.at_ true) ⟨yaP _,yaP _⟩
theorem zwU{n:Node}{id:Int}{m:Msg}(h:Sz n)(hf:n.fingers.length<=900):Good (zkt n id m):=by
 unfold zkt;split
 ·split
  ·exact Good.nil h
  ·unfold zpg;split
   ·exact zqc h hf
   split
   ·split
    ·split
     ·exact Good.nil h
     ·exact zCm h hf
    ·exact zIW h hf
   ·exact Good.nil h
 ·exact Good.nil h
theorem zyx{n:Node}{id:Int}{m:Msg}(h:Sz n)(hf:n.fingers.length<=900)(hli:n.list.length<=900):Good (zlS n id m):=by
 unfold zlS;split
 ·split
  ·unfold zsO;split
   ·exact zqc h hf
   split
   ·exact zIN h hli
   split
   ·exact Good.nil (zeu h _ _ _ _)
   split
   ·exact Good.nil (zeu h _ _ _ _)
   ·exact Good.nil h
  ·exact Good.nil h
 ·exact Good.nil h
theorem zyK(n:Node):∃b,zqI n=some b/\(b=false->Sm n/\n.jobs.any bigJ=false):=by
 refine Exists.elim (?_:∃b,znQ n=some b/\(b=false->Sm n/\n.jobs.any bigJ=false)) fun b hb=>⟨b,zEP hb.1,hb.2⟩
 rw[znQ,zav,zav,zav,zav,zav,zav,zaq,zaq,zaq,zaq,zaq,zaq,zac,zac,zac,zac,zac,zac,zKw,yaa];have no:∃b,some true=some b/\(b=false->Sm n/\n.jobs.any bigJ=false):=⟨true,rfl,fun h=>by cases h⟩
 by_cases h1:(5:Int)<(n.pred.length:Int)
 ·rw[if_pos h1];exact no
 rw[if_neg h1];by_cases h2:(40:Int)<(n.list.length:Int)
 ·rw[if_pos h2];exact no
 rw[if_neg h2];by_cases h3:(80:Int)<(n.fingers.length:Int)
 ·rw[if_pos h3];exact no
 rw[if_neg h3];by_cases h4:(100:Int)<(n.pends.length:Int)
 ·rw[if_pos h4];exact no
 rw[if_neg h4];by_cases h5:(20:Int)<(n.jobs.length:Int)
 ·rw[if_pos h5];exact no
 rw[if_neg h5];by_cases h6:(40:Int)<(n.results.length:Int)
 ·rw[if_pos h6];exact no
 rw[if_neg h6]
 cases h7:zyF n.store with
 |true=>exact no
 |false=>
  obtain⟨h8,h9⟩:=zIP h7
  have e:zpO n=some (bif n.jobs.any bigJ then true else bif n.results.any bigR then true else false):=zz3 (by
   rw[znp,zIY (by omega),yaa];cases n.jobs.any bigJ
   ·dsimp only[cond_false];rw[zIZ (by omega),yaa];cases n.results.any bigR<;>rfl
   ·rfl)
  rw[cond_false,e];refine⟨_,rfl,fun hh=>⟨⟨by omega,by omega,by omega,by omega,by omega,by omega,h8,h9⟩,?_⟩⟩
  cases hb:n.jobs.any bigJ with
  |true=>rw[hb]at hh;cases hh
  |false=>rfl
def JRng(n:Node):Prop:=∀j,j∈n.jobs->(0<=j.target/\j.target<18446744073709551616)/\PeOk j.at_
theorem jsOk{n:Node}(h:JRng n)(hb:n.jobs.any bigJ=false):JsOk n:=fun j hj=>by
 have:=List.any_eq_false.1 hb j hj;simp only[bigJ,Bool.or_eq_true,decide_eq_true_eq,not_or]at this;exact⟨(h j hj).1,(h j hj).2,by omega⟩
theorem zKC(n:Node):(⟨⟨n.me.id,n.me.addr⟩,n.clock,n.joined,n.pred,n.list,n.fingers,n.store,n.pends,n.jobs,n.results,n.rid,n.jobID,n.nextBit⟩:Node)=n:=rfl
end Go.Ab.Tryz
namespace Go.Ab.Tryz
open Go Go.Ab Go.Proofs Go.Lib
open Pe (PeOk EnOk)
open Go.Ab.Ops renaming std->yac
open List renaming mem_of_getElem?->yam,mem_or_eq_of_mem_set->ybx
open Nat renaming le_trans->yaO
open Option renaming bind_some->yaa
def isA(addr:Int)(f:Finger):Bool:=decide (f.peer.addr=addr)
def drpA(addr:Int)(l:List Finger):List Finger:=l.filter fun f=>!isA addr f
theorem zFS(addr:Int)(l:List Finger):(drpA addr l).length<=l.length:=List.length_filter_le _ _
theorem zAJ{l:List Finger}{addr:Int}(hl:l.length<=1000):zsT l addr=some (drpA addr l):=zCt (by
 have hf:∀x:Finger,zlT x addr=some (isA addr x):=fun x=>zzr rfl
 have:=zbu zab (l:=l) (by omega) (p:=isA addr) (L:=fun i=>zd0 l addr i) (fun h=>ze3 (by simp[zb3,h]))
  (fun n x _ h1 h2 hp=>ze3 (by simp[zb3,h1,h2,hf,hp]))
  (fun n x r _ h1 h2 hp h=>ze3 (by simp[zb3,h1,h2,hf,hp,h]))
 have hd:Dels zab (isA addr) (fun i j r=>zb9 addr i j r):=fun i j r q h=>zo0 (by rw[zeE];simpa only[hf,yaa]using h)
 have e:ziI l addr=some (fstI (isA addr) l):=zsB (by
  rw[zhf,this];unfold fstI
  cases fst (isA addr) l<;>rfl)
 rw[zpd,zax zab (by simp;omega) (by omega),cond_true];refine zrx ?_;rw[zf1,e,yaa,zaf,zac];unfold fstI
 cases hq:fst (isA addr) l with
 |none=>rw[if_pos rfl];exact congrArg some (List.filter_eq_self.2 fun y hy=>by simp[zlm hq y hy]).symm
 |some n=>
  rw[if_neg (by show¬(n:Int)=-1;omega)]
  exact zJ5 zab hd (⟨0,⟨0,0⟩⟩:Finger) (by omega) hq)
def zdh(n:Node)(a:Int):Node:=⟨n.me,n.clock,n.joined,if Pe.place (Pe.miss n.list a) a<0 then Pe.drp a n.pred else n.pred,Pe.miss n.list a,if Pe.place (Pe.miss n.list a) a<0 then drpA a n.fingers else n.fingers,n.store,n.pends,n.jobs,n.results,n.rid,n.jobID,n.nextBit⟩
def zmV(n:Node)(p:Pend):Node×List Out:=if p.why=4\/p.why=5 then zyy (zdh n p.to_.addr) p.job 18 else(zdh n p.to_.addr,[])
theorem zD9{n:Node}(h:Sz n)(a:Int):Sz (zdh n a):=by
 have h1:=Pe.miss_le n.list a;have h2:=Pe.drp_le a n.pred;have h3:=zFS a n.fingers;refine⟨?_,yaO h1 h.list,?_,h.store,h.pends,h.jobs,h.results⟩
 ·unfold zdh;dsimp only;split
  ·exact yaO h2 h.pred
  ·exact h.pred
 ·unfold zdh;dsimp only;split
  ·exact yaO h3 h.fingers
  ·exact h.fingers
theorem zGG{n:Node}(a:Int):(zdh n a).fingers.length<=n.fingers.length:=by
 unfold zdh;dsimp only;split
 ·exact zFS a n.fingers
 ·exact Nat.le_refl _
theorem zKA{l:List Entry}{a:Int}{x:Entry}(h:x∈Pe.miss l a):∃y,y∈l/\x.peer=y.peer:=by
 unfold Pe.miss at h;split at h
 ·exact⟨x,h,rfl⟩
 ·split at h
  ·exact⟨x,h,rfl⟩
  ·rename_i y hy;split at h
   ·exact⟨x,List.mem_of_mem_eraseIdx h,rfl⟩
   ·rcases ybx h with h|h
    ·exact⟨x,h,rfl⟩
    ·exact⟨y,yam hy,by rw[h]⟩
theorem zD8{n:Node}(ok:NOk n)(a:Int):NOk (zdh n a):=by
 refine⟨ok.me,?_,fun x hx=>?_,?_⟩
 ·unfold zdh;dsimp only;split
  ·exact fun x hx=>ok.pred x (List.mem_filter.1 hx).1
  ·exact ok.pred
 ·obtain⟨y,hy,e⟩:=zKA hx;rw[e];exact ok.list y hy
 ·unfold zdh;dsimp only;split
  ·exact fun x hx=>ok.fingers x (List.mem_filter.1 hx).1
  ·exact ok.fingers
theorem zyH{n:Node}{p:Pend}(h:Sz n)(ok:NOk n)(hf:n.fingers.length<=900)(hj:JsOk n):zpl n p=some (zmV n p):=zzB (by
 have hli:=h.list;have hm:=Pe.miss_le n.list p.to_.addr;have hw:=zz4 (id:=p.job) (why:=18) (zD9 h p.to_.addr) (zD8 ok p.to_.addr) (yaO (zGG _) hf) hj;rw[zmT,zck h,yaa];dsimp only;rw[Pe.peers_Miss_eq hli,yaa,Pe.peers_Place_eq (by omega),yaa,zaq,zac,zAJ h.fingers,yaa,Pe.peers_Drop_eq h.pred,yaa,zaf,zaf,zac,zac,zac,zac,zmV];unfold zdh at hw⊢
 by_cases c:Pe.place (Pe.miss n.list p.to_.addr) p.to_.addr<0<;>by_cases c4:p.why=4<;>by_cases c5:p.why=5<;>simp only[c,c4,c5,if_true,if_false,true_or,or_true,or_self]at hw⊢ <;>first|exact hw|rfl|omega)
theorem zzf{me p:Peer}{l:List Entry}{x:Entry}(h:x∈Pe.add me l p):x.peer=p\/∃y,y∈l/\x.peer=y.peer:=by
 have hi:∀{l':List Entry},(∀y,y∈l'->y∈l)->x∈Pe.cut (Pe.ins me p l')->x.peer=p\/∃y,y∈l/\x.peer=y.peer:=fun{l'} hl hx=>by
  have h2:x∈Pe.ins me p l':=by
   unfold Pe.cut at hx;split at hx
   ·exact List.mem_of_mem_take hx
   ·exact hx
  rcases Pe.ins_mem.1 h2 with h|h
  ·exact .inl (by rw[h])
  ·exact .inr ⟨x,hl x h,rfl⟩
 unfold Pe.add at h;split at h
 ·exact .inr ⟨x,h,rfl⟩
 ·split at h
  ·exact hi (fun y hy=>(List.mem_filter.1 hy).1) h
  ·split at h
   ·exact .inr ⟨x,h,rfl⟩
   ·rename_i y hy;split at h
    ·rcases ybx h with h|h
     ·exact .inr ⟨x,h,rfl⟩
     ·exact .inr ⟨y,yam hy,by rw[h]⟩
    ·exact hi (fun y hy=>(List.mem_filter.1 hy).1) h
theorem zNQ{me p:Peer}{l:List Entry}(hp:PeOk p)(hl:EnOk l):EnOk (Pe.add me l p):=fun x hx=>by
 rcases zzf hx with h|⟨y,hy,h⟩
 ·rw[h];exact hp
 ·rw[h];exact hl y hy
def ansL(m:Msg):List Peer:=if m.has=true then m.peer::m.peers else m.peers
def metN(n:Node)(p:Pend)(m:Msg):Node×List Out:=if m.kind=4 then zcP (ansL m) (ln n p.to_)else(ln n p.to_,[])
def zoW(n:Node)(p:Pend)(m:Msg):Node×List Out:=if p.why=4 then zkt n p.job m else if p.why=5 then zlS n p.job m else(n,[])
def zfX(n:Node)(p:Pend)(m:Msg):Node×List Out:=((zoW (metN n p m).1 p m).1,(metN n p m).2++(zoW (metN n p m).1 p m).2)
theorem zCM(n:Node)(p:Pend)(m:Msg):∃q r,(metN n p m).1=⟨n.me,n.clock,n.joined,n.pred,Pe.add n.me n.list p.to_,n.fingers,n.store,q,n.jobs,n.results,r,n.jobID,n.nextBit⟩:=by
 unfold metN;split
 ·exact zAp (ansL m) (ln n p.to_)
 ·exact⟨n.pends,n.rid,rfl⟩
structure APre(n:Node)(p:Pend)(m:Msg):Prop where
 sz:Sz n
 ok:NOk n
 f:n.fingers.length<=900
 l:n.list.length<=800
 j:JsOk n
 pe:m.peers.length<=9000
 to_:PeOk p.to_
theorem zxj{n:Node}{p:Pend}{m:Msg}(h:APre n p m):(ansL m).length<=9001:=by
 have:=h.pe;unfold ansL;split
 ·simp;omega
 ·omega
theorem zwF{n:Node}{p:Pend}{m:Msg}(h:APre n p m):Sz (metN n p m).1/\NOk (metN n p m).1/\(metN n p m).1.fingers.length<=900/\(metN n p m).1.list.length<=900/\JsOk (metN n p m).1/\(metN n p m).2.length<=9001/\AFit (metN n p m).2:=by
 have hl:=h.l;have ha:=Pe.add_le n.me p.to_ n.list;have hz:=(zBS (p:=p.to_) h.sz (by omega)).1
 have hs:Sz (metN n p m).1/\(metN n p m).2.length<=9001/\AFit (metN n p m).2:=by
  unfold metN;split
  ·obtain⟨h1,h2⟩:=zzE (ansL m) hz;exact⟨h1,yaO h2 (zxj h),zCL _ _⟩
  ·exact⟨hz,Nat.zero_le _,AFit.nil⟩
 obtain⟨q,r,e⟩:=zCM n p m;refine⟨hs.1,?_,?_,?_,?_,hs.2⟩<;>rw[e]
 ·exact⟨h.ok.me,h.ok.pred,zNQ h.to_ h.ok.list,h.ok.fingers⟩
 ·exact h.f
 ·exact yaO ha (by omega)
 ·exact h.j
theorem zAB{n:Node}{p:Pend}{m:Msg}(h:Sz n)(hf:n.fingers.length<=900)(hli:n.list.length<=900):Good (zoW n p m):=by
 unfold zoW;split
 ·exact zwU h hf
 ·split
  ·exact zyx h hf hli
  ·exact Good.nil h
theorem zwG{m:Msg}{b:Bool}(h:m.has=b):(⟨m.kind,m.rid,m.code,b,m.id,m.key,m.val,m.peer,m.peers,m.pairs⟩:Msg)=m:=by subst h;rfl
theorem zDw{n:Node}{p:Pend}{m:Msg}(h:Sz n)(hf:n.fingers.length<=900)(hli:n.list.length<=900):(zkt n p.job m).2.length<=200/\(zlS n p.job m).2.length<=200:=⟨(zwU h hf).2.1,(zyx h hf hli).2.1⟩
theorem zoE{n:Node}{p:Pend}{m:Msg}(h:APre n p m):zjO n p m=some (zfX n p m):=zxu (by
 have hl:=h.l;have hpe:=h.pe;have hz:=(zBS (p:=p.to_) h.sz (by omega)).1;obtain⟨h1,h2,h3,h4,h5,h6,h7⟩:=zwF h;have hal:=zxj h;have w1:=zBn (id:=p.job) (m:=m) h1 h2 h3 h5 (by omega);have w2:=zDE (id:=p.job) (m:=m) h1 h2 h3 h4 h5;obtain⟨g1,g2⟩:=zDw (p:=p) (m:=m) h1 h3 h4;rw[zln,zck h.sz,yaa];show(zn3 n.me n.list p.to_).bind _=_;rw[Pe.peers_Add_eq (by omega),yaa,zaf,zac];have e:(⟨⟨n.me.id,n.me.addr⟩,n.clock,n.joined,n.pred,Pe.add n.me n.list p.to_,n.fingers,n.store,n.pends,n.jobs,n.results,n.rid,n.jobID,n.nextBit⟩:Node)=ln n p.to_:=rfl;rw[e]
 have fin:(bif yac.ieq p.why 4 then(zkj (metN n p m).1 p.job m).bind fun q=>bif zar eOut 136 (metN n p m).2 q.2 then some (q.1,(metN n p m).2++q.2)else none else bif yac.ieq p.why 5 then(zlO (metN n p m).1 p.job m).bind fun q=>bif zar eOut 136 (metN n p m).2 q.2 then some (q.1,(metN n p m).2++q.2)else none else bif zar eOut 136 (metN n p m).2 []then some ((metN n p m).1,(metN n p m).2++[])else none)=some (zfX n p m):=by
  rw[w1,w2,yaa,yaa,zax eOut (by omega) (by omega),zax eOut (by omega) (by omega),zax eOut (by simp;omega) (by omega),zaf,zaf,zac,zac,zfX,zoW];by_cases c4:p.why=4
  ·rw[if_pos c4,if_pos c4];rfl
  ·rw[if_neg c4,if_neg c4];by_cases c5:p.why=5
   ·rw[if_pos c5,if_pos c5];rfl
   ·rw[if_neg c5,if_neg c5];rfl
 by_cases c:m.kind=4
 ·rw[if_pos c];have hm:metN n p m=zcP (ansL m) (ln n p.to_):=by unfold metN;rw[if_pos c]
  cases hh:m.has with
  |true=>
   have ha:ansL m=[m.peer]++m.peers:=by unfold ansL;rw[if_pos hh];rfl
   have hmeet:=zt0 (l:=[m.peer]++m.peers) hz (by simp;omega);rw[<-ha,<-hm]at hmeet;rw[cond_true,zax zad (by simp;omega) (by omega),cond_true,<-ha,hmeet,yaa];dsimp only
   rw[zwG hh];exact fin
  |false=>
   have ha:ansL m=m.peers:=by unfold ansL;rw[if_neg (by simp[hh])]
   have hmeet:=zt0 (l:=m.peers) hz (by omega);rw[<-ha,<-hm]at hmeet;rw[cond_false,<-ha,hmeet,yaa];dsimp only;rw[ha,zwG hh];exact fin
 ·rw[if_neg c];have hm:metN n p m=(ln n p.to_,[]):=by unfold metN;rw[if_neg c]
  rw[hm]at fin
  exact fin)
theorem zyV{n:Node}{p:Pend}{m:Msg}(h:APre n p m)(hp:∀p,p∈m.peers->PeOk p):zpG n p m=some (zfX n p m):=zzV (by
 have hl:=h.l;have hpe:=h.pe;have hz:=(zBS (p:=p.to_) h.sz (by omega)).1;obtain⟨h1,h2,h3,h4,h5,h6,h7⟩:=zwF h;have hal:=zxj h;have w1:=zDd (id:=p.job) (m:=m) h1 h2 h3 h5 (by omega) hp;have w2:=zEx (id:=p.job) (m:=m) h1 h2 h3 h4 h5;obtain⟨g1,g2⟩:=zDw (p:=p) (m:=m) h1 h3 h4;rw[zng,Pe.r27_Add_eq (by omega) h.ok.me h.to_ h.ok.list,yaa,zaf,zac];have e:(⟨n.me,n.clock,n.joined,n.pred,Pe.add n.me n.list p.to_,n.fingers,n.store,n.pends,n.jobs,n.results,n.rid,n.jobID,n.nextBit⟩:Node)=ln n p.to_:=rfl;rw[e]
 have fin:(bif yac.ieq p.why 4 then(zlM (metN n p m).1 p.job m).bind fun q=>bif zar eOut 136 (metN n p m).2 q.2 then some (q.1,(metN n p m).2++q.2)else none else bif yac.ieq p.why 5 then(znb (metN n p m).1 p.job m).bind fun q=>bif zar eOut 136 (metN n p m).2 q.2 then some (q.1,(metN n p m).2++q.2)else none else some ((metN n p m).1,(metN n p m).2))=some (zfX n p m):=by
  rw[w1,w2,yaa,yaa,zax eOut (by omega) (by omega),zax eOut (by omega) (by omega),zaf,zaf,zac,zac,zfX,zoW];by_cases c4:p.why=4
  ·rw[if_pos c4,if_pos c4];rfl
  ·rw[if_neg c4,if_neg c4];by_cases c5:p.why=5
   ·rw[if_pos c5,if_pos c5];rfl
   ·rw[if_neg c5,if_neg c5,List.append_nil]
 by_cases c:m.kind=4
 ·rw[if_pos c];have hm:metN n p m=zcP (ansL m) (ln n p.to_):=by unfold metN;rw[if_pos c]
  cases hh:m.has with
  |true=>
   have ha:ansL m=([]++[m.peer])++m.peers:=by unfold ansL;rw[if_pos hh];rfl
   have hmeet:=zw2 (l:=([]++[m.peer])++m.peers) hz (by simp;omega);rw[<-ha,<-hm]at hmeet;rw[cond_true,zax zad (by simp) (by omega),cond_true,zax zad (by simp;omega) (by omega),cond_true,<-ha,hmeet,yaa];dsimp only
   rw[zwG hh];exact fin
  |false=>
   have ha:ansL m=[]++m.peers:=by unfold ansL;rw[if_neg (by simp[hh])];rfl
   have hmeet:=zw2 (l:=[]++m.peers) hz (by simp;omega);rw[<-ha,<-hm]at hmeet;rw[cond_false,zax zad (by simp;omega) (by omega),cond_true,<-ha,hmeet,yaa];dsimp only;rw[zwG hh];exact fin
 ·rw[if_neg c];have hm:metN n p m=(ln n p.to_,[]):=by unfold metN;rw[if_neg c]
  rw[hm]at fin;have hf:∀x:Node×List Out,(bif zar eOut 136 [] x.2 then some (x.1,[]++x.2)else none)=(bif zar eOut 136 [] x.2 then some (x.1,[]++x.2)else none):=fun _=>rfl
  exact fin)
theorem zMM:zfD=some true:=zrA ((zIQ 60).call _ _ _ _ (by kernel_rfl))
theorem law_LAnswers{n:Node}{p:Pend}{m:Msg}(ok:NOk n)(hr:JRng n)(hto:PeOk p.to_)(hp:∀p,p∈m.peers->PeOk p):zpP n p m=some true:=zvV (by
 obtain⟨b,hb,hs⟩:=zyK n;rw[zjw,hb,yaa,zMM,zAq,yaa]
 cases hbb:b with
 |true=>rfl
 |false=>
  cases hm:zsd m with
  |true=>rfl
  |false=>
   obtain⟨sm,hjb⟩:=hs hbb;have h:=sm.sz;have hmp:=(zIV hm).peers;have pre:APre n p m:=⟨h,ok,by have:=sm.fingers;omega,by have:=sm.list;omega,jsOk hr hjb,by omega,hto⟩
   obtain⟨h1,h2,h3,h4,h5,h6,h7⟩:=zwF pre;have g:=zAB (p:=p) (m:=m) h1 h3 h4
   have hlen:(metN n p m).2.length<=500:=by
    unfold metN;split
    ·refine yaO (zzE _ ?_).2 ?_
     ·exact(zBS h (by have:=sm.list;omega)).1
     ·unfold ansL;split<;>first|(simp;omega)|omega
    ·simp
   have p1:=zoE pre;have q1:=zyV pre hp;have s1:zna (zfX n p m).1 (zfX n p m).1=some true:=zop g.1;have t1:zpz (zfX n p m).2 (zfX n p m).2=some true:=zua ⟨by have:=g.2.1;simp only[zfX,List.length_append];omega,h7.app g.2.2⟩;obtain⟨⟨a,o⟩,ha⟩:∃z,zfX n p m=z:=⟨_,rfl⟩
   rw[ha]at p1 q1 s1 t1;dsimp only at s1 t1;rw[cond_false,cond_false,zck h,yaa];dsimp only;rw[zKC,p1,yaa,q1,yaa];dsimp only
   rw[s1,yaa,cond_true,t1,yaa,cond_true,zop h,yaa,cond_true])
end Go.Ab.Tryz
namespace Go.Ab.Tryz
open Go Go.Ab
open Pe (PeOk EnOk)
theorem peOk{p:Peer}(h:p.Ok):PeOk p:=⟨h.1.1,by have:=h.1.2;omega⟩
theorem enOk{l:List Entry}(h:OkL Entry.Ok l):EnOk l:=fun x hx=>peOk (h.1 x hx).1
theorem nodeOk{n:Node}(h:n.Ok):NOk n:=by
 obtain⟨h1,h2,h3,h4,h5,h6,h7⟩:=h;exact⟨peOk h1,enOk h4,enOk h5,fun x hx=>peOk (h6.1 x hx).2⟩
theorem jobsOk{n:Node}(h:n.Ok):JRng n:=by
 obtain⟨h1,h2,h3,h4,h5,h6,h7,h8,h9,h10⟩:=h;intro j hj;obtain⟨j1,j2,j3,j4,j5,j6,j7,j8,j9⟩:=h9.1 j hj;exact⟨⟨j6.1,by have:=j6.2;omega⟩,peOk j8⟩
theorem peersOk{m:Msg}(h:m.Ok):∀p,p∈m.peers->PeOk p:=by
 obtain⟨h1,h2,h3,h4,h5,h6,h7,h8,h9,h10⟩:=h;exact fun p hp=>peOk (h9.1 p hp)
theorem pendOk{p:Pend}(h:p.Ok):PeOk p.to_:=peOk h.2.2.2.2.1
end Go.Ab.Tryz
namespace Go.Ab.Tryz
open Go Go.Ab Go.Proofs Go.Lib
open Pe (PeOk EnOk)
open Go.Ab.Ops renaming std->yac
open List renaming getElem?_eq_some_iff->yae,getElem?_set_self->yaq
open Option renaming bind_some->yaa
structure Kp(n n':Node):Prop where
 list:n'.list=n.list
 pred:n'.pred=n.pred
theorem Kp.rfl'{n:Node}:Kp n n:=⟨rfl,rfl⟩
theorem Kp.trans{a b c:Node}(h:Kp a b)(h':Kp b c):Kp a c:=⟨h'.list.trans h.list,h'.pred.trans h.pred⟩
theorem ask_kp{n:Node}{to_:Peer}{m:Msg}{why job:Int}:Kp n (askN n to_ m why job).1:=by
 obtain⟨l,r,h⟩:=zB0 n to_ m why job;rw[h];exact⟨rfl,rfl⟩
theorem set_kp{n:Node}{j:Job}:Kp n (setN n j):=⟨rfl,rfl⟩
theorem zet{n:Node}{id:Int}{has:Bool}{val:ByteArray}{e:Int}:Kp n (zay n id has val e):=by
 obtain⟨h1,h2,h3,h4⟩:=znN n id has val e;exact⟨h2,h4⟩
theorem zFU(to_:Peer)(fresh:Bool):∀(cs:List (List Pair)) (n:Node),Kp n (zfk to_ fresh cs n).1
 | [],n=>Kp.rfl'
 |c::cs,n=>(ask_kp (n:=n)).trans (zFU to_ fresh cs _)
theorem zCE(key val:ByteArray):∀(ps:List Peer) (n:Node),Kp n (zds key val ps n).1
 | [],n=>Kp.rfl'
 |p::ps,n=>(zFU p true _ n).trans (zCE key val ps _)
theorem keep_kp{n:Node}{key val:ByteArray}:Kp n (zcO n key val).1:=by
 unfold zcO;split
 ·exact Kp.trans (b:=zc3 n (put n.store key val).1) ⟨rfl,rfl⟩ (zCE key val _ _)
 ·exact Kp.rfl'
theorem zHx{n:Node}{j:Job}{p:Peer}:Kp n (actN n j p).1:=set_kp.trans ask_kp
theorem zzv{n:Node}{j:Job}{p:Peer}:Kp n (zhk n j p).1:=set_kp.trans ask_kp
theorem zM2{n:Node}{j:Job}{p:Peer}:Kp n (endL n j p).1:=by
 unfold endL;split
 ·exact zHx
 split
 ·split
  ·exact keep_kp.trans zet
  ·exact zet
 split
 ·exact zet
 split
 ·exact Kp.trans (b:=zd3 n (drpF j.bit n.fingers)) ⟨rfl,rfl⟩ zet
 ·exact Kp.trans (b:=zd3 n (setF n.fingers j.bit p)) ⟨rfl,rfl⟩ zet
theorem zIC{n:Node}{j:Job}{p:Peer}:Kp n (endN n j p).1:=by
 unfold endN;split
 ·exact zHx
 ·exact set_kp.trans zM2
theorem zNC{n:Node}{j:Job}:Kp n (zk9 n j).1:=by
 unfold zk9;split
 ·exact zzv
 split
 ·exact zIC
 split
 ·exact Kp.rfl'
 ·exact zzv
theorem zr8{n:Node}{j:Job}{why:Int}:Kp n (zdp n j why).1:=by
 unfold zdp;split
 ·exact set_kp
 split
 ·exact zet
 ·exact zNC
theorem zKg{n:Node}{id why:Int}:Kp n (zyy n id why).1:=by
 unfold zyy;split
 ·exact zr8
 ·exact Kp.rfl'
theorem zNk{n:Node}{j:Job}{l:List Peer}:Kp n (znw n j l).1:=by
 unfold znw;split
 ·exact zr8
 split
 ·exact zzv
 split
 ·exact zr8
 ·exact zet
theorem foundT_kp{n:Node}{id:Int}{m:Msg}:Kp n (zkt n id m).1:=by
 unfold zkt;split
 ·split
  ·exact Kp.rfl'
  ·unfold zpg;split
   ·exact zr8
   split
   ·split
    ·split
     ·exact Kp.rfl'
     ·exact zIC
    ·exact zNk
   ·exact Kp.rfl'
 ·exact Kp.rfl'
theorem zIw{n:Node}{id:Int}{m:Msg}:(zlS n id m).1.pred=n.pred/\∀x,x∈(zlS n id m).1.list->(∃y,y∈n.list/\x.peer=y.peer)\/∃j,j∈n.jobs/\j.kind=1/\j.at_=x.peer:=by
 have same:∀{n':Node},Kp n n'->n'.pred=n.pred/\∀x,x∈n'.list->(∃y,y∈n.list/\x.peer=y.peer)\/∃j,j∈n.jobs/\j.kind=1/\j.at_=x.peer:=fun h=>⟨h.pred,fun x hx=>.inl ⟨x,by rw[<-h.list];exact hx,rfl⟩⟩
 unfold zlS;split
 ·rename_i j hj;obtain⟨h1,h2,h3,h4,h5⟩:=zka hj;split
  ·unfold zsO;split
   ·exact same zr8
   split
   ·rename_i hk;unfold zlV;have hs:=zet (n:=n) (id:=j.id) (has:=false) (val:=⟨#[]⟩) (e:=0);refine⟨ask_kp.pred.trans hs.pred,fun x hx=>?_⟩;rw[ask_kp.list]at hx;rcases zzf hx with h|⟨y,hy,h⟩
    ·exact .inr ⟨j,h1,hk.2,h.symm⟩
    ·exact .inl ⟨y,by rw[<-hs.list];exact hy,h⟩
   split
   ·exact same zet
   split
   ·exact same zet
   ·exact same Kp.rfl'
  ·exact same Kp.rfl'
 ·exact same Kp.rfl'
def zBO(n:Node)(p:Pend)(x:Entry):Prop:=x.peer=p.to_\/(∃y,y∈n.list/\x.peer=y.peer)\/∃j,j∈n.jobs/\j.kind=1/\j.at_=x.peer
theorem zJN(n:Node)(p:Pend)(m:Msg):(zfX n p m).1.pred=n.pred/\∀x,x∈(zfX n p m).1.list->zBO n p x:=by
 obtain⟨q,r,e⟩:=zCM n p m
 have hl:∀x,x∈(metN n p m).1.list->zBO n p x:=fun x hx=>by
  rw[e]at hx;rcases zzf hx with h|h
  ·exact .inl h
  ·exact .inr (.inl h)
 have hp:(metN n p m).1.pred=n.pred:=by rw[e]
 have hj:(metN n p m).1.jobs=n.jobs:=by rw[e]
 show(zoW (metN n p m).1 p m).1.pred=n.pred/\∀x,x∈(zoW (metN n p m).1 p m).1.list->zBO n p x;unfold zoW;split
 ·exact⟨foundT_kp.pred.trans hp,fun x hx=>hl x (by rw[foundT_kp.list]at hx;exact hx)⟩
 split
 ·obtain⟨h1,h2⟩:=zIw (n:=(metN n p m).1) (id:=p.job) (m:=m);refine⟨h1.trans hp,fun x hx=>?_⟩;rcases h2 x hx with⟨y,hy,h⟩|⟨j,h3,h4,h5⟩
  ·rcases hl y hy with h'|⟨z,hz,h'⟩|⟨j,h3,h4,h5⟩
   ·exact .inl (h.trans h')
   ·exact .inr (.inl ⟨z,hz,h.trans h'⟩)
   ·exact .inr (.inr ⟨j,h3,h4,h5.trans h.symm⟩)
  ·exact .inr (.inr ⟨j,by rw[<-hj];exact h3,h4,h5⟩)
 ·exact⟨hp,hl⟩
theorem zGH{me:Peer}{l:List Entry}{a:Int}(h:Pe.RightP me l):Pe.place (Pe.miss l a) a<0\/∃(k:Nat) (e:Entry),Pe.place l a=k/\Pe.place (Pe.miss l a) a=k/\l[k]?=some e/\(Pe.miss l a)[k]?=some ⟨e.peer,max e.misses 0+1⟩:=by
 unfold Pe.miss
 cases hf:fst (Pe.isAt a) l with
 |none=>
  refine .inl ?_;show fstI (Pe.isAt a) l<0
  unfold fstI;rw[hf];decide
 |some k=>
  obtain⟨e,he,hp,hk,hb⟩:=zb6 hf;have hpl:Pe.place l a=k:=by show fstI (Pe.isAt a) l=k;unfold fstI;rw[hf]
  have hea:e.peer.addr=a:=of_decide_eq_true hp;dsimp only;rw[he];dsimp only;split
  ·refine .inl (Pe.place_neg.2 fun y hy=>?_);obtain⟨i,hi,hy⟩:=List.mem_eraseIdx_iff_getElem?.1 hy;have hpw:=h.2.2;rw[List.pairwise_iff_getElem]at hpw;obtain⟨hi',rfl⟩:=yae.1 hy;obtain⟨hk',rfl⟩:=yae.1 he;rcases Nat.lt_trichotomy i k with h1|h1|h1
   ·rw[<-hea];exact(hpw i k hi' hk' h1).1
   ·exact absurd h1 hi
   ·rw[<-hea];exact fun h2=>(hpw k i hk' hi' h1).1 h2.symm
  ·refine .inr ⟨k,e,hpl,?_,he,by rw[yaq hk]⟩;have h1:(l.set k ⟨e.peer,max e.misses 0+1⟩)[k]?=some ⟨e.peer,max e.misses 0+1⟩:=by rw[yaq hk]
   have:=(Pe.place_at h1).2 fun i y hi hy=>by
    rw[List.getElem?_set_ne (by omega)]at hy;have:=hb i y hi hy;show y.peer.addr≠e.peer.addr;rw[hea];exact of_decide_eq_false this
   rw[hea]at this;exact this
theorem zB1:zfD=some true:=zrA ((zIQ 60).call _ _ _ _ (by kernel_rfl))
theorem zEa(n:Node)(p:Pend):(zmV n p).1.list=Pe.miss n.list p.to_.addr/\(zmV n p).1.pred.length<=n.pred.length:=by
 have h:Kp (zdh n p.to_.addr) (zmV n p).1:=by
  unfold zmV;split
  ·exact zKg
  ·exact Kp.rfl'
 refine⟨h.list,?_⟩;rw[h.pred];unfold zdh;dsimp only;split
 ·exact Pe.drp_le _ _
 ·exact Nat.le_refl _
theorem zJs{n a:Node}{p:Pend}{m:Msg}(hn:n.list.length<=1000)(hj:n.jobs.length<=1000)(ha:a.list.length<=1000)(hm:∀x,x∈a.list->zBO n p x):zbK n p m 0 a=some (.inr a):=by
 have h0:∀(i:Nat) (x:Entry) (b:Bool),xget zaa a.list (i:Int)=some x->zbh n p m (i:Int) b 0 a=some ((i:Int),b||n.list.any (fun y=>decide (y.peer=x.peer)),a):=fun i x b hx=>
  zaW (σ:=Bool) zaa (l:=n.list) (by omega) (L:=fun k t=>zbh n p m (i:Int) t k a) (res:=fun _ t rest=>((i:Int),t||rest.any (fun y=>decide (y.peer=x.peer)),a)) (Inv:=fun _ _=>True)
   (fun t _ h0=>zn4 (by rw[zfA,h0];simp))
   (fun j y rest t _ hn' hx' hd' g1 g2 g3 ih=>zn4 (by
    rw[zfA,g1,cond_true,g2,yaa,hx,yaa,zaf,zaf,g3,ih true trivial,ih false trivial,List.any_cons];cases t
    ·by_cases q1:y.peer.id=x.peer.id<;>by_cases q2:y.peer.addr=x.peer.addr<;>simp[q1,q2,Peer.ext']
    ·simp)) b trivial
 have h1:∀(i:Nat) (x:Entry) (b:Bool),xget zaa a.list (i:Int)=some x->za8 n p m (i:Int) b 0 a=some ((i:Int),b||n.jobs.any (fun y=>decide (y.kind=1/\y.at_=x.peer)),a):=fun i x b hx=>
  zaW (σ:=Bool) eJob (l:=n.jobs) (by omega) (L:=fun k t=>za8 n p m (i:Int) t k a) (res:=fun _ t rest=>((i:Int),t||rest.any (fun y=>decide (y.kind=1/\y.at_=x.peer)),a)) (Inv:=fun _ _=>True)
   (fun t _ h0=>zn5 (by rw[zfB,h0];simp))
   (fun j y rest t _ hn' hx' hd' g1 g2 g3 ih=>zn5 (by
    rw[zfB,g1,cond_true,g2,yaa,hx,yaa,zaf,zaf,zaf,g3,ih true trivial,ih false trivial,List.any_cons];cases t
    ·by_cases q0:y.kind=1<;>by_cases q1:y.at_.id=x.peer.id<;>by_cases q2:y.at_.addr=x.peer.addr<;>simp[q0,q1,q2,Peer.ext']
    ·simp)) b trivial
 have:=zaW (σ:=Unit) zaa (l:=a.list) (by omega) (L:=fun i _=>zbK n p m i a) (res:=fun _ _ _=>(.inr a:Node⊕Node)) (Inv:=fun _ _=>True)
  (fun _ _ h=>zn6 (by rw[zfC,h];rfl))
  (fun k x rest s _ hn' hx hd g1 g2 g3 ih=>zn6 (by
   have hx':=hm x (List.mem_of_getElem? hx)
   have key:∀b:Bool,(x.peer=p.to_->b=true)->((b||n.list.any (fun y=>decide (y.peer=x.peer)))||n.jobs.any (fun y=>decide (y.kind=1/\y.at_=x.peer)))=true:=fun b hb=>by
    rcases hx' with h|⟨y,hy,h⟩|⟨j,hj1,hj2,hj3⟩
    ·rw[hb h];simp
    ·have:n.list.any (fun y=>decide (y.peer=x.peer))=true:=List.any_eq_true.2 ⟨y,hy,by simp[h]⟩;rw[this];simp
    ·have:n.jobs.any (fun y=>decide (y.kind=1/\y.at_=x.peer))=true:=List.any_eq_true.2 ⟨j,hj1,by simp[hj2,hj3]⟩;rw[this];simp
   have hgo:∀b:Bool,(x.peer=p.to_->b=true)->((zbh n p m (k:Int) b 0 a).bind fun q=>(za8 n p m q.1 q.2.1 0 q.2.2).bind fun q'=>bif q'.2.1 then zbK n p m (yac.iadd .i64 q'.1 1) q'.2.2 else some (.inl q'.2.2))=some (.inr a):=fun b hb=>by
    rw[h0 k x b g2,yaa];dsimp only;rw[h1 k x _ g2,yaa];dsimp only;rw[key b hb,cond_true,g3,ih () trivial]
   rw[zfC,g1,cond_true,g2,yaa,zaf,zaf,zac,zac];by_cases q1:x.peer.id=p.to_.id
   ·rw[if_pos q1];by_cases q2:x.peer.addr=p.to_.addr
    ·rw[if_pos q2];exact hgo true fun _=>rfl
    ·rw[if_neg q2];exact hgo false fun h=>absurd (by rw[h]) q2
   ·rw[if_neg q1];exact hgo false fun h=>absurd (by rw[h]) q1)) () trivial
 exact this
theorem law_LSelf{n:Node}{p:Pend}{m:Msg}(ok:NOk n)(hr:JRng n)(hto:PeOk p.to_):zup n p m=some true:=zy7 (by
 obtain⟨b,hb,hs⟩:=zyK n;rw[zms,hb,yaa,zB1,zAq,yaa]
 cases hbb:b with
 |true=>rfl
 |false=>
  cases hm:zsd m with
  |true=>rfl
  |false=>
   obtain⟨sm,hjb⟩:=hs hbb;have h:=sm.sz;have hmp:=(zIV hm).peers;have hli:=h.list;have pre:APre n p m:=⟨h,ok,by have:=sm.fingers;omega,by have:=sm.list;omega,jsOk hr hjb,by omega,hto⟩
   have p1:=zoE pre;obtain⟨h1,h2,h3,h4,h5,h6,h7⟩:=zwF pre;have g:=(zAB (p:=p) (m:=m) h1 h3 h4).1.list;have p2:=zyH (p:=p) h ok pre.f pre.j;obtain⟨a1,a2⟩:=zJN n p m;obtain⟨b1,b2⟩:=zEa n p;have hlen:(zfX n p m).1.list.length<=1000:=g;obtain⟨⟨a,o⟩,ha⟩:∃z,zfX n p m=z:=⟨_,rfl⟩
   obtain⟨⟨c,q⟩,hc⟩:∃z,zmV n p=z:=⟨_,rfl⟩
   rw[ha]at p1 a1 a2 hlen;rw[hc]at p2 b1 b2;dsimp only at a1 a2 b1 b2 hlen;have hm2:=Pe.miss_le n.list p.to_.addr;rw[cond_false,cond_false,Pe.peers_Right_eq hli,yaa];by_cases hR:Pe.RightP n.me n.list
   ·have e3:zdj n p m a c=some (true,a,c):=zvW (by
     rw[zjx,zav,zav,zav,a1];have e1:yac.ieq (n.pred.length:Int) (n.pred.length:Int)=true:=by rw[zaf];simp
     have e2:yac.ile (c.pred.length:Int) (n.pred.length:Int)=true:=by rw[za4];simp;omega
     rw[e1,e2,cond_true,cond_true,zB1];rfl)
    have e4:zls n p m=some true:=zvX (by
     rw[zjy,p1,yaa];dsimp only;rw[zJs (by omega) h.jobs hlen a2,yaa];dsimp only;rw[p2,yaa];dsimp only;rw[b1,Pe.peers_Place_eq (by omega),yaa,Pe.peers_Place_eq hli,yaa,e3,yaa];rcases zGH (a:=p.to_.addr) hR with hx|⟨k,e,k1,k2,k3,k4⟩
     ·rw[za4,zac,if_neg (by omega)]
     ·rw[k1,k2,za4,zac,if_pos (by omega),zaq,zac,if_neg (by omega),zaO,k4,yaa,zaO,k3,yaa,za4,zac,if_neg (by show¬(max e.misses 0+1<=e.misses);omega)])
    rw[show dcd (Pe.RightP n.me n.list)=true from zr6.2 hR,cond_true,e4]
   ·rw[show dcd (Pe.RightP n.me n.list)=false from zp7.2 hR];rfl)
end Go.Ab.Tryz
