/- Our texts for this statement, merged: what its theorem leads to. -/
import Derived.Lib.DecodeN
import Derived.Lib.RuneCountTail
import Derived.Lib.TrimU
import Derived.Test.YtdjoeakbjackbaaGreatDoorQLm10
import Derived.Test.YtdjoeakbjackbaaGreatDoorQLm11
import Derived.Test.YtdjoeakbjackbaaGreatDoorQLm12
import Derived.Test.YtdjoeakbjackbaaGreatDoorQLm13
import Derived.Test.YtdjoeakbjackbaaGreatDoorQLm14
import Derived.Test.YtdjoeakbjackbaaGreatDoorQLm15
set_option linter.unusedVariables false
set_option linter.unusedSimpArgs false
noncomputable section
namespace Go.Ab.Tryz.Pe
open Go.Ab.Tryz Go Go.Ab Go.Proofs
open Go.Ab.Ops renaming std->yab
open Go.IntKind renaming u64->ycq
open Int renaming toNat_natCast->yaQ
open List renaming append_assoc->yak,append_nil->ya6,flatMap_cons->ybf,length_append->yaf,length_cons->yaw,length_drop->yap,replicate->yaz,take_left->ya8
open Nat renaming add_assoc->yaS,le_refl->yag
open Option renaming bind_some->yaa
def PeOk(p:Peer):Prop:=0<=p.id/\p.id<18446744073709551616
def dist(a b:Int):Int:=(b-a)%18446744073709551616
theorem ring_Dist_eq(a b:Int):zlG a b=some (dist a b):=ztN (by
 show some (ycq.wrap (b-a))=_
 rw[zuy];rfl)
theorem r03_Dist_eq{a b:Int}(ha:0<=a)(ha2:a<18446744073709551616)(hb:0<=b)(hb2:b<18446744073709551616):zqf a b=some (dist a b):=zCE (by
 unfold zqg;show(bif yab.ile a b then some (ycq.wrap (b-a))else some (ycq.wrap (ycq.wrap (18446744073709551615-ycq.wrap (a-b))+1)))=_;simp only[zuy,dist,zbg,zae];split
 ·rfl
 ·congr 1;omega)
def ahead(me a b:Peer):Bool:=decide (dist me.id a.id<dist me.id b.id\/dist me.id a.id=dist me.id b.id/\a.addr<b.addr)
def isAt(addr:Int)(e:Entry):Bool:=decide (e.peer.addr=addr)
def place(l:List Entry)(addr:Int):Int:=fstI (isAt addr) l
theorem zmw{l:List Entry}{addr:Int}(hl:l.length<=1000):zil l addr=some (place l addr)/\zim l addr=some (place l addr)/\zlF l addr=some (place l addr):=by
 have e2:=zbv zab (l:=l) (by omega) (p:=isAt addr) (L:=fun i=>zdB l addr i) (fun h=>zeN (by simp[zbU,h]))
  (fun n x _ h1 h2 hp=>zeN (by
   have:ziO x addr=some (isAt addr x):=znD rfl
   simp[zbU,h1,h2,this,hp]))
  (fun n x r _ h1 h2 hp h=>zeN (by
   have:ziO x addr=some (isAt addr x):=znD rfl
   simp[zbU,h1,h2,this,hp];exact h))
 have e1:=zbv zab (l:=l) (by omega) (p:=isAt addr) (L:=fun i=>zdC l addr i) (fun h=>zeO (by simp[zbW,h]))
  (fun n x _ h1 h2 hp=>zeO (by
   have:zfg x addr=some (isAt addr x):=zkH rfl
   simp[zbW,h1,h2,this,hp]))
  (fun n x r _ h1 h2 hp h=>zeO (by
   have:zfg x addr=some (isAt addr x):=zkH rfl
   simp[zbW,h1,h2,this,hp];exact h))
 have e0:=zbv zab (l:=l) (by omega) (p:=isAt addr) (L:=fun i=>zjR l addr i) (fun h=>zkQ (by simp[zft,h]))
  (fun n x _ h1 h2 hp=>zkQ (by
   have:yab.ieq x.peer.addr addr=true:=hp
   simp[zft,h1,h2,this]))
  (fun n x r _ h1 h2 hp h=>zkQ (by
   have:yab.ieq x.peer.addr addr=false:=hp
   simp[zft,h1,h2,this];exact h))
 refine⟨zrs ?_,zrt ?_,zAc ?_⟩
 ·rw[zgZ,e2];unfold place fstI;cases fst (isAt addr) l<;>rfl
 ·rw[zg0,e1];unfold place fstI;cases fst (isAt addr) l<;>rfl
 ·rw[zoi,e0];unfold place fstI;cases fst (isAt addr) l<;>rfl
theorem peers_Place_eq{l:List Entry}{addr:Int}(hl:l.length<=1000):zlc l addr=some (place l addr):=zxl (by simp[zlN,(zmw hl).1])
theorem r27_Place_eq{l:List Entry}{addr:Int}(hl:l.length<=1000):zlF l addr=some (place l addr):=(zmw hl).2.2
def drp(addr:Int)(l:List Entry):List Entry:=l.filter fun e=>!isAt addr e
theorem zt3{addr:Int}{x:Entry}{l:List Entry}:drp addr (x::l)=bif isAt addr x then drp addr l else x::drp addr l:=by
 unfold drp;cases h:isAt addr x<;>simp[h]
theorem zyo{addr:Int}{l:List Entry}(h:∀x,x∈l->isAt addr x=false):drp addr l=l:=by
 unfold drp;rw[List.filter_eq_self];intro x hx;simp[h x hx]
theorem drp_le(addr:Int)(l:List Entry):(drp addr l).length<=l.length:=List.length_filter_le _ _
theorem zFA(addr:Int)(l:List Entry):(l.flatMap fun x=>bif isAt addr x then []else [x])=drp addr l:=by
 induction l with
 |nil=>rfl
 |cons x l ih=>rw[ybf,ih,zt3];cases isAt addr x<;>rfl
theorem r27_Drop_eq{l:List Entry}{addr:Int}(hl:l.length<=1000):zuc l addr=some (drp addr l):=zCK (by
 have h:=zk9 zab (l:=l) (by omega) (f:=fun x=>bif isAt addr x then []else [x]) (L:=fun i acc=>ziy l addr i acc) 1 (fun x _=>by cases isAt addr x<;>simp)
  (fun acc h=>zq2 (by simp[zgf,h]))
  (fun n x acc r ha hn _ h1 h2 h=>zq2 (by
   cases hx:isAt addr x with
   |true=>
    have hx':yab.ieq x.peer.addr addr=true:=hx;simp only[hx,cond_true,ya6]at h
    simp[zgf,h1,h2,hx',h]
   |false=>
    have hx':yab.ieq x.peer.addr addr=false:=hx;simp only[hx,cond_false]at h
    simp[zgf,h1,h2,hx',zay zab (b:=24) (l:=acc) (l':=[x]) (by simp;omega) (by omega),h]))
 rw[zqm,h,zFA]<;>rfl)
theorem zzP(addr:Int)(rest:List Entry):∀(kept:List Entry) (j0:Entry) (jt:List Entry),kept.length+(jt.length+1)+rest.length<=1000->
  ∃junk,zbR addr (kept.length:Nat) ((kept++j0::jt).length:Nat) (kept++j0::jt++rest)=some ((((kept++drp addr rest).length:Nat):Int),kept++drp addr rest++junk):=by
 induction rest with
 |nil=>
  intro kept j0 jt h;refine⟨j0::jt,zdf ?_⟩;have:yab.ilt ((kept++j0::jt).length:Nat) (xlen zab (kept++j0::jt++[]))=false:=by rw[zeg];simp
  rw[zbs,this]
  simp[drp]
 |cons x rest ih=>
  intro kept j0 jt h;simp only[yaw]at h;have hlt:yab.ilt ((kept++j0::jt).length:Nat) (xlen zab (kept++j0::jt++x::rest))=true:=by rw[zeg];simp
  have hg:xget zab (kept++j0::jt++x::rest) ((kept++j0::jt).length:Nat)=some x:=by rw[zaW];simp
  have hadd:yab.iadd .i64 ((kept++j0::jt).length:Nat) 1=(((kept++j0::jt).length+1:Nat):Int):=zeW (by simp;omega);have hd:zfg x addr=some (isAt addr x):=zkH rfl;rw[zt3]
  cases hx:isAt addr x with
  |true=>
   obtain⟨junk,h2⟩:=ih kept j0 (jt++[x]) (by simp;omega);refine⟨junk,zdf ?_⟩;rw[zbs,hlt,hg,hadd];simp only[cond_true,yaa,hd,hx]
   simpa[yaS]using h2
  |false=>
   have hg0:xget zab (kept++j0::jt++x::rest) (kept.length:Nat)=some j0:=by rw[zaW];simp
   have hadd2:yab.iadd .i64 (kept.length:Nat) 1=((kept.length+1:Nat):Int):=zeW (by omega)
   have hset:xset (kept++j0::jt++x::rest) (kept.length:Nat) x=(kept++[x])++(jt++[x])++rest:=by
    unfold xset;simp
   have go:zbR addr ((kept.length+1:Nat):Int) (((kept++j0::jt).length+1:Nat):Int) ((kept++[x])++(jt++[x])++rest)=zbs addr (kept.length:Nat) ((kept++j0::jt).length:Nat) (kept++j0::jt++x::rest):=by
    rw[zbs,hlt,hg,hadd];simp only[cond_true,yaa,hd,hx,cond_false,hg0,hadd2,hset]
   cases jt with
   |nil=>
    obtain⟨junk,h2⟩:=ih (kept++[x]) x [] (by simp;omega);refine⟨junk,zdf (go.symm.trans ?_)⟩
    simpa[yaS]using h2
   |cons j1 jt=>
    obtain⟨junk,h2⟩:=ih (kept++[x]) j1 (jt++[x]) (by simp at h⊢;omega);refine⟨junk,zdf (go.symm.trans ?_)⟩;simpa[yaS]using h2
theorem zfQ(l:List Entry)(n:Nat)(h:n<=l.length):xsub zab l 0 (n:Int)=some (l.take n):=by
 rw[zem,if_pos (by omega)];simp
theorem zhX(l:List Entry)(n:Nat)(h:n<=l.length):xsub zab l (n:Int) (xlen zab l)=some (l.drop n):=by
 rw[zem,zat,if_pos (by omega)];simp
theorem zw9{l:List Entry}{addr:Int}(hl:l.length<=1000):zja l addr=some (drp addr l):=zrv (by
 rw[zhb,(zmw hl).2.1,yaa];unfold place fstI
 cases hf:fst (isAt addr) l with
 |none=>
  have:yab.ieq (-1) (-1)=true:=rfl
  simp[this,zyo (zkz hf)]
 |some n=>
  obtain⟨x,hx,hp,hn,hb⟩:=zeQ hf;have h1:yab.ieq (n:Int) (-1)=false:=ieqF (by omega);obtain⟨hn',hxe⟩:=List.getElem?_eq_some_iff.1 hx
  have hsplit:l=l.take n++x::l.drop (n+1):=by
   rw[<-hxe,<-List.drop_eq_getElem_cons hn,List.take_append_drop]
  have hkl:(l.take n).length=n:=by simp;omega
  have hbefore:drp addr (l.take n)=l.take n:=zyo fun y hy=>by
   obtain⟨i,hi,rfl⟩:=List.getElem_of_mem hy;rw[hkl]at hi;exact hb i _ hi (by rw[List.getElem_take];exact List.getElem?_eq_getElem _)
  have hdrp:drp addr l=l.take n++drp addr (l.drop (n+1)):=by
   conv=>lhs;rw[hsplit]
   show List.filter _ _=_;rw[List.filter_append];show drp addr _++drp addr (x::_)=_;rw[hbefore,zt3,hp,cond_true]
  obtain⟨junk,hlo⟩:=zzP addr (l.drop (n+1)) (l.take n) x [] (by rw[hkl];simp;omega);rw[<-hdrp,yak,List.singleton_append,<-hsplit,yaf,hkl,List.length_singleton]at hlo;have hadd:yab.iadd .i64 (n:Int) 1=((n+1:Nat):Int):=zeW (by omega);have hz:yab.ieq 0 0=true:=rfl
  have hfil:xfil (drp addr l++junk) ((drp addr l).length:Nat) (xlen zab (drp addr l++junk)) ⟨⟨0,0⟩,0⟩=drp addr l++yaz junk.length ⟨⟨0,0⟩,0⟩:=by
   unfold xfil;rw[zat];simp only[yaQ];simp
  simp only[h1,cond_false,hadd,hlo,yaa,zhX (drp addr l++junk) (drp addr l).length (by simp),hfil,zfQ (drp addr l++yaz junk.length ⟨⟨0,0⟩,0⟩) (drp addr l).length (by simp),hz,cond_true]
  simp)
theorem peers_Drop_eq{l:List Entry}{addr:Int}(hl:l.length<=1000):zp8 l addr=some (drp addr l):=zyR (by
 simp[zmP,zw9 hl,zay zab (b:=24) (l:=[]) (l':=l) (by simp;omega) (by omega)])
def firms(l:List Entry):List Peer:=l.flatMap fun x=>bif yab.ile x.misses 0 then [x.peer]else []
theorem some_eq{l:List Entry}(hl:l.length<=1000):zjO l=some (firms l)/\zmT l=some (firms l)/\True:=by
 have h1:=zk9 zab (l:=l) (by omega) (f:=fun x=>bif yab.ile x.misses 0 then [x.peer]else []) (L:=fun i acc=>zew l i acc) 1 (fun x _=>by cases yab.ile x.misses 0<;>simp)
  (fun acc h=>zma (by simp[zdy,h]))
  (fun n x acc r ha hn _ h1 h2 h=>zma (by
   have hf:zqa x=some (yab.ile x.misses 0):=zyW rfl
   cases hx:yab.ile x.misses 0 with
   |false=>simp only[hx,cond_false,ya6]at h;simp[zdy,h1,h2,hf,hx,h]
   |true=>simp only[hx,cond_true]at h;simp[zdy,h1,h2,hf,hx,h,zay zad (b:=16) (l:=acc) (l':=[x.peer]) (by simp;omega) (by omega)]))
 have h2:=zk9 zab (l:=l) (by omega) (f:=fun x=>bif yab.ile x.misses 0 then [x.peer]else []) (L:=fun i acc=>ziz l i acc) 1 (fun x _=>by cases yab.ile x.misses 0<;>simp)
  (fun acc h=>zq3 (by simp[zgh,h]))
  (fun n x acc r ha hn _ h1 h2 h=>zq3 (by
   have hf:yab.ilt x.misses 1=yab.ile x.misses 0:=by rw[zar,zbg];exact decide_eq_decide.2 (by omega)
   cases hx:yab.ile x.misses 0 with
   |false=>simp only[hx,cond_false,ya6]at h;simp[zgh,h1,h2,hf,hx,h]
   |true=>simp only[hx,cond_true]at h;simp[zgh,h1,h2,hf,hx,h,zay zad (b:=16) (l:=acc) (l':=[x.peer]) (by simp;omega) (by omega)]))
 refine⟨zyS ?_,zCL ?_,trivial⟩
 ·simp[zmQ,zwg (l:=l) (r:=firms l) (by simp[zkI,h1,firms])]
 ·simp[zqn,h2,firms]
theorem firms_le(l:List Entry):(firms l).length<=l.length:=by
 unfold firms
 induction l with
 |nil=>exact yag _
 |cons x l ih=>rw[ybf,yaf,yaw];cases yab.ile x.misses 0<;>simp only[cond_true,cond_false,yaw,List.length_nil]<;>omega
theorem Entry.ext3{a b:Entry}:a=b<->a.peer.id=b.peer.id/\a.peer.addr=b.peer.addr/\a.misses=b.misses:=by
 rw[Entry.ext',Peer.ext',and_assoc]
theorem r27_Same_eq{a b:List Entry}(hl:a.length<=1000):zqp a b=some (eqb a b):=zCN (by
 rw[zqq,zat,zat];by_cases he:a.length=b.length
 ·have h:=znP zab (l:=a) (l':=b) (by omega) he (L:=fun i=>zlg a b i) (fun h=>zlS (by simp[zgo,h]))
   (fun n x r _ h1 h2 h3 h=>zlS (by simp[zgo,h1,h2,h3,zai];exact h))
   (fun n x y _ h1 h2 h3 h=>zlS (by
    simp only[zgo,h1,h2,h3,zai,zae,cond_true,yaa];rw[ne_eq,Entry.ext3]at h;split
    ·split
     ·split
      ·exact absurd ⟨‹_›,‹_›,‹_›⟩ h
      ·rfl
     ·rfl
    ·rfl))
  rw[ieqT (by omega),cond_true];rcases h with⟨h1,h2⟩|⟨h1,h2⟩
  ·rw[h2,h1,zhq];rfl
  ·rw[h2,zlw h1];rfl
 ·rw[ieqF (by omega),zlw (fun h=>he (by rw[h]))];rfl)
theorem zsg{a b:List Peer}(hl:a.length<=1000):znH a b=some (eqb a b):=ztG (by
 rw[zle,zat,zat];by_cases he:a.length=b.length
 ·have h:=znP zad (l:=a) (l':=b) (by omega) he (L:=fun i=>zhx a b i) (fun h=>zdO (by simp[zch,h]))
   (fun n x r _ h1 h2 h3 h=>zdO (by simp[zch,h1,h2,h3,zai];exact h))
   (fun n x y _ h1 h2 h3 h=>zdO (by
    simp only[zch,h1,h2,h3,zai,zae,cond_true,yaa];rw[ne_eq,Peer.ext']at h;split
    ·split
     ·exact absurd ⟨‹_›,‹_›⟩ h
     ·rfl
    ·rfl))
  rw[ieqT (by omega),cond_true];rcases h with⟨h1,h2⟩|⟨h1,h2⟩
  ·rw[h2,h1,zhq];rfl
  ·rw[h2,zlw h1];rfl
 ·rw[ieqF (by omega),zlw (fun h=>he (by rw[h]))];rfl)
def owner(key:Int):Peer->List Peer->Peer
 |best,[]=>best
 |best,p::l=>if dist key p.id<dist key best.id then owner key p l else owner key best l
def miss(l:List Entry)(addr:Int):List Entry:=
 match fst (isAt addr) l with
 |none=>l
 |some n=>match l[n]? with
  |none=>l
  |some x=>if 2<=x.misses then l.eraseIdx n else l.set n ⟨x.peer,max x.misses 0+1⟩
theorem zDi{l:List Entry}{n:Nat}(hl:l.length<=1000)(hn:n<l.length):zmt (n:Int) ((n+1:Nat):Int) l=some (l.eraseIdx n):=zvQ (by
 have h1:xsub zab l (n:Int) ((n+1:Nat):Int)=some ((l.take (n+1)).drop n):=by rw[zem,if_pos (by omega)];simp only[yaQ]
 have h2:=zhX l (n+1) (by omega);have h3:yab.ieq (n:Int) ((n+1:Nat):Int)=false:=ieqF (by omega);have h4:=zfQ l n (by omega);have h5:yab.isub .i64 (xlen zab l) (n:Int)=((l.length-n:Nat):Int):=by rw[zat,zCn (by omega) (by omega)];omega
 have h6:yab.ile (xlen zab (l.drop (n+1))) ((l.length-n:Nat):Int)=true:=ileT (by rw[zat,yap];omega);have h7:yab.iadd .i64 (n:Int) (xlen zab (l.drop (n+1)))=((l.length-1:Nat):Int):=by rw[zat,yap,zmh (by omega) (by omega)];omega
 have hput:xput l (n:Int) (l.drop (n+1))=l.eraseIdx n++l.drop (l.length-1):=by
  unfold xput;rw[yaQ,yap,List.eraseIdx_eq_take_drop_succ];congr 2;omega
 have hle:(l.eraseIdx n).length=l.length-1:=by rw[List.length_eraseIdx];simp[hn]
 have h8:xsub zab (l.eraseIdx n++l.drop (l.length-1)) 0 ((l.length-1:Nat):Int)=some (l.eraseIdx n):=by
  rw[zfQ _ _ (by simp[hle]),<-hle,ya8]
 have h9:xsub zab (l.eraseIdx n++l.drop (l.length-1)) (xlen zab (l.eraseIdx n)) (xlen zab l)=some (l.drop (l.length-1)):=by
  have e:xlen zab l=xlen zab (l.eraseIdx n++l.drop (l.length-1)):=by rw[zat,zat,yaf,hle,yap];omega
  rw[e,zat,zhX _ _ (by simp),List.drop_left]
 have h10:xfil (l.eraseIdx n++l.drop (l.length-1)) (xlen zab (l.eraseIdx n)) (xlen zab l) ⟨⟨0,0⟩,0⟩=l.eraseIdx n++yaz 1 ⟨⟨0,0⟩,0⟩:=by
  unfold xfil;rw[zat,zat,yaQ,yaQ,ya8,hle,show l.length-(l.length-1)=1 by omega,yak,List.drop_eq_nil_of_le (by simp[hle]<;>omega),ya6]
 have h11:xsub zab (l.eraseIdx n++yaz 1 ⟨⟨0,0⟩,0⟩) 0 ((l.length-1:Nat):Int)=some (l.eraseIdx n):=by
  rw[zfQ _ _ (by simp[hle]),<-hle,ya8]
 have hz:yab.ieq 0 0=true:=rfl
 simp only[zkp,h1,h2,h3,h4,h5,h6,h7,hput,h8,h9,h10,h11,hz,yaa,cond_true,cond_false])
theorem zuE{α:Type}(l:List α)(n:Nat)(x:α):xset l (n:Int) x=l.set n x:=rfl
theorem peers_Miss_eq{l:List Entry}{addr:Int}(hl:l.length<=1000):zp9 l addr=some (miss l addr):=zyT (by
 have hroom:zaA zab 24 [] l=true:=zay zab (by simp;omega) (by omega);simp only[zmR,hroom,cond_true,peers_Place_eq hl,yaa,miss];unfold place fstI
 cases hf:fst (isAt addr) l with
 |none=>
  have:yab.ilt (-1) 0=true:=rfl
  simp only[this,cond_true]
 |some n=>
  obtain⟨x,hx,hp,hn,hb⟩:=zeQ hf;have hadd:yab.iadd .i64 (n:Int) 1=((n+1:Nat):Int):=zeW (by omega);have hg:xget zab l (n:Int)=some x:=by rw[zaW,hx]
  have s0:∀y:Entry,ziN (n:Int) (l.set n y)=some (if 2<=y.misses then .inl (l.eraseIdx n)else .inr ((n:Int),l.set n y)):=fun y=>zvt (by
   have hg2:xget zab (l.set n y) (n:Int)=some y:=by rw[zaW];simp[hn]
   have he:(l.set n y).eraseIdx n=l.eraseIdx n:=List.eraseIdx_set_eq;simp only[zjP,hg2,hadd,yaa,zDi (l:=l.set n y) (n:=n) (by simpa using hl) (by simpa using hn),zbg,zae,he]
   split<;>rfl)
  have s1:∀y:Entry,xget zab (l.set n y) (n:Int)=some y:=fun y=>by rw[zaW];simp[hn]
  simp only[hx,iltF (show¬(n:Int)<0 by omega),cond_false,hg,yaa,zuE,zar,zae,s0];by_cases h0:x.misses<0
  ·rw[if_pos h0,if_neg (by omega),if_neg (by omega)];simp only[yaa,s1,zuE,List.set_set,zmh (a:=0) (b:=1) (by omega) (by omega)];rw[Int.max_eq_right (by omega)]
  ·rw[if_neg h0];by_cases h2:2<=x.misses
   ·rw[if_pos h2,if_pos h2]
   ·rw[if_neg h2,if_neg h2];simp only[yaa,s1,zuE,List.set_set,zmh (a:=x.misses) (b:=1) (by omega) (by omega)]
    rw[Int.max_eq_left (by omega)])
def zds(at_:Int):Nat->List Entry->List Entry
 |_,[]=>[]
 |n,x::l=>(if(n:Int)=at_ then(if 2<=x.misses then []else [⟨x.peer,max x.misses 0+1⟩])else [x])++zds at_ (n+1) l
theorem zq0{at_:Int}{l:List Entry}:∀{n:Nat},at_<n->zds at_ n l=l:=by
 induction l with
 |nil=>intro n h;rfl
 |cons x l ih=>intro n h;rw[zds,if_neg (by omega),ih (by omega)];rfl
theorem zzZ{l:List Entry}{k:Nat}{x:Entry}:∀{n:Nat},l[k]?=some x->zds ((n+k:Nat):Int) n l=if 2<=x.misses then l.eraseIdx k else l.set k ⟨x.peer,max x.misses 0+1⟩:=by
 induction l generalizing k with
 |nil=>intro n h;simp at h
 |cons y l ih=>
  intro n h;rw[zds]
  cases k with
  |zero=>
   simp at h;subst h;rw[if_pos (by simp),zq0 (by omega)]
   split<;>simp
  |succ k=>
   rw[if_neg (by omega)];have:=ih (k:=k) (n:=n+1) (by simpa using h);rw[show n+1+k=n+(k+1)by omega]at this;rw[this];split<;>simp
theorem ztE(l:List Entry)(addr:Int):zds (place l addr) 0 l=miss l addr:=by
 unfold place fstI miss
 cases hf:fst (isAt addr) l with
 |none=>exact zq0 (by show(-1:Int)<_;omega)
 |some n=>
  obtain⟨x,hx,_⟩:=zeQ hf;have:=zzZ (n:=0) hx;rw[Nat.zero_add]at this;simp only[hx];exact this
theorem zz0(at_:Int)(l:List Entry):∀n,(zds at_ n l).length<=l.length:=by
 induction l with
 |nil=>intro n;exact yag _
 |cons x l ih=>intro n;rw[zds,yaf,yaw];have:=ih (n+1);split<;>(try split)<;>simp<;>omega
theorem zkP{l acc:List Entry}{at_ i id ad m:Int}(ha:acc.length<=1000)(hm:i=at_->0<=m):ziA l at_ i acc id ad m=some (if i=at_ then(if m<2 then .inl (at_,i,acc++[⟨⟨id,ad⟩,m+1⟩],id,ad,m+1)else .inr (at_,i,acc,id,ad,m))else .inl (at_,i,acc++[⟨⟨id,ad⟩,m⟩],id,ad,m)):=zxn (by
 have hroom:∀e:Entry,zaA zab 24 acc [e]=true:=fun e=>zay zab (by simp;omega) (by omega)
 by_cases hi:i=at_
 ·have h0:=hm hi;subst hi;have hi:i=i:=rfl;by_cases h2:m<2
  ·have:zgS l i i true acc id ad m=some (.inl (i,i,acc,id,ad,m+1)):=zlQ (by simp[zgk,zmh (a:=m) (b:=1) (by omega) (by omega)]);simp[zgm,ieqT hi,iltT h2,this,hroom,hi,h2]
  ·have:zgS l i i false acc id ad m=some (.inr (i,i,acc,id,ad,m)):=zlQ (by simp[zgk,ieqT hi]);simp[zgm,ieqT hi,iltF h2,this,hi,h2]
 ·have:zgS l at_ i false acc id ad m=some (.inl (at_,i,acc,id,ad,m)):=zlQ (by simp[zgk,ieqF hi])
  simp[zgm,ieqF hi,this,hroom,hi])
theorem r27_Miss_eq{l:List Entry}{addr:Int}(hl:l.length<=1000):zud l addr=some (miss l addr):=zCM (by
 have h:=zaV (σ:=List Entry) zab (l:=l) (by omega) (L:=fun i acc=>zcl l (place l addr) i acc) (res:=fun n acc rest=>acc++zds (place l addr) n rest) (Inv:=fun n acc=>acc.length<=n)
  (fun acc _ h=>zq4 (by simp[ziR,h,zds]))
  (fun n x rest acc hi hn hx hd h1 h2 h3 ih=>zq4 (by
   have step:∀acc':List Entry,acc'.length<=n+1->acc'=acc++(if(n:Int)=place l addr then(if 2<=x.misses then []else [⟨x.peer,max x.misses 0+1⟩])else [x])->zcl l (place l addr) ((n+1:Nat):Int) acc'=some (acc++zds (place l addr) n (x::rest)):=fun acc' hl' e=>by
    rw[ih acc' hl',zds,e,yak]
   simp only[ziR,h1,h2,cond_true,yaa,zai,zar,zae];by_cases he:(n:Int)=place l addr
   ·rw[if_pos he];by_cases h0:x.misses<0
    ·rw[if_pos h0,zkP (by omega) (fun _=>Int.le_refl 0),if_pos he,if_pos (by omega)];simp only[yaa,h3];refine step _ (by simp;omega) ?_;rw[if_pos he,if_neg (by omega),Int.max_eq_right (by omega)]
    ·rw[if_neg h0,zkP (by omega) (fun _=>by omega),if_pos he];by_cases h2':x.misses<2
     ·rw[if_pos h2'];simp only[yaa,h3];refine step _ (by simp;omega) ?_;rw[if_pos he,if_neg (by omega),Int.max_eq_left (by omega)]
     ·rw[if_neg h2'];simp only[yaa,h3];refine step _ (by omega) ?_;rw[if_pos he,if_pos (by omega),ya6]
   ·rw[if_neg he,zkP (by omega) (fun h=>absurd h he),if_neg he];simp only[yaa,h3];refine step _ (by simp;omega) ?_
    rw[if_neg he])) [] (by simp)
 simp only[List.nil_append,ztE]at h
 simp[zqo,r27_Place_eq hl,h])
def EnOk(l:List Entry):Prop:=∀x,x∈l->PeOk x.peer
def isAh(me p:Peer)(x:Entry):Bool:=ahead me p x.peer
def ins(me p:Peer):List Entry->List Entry
 | []=>[⟨p,0⟩]
 |x::l=>bif isAh me p x then⟨p,0⟩::x::l else x::ins me p l
def cut(l:List Entry):List Entry:=if 15<l.length then l.take (l.length-1)else l
def add(me:Peer)(l:List Entry)(p:Peer):List Entry:=
 if p.addr=me.addr then l else
 match fst (isAt p.addr) l with
 |none=>cut (ins me p (drp p.addr l))
 |some n=>match l[n]? with
  |none=>l
  |some x=>if x.peer=p then l.set n ⟨x.peer,0⟩else cut (ins me p (drp p.addr l))
theorem miss_le(l:List Entry)(addr:Int):(miss l addr).length<=l.length:=by rw[<-ztE];exact zz0 _ _ _
end Go.Ab.Tryz.Pe
namespace Go.Ab.Tryz
open Go Go.Ab Go.Proofs Go.Lib
open Bool renaming and_eq_true->yaA,eq_false_iff->yce,eq_iff_iff->yby,false_or->yb0,or_eq_true->ya1
open Go.Ab.Ops renaming std->yab
open Go.IntKind renaming i64->ybz
open Go.Op renaming bytesLess->ybT
open Go.Utf8 renaming decode->yaH
open Int renaming toNat_natCast->yaQ
open List renaming append_assoc->yak,drop_eq_getElem_cons->yaF,drop_eq_nil_of_le->yaK,drop_length->yb5,drop_of_length_le->yb8,getElem?_eq_some_iff->yae,length_append->yaf,length_cons->yaw,length_drop->yap,length_map->yaJ,length_nil->ybu,length_take->yam,map_cons->ybn,mem_map->ybF,mem_of_getElem?->yat,replicate->yaz,singleton_append->ybw,take_left->ya8,take_length->yb7
open Nat renaming add_assoc->yaS,le_refl->yag,le_trans->yaP,zero_add->yaO
open Option renaming bind_some->yaa,map_eq_some_iff->yao
open Option.some renaming injEq->ybl
def byt(s:ByteArray)(i:Nat):Nat:=(s.get! i).toNat
theorem zva(s:ByteArray)(i:Nat):byt s i<256:=(s.get! i).toNat_lt
theorem zIm(s:ByteArray)(i:Nat)(h:s.size<=i):byt s i=0:=by
 cases s with
 |mk d=>
  have h':d.size<=i:=h;show(d[i]!).toNat=0;rw[getElem!_neg d i (by omega)];rfl
theorem zjF{s:ByteArray}{i:Nat}(h:i<s.size):zck s (i:Int)=some (byt s i:Int):=by
 show(if(0:Int)<=(i:Int)then(s[(i:Int).toNat]?).map fun c=>(c.toNat:Int)else none)=_;rw[if_pos (by omega),yaQ];have e1:s[i]?=some (s[i]'h):=getElem?_pos s i h
 have e2:s.get! i=s[i]'h:=by
  cases s with
  |mk d=>exact getElem!_pos d i h
 rw[e1];show some ((s[i]'h).toNat:Int)=_;rw[<-e2];rfl
theorem ztm{a b:Nat}(h:a+b<9223372036854775808):yab.iadd .i64 (a:Int) (b:Int)=((a+b:Nat):Int):=by
 show ybz.wrap _=_;unfold IntKind.wrap;simp[IntKind.signed,IntKind.bits];omega
theorem zIo{a b:Nat}(h:b<=a)(h2:a<9223372036854775808):yab.isub .i64 (a:Int) (b:Int)=((a-b:Nat):Int):=by
 show ybz.wrap _=_;unfold IntKind.wrap;simp[IntKind.signed,IntKind.bits];omega
theorem zbp(s:ByteArray):yab.slen s=(s.size:Int):=rfl
def wid(s:ByteArray)(i:Nat):Nat:=if yaH s i=(65533,1)then 0 else(yaH s i).2
def tl(b:Nat):Bool:=decide (128<=b/\b<=191)
theorem zog(b:Nat):zhw (b:Int)=some (tl b):=zCG (by
 simp only[zqi,zbg,zae,tl];split
 ·rename_i h;congr 1;exact decide_eq_decide.2 ⟨fun h2=>⟨by omega,by omega⟩,fun h2=>by omega⟩
 ·rename_i h;congr 1
  exact(decide_eq_false (by omega)).symm)
def wd3(b0 b1:Nat)(t:Bool):Option Nat:=bif t then(if b0=224 then(if b1<160 then some 0 else some 3)else if b0=237 then(if 159<b1 then some 0 else some 3)else some 3)else none
def wd4(b0 b1:Nat)(t:Bool):Nat:=bif t then(if b0=240 then(if b1<144 then 0 else 4)else if b0=244 then(if 143<b1 then 0 else 4)else 4)else 0
section
variable {s:ByteArray} {i:Nat} (hi:i<s.size) (hs:s.size<4611686018427387904)
include hi hs
theorem zwc:yab.isub .i64 (yab.slen s) (i:Int)=((s.size-i:Nat):Int):=zIo (by omega) (by omega)
theorem znj{k:Nat}(h:k<s.size-i)(hk:k<8):zck s (yab.iadd .i64 (i:Int) (k:Int))=some (byt s (i+k):Int):=by
 rw[ztm (by omega)];exact zjF (by omega)
theorem s0_eq(h:1<s.size-i)(b:Nat)(t:Bool):zc2 s (i:Int) (b:Int) t=some (match wd3 b (byt s (i+1)) t with|some n=>.inl (n:Int)|none=>.inr (b:Int)):=zpk (by
 have e1:zck s (yab.iadd .i64 (i:Int) 1)=some (byt s (i+1):Int):=znj (k:=1) hi hs h (by decide);unfold zkK;cases t
 ·rfl
 ·simp only[cond_true,zai,zar,zae,wd3,e1,yaa];by_cases h1:b=224
  ·subst h1;by_cases h2:byt s (i+1)<160
   ·simp[h2,show(byt s (i+1):Int)<160 by omega]
   ·simp[h2,show¬(byt s (i+1):Int)<160 by omega]
  ·by_cases h3:b=237
   ·subst h3;by_cases h2:159<byt s (i+1)
    ·simp[h2,show(159:Int)<byt s (i+1)by omega]
    ·simp[h2,show¬(159:Int)<byt s (i+1)by omega]
   ·simp[h1,h3,show¬(b:Int)=224 by omega,show¬(b:Int)=237 by omega])
omit hi hs in
theorem zzj(b:Nat):zc2 s (i:Int) (b:Int) false=some (.inr (b:Int)):=zpk rfl
theorem s1_eq(h:1<s.size-i)(b:Nat):zct s (i:Int) (b:Int) true=some (.inl (wd4 b (byt s (i+1)) true:Nat)):=zpl (by
 have e1:zck s (yab.iadd .i64 (i:Int) 1)=some (byt s (i+1):Int):=znj (k:=1) hi hs h (by decide);unfold zkL;simp only[cond_true,zai,zar,zae,wd4,e1,yaa];by_cases h1:b=240
 ·subst h1;by_cases h2:byt s (i+1)<144
  ·simp[h2,show(byt s (i+1):Int)<144 by omega]
  ·simp[h2,show¬(byt s (i+1):Int)<144 by omega]
 ·by_cases h3:b=244
  ·subst h3;by_cases h2:143<byt s (i+1)
   ·simp[h2,show(143:Int)<byt s (i+1)by omega]
   ·simp[h2,show¬(143:Int)<byt s (i+1)by omega]
  ·simp[h1,h3,show¬(b:Int)=240 by omega,show¬(b:Int)=244 by omega])
omit hi hs in
theorem zzk(b:Nat):zct s (i:Int) (b:Int) false=some (.inr ()):=zpl rfl
theorem zHY(b:Nat):zdX s (i:Int) (b:Int)=some ((if 240<=b/\b<=244/\3<s.size-i/\tl (byt s (i+1))=true/\tl (byt s (i+2))=true/\tl (byt s (i+3))=true then wd4 b (byt s (i+1)) true else 0:Nat):Int):=zwj (by
 unfold zkM;simp only[zbg,zar,zae,zwc hi hs,zzk,yaa];split
 ·split
  ·split
   ·have e1:zck s (yab.iadd .i64 (i:Int) 1)=some (byt s (i+1):Int):=znj (k:=1) hi hs (by omega) (by decide);have e2:zck s (yab.iadd .i64 (i:Int) 2)=some (byt s (i+2):Int):=znj (k:=2) hi hs (by omega) (by decide);have e3:zck s (yab.iadd .i64 (i:Int) 3)=some (byt s (i+3):Int):=znj (k:=3) hi hs (by omega) (by decide);simp only[e1,e2,e3,yaa,zog];cases t1:tl (byt s (i+1))
    ·simp
    ·cases t2:tl (byt s (i+2))
     ·simp
     ·cases t3:tl (byt s (i+3))
      ·simp[zzk]
      ·simp only[cond_true,s1_eq hi hs (by omega:1<s.size-i),yaa];rw[if_pos ⟨by omega,by omega,by omega,trivial,trivial,trivial⟩]
   ·rw[if_neg (by omega)];rfl
  ·rw[if_neg (by omega)];rfl
 ·rw[if_neg (by omega)];rfl)
theorem s3_eq(b:Nat):zfo s (i:Int) (b:Int)=some ((if 224<=b/\b<=239/\2<s.size-i/\tl (byt s (i+1))=true/\tl (byt s (i+2))=true then(wd3 b (byt s (i+1)) true).getD 0
  else if 240<=b/\b<=244/\3<s.size-i/\tl (byt s (i+1))=true/\tl (byt s (i+2))=true/\tl (byt s (i+3))=true then wd4 b (byt s (i+1)) true else 0:Nat):Int):=zwk (by
 unfold zkN;simp only[zbg,zar,zae,zwc hi hs,zzj,yaa,zHY hi hs];split
 ·split
  ·split
   ·have e1:zck s (yab.iadd .i64 (i:Int) 1)=some (byt s (i+1):Int):=znj (k:=1) hi hs (by omega) (by decide);have e2:zck s (yab.iadd .i64 (i:Int) 2)=some (byt s (i+2):Int):=znj (k:=2) hi hs (by omega) (by decide);simp only[e1,e2,yaa,zog];cases t1:tl (byt s (i+1))
    ·simp
    ·cases t2:tl (byt s (i+2))
     ·simp[zzj,zHY hi hs,t1,t2]
     ·simp only[cond_true,s0_eq hi hs (by omega:1<s.size-i),yaa];rw[if_pos ⟨by omega,by omega,by omega,trivial,trivial⟩];unfold wd3;simp only[cond_true]
      repeat' split
      all_goals first|rfl|simp_all
   ·rw[if_neg (c:=224<=b/\_) (by omega)]
  ·rw[if_neg (c:=224<=b/\_) (by omega)]
 ·rw[if_neg (c:=224<=b/\_) (by omega)])
def widN(n b0 b1 b2 b3:Nat):Nat:=
 if b0<128 then 1
 else if 194<=b0/\b0<=223/\1<n/\tl b1=true then 2
 else if 224<=b0/\b0<=239/\2<n/\tl b1=true/\tl b2=true then(wd3 b0 b1 true).getD 0
 else if 240<=b0/\b0<=244/\3<n/\tl b1=true/\tl b2=true/\tl b3=true then wd4 b0 b1 true else 0
theorem zDk:zhv s (i:Int)=some (widN (s.size-i) (byt s i) (byt s (i+1)) (byt s (i+2)) (byt s (i+3)):Int):=zz8 (by
 unfold zof widN;simp only[zjF hi,yaa,zbg,zar,zae,zwc hi hs,s3_eq hi hs];by_cases h1:byt s i<128
 ·rw[if_pos (by omega),if_pos h1];rfl
 ·rw[if_neg (by omega),if_neg h1];split
  ·split
   ·split
    ·have e1:zck s (yab.iadd .i64 (i:Int) 1)=some (byt s (i+1):Int):=znj (k:=1) hi hs (by omega) (by decide);simp only[e1,yaa,zog];cases t1:tl (byt s (i+1))
     ·simp
     ·simp only[cond_true];rw[if_pos ⟨by omega,by omega,by omega,trivial⟩];rfl
    ·rw[if_neg (c:=194<=byt s i/\_) (by omega)]
   ·rw[if_neg (c:=194<=byt s i/\_) (by omega)]
  ·rw[if_neg (c:=194<=byt s i/\_) (by omega)])
end
theorem zzt{b:Nat}(h:b<256):tl b=true<->b / 64=2:=by unfold tl;rw[decide_eq_true_eq];omega
set_option maxRecDepth 100000 in
set_option maxHeartbeats 4000000 in
theorem zIZ{n b0 b1 b2 b3:Nat}(h0:b0<256)(h1:b1<256)(h2:b2<256)(h3:b3<256):widN n b0 b1 b2 b3=if decodeN n b0 b1 b2 b3=(65533,1)then 0 else(decodeN n b0 b1 b2 b3).2:=by
 unfold widN wd3 wd4
 simp only[zzt h1,zzt h2,zzt h3,cond_true]
 unfold decodeN
 repeat' split
 all_goals first|rfl|omega |(simp_all;done)|(simp_all;omega)
theorem ztW{s:ByteArray}{i:Nat}(hi:i<s.size)(hs:s.size<4611686018427387904):zhv s (i:Int)=some (wid s i:Int):=by
 rw[zDk hi hs,zIZ (zva _ _) (zva _ _) (zva _ _) (zva _ _)];unfold wid;rw[decode_at];rfl
def zeG(s:ByteArray)(i:Nat):Bool:=decide (yaH s i=(65533,1))
theorem znZ{s:ByteArray}{i:Nat}(h:i<s.size):zqR s (i:Int)=some (((yaH s i).1:Int),((i+(yaH s i).2:Nat):Int)):=by
 show(if 0<=(i:Int)/\(i:Int).toNat<s.size then some (((yaH s (i:Int).toNat).1:Int),(i:Int)+((yaH s (i:Int).toNat).2:Int))else none)=_;rw[if_pos ⟨by omega,by simpa using h⟩,yaQ];simp
theorem zw7{s:ByteArray}{i:Nat}(h:¬i<s.size):zqR s (i:Int)=none:=by
 show(if 0<=(i:Int)/\(i:Int).toNat<s.size then some (((yaH s (i:Int).toNat).1:Int),(i:Int)+((yaH s (i:Int).toNat).2:Int))else none)=_;rw[if_neg (by simpa using h)]
theorem zsL{s:ByteArray}{i:Nat}(h:i<s.size):zsK s (i:Int) ((yaH s i).1:Int)=some (zeG s i):=zAA (by
 unfold zoB;simp only[zai,zae];split
 ·rename_i h1
  have e1:ztt s (i:Int) (yab.slen s)=some (s.extract i s.size):=by
   show(if 0<=(i:Int)/\(i:Int)<=(s.size:Int)/\(s.size:Int)<=(s.size:Int)then some (s.extract (i:Int).toNat (s.size:Int).toNat)else none)=_;rw[if_pos ⟨by omega,by omega,by omega⟩];simp
  have e2:zqR (s.extract i s.size) 0=some (((yaH s i).1:Int),((yaH s i).2:Int)):=by
   have:=znZ (s:=s.extract i s.size) (i:=0) (by rw[tail_size];omega);rw[tail_decode]at this;simpa using this
  rw[e1,yaa,e2];simp only[xopt,zeG];congr 1;have h2:(yaH s i).1=65533:=by omega
  refine decide_eq_decide.2 ⟨fun h=>Prod.ext h2 (by show(yaH s i).2=1;omega),fun h=>by rw[h];rfl⟩
 ·rename_i h1;congr 1
  exact(decide_eq_false (fun h=>h1 (by rw[h];rfl))).symm)
def poss(s:ByteArray):Nat->Nat->List Nat
 |0,_=>[]
 |n+1,i=>if i<s.size then i::poss s n (i+(yaH s i).2)else []
theorem zGx(s:ByteArray):∀(n i:Nat),s.size-i<n->∃r,zhN s (i:Int)=some r/\(match r with| .inl _=>false| .inr _=>true)=(poss s n i).all fun j=>!zeG s j:=by
 intro n
 induction n with
 |zero=>intro i h;omega
 |succ n ih=>
  intro i h;by_cases hi:i<s.size
  ·have hw:=width_pos s i;cases hst:zeG s i
   ·obtain⟨r,hr,he⟩:=ih (i+(yaH s i).2) (by omega);refine⟨r,zk0 (by simp only[zfG,znZ hi,xopt,zsL hi,yaa,hst,cond_false];exact hr),?_⟩;rw[he];simp[poss,hi,hst]
   ·exact⟨_,zk0 (by simp only[zfG,znZ hi,xopt,zsL hi,yaa,hst,cond_true];rfl),by simp[poss,hi,hst]⟩
  ·exact⟨_,zk0 (by simp only[zfG,zw7 hi,xopt];rfl),by simp[poss,hi]⟩
theorem zzy(s:ByteArray):zsJ s=some ((poss s (s.size+1) 0).all fun j=>!zeG s j):=zAz (by
 obtain⟨r,hr,he⟩:=zGx s (s.size+1) 0 (by omega);have hr:zhN s 0=some r:=hr;simp only[zoA,hr,yaa]
 cases r<;>exact congrArg some he)
theorem zGg(s:ByteArray):∀(n i:Nat),(poss s n i).length<=n:=by
 intro n
 induction n with
 |zero=>intro i;simp[poss]
 |succ n ih=>
  intro i;unfold poss;split
  ·have:=ih (i+(yaH s i).2);simp;omega
  ·simp
theorem zFs(s:ByteArray):∀(n i k:Nat),s.size-i<n->k+n<9223372036854775808->∃a,zhM s (k:Int) (i:Int)=some (((k+(poss s n i).length:Nat):Int),a):=by
 intro n
 induction n with
 |zero=>intro i k h;omega
 |succ n ih=>
  intro i k h hk;by_cases hi:i<s.size
  ·have hw:=width_pos s i;obtain⟨a,ha⟩:=ih (i+(yaH s i).2) (k+1) (by omega) (by omega);refine⟨a,zps ?_⟩;have e1:yab.iadd .i64 (k:Int) 1=((k+1:Nat):Int):=ztm (b:=1) (by omega);simp only[zif,znZ hi,xopt,e1,ha];simp[poss,hi];omega
  ·exact⟨(i:Int),zps (by simp only[zif,zw7 hi,xopt];simp[poss,hi])⟩
theorem zzx{s:ByteArray}(hs:s.size<4611686018427387904):zsI s=some (((poss s (s.size+1) 0).length:Nat):Int):=zAy (by
 obtain⟨a,ha⟩:=zFs s (s.size+1) 0 0 (by omega) (by omega);have ha:zhM s 0 0=some (((0+(poss s (s.size+1) 0).length:Nat):Int),a):=ha
 simp only[zoz,ha,yaa,yaO])
def zex(s:ByteArray)(i:Nat):ByteArray:=s.extract i (i+(yaH s i).2)
theorem zE3(s:ByteArray)(i:Nat):(wid s i=0/\(yaH s i).2=1)\/(wid s i≠0/\wid s i=(yaH s i).2):=by
 unfold wid;split
 ·rename_i h;exact .inl ⟨rfl,by rw[h]⟩
 ·have:=width_pos s i;exact .inr ⟨by omega,rfl⟩
theorem zGd(s:ByteArray)(hs:s.size<1000000):∀(n i:Nat) (l:List ByteArray),s.size-i<n->l.length<=i->i<=s.size->(∀j,j<s.size->j+(yaH s j).2<=s.size)->zfh s (i:Int) l=some (l++(poss s n i).map (zex s)):=by
 intro n
 induction n with
 |zero=>intro i l h;omega
 |succ n ih=>
  intro i l h hl hi0 hfit;by_cases hi:i<s.size
  ·have hw:=width_pos s i;have hf:=hfit i hi;have hr:∀z:ByteArray,zaA vT 16 l [z]=true:=fun z=>zay vT (by simp;omega) (by omega)
   have hx:=ih (i+(yaH s i).2) (l++[zex s i]) (by omega) (by simp;omega) hf hfit
   have hsub:∀w:Nat,i+w<=s.size->ztt s (i:Int) ((i+w:Nat):Int)=some (s.extract i (i+w)):=fun w hwl=>by
    show(if 0<=(i:Int)/\(i:Int)<=((i+w:Nat):Int)/\((i+w:Nat):Int)<=(s.size:Int)then some (s.extract (i:Int).toNat ((i+w:Nat):Int).toNat)else none)=_;rw[if_pos ⟨by omega,by omega,by omega⟩,yaQ,yaQ]
   refine zpj ?_;unfold zh4;simp only[zar,zae,zbp,ztW hi (by omega),yaa,zai];rw[if_pos (by omega)];rcases zE3 s i with⟨h1,h2⟩|⟨h1,h2⟩
   ·have e1:yab.iadd .i64 (i:Int) 1=((i+1:Nat):Int):=ztm (b:=1) (by omega);rw[if_pos (by omega),e1,hsub 1 (by omega),yaa,hr,cond_true];rw[h2]at hx;simp only[poss,if_pos hi,ybn,h2];rw[show s.extract i (i+1)=zex s i from by unfold zex;rw[h2],hx];simp
   ·have e1:yab.iadd .i64 (i:Int) (wid s i:Int)=((i+wid s i:Nat):Int):=ztm (by omega);rw[if_neg (by omega),e1,hsub _ (by omega),yaa,hr,cond_true];rw[<-h2]at hx;simp only[poss,if_pos hi,ybn,<-h2];rw[show s.extract i (i+wid s i)=zex s i from by unfold zex;rw[h2],hx];simp
  ·exact zpj (by
    unfold zh4;simp only[zar,zae,zbp];rw[if_neg (by omega)]
    simp[poss,hi])
theorem fits{s:ByteArray}{i:Nat}(h:i<s.size):i+(yaH s i).2<=s.size:=by
 rw[decode_at]
 have:∀n b0 b1 b2 b3,1<=n->(decodeN n b0 b1 b2 b3).2<=n:=fun n b0 b1 b2 b3 hn=>by
  unfold decodeN
  repeat' split
  all_goals (simp only;omega)
 have:=this (s.size-i) (s.get! i).toNat (s.get! (i+1)).toNat (s.get! (i+2)).toNat (s.get! (i+3)).toNat (by omega);omega
theorem zsc{s:ByteArray}(hs:s.size<1000000):znF s=some ((poss s (s.size+1) 0).map (zex s)):=zz6 (by
 have h:=zGd s hs (s.size+1) 0 [] (by omega) (by simp) (by omega) (fun j hj=>fits hj);have h:zfh s 0 []=some ((poss s (s.size+1) 0).map (zex s)):=h
 simp only[zod,h,yaa])
set_option maxRecDepth 100000 in
set_option maxHeartbeats 4000000 in
theorem zFv{n b0 b1 b2 b3 r w:Nat}(hn:1<=n)(hd:decodeN n b0 b1 b2 b3=(r,w)):decodeN w b0 (if 1<w then b1 else 0) (if 2<w then b2 else 0) (if 3<w then b3 else 0)=(r,w):=by
 unfold decodeN at hd
 repeat' split at hd
 all_goals
  injection hd with e1 e2
  subst e1 e2
  unfold decodeN
  simp only[show¬1<1 by omega,show¬2<1 by omega,show¬3<1 by omega,show 1<2 by omega,show¬2<2 by omega,show¬3<2 by omega,show 1<3 by omega,show 2<3 by omega,show¬3<3 by omega,show 1<4 by omega,show 2<4 by omega,show 3<4 by omega,if_true,if_false,false_and,true_and,and_false]
  repeat' split
  all_goals first|rfl|(exfalso;omega)
theorem zuw(s:ByteArray)(i j:Nat)(h:j<=s.size):(s.extract i j).size=j-i:=by
 simp[ByteArray.size_extract];omega
theorem zH6(s:ByteArray)(i j k:Nat)(h:j<=s.size)(hk:i+k<j):byt (s.extract i j) k=byt s (i+k):=by
 have h1:k<(s.extract i j).size:=by rw[zuw s i j h];omega
 have e1:=zjF h1;have e2:=zjF (s:=s) (i:=i+k) (by omega);unfold byt
 have g1:(s.extract i j).get! k=(s.extract i j)[k]'h1:=by
  generalize s.extract i j=z at h1⊢
  cases z with
  |mk d=>exact getElem!_pos d k h1
 have g2:s.get! (i+k)=s[i+k]'(by omega):=by
  have h2:i+k<s.size:=by omega
  clear e1 e2 g1 h1
  cases s with
  |mk d=>exact getElem!_pos d (i+k) h2
 rw[g1,g2,ByteArray.getElem_extract]
theorem zwY{s:ByteArray}{i:Nat}(h:i<s.size):yaH (zex s i) 0=yaH s i:=by
 have hf:=fits h;have hw:=width_pos s i;obtain⟨r,w,hd⟩:∃r w,yaH s i=(r,w):=⟨_,_,rfl⟩
 have hsz:(zex s i).size=w:=by unfold zex;rw[zuw _ _ _ hf,hd];simp only;omega
 have hb:∀k,byt (zex s i) k=if k<w then byt s (i+k)else 0:=fun k=>by
  split
  ·rename_i hk;unfold zex;rw[hd]at hf⊢;exact zH6 s i (i+w) k hf (by omega)
  ·exact zIm _ _ (by omega)
 rw[hd]at hw⊢;rw[decode_at]at hd⊢;have b0:=hb 0;have b1:=hb 1;have b2:=hb 2;have b3:=hb 3;unfold byt at b0 b1 b2 b3;simp only[yaO,Nat.sub_zero,Nat.add_zero]at b0 b1 b2 b3⊢;rw[hsz,b0,b1,b2,b3,if_pos (show 0<w from hw)];exact zFv (by omega) hd
theorem zw6(s:ByteArray)(i:Nat):(wid s i=0)<->zeG s i=true:=by
 unfold wid zeG;have:=width_pos s i;split
 ·rename_i h;simp[h]
 ·rename_i h;simp[h];omega
theorem zIY{l:List ByteArray}(hl:l.length<=4611686018427387904)(hb:∀x,x∈l->0<x.size/\x.size<1000000):zhu l 0=some (bif allI (fun _ x=>!zeG x 0) 0 l then .inr ()else .inl ()):=
 zx7 vT hl (L:=fun i=>zhu l i)
  (fun h=>zkJ (by simp[zfj,h]))
  (fun n x r hx h1 h2 hp h=>zkJ (by
   have hm:=hb x (yat hx);have hw:zhv x 0=some (wid x 0:Int):=ztW hm.1 (by omega)
   have hz:¬(wid x 0=0):=fun h0=>by
    have:=(zw6 x 0).1 h0;simp[this]at hp
   simp[zfj,h1,h2,hw,zai,hz];exact h))
  (fun n x hx h1 h2 hp=>zkJ (by
   have hm:=hb x (yat hx);have hw:zhv x 0=some (wid x 0:Int):=ztW hm.1 (by omega);have hz:wid x 0=0:=(zw6 x 0).2 (by simpa using hp)
   simp[zfj,h1,h2,hw,zai,hz]))
theorem zwh(s:ByteArray):∀(n i:Nat),∀j,j∈poss s n i->j<s.size:=by
 intro n
 induction n with
 |zero=>intro i j h;simp[poss]at h
 |succ n ih=>
  intro i j h;unfold poss at h;split at h
  ·rename_i hi;rcases List.mem_cons.1 h with rfl|h
   ·exact hi
   ·exact ih _ j h
  ·cases h
theorem zFc{l:List ByteArray}{p:ByteArray->Bool}:∀n,allI (fun _ x=>p x) n l=l.all p:=by
 induction l with
 |nil=>intro n;rfl
 |cons x l ih=>intro n;simp[allI,ih]
theorem zy4{s:ByteArray}(hs:s.size<1000000):zsd s=some ((poss s (s.size+1) 0).all fun j=>!zeG s j):=zz7 (by
 have hl:=zGg s (s.size+1) 0
 have hb:∀x,x∈(poss s (s.size+1) 0).map (zex s)->0<x.size/\x.size<1000000:=fun x hx=>by
  obtain⟨j,hj,rfl⟩:=ybF.1 hx;have h1:=zwh s _ _ j hj;have h2:=fits h1;have h3:=width_pos s j;unfold zex;rw[zuw _ _ _ h2];omega
 have hv:=zIY (l:=(poss s (s.size+1) 0).map (zex s)) (by simp;omega) hb;rw[zFc]at hv
 have he:((poss s (s.size+1) 0).map (zex s)).all (fun x=>!zeG x 0)=(poss s (s.size+1) 0).all fun j=>!zeG s j:=by
  rw[List.all_map];refine yby.2 ?_;simp only[List.all_eq_true,Function.comp];refine⟨fun h j hj=>?_,fun h j hj=>?_⟩
  ·have:=h j hj;unfold zeG at this⊢;rwa[zwY (zwh s _ _ j hj)]at this
  ·have:=h j hj;unfold zeG at this⊢;rwa[zwY (zwh s _ _ j hj)]
 rw[he]at hv;simp only[zoe,zsc hs,yaa,hv]
 cases (poss s (s.size+1) 0).all fun j=>!zeG s j<;>rfl)
def znz(s:ByteArray):Bool:=decide (0<s.size/\s.size<=96)&&((poss s (s.size+1) 0).all fun j=>!zeG s j)&&decide ((poss s (s.size+1) 0).length<=32)
theorem zCH{s:ByteArray}(hs:s.size<1000000):zwl s=some (znz s):=zEy (by
 simp only[zse,zar,zae,zbp,zy4 hs,zsc hs,yaa,znz,zat,yaJ];by_cases h1:0<s.size
 ·rw[if_pos (by omega)];by_cases h2:s.size<=96
  ·rw[if_pos (by omega)];cases (poss s (s.size+1) 0).all fun j=>!zeG s j
   ·simp
   ·simp[h1,h2];omega
  ·rw[if_neg (by omega)];simp[h2]
 ·rw[if_neg (by omega)];simp[h1])
theorem zCu{s:ByteArray}(hs:s.size<1000000):zwe s=some (znz s):=zEm (by
 have h0:yab.seq s ⟨#[]⟩=true<->s.size=0:=by
  rw[ztr];constructor
  ·rintro rfl;rfl
  ·intro h
   cases s with
   |mk d=>
    have:d.size=0:=h;rw[Array.eq_empty_of_size_eq_zero this]
 simp only[zr5,zbg,zae,zbp,zzy,zzx (show s.size<4611686018427387904 by omega),yaa,znz];by_cases h1:s.size=0
 ·rw[h0.2 h1];simp[h1]
 ·rw[yce.2 (fun h=>h1 (h0.1 h)),cond_false];by_cases h2:s.size<=96
  ·rw[if_pos (by omega)];cases (poss s (s.size+1) 0).all fun j=>!zeG s j
   ·simp
   ·have h3:0<s.size:=by omega
    simp only[cond_true,h2,h3,and_self,decide_true,Bool.true_and,ybl];exact decide_eq_decide.2 ⟨fun h=>by omega,fun h=>by omega⟩
  ·rw[if_neg (by omega)];simp[h2])
theorem iltT{a b:Int}(h:a<b):yab.ilt a b=true:=decide_eq_true h
theorem iltF{a b:Int}(h:¬a<b):yab.ilt a b=false:=decide_eq_false h
theorem ieqT{a b:Int}(h:a=b):yab.ieq a b=true:=decide_eq_true h
theorem ieqF{a b:Int}(h:¬a=b):yab.ieq a b=false:=decide_eq_false h
theorem zus(a:ByteArray):yab.seq a a=true:=ztr.2 rfl
theorem zFi(a b:Bool):yab.beq a b=decide (a=b):=by cases a<;>cases b<;>rfl
def n64(x:BitVec 64):Int:=(x.toNat:Int)
def mc1:BitVec 64:=13787848793156543929#64
def mc2:BitVec 64:=10723151780598845931#64
def mixB(u:BitVec 64):BitVec 64:=
 let a:=(u ^^^ (u >>> 30))*mc1
 let b:=(a ^^^ (a >>> 27))*mc2
 b ^^^ (b >>> 31)
def stepB(n:BitVec 64)(c:Nat):BitVec 64:=(n ^^^ BitVec.ofNat 64 c)*1099511628211#64
def zHT(f:BitVec 64->Nat->BitVec 64):Nat->Nat->BitVec 64->BitVec 64
 |0,_,x=>x
 |d+1,i,x=>zHT f d (i+1) (f x i)
def sumB(s:ByteArray)(d i:Nat)(x:BitVec 64):BitVec 64:=zHT (fun x i=>stepB x (byt s i)) d i x
def basis:BitVec 64:=14695981039346656037#64
def zLd(s:ByteArray):BitVec 64:=mixB (sumB s s.size 0 basis)
def zKO(s:ByteArray):Int:=n64 (zLd s)
def upto(a x b:Int):Bool:=decide (a=b)||(decide (x=b)||(decide (x≠a)&&decide ((x-a)%18446744073709551616<(b-a)%18446744073709551616)))
theorem zFV(a b:Int):yab.isub .u64 a b=(a-b)%18446744073709551616:=zuy _
theorem zsB(a x b:Int):zjD a x b=some (upto a x b):=zAn (by
 have hd:∀u v,zlG u v=some ((v-u)%18446744073709551616):=fun u v=>ztN (by rw[zov,zFV])
 have hb:a≠b->zhJ a x b=some (decide (x≠a)&&decide ((x-a)%18446744073709551616<(b-a)%18446744073709551616)):=fun h=>zpo (by
  simp only[zid,hd,yaa,zai,zar,decide_eq_false h,cond_false,zae]
  by_cases hx:x=a<;>simp[hx])
 simp only[zow,zai,zae,upto];by_cases h1:a=b
 ·simp[h1]
 ·by_cases h2:x=b
  ·simp[h1,h2]
  ·simp[h1,h2,hb h1])
theorem zoc{a x b:Int}(ha:0<=a/\a<18446744073709551616)(hx:0<=x/\x<18446744073709551616)(hb:0<=b/\b<18446744073709551616):zmS a x b=some (upto a x b):=zCF (by
 simp only[zqh,zar,zbg,zae,upto];split
 ·split
  ·rename_i h1 h2;congr 1;rw[decide_eq_false (by omega:¬a=b),yb0,yby];simp only[decide_eq_true_eq,ya1,yaA];omega
  ·rename_i h1 h2;congr 1;rw[decide_eq_false (by omega:¬a=b),yb0]
   symm
   rw[yce];intro h;simp only[decide_eq_true_eq,ya1,yaA]at h;omega
 ·split
  ·split
   ·rename_i h1 h2 h3;congr 1
    symm
    simp only[decide_eq_true_eq,ya1,yaA];omega
   ·rename_i h1 h2 h3;congr 1;rw[yby];simp only[decide_eq_true_eq,ya1,yaA];omega
  ·congr 1
   symm
   simp only[decide_eq_true_eq,ya1,yaA]
   omega)
theorem zt1{s:ByteArray}{i:Nat}(h:i<s.size):∃x,s.data.toList.drop i=x::s.data.toList.drop (i+1)/\byt s i=x.toNat:=by
 have hl:i<s.data.toList.length:=by simpa using h
 refine⟨s.data.toList[i],yaF hl,?_⟩;unfold byt;congr 1
 cases s with
 |mk d=>
  show d[i]! =_;rw[Array.getElem_toList];exact getElem!_pos d i (by simpa using hl)
theorem zEk(x y:UInt8)(a b:List UInt8):ybT (x::a) (y::b)=(decide (x.toNat<y.toNat)||(decide (x.toNat=y.toNat)&&ybT a b)):=by
 show(decide (x<y)||(x==y&&ybT a b))=_
 have e:(x==y)=decide (x.toNat=y.toNat):=by
  rw[yby,beq_iff_eq,decide_eq_true_eq];exact⟨fun h=>by rw[h],fun h=>UInt8.toNat_inj.1 h⟩
 rw[e];rfl
theorem zwW{a b:ByteArray}(ha:a.size<4611686018427387904):∀(k i:Nat),i+k=a.size->i<=b.size->∃r,zix a b (i:Int)=some r/\(match r with| .inl t=>t| .inr _=>yab.ilt (yab.slen a) (yab.slen b))=ybT (a.data.toList.drop i) (b.data.toList.drop i)
 |0,i,h,hi=>by
  refine⟨.inr (),ziP ?_,?_⟩
  ·have e:yab.ilt (i:Int) (yab.slen a)=false:=iltF (by rw[zbp];omega);rw[zeh,e];rfl
  ·rw[yb8 (by simp;omega:a.data.toList.length<=i)];show decide ((a.size:Int)<(b.size:Int))=_;by_cases hb:i<b.size
   ·obtain⟨y,hy,_⟩:=zt1 hb;rw[hy,decide_eq_true (by omega)];rfl
   ·rw[yb8 (by simp;omega:b.data.toList.length<=i),decide_eq_false (by omega)];rfl
 |k+1,i,h,hi=>by
  have e:yab.ilt (i:Int) (yab.slen a)=true:=iltT (by rw[zbp];omega);obtain⟨x,hx,hxv⟩:=zt1 (s:=a) (i:=i) (by omega);by_cases hb:i<b.size
  ·have e2:yab.ilt (i:Int) (yab.slen b)=true:=iltT (by rw[zbp];omega);obtain⟨y,hy,hyv⟩:=zt1 hb;have g1:=zjF (s:=a) (i:=i) (by omega);have g2:=zjF hb;have ad:yab.iadd .i64 (i:Int) 1=((i+1:Nat):Int):=zeW (by omega);rw[hx,hy,zEk,<-hxv,<-hyv];by_cases he:byt a i=byt b i
   ·obtain⟨r,hr,hv⟩:=zwW (a:=a) (b:=b) ha k (i+1) (by omega) (by omega)
    have hs0:zlf a b (i:Int)=some (.inl ((i+1:Nat):Int)):=zq1 (by
     rw[ziQ,g1,g2,ad]
     simp only[yaa,ieqT (show(byt a i:Int)=byt b i by omega),cond_true])
    refine⟨r,ziP ?_,?_⟩
    ·rw[zeh,e,e2,hs0];exact hr
    ·rw[hv,he];simp
   ·have hs0:zlf a b (i:Int)=some (.inr (yab.ilt (byt a i:Int) (byt b i:Int))):=zq1 (by
     rw[ziQ,g1,g2,ad]
     simp only[yaa,ieqF (show¬(byt a i:Int)=byt b i by omega),cond_false])
    refine⟨.inl (yab.ilt (byt a i:Int) (byt b i:Int)),ziP ?_,?_⟩
    ·rw[zeh,e,e2,hs0];rfl
    ·simp only[decide_eq_false he,Bool.false_and,Bool.or_false];exact decide_eq_decide.2 ⟨fun h=>by omega,fun h=>by omega⟩
  ·have e2:yab.ilt (i:Int) (yab.slen b)=false:=iltF (by rw[zbp];omega);refine⟨.inr (),ziP (by rw[zeh,e,e2];rfl),?_⟩;rw[hx,yb8 (by simp;omega:b.data.toList.length<=i)];show decide ((a.size:Int)<(b.size:Int))=_;rw[decide_eq_false (by omega)];rfl
def lt(a b:ByteArray):Bool:=ybT a.data.toList b.data.toList
theorem zAb{a b:ByteArray}(ha:a.size<4611686018427387904):zqk a b=some (lt a b):=zCJ (by
 obtain⟨r,hr,hv⟩:=zwW (a:=a) (b:=b) ha a.size 0 (by omega) (by omega);have hr':zix a b 0=some r:=hr;rw[zql,hr',yaa];rw[List.drop_zero,List.drop_zero]at hv;unfold lt;rw[<-hv]
 cases r<;>rfl)
theorem zsf{a b:List Pair}(hl:a.length<=1000000):znG a b=some (eqb a b):=zz9 (by
 rw[zoh,zat,zat];by_cases he:a.length=b.length
 ·have h:=znP zag (l:=a) (l':=b) (by omega) he (L:=fun i=>zjQ a b i) (fun h=>zkO (by simp[zfq,h]))
   (fun n x r _ h1 h2 h3 h=>zkO (by simp[zfq,h1,h2,h3,zus];exact h))
   (fun n x y _ h1 h2 h3 h=>zkO (by
    simp only[zfq,h1,h2,h3,zBW,zae,cond_true,yaa];rw[ne_eq,Pair.ext']at h;split
    ·split
     ·exact absurd ⟨‹_›,‹_›⟩ h
     ·rfl
    ·rfl))
  rw[ieqT (by omega),cond_true];rcases h with⟨h1,h2⟩|⟨h1,h2⟩
  ·rw[h2,h1,zhq]<;>rfl
  ·rw[h2,zlw h1]<;>rfl
 ·rw[ieqF (by omega),zlw (fun h=>he (by rw[h]))]<;>rfl)
def isAt(key:ByteArray)(p:Pair):Bool:=yab.seq p.key key
def pl(l:List Pair)(key:ByteArray):Int:=fstI (isAt key) l
theorem zmk{l:List Pair}{key:ByteArray}(hl:l.length<=1000):zlr l key=some (pl l key)/\znL l key=some (pl l key):=by
 have e1:=zbv zag (l:=l) (by omega) (p:=isAt key) (L:=fun i=>zd9 l key i) (fun h=>ze3 (by simp[zce,h]))
  (fun n x _ h1 h2 hp=>ze3 (by
   have:zi7 x key=some (isAt key x):=znT rfl
   simp[zce,h1,h2,this,hp]))
  (fun n x r _ h1 h2 hp h=>ze3 (by
   have:zi7 x key=some (isAt key x):=znT rfl
   simp[zce,h1,h2,this,hp];exact h))
 have e0:=zbv zag (l:=l) (by omega) (p:=isAt key) (L:=fun i=>zjW l key i) (fun h=>zkR (by simp[zfx,h]))
  (fun n x _ h1 h2 hp=>zkR (by
   have:yab.seq x.key key=true:=hp
   simp[zfx,h1,h2,this]))
  (fun n x r _ h1 h2 hp h=>zkR (by
   have:yab.seq x.key key=false:=hp
   simp[zfx,h1,h2,this];exact h))
 refine⟨zxL (zry ?_),zAg ?_⟩
 ·rw[zhi,e1];unfold pl fstI;cases fst (isAt key) l<;>rfl
 ·rw[zol,e0];unfold pl fstI;cases fst (isAt key) l<;>rfl
def getP(l:List Pair)(key:ByteArray):ByteArray×Bool:=match l.find? (isAt key)with
 |some x=>(x.val,true)
 |none=>(⟨#[]⟩,false)
theorem zmI{p:Pair->Bool}:∀{l:List Pair},match fst p l with
  |some n=>∃x,l[n]?=some x/\l.find? p=some x/\p x=true/\n<l.length
  |none=>l.find? p=none
 | []=>rfl
 |x::l=>by
  have ih:=zmI (p:=p) (l:=l);rw[fst,List.find?_cons]
  cases h:p x with
  |true=>exact⟨x,rfl,rfl,h,by simp⟩
  |false=>
   cases hf:fst p l with
   |none=>rw[hf]at ih;exact ih
   |some n=>
    rw[hf]at ih;obtain⟨y,h1,h2,h3,h4⟩:=ih;exact⟨y,by simpa using h1,h2,h3,by simp;omega⟩
theorem zyC{l:List Pair}{key:ByteArray}(hl:l.length<=1000):zsF l key=some (getP l key)/\zwo l key=some (getP l key):=by
 have h:=zmI (p:=isAt key) (l:=l)
 have h1:zlq l key=some (getP l key)/\znK l key=some (getP l key):=by
  rw[zlq,znK,(zmk hl).1,(zmk hl).2,yaa];unfold pl fstI getP
  cases hf:fst (isAt key) l with
  |none=>
   rw[hf]at h
   simp only[h,iltT (show(-1:Int)<0 by omega),cond_true,and_self]
  |some n=>
   rw[hf]at h;obtain⟨x,h1,h2,h3,h4⟩:=h;simp only[h2,iltF (show¬(n:Int)<0 by omega),cond_false,zaW,h1,yaa,and_self]
 exact⟨zAw h1.1,zEB h1.2⟩
def isUp(key:ByteArray)(p:Pair):Bool:=lt key p.key
def setP(key val:ByteArray):List Pair->List Pair
 | []=>[]
 |x::l=>bif isAt key x then⟨x.key,val⟩::l else x::setP key val l
def insP(key val:ByteArray):List Pair->List Pair
 | []=>[⟨key,val⟩]
 |x::l=>bif isUp key x then⟨key,val⟩::x::l else x::insP key val l
def put(l:List Pair)(key val:ByteArray):List Pair×Int:=
 bif znz key then
  (if 512<val.size then(l,5)else
  if 0<=pl l key then(setP key val l,0)else
  if 64<=l.length then(l,10)else(insP key val l,0))
 else(l,7)
theorem zwz{key val:ByteArray}:∀{l:List Pair} {n:Nat} {x:Pair},fst (isAt key) l=some n->l[n]?=some x->l.set n ⟨x.key,val⟩=setP key val l
 | [],n,x,h,_=>by cases h
 |y::l,n,x,h,hx=>by
  rw[fst]at h;rw[setP]
  cases hy:isAt key y with
  |true=>
   rw[hy]at h;cases h;cases hx
   rfl
  |false=>
   rw[hy,cond_false]at h
   cases hf:fst (isAt key) l with
   |none=>rw[hf]at h;cases h
   |some m=>
    rw[hf]at h;cases h;rw[cond_false,<-zwz hf (by simpa using hx)];rfl
theorem zvj(key val:ByteArray)(l:List Pair):insP key val l=match fst (isUp key) l with|some n=>l.take n++⟨key,val⟩::l.drop n|none=>l++[⟨key,val⟩]:=by
 induction l with
 |nil=>rfl
 |cons x l ih=>
  rw[insP,fst]
  cases isUp key x with
  |true=>rfl
  |false=>
   rw[cond_false,cond_false,ih]
   cases fst (isUp key) l with
   |none=>rfl
   |some n=>simp
theorem zFQ(key val:ByteArray)(l:List Pair):(insP key val l).length=l.length+1:=by
 induction l with
 |nil=>rfl
 |cons x l ih=>rw[insP];cases isUp key x<;>simp[ih]
theorem zGq(key val:ByteArray)(l:List Pair):(setP key val l).length=l.length:=by
 induction l with
 |nil=>rfl
 |cons x l ih=>rw[setP];cases isAt key x<;>simp[ih]
theorem zjB(l:List Pair)(key val:ByteArray):(put l key val).1.length<=max l.length 64:=by
 unfold put;cases znz key
 ·exact Nat.le_max_left _ _
 ·rw[cond_true];split
  ·exact Nat.le_max_left _ _
  ·split
   ·rw[zGq];exact Nat.le_max_left _ _
   ·split
    ·exact Nat.le_max_left _ _
    ·rw[zFQ];omega
theorem zfQ(l:List Pair)(n:Nat)(h:n<=l.length):xsub zag l 0 (n:Int)=some (l.take n):=by
 rw[zem,if_pos (by omega)];simp
theorem zhX(l:List Pair)(n:Nat)(h:n<=l.length):xsub zag l (n:Int) (xlen zag l)=some (l.drop n):=by
 rw[zem,zat,if_pos (by omega)];simp
theorem zx5{l:List Pair}{key:ByteArray}(hl:l.length<=1000):zjc l key=some (fstI (isUp key) l):=zrx (by
 have hc:∀x,zox x key=some (isUp key x):=fun x=>zxK rfl
 have h:=zbv zag (l:=l) (by omega) (p:=isUp key) (L:=fun i=>zd8 l key i) (fun h=>ze2 (by simp[zcc,h]))
  (fun n x _ h1 h2 hp=>ze2 (by simp[zcc,h1,h2,hc,hp]))
  (fun n x r _ h1 h2 hp h=>ze2 (by simp[zcc,h1,h2,hc,hp];exact h))
 rw[zhh,h];unfold fstI
 cases fst (isUp key) l<;>rfl)
theorem zvI{l:List Pair}{key val:ByteArray}(hl:l.length<=1000):zm8 l key val=some (insP key val l):=zwA (by
 have hroom:zaA zag 32 l [⟨key,val⟩]=true:=zay zag (by simp;omega) (by omega)
 have h0:xsub zag l 0 (xlen zag l)=some l:=by
  rw[zat,zfQ l l.length (yag _),yb7]
 have h1:xsub zag l (xlen zag l) (xlen zag l)=some []:=by
  have:=zhX l l.length (yag _);rw[zat]at this⊢;rw[this,yb5]
 rw[zkY,zx5 hl,yaa,hroom,zvj];have h:=zmI (p:=isUp key) (l:=l);unfold fstI
 cases hf:fst (isUp key) l with
 |none=>simp only[iltT (show(-1:Int)<0 by omega),cond_true,h0,h1,yaa];simp
 |some n=>
  rw[hf]at h;obtain⟨x,hx,_,_,hn⟩:=h
  simp only[iltF (show¬(n:Int)<0 by omega),cond_false,cond_true,zfQ l n (by omega),zhX l n (by omega),yaa];simp)
theorem zyY(l:List Pair)(key:ByteArray):(pl l key=-1/\fst (isAt key) l=none/\l.find? (isAt key)=none)\/∃n x,pl l key=(n:Nat)/\fst (isAt key) l=some n/\l[n]?=some x/\n<l.length/\l.find? (isAt key)=some x:=by
 have h:=zmI (p:=isAt key) (l:=l);unfold pl fstI
 cases hf:fst (isAt key) l with
 |none=>rw[hf]at h;exact .inl ⟨rfl,rfl,h⟩
 |some n=>
  rw[hf]at h;obtain⟨x,h1,h2,h3,h4⟩:=h;exact .inr ⟨n,x,rfl,rfl,h1,h4,h2⟩
theorem zHR{a:Int}:yab.ile 0 a=decide (0<=a):=rfl
theorem zzq{l:List Pair}{key val:ByteArray}(hl:l.length<=1000)(hk:key.size<1000000):zsG l key val=some (put l key val):=zAx (by
 have hroom:zaA zag 32 [] l=true:=zay zag (by simp;omega) (by omega);rw[zoy,hroom,cond_true,(zmk hl).1,yaa,zCu hk,yaa];unfold put
 cases znz key with
 |false=>rfl
 |true=>
  rw[cond_true,cond_true,zbp,zar,zae];by_cases h5:512<val.size
  ·rw[if_pos h5,if_pos (by omega)]
  ·rw[if_neg h5,if_neg (by omega),zHR,zae];rcases zyY l key with⟨hp,hf,_⟩|⟨n,x,hp,hf,hx,hn,_⟩
   ·rw[hp,if_neg (by omega),if_neg (by omega),zat,zbg,zae];by_cases h64:64<=l.length
    ·rw[if_pos h64,if_pos (by omega)]
    ·rw[if_neg h64,if_neg (by omega),zvI hl];rfl
   ·rw[hp,if_pos (by omega),if_pos (by omega),zaW,hx,yaa];congr 2
    exact zwz hf hx)
theorem zxq{l:List Pair}{key val:ByteArray}(hl:l.length<=1000)(hk:key.size<1000000):zjU l key val 0=some (match fst (isUp key) l with|some n=>(n:Int)|none=>(l.length:Int)):=by
 have hc:∀x:Pair,zqk key x.key=some (isUp key x):=fun x=>zAb (by omega)
 have:=zaV (σ:=Unit) zag (l:=l) (by omega) (L:=fun i _=>zjU l key val i) (res:=fun n _ rest=>match fst (isUp key) rest with|some m=>((n+m:Nat):Int)|none=>((n+rest.length:Nat):Int)) (Inv:=fun _ _=>True)
  (fun _ _ h=>zsk (by rw[zjV,h];rfl))
  (fun n x rest s _ hn hx hd h1 h2 h3 ih=>zsk (by
   rw[zjV,h1,h2,cond_true,yaa,hc,yaa,fst]
   cases hp:isUp key x with
   |true=>rfl
   |false=>
    rw[cond_false,h3,cond_false];have:=ih () trivial;rw[this]
    cases fst (isUp key) rest with
    |none=>simp only[Option.map_none,yaw];congr 1;omega
    |some m=>simp only[Option.map_some];congr 1;omega)) () trivial
 rw[this];cases fst (isUp key) l<;>simp
theorem zCU{l:List Pair}{key val:ByteArray}(hl:l.length<=1000)(hk:key.size<1000000):zwp l key val=some (put l key val):=zEC (by
 have hroom:zaA zag 32 [] l=true:=zay zag (by simp;omega) (by omega);rw[zsj,zCH hk,yaa];unfold put
 cases znz key with
 |false=>rfl
 |true=>
  rw[cond_true,cond_true,zbp,zar,zae];by_cases h5:512<val.size
  ·rw[if_pos h5,if_pos (by omega)]
  ·rw[if_neg h5,if_neg (by omega),(zmk hl).2,yaa,zHR,zae];rcases zyY l key with⟨hp,hf,_⟩|⟨n,x,hp,hf,hx,hn,_⟩
   ·rw[hp,if_neg (by omega),if_neg (by omega),zat,zar,zae];by_cases h64:64<=l.length
    ·rw[if_pos h64,if_pos (by omega)]
    ·rw[if_neg h64,if_neg (by omega),zxq hl hk,yaa]
     have key2:∀n:Nat,n<=l.length->((xsub zag l 0 (n:Int)).bind fun ys=>bif zaA zag 32 [] ys then(bif zaA zag 32 ys [(⟨key,val⟩:Pair)]then(xsub zag l (n:Int) (xlen zag l)).bind fun ys1=>bif zaA zag 32 (ys++[(⟨key,val⟩:Pair)]) ys1 then some (((ys++[(⟨key,val⟩:Pair)])++ys1),(0:Int))else none else none)else none)=some (l.take n++⟨key,val⟩::l.drop n,0):=fun n hn=>by
      rw[zfQ l n hn,yaa,zay zag (by simp;omega) (by omega),cond_true,zay zag (by simp;omega) (by omega),cond_true,zhX l n hn,yaa,zay zag (by simp;omega) (by omega),cond_true];simp
     rw[zvj];have h:=zmI (p:=isUp key) (l:=l);rw[zat]at key2
     cases hf2:fst (isUp key) l with
     |none=>
      have:=key2 l.length (yag _);rw[yb7,yb5]at this;simp only[]
      exact this
     |some n=>
      rw[hf2]at h;obtain⟨x,hx,_,_,hn⟩:=h;exact key2 n (by omega)
   ·rw[hp,if_pos (by omega),if_pos (by omega),hroom,cond_true,zaW,hx,yaa];congr 2
    exact zwz hf hx)
def Keys(l:List Pair):Prop:=∀p,p∈l->p.key.size<1000000
def un(l:List Pair):Unit⊕(((List Pair)×Int)⊕Int)->List Pair×Int
 | .inl ()=>(l,0)
 | .inr (.inl r)=>r
 | .inr (.inr met)=>(l,met)
def inP(a b:Int)(p:Pair):Bool:=upto a (zKO p.key) b
def rng(l:List Pair)(a b:Int):List Pair:=l.filter (inP a b)
theorem zFt{α β:Type}(f:α->β)(xs:List α):cut8 (xs.map f)=(cut8 xs).map (List.map f):=by
 unfold cut8;rw[yaJ,List.map_map];apply List.map_congr_left;intro k _;simp
theorem zI1{l:List Pair}(hl:l.length<=1000000):xcut zag 76 l=some (cut8 l):=by
 refine zrB ?_;show(if(l.map zag).length<=1000000 then some ((cut8 (l.map zag)).map (AV.lit 76 false))else none)=_;rw[if_pos (by rw[yaJ];exact hl),zFt,List.map_map];rfl
theorem zBC{l:List Pair}{c:List Pair}(hc:c∈cut8 l):c.length<=8:=by
 unfold cut8 at hc;obtain⟨k,_,rfl⟩:=ybF.1 hc;rw[yam];omega
theorem zt2(l:List Pair):(cut8 l).length=(l.length+7) / 8:=by
 unfold cut8;rw[yaJ,List.length_range]
def zvm(l:List Pair):Bool:=decide (100<l.length)|| !allI (fun _ p=>decide (p.key.size<=300)&&decide (p.val.size<=700)) 0 l
theorem zFY(l:List Pair):zsM l=some (zvm l):=zAB (by
 rw[zoC,zat];unfold zvm;by_cases h1:100<l.length
 ·rw[iltT (by omega),decide_eq_true h1];rfl
 ·have h:=zx7 zag (l:=l) (by omega) (p:=fun _ p=>decide (p.key.size<=300)&&decide (p.val.size<=700)) (L:=fun i=>zkd l i)
   (fun h=>zk1 (by simp[zfI,h]))
   (fun n x r hx h1 h2 hp h=>zk1 (by
    rw[yaA,decide_eq_true_eq,decide_eq_true_eq]at hp
    rw[zfI,h1,h2,cond_true,yaa,zbp,zbp,iltF (by omega),iltF (by omega)];exact h))
   (fun n x hx h1 h2 hp=>zk1 (by
    rw[Bool.and_eq_false_iff,decide_eq_false_iff_not,decide_eq_false_iff_not]at hp;rw[zfI,h1,h2,cond_true,yaa,zbp,zbp];rcases hp with hp|hp
    ·rw[iltT (by omega)];rfl
    ·by_cases h3:300<x.key.size
     ·rw[iltT (by omega)];rfl
     ·rw[iltF (by omega),cond_false,iltT (by omega)];rfl))
  rw[h,yaa,iltF (by omega),decide_eq_false h1,cond_false,yb0]
  cases allI (fun _ p=>decide (p.key.size<=300)&&decide (p.val.size<=700)) 0 l<;>rfl)
theorem zEj{l:List Pair}(h:zvm l=false):l.length<=100/\Keys l:=by
 unfold zvm at h;rw[Bool.or_eq_false_iff,decide_eq_false_iff_not,Bool.not_eq_false']at h;refine⟨by omega,fun p hp=>?_⟩;obtain⟨i,hi⟩:=List.getElem?_of_mem hp;have:=zFd.1 h.2 i p hi;rw[yaA,decide_eq_true_eq]at this;omega
def fl(k:Int)(has:Bool):Int:=if k=1 then 4 else if k=2 then 18 else if k=4 then(bif has then 26 else 18)else if k=5 then 8 else if k=7 then 96 else if k=8 then 32 else if k=9 then(bif has then 66 else 2)else if k=10 then 130 else if k=12 then 1 else 0
theorem zsg{a b:List Peer}(hl:a.length<=1000000):znH a b=some (eqb a b):=ztG (by
 rw[zle,zat,zat];by_cases he:a.length=b.length
 ·have h:=znP zad (l:=a) (l':=b) (by omega) he (L:=fun i=>zhx a b i) (fun h=>zdO (by simp[zch,h]))
   (fun n x r _ h1 h2 h3 h=>zdO (by simp[zch,h1,h2,h3,zai];exact h))
   (fun n x y _ h1 h2 h3 h=>zdO (by
    simp only[zch,h1,h2,h3,zai,zae,cond_true,yaa];rw[ne_eq,Peer.ext']at h;split
    ·split
     ·exact absurd ⟨‹_›,‹_›⟩ h
     ·rfl
    ·rfl))
  rw[ieqT (by omega),cond_true];rcases h with⟨h1,h2⟩|⟨h1,h2⟩
  ·rw[h2,h1,zhq]<;>rfl
  ·rw[h2,zlw h1]<;>rfl
 ·rw[ieqF (by omega),zlw (fun h=>he (by rw[h]))]<;>rfl)
theorem zAa{a b:Msg}(hp:a.peers.length<=1000000)(hq:a.pairs.length<=1000000):zub a b=some (eqb a b):=zCI (by
 simp only[zqj,zsg hp,zsf hq,yaa,zai,zFi,zBW,zae];obtain⟨k,rid,code,has,id,key,val,⟨pi,pa⟩,peers,pairs⟩:=a;obtain⟨k',rid',code',has',id',key',val',⟨pi',pa'⟩,peers',pairs'⟩:=b;simp only[eqb,Msg.mk.injEq,Peer.mk.injEq];by_cases c1:k=k'<;>by_cases c2:rid=rid'<;>by_cases c3:code=code'<;>by_cases c4:has=has'<;>by_cases c5:id=id'<;>simp only[c1,c2,c3,c4,c5,if_true,if_false,false_and,and_false,decide_false,true_and]<;>first|rfl|skip
 all_goals (by_cases c6:key=key'<;>by_cases c7:val=val'<;>by_cases c8:pi=pi'<;>by_cases c9:pa=pa'<;>by_cases c10:peers=peers'<;>by_cases c11:pairs=pairs'<;>simp_all))
structure Fit(m:Msg):Prop where
 key:m.key.size<1000000
 val:m.val.size<1000000
 peers:m.peers.length<=1000
 pairs:m.pairs.length<=1000
 keys:∀p,p∈m.pairs->p.key.size<1000000
theorem ztj{α:Type}{p:α->Bool}{l:List α}:decide (0<=fstI p l)=l.any p:=by
 unfold fstI
 cases h:fst p l with
 |none=>
  have:=zkz h
  have e:l.any p=false:=by
   rw[List.any_eq_false];intro x hx;simp[this x hx]
  rw[e]<;>rfl
 |some n=>
  obtain⟨x,hx,hp,_⟩:=zeQ h;rw[List.any_eq_true.2 ⟨x,yat hx,hp⟩];exact decide_eq_true (show(0:Int)<=(n:Int)by omega)
theorem eta2{α β:Type}{x:Option (α×β)}{p:α×β}(h:x=some p):x=some (p.1,p.2):=h
structure Sz(n:Node):Prop where
 pred:n.pred.length<=1000
 list:n.list.length<=1000
 fingers:n.fingers.length<=1000
 store:n.store.length<=200
 pends:n.pends.length<=1000
 jobs:n.jobs.length<=1000
 results:n.results.length<=1000
theorem zc1{n:Node}(h:Sz n):zdJ n=some (n.me.id,n.me.addr,n.clock,n.joined,n.pred,n.list,n.fingers,n.store,n.pends,n.jobs,n.results,n.rid,n.jobID,n.nextBit):=zz3 (by
 obtain⟨h1,h2,h3,h4,h5,h6,h7⟩:=h;rw[zn9,zay zab (by simp;omega) (by omega),zay zab (by simp;omega) (by omega),zay zaa (by simp;omega) (by omega),zay zag (by simp;omega) (by omega),zay zaI (by simp;omega) (by omega),zay eJob (by simp;omega) (by omega),zay zaf (by simp;omega) (by omega)]
 rfl)
def now(n:Node):Int:=if 0<=n.clock/\n.clock<=1099511627776 then n.clock else 0
theorem zyO(n:Node):zua n=some (now n)/\zwr n=some (now n):=by
 unfold now;constructor
 ·refine zCA ?_;simp only[zqe,zar,zae]
  (repeat' split)<;>first|rfl|(exfalso;omega)
 ·refine zEF ?_;simp only[zso,zar,zbg,zae]
  (repeat' split)<;>first|rfl|(exfalso;omega)|(congr 1;omega)
theorem zz2{m:Msg}(hp:m.peers.length<=1000000)(hq:m.pairs.length<=1000000):zt8 m=some m:=zCt (by
 rw[zp4,zay zad (by simpa using hp) (by omega),zay zag (by simpa using hq) (by omega)]
 rfl)
def askN(n:Node)(to_:Peer)(m:Msg)(why job:Int):Node×List Out:=
 if 63<n.pends.length then(n,[])else
 (⟨n.me,n.clock,n.joined,n.pred,n.list,n.fingers,n.store,n.pends++[⟨yab.iadd .u32 n.rid 1,m.kind,why,job,to_,yab.iadd .i64 (now n) 8⟩],n.jobs,n.results,yab.iadd .u32 n.rid 1,n.jobID,n.nextBit⟩,
  [⟨to_,⟨m.kind,yab.iadd .u32 n.rid 1,m.code,m.has,m.id,m.key,m.val,m.peer,m.peers,m.pairs⟩⟩])
theorem zld{n:Node}{to_:Peer}{m:Msg}{why job:Int}(h:Sz n)(hp:m.peers.length<=1000000)(hq:m.pairs.length<=1000000):zjh n to_ m why job=some (askN n to_ m why job):=zCy (by
 have h5:=h.pends;rw[zqb,zc1 h,yaa];dsimp only;rw[zat,zbg,zae,askN];by_cases hc:63<n.pends.length
 ·rw[if_pos (by omega),if_pos hc]
 ·rw[if_neg (by omega),if_neg hc,zz2 hp hq,yaa,(zyO _).1,yaa,zay zaI (by simp;omega) (by omega)]
  rfl)
theorem zjX{n:Node}{to_:Peer}{m:Msg}{why job:Int}(h:Sz n):zh7 n to_ m why job=some (askN n to_ m why job):=zED (by
 have h5:=h.pends;rw[zsl,zat,zar,zae,askN];by_cases hc:63<n.pends.length
 ·rw[if_pos (by omega),if_pos hc]
 ·rw[if_neg (by omega),if_neg hc,zay zaI (by simp;omega) (by omega),cond_true,(zyO _).2,yaa,zay zaI (by simp;omega) (by omega)]
  rfl)
theorem zhY{n:Node}{to_:Peer}{m:Msg}{why job:Int}(h:Sz n):Sz (askN n to_ m why job).1/\(askN n to_ m why job).2.length<=1:=by
 unfold askN;split
 ·exact⟨h,by simp⟩
 ·exact⟨⟨h.pred,h.list,h.fingers,h.store,by simp;omega,h.jobs,h.results⟩,by simp⟩
def zg7(fresh:Bool)(c:List Pair):Msg:=⟨10,0,0,fresh,0,⟨#[]⟩,⟨#[]⟩,⟨0,0⟩,[],c⟩
def zeV(to_:Peer)(fresh:Bool):List (List Pair)->Node->Node×List Out
 | [],n=>(n,[])
 |c::cs,n=>((zeV to_ fresh cs (askN n to_ (zg7 fresh c) 6 0).1).1,(askN n to_ (zg7 fresh c) 6 0).2++(zeV to_ fresh cs (askN n to_ (zg7 fresh c) 6 0).1).2)
theorem zyD(to_:Peer)(fresh:Bool):∀(cs:List (List Pair)) {n:Node},Sz n->Sz (zeV to_ fresh cs n).1/\(zeV to_ fresh cs n).2.length<=cs.length
 | [],n,h=>⟨h,by simp[zeV]⟩
 |c::cs,n,h=>by
  obtain⟨h1,h2⟩:=zhY (to_:=to_) (m:=zg7 fresh c) (why:=6) (job:=0) h;obtain⟨h3,h4⟩:=zyD to_ fresh cs h1;refine⟨h3,?_⟩;simp only[zeV,yaf,yaw];omega
def hand(n:Node)(to_:Peer)(l:List Pair)(fresh:Bool):Node×List Out:=zeV to_ fresh (cut8 l) n
theorem zzF{l:List Pair}(hl:l.length<=1000000):xcut zag 76 l=some (cut8 l):=zI1 hl
theorem zxH{n:Node}{to_:Peer}{l:List Pair}{fresh:Bool}(h:Sz n)(hl:l.length<=1000):zqM n to_ l fresh=some (hand n to_ l fresh):=zzl (by
 have hc:(cut8 l).length<=1000:=by rw[zt2];omega
 have hcs:∀c,c∈cut8 l->c.length<=8:=fun c hc=>zBC hc
 rw[zm6,zc1 h,yaa];dsimp only;rw[zzF (by omega),yaa]
 have:=zaV (σ:=Node×List Out) (eL 76 zag) (l:=cut8 l) (by omega) (L:=fun i s=>zi5 to_ fresh (cut8 l) (xlen (eL 76 zag) (cut8 l)) i s.1 n.pred n.list n.fingers n.store n.pends n.jobs n.results s.2)
  (res:=fun k s rest=>((zeV to_ fresh rest s.1).1,n.pred,n.list,n.fingers,n.store,n.pends,n.jobs,n.results,s.2++(zeV to_ fresh rest s.1).2)) (Inv:=fun k s=>Sz s.1/\s.2.length<=k)
  (fun s hi h0=>znQ (by rw[zg8,h0];simp[zeV]))
  (fun k x rest s hi hn hx hd h1 h2 h3 ih=>znQ (by
   have hx8:=hcs x (yat hx);obtain⟨h4,h5⟩:=zhY (to_:=to_) (m:=zg7 fresh x) (why:=6) (job:=0) hi.1;have h6:=hi.2;rw[zg8,h1,h2,cond_true,yaa];rw[show(⟨10,0,0,fresh,0,⟨#[]⟩,⟨#[]⟩,⟨0,0⟩,[],x⟩:Msg)=zg7 fresh x from rfl,eta2 (zld hi.1 (by simp[zg7]) (by simp[zg7];omega)),yaa];dsimp only;rw[zay eOut (by omega) (by omega),cond_true,h3];rw[ih ((askN s.1 to_ (zg7 fresh x) 6 0).1,s.2++(askN s.1 to_ (zg7 fresh x) 6 0).2) ⟨h4,by simp only[yaf];omega⟩]
   simp only[zeV,yak])) (n,[]) ⟨h,by simp⟩
 dsimp only at this;have e:(⟨⟨n.me.id,n.me.addr⟩,n.clock,n.joined,n.pred,n.list,n.fingers,n.store,n.pends,n.jobs,n.results,n.rid,n.jobID,n.nextBit⟩:Node)=n:=rfl;rw[e,this,yaa]
 simp[hand])
theorem zAk{n:Node}{to_:Peer}{l:List Pair}{fresh:Bool}(h:Sz n)(hl:l.length<=1000):zuk n to_ l fresh=some (hand n to_ l fresh):=zC2 (by
 have hc:(cut8 l).length<=1000:=by rw[zt2];omega
 rw[zqC,zzF (by omega),yaa]
 have:=zaV (σ:=Node×List Out) (eL 76 zag) (l:=cut8 l) (by omega) (L:=fun i s=>zln to_ fresh (cut8 l) i s.1 s.2)
  (res:=fun k s rest=>((zeV to_ fresh rest s.1).1,s.2++(zeV to_ fresh rest s.1).2)) (Inv:=fun k s=>Sz s.1/\s.2.length<=k)
  (fun s hi h0=>zrh (by rw[zi0,h0];simp[zeV]))
  (fun k x rest s hi hn hx hd h1 h2 h3 ih=>zrh (by
   obtain⟨h4,h5⟩:=zhY (to_:=to_) (m:=zg7 fresh x) (why:=6) (job:=0) hi.1;have h6:=hi.2;rw[zi0,h1,h2,cond_true,yaa];rw[show(⟨10,0,0,fresh,0,⟨#[]⟩,⟨#[]⟩,⟨0,0⟩,[],x⟩:Msg)=zg7 fresh x from rfl,eta2 (zjX hi.1),yaa];dsimp only;rw[zay eOut (by omega) (by omega),cond_true,h3];rw[ih ((askN s.1 to_ (zg7 fresh x) 6 0).1,s.2++(askN s.1 to_ (zg7 fresh x) 6 0).2) ⟨h4,by simp only[yaf];omega⟩]
   simp only[zeV,yak])) (n,[]) ⟨h,by simp⟩
 rw[this]
 simp[hand])
def zdj(key val:ByteArray):List Peer->Node->Node×List Out
 | [],n=>(n,[])
 |p::ps,n=>((zdj key val ps (hand n p [⟨key,val⟩] true).1).1,(hand n p [⟨key,val⟩] true).2++(zdj key val ps (hand n p [⟨key,val⟩] true).1).2)
def zc4(n:Node)(l:List Pair):Node:=⟨n.me,n.clock,n.joined,n.pred,n.list,n.fingers,l,n.pends,n.jobs,n.results,n.rid,n.jobID,n.nextBit⟩
def zcQ(n:Node)(key val:ByteArray):Node×List Out×Int:=
 if(put n.store key val).2=0 then((zdj key val ((Pe.firms n.list).take 2) (zc4 n (put n.store key val).1)).1,(zdj key val ((Pe.firms n.list).take 2) (zc4 n (put n.store key val).1)).2,0)
 else(n,[],(put n.store key val).2)
theorem zt6{n:Node}{p:Peer}{q:Pair}{fresh:Bool}(h:Sz n):Sz (hand n p [q] fresh).1/\(hand n p [q] fresh).2.length<=1:=by
 obtain⟨h1,h2⟩:=zyD p fresh (cut8 [q]) h;exact⟨h1,yaP h2 (by rw[zt2];simp)⟩
theorem zyH(key val:ByteArray):∀(ps:List Peer) {n:Node},Sz n->Sz (zdj key val ps n).1/\(zdj key val ps n).2.length<=ps.length
 | [],n,h=>⟨h,by simp[zdj]⟩
 |p::ps,n,h=>by
  obtain⟨h1,h2⟩:=zt6 (p:=p) (q:=⟨key,val⟩) (fresh:=true) h;obtain⟨h3,h4⟩:=zyH key val ps h1;refine⟨h3,?_⟩;simp only[zdj,yaf,yaw];omega
theorem zzz{n:Node}{l:List Pair}(h:Sz n)(hl:l.length<=200):Sz (zc4 n l):=⟨h.pred,h.list,h.fingers,hl,h.pends,h.jobs,h.results⟩
theorem zy2{n:Node}(h:Sz n)(key val:ByteArray):Sz (zc4 n (put n.store key val).1):=zzz h (by have:=zjB n.store key val;have:=h.store;omega)
theorem zeM(l:List Peer)(n:Nat)(h:n<=l.length):xsub zad l 0 (n:Int)=some (l.take n):=by
 rw[zem,if_pos (by omega)];simp
theorem zxI{n:Node}{key val:ByteArray}(h:Sz n)(hk:key.size<1000000):zqN n key val=some (zcQ n key val):=zzm (by
 have hs:=h.store;have hf:=Pe.firms_le n.list;have hll:=h.list;have hz:=zy2 h key val;rw[zm7,zc1 h,yaa];dsimp only;rw[zzq (by omega) hk,zcQ];obtain⟨⟨q,e⟩,hq⟩:∃z,put n.store key val=z:=⟨_,rfl⟩
 rw[hq]at hz⊢;rw[yaa];dsimp only at hz⊢;by_cases he:e=0
 ·rw[if_pos he,ieqT he,cond_true,(Pe.some_eq hll).1,yaa]
  have loop:∀(ys:List Peer),ys.length<=2->zej key val ys (xlen zad ys) 0 (zc4 n q) n.pred n.list n.fingers n.store n.pends n.jobs n.results (Pe.firms n.list) []=some ((zdj key val ys (zc4 n q)).1,n.pred,n.list,n.fingers,n.store,n.pends,n.jobs,n.results,Pe.firms n.list,(zdj key val ys (zc4 n q)).2):=fun ys hy=>by
   have:=zaV (σ:=Node×List Out) zad (l:=ys) (by omega) (L:=fun i s=>zej key val ys (xlen zad ys) i s.1 n.pred n.list n.fingers n.store n.pends n.jobs n.results (Pe.firms n.list) s.2)
    (res:=fun k s rest=>((zdj key val rest s.1).1,n.pred,n.list,n.fingers,n.store,n.pends,n.jobs,n.results,Pe.firms n.list,s.2++(zdj key val rest s.1).2)) (Inv:=fun k s=>Sz s.1/\s.2.length<=k)
    (fun s hi h0=>znR (by rw[zg9,h0];simp[zdj]))
    (fun k x rest s hi hn hx hd h1 h2 h3 ih=>znR (by
     obtain⟨h4,h5⟩:=zt6 (p:=x) (q:=⟨key,val⟩) (fresh:=true) hi.1;have h6:=hi.2;rw[zg9,h1,h2,cond_true,yaa,eta2 (zxH hi.1 (by simp)),yaa];dsimp only;rw[zay eOut (by omega) (by omega),cond_true,h3];rw[ih ((hand s.1 x [⟨key,val⟩] true).1,s.2++(hand s.1 x [⟨key,val⟩] true).2) ⟨h4,by simp only[yaf];omega⟩]
     simp only[zdj,yak])) (zc4 n q,[]) ⟨hz,by simp⟩
   simpa using this
  have e0:(⟨⟨n.me.id,n.me.addr⟩,n.clock,n.joined,n.pred,n.list,n.fingers,q,n.pends,n.jobs,n.results,n.rid,n.jobID,n.nextBit⟩:Node)=zc4 n q:=rfl;rw[e0,zat,zar,zae];by_cases h2:2<(Pe.firms n.list).length
  ·rw[if_pos (by omega),show(2:Int)=((2:Nat):Int)from rfl,zeM _ 2 (by omega),yaa,loop _ (by rw[yam];omega),yaa]
  ·rw[if_neg (by omega),zeM _ _ (yag _),yaa,yb7,loop _ (by omega),yaa,List.take_of_length_le (by omega)]
 ·rw[if_neg he,ieqF he,cond_false])
theorem ztI{n:Node}{key val:ByteArray}(h:Sz n)(hk:key.size<1000000):zul n key val=some (zcQ n key val):=zC3 (by
 have hs:=h.store;have hf:=Pe.firms_le n.list;have hll:=h.list;have hz:=zy2 h key val;rw[zqD,zCU (by omega) hk,zcQ];obtain⟨⟨q,e⟩,hq⟩:∃z,put n.store key val=z:=⟨_,rfl⟩
 rw[hq]at hz⊢;rw[yaa];dsimp only at hz⊢;by_cases he:e=0
 ·rw[if_pos he,ieqT he,cond_true,(Pe.some_eq hll).2.1,yaa];have e0:(⟨n.me,n.clock,n.joined,n.pred,n.list,n.fingers,q,n.pends,n.jobs,n.results,n.rid,n.jobID,n.nextBit⟩:Node)=zc4 n q:=rfl;rw[e0]
  have loop:∀(ps:List Peer) (k:Nat) (m:Node) (o:List Out),Sz m->o.length<=k->k<=2->(Pe.firms n.list).drop k=ps->zlo key val (k:Int) m o (Pe.firms n.list)=some ((zdj key val (ps.take (2-k)) m).1,o++(zdj key val (ps.take (2-k)) m).2,Pe.firms n.list):=by
   intro ps
   induction ps with
   |nil=>
    intro k m o hm ho hk2 hd;have hle:(Pe.firms n.list).length<=k:=by simpa using hd
    refine zri ?_;rw[zi1,zeg,zae,if_neg (by omega)]
    simp[zdj]
   |cons p ps ih=>
    intro k m o hm ho hk2 hd
    have hlt:k<(Pe.firms n.list).length:=by
     rcases Nat.lt_or_ge k (Pe.firms n.list).length with h1|h1
     ·exact h1
     ·rw[yaK h1]at hd;cases hd
    have hx:(Pe.firms n.list)[k]?=some p:=by
     have:((Pe.firms n.list).drop k)[0]?=some p:=by rw[hd];rfl
     simpa using this
    have hd2:(Pe.firms n.list).drop (k+1)=ps:=by
     rw[<-List.drop_drop,hd];rfl
    refine zri ?_;rw[zi1,zeg,zae,if_pos hlt,zar,zae];by_cases hk3:k<2
    ·rw[if_pos (by omega)];obtain⟨h4,h5⟩:=zt6 (p:=p) (q:=⟨key,val⟩) (fresh:=true) hm
     have hs0:zos key val (k:Int) m o (Pe.firms n.list)=some (((k+1:Nat):Int),(hand m p [⟨key,val⟩] true).1,o++(hand m p [⟨key,val⟩] true).2,Pe.firms n.list):=zxB (by
      rw[zl5,zaW,hx,yaa,eta2 (zAk hm (by simp)),yaa];dsimp only;rw[zay eOut (by omega) (by omega),cond_true]
      rw[show yab.iadd .i64 (k:Int) 1=((k+1:Nat):Int)from zeW (by omega)])
     rw[hs0,yaa];dsimp only;rw[ih (k+1) _ _ h4 (by simp only[yaf];omega) (by omega) hd2,show 2-k=(2-(k+1))+1 by omega];simp only[List.take_succ_cons,zdj,yak]
    ·rw[if_neg (by omega),show 2-k=0 by omega];simp[zdj]
  have:=loop (Pe.firms n.list) 0 (zc4 n q) [] hz (by simp) (by omega) rfl;rw[show((0:Nat):Int)=0 from rfl]at this;rw[this,yaa];simp
 ·rw[if_neg he,ieqF he,cond_false])
theorem zv9{n:Node}{key val:ByteArray}(h:Sz n):Sz (zcQ n key val).1/\(zcQ n key val).2.1.length<=2:=by
 unfold zcQ;split
 ·obtain⟨h1,h2⟩:=zyH key val ((Pe.firms n.list).take 2) (zy2 h key val);exact⟨h1,yaP h2 (by rw[yam];omega)⟩
 ·exact⟨h,by simp⟩
theorem ztZ(a:Bool):yab.beq a a=true:=by cases a<;>rfl
theorem zxp{l:List Finger}(hl:l.length<=1000):zug l l=some true:=zCR (by
 have:=zaV (σ:=Unit) zaa (l:=l) (by omega) (L:=fun i _=>zli l l i) (res:=fun _ _ _=>.inr ()) (Inv:=fun _ _=>True)
  (fun _ _ h=>zq9 (by rw[ziV,h];rfl))
  (fun n x rest s _ hn hx hd h1 h2 h3 ih=>zq9 (by
   simp only[ziV,h1,h2,cond_true,yaa,ieqT,h3];exact ih () trivial)) () trivial
 rw[zqt,ieqT rfl,cond_true,this];rfl)
theorem zws{l:List Pend}(hl:l.length<=1000):zsp l l=some true:=zAh (by
 have:=zaV (σ:=Unit) zaI (l:=l) (by omega) (L:=fun i _=>zj0 l l i) (res:=fun _ _ _=>.inr ()) (Inv:=fun _ _=>True)
  (fun _ _ h=>zpn (by rw[zh8,h];rfl))
  (fun n x rest s _ hn hx hd h1 h2 h3 ih=>zpn (by
   simp only[zh8,h1,h2,cond_true,yaa,ieqT,h3];exact ih () trivial)) () trivial
 rw[zom,ieqT rfl,cond_true,this];rfl)
theorem zxu{n:Node}(hj:n.jobs.length<=1000)(hr:n.results.length<=1000):zuh n n=some true:=zCY (by
 have e0:=zaV (σ:=Unit) eJob (l:=n.jobs) (by omega) (L:=fun i _=>zlk n n i) (res:=fun _ _ _=>.inr ()) (Inv:=fun _ _=>True)
  (fun _ _ h=>zrd (by rw[ziX,h];rfl))
  (fun k x rest s _ hn hx hd h1 h2 h3 ih=>zrd (by
   simp only[ziX,h1,h2,cond_true,yaa,ieqT,zus,ztZ,h3];exact ih () trivial)) () trivial
 have e1:=zaV (σ:=Unit) zaf (l:=n.results) (by omega) (L:=fun i _=>zll n n i) (res:=fun _ _ _=>.inr ()) (Inv:=fun _ _=>True)
  (fun _ _ h=>zre (by rw[ziY,h];rfl))
  (fun k x rest s _ hn hx hd h1 h2 h3 ih=>zre (by
   simp only[ziY,h1,h2,cond_true,yaa,ieqT,zus,ztZ,h3];exact ih () trivial)) () trivial
 rw[zqx,ieqT rfl,ieqT rfl,cond_true,cond_true];refine zxt ?_;rw[zlZ,e0,yaa];dsimp only
 rw[e1];rfl)
theorem zrc{n:Node}(h:Sz n):zkT n n=some true:=zCX (by
 have h1:zon n n=some true:=zxr (by
  rw[zlX,zsf (by have:=h.store;omega),yaa,zhq,cond_true,zws h.pends,yaa,cond_true,zxu h.jobs h.results])
 have h2:zoo n n=some true:=zxs (by
  rw[zlY,Pe.r27_Same_eq h.pred,yaa,zhq,cond_true,Pe.r27_Same_eq h.list,yaa,zhq,cond_true,zxp h.fingers,yaa,cond_true,h1])
 simp only[zqw,ieqT,ztZ,cond_true,h2])
def zH1(l:List Out):Prop:=l.length<=1000/\∀o,o∈l->o.msg.peers.length<=1000000/\o.msg.pairs.length<=1000000
theorem zrb{l:List Out}(h:zH1 l):zkS l l=some true:=zCW (by
 have:=zaV (σ:=Unit) eOut (l:=l) (by have:=h.1;omega) (L:=fun i _=>zlj l l i) (res:=fun _ _ _=>.inr ()) (Inv:=fun _ _=>True)
  (fun _ _ h=>zra (by rw[ziW,h];rfl))
  (fun k x rest s _ hn hx hd h1 h2 h3 ih=>zra (by
   obtain⟨hp,hq⟩:=h.2 x (yat hx)
   simp only[ziW,h1,h2,cond_true,yaa,ieqT,zAa hp hq,zhq,h3];exact ih () trivial)) () trivial
 rw[zqv,ieqT rfl,cond_true,this];rfl)
theorem zEb{α:Type}{p:α->Bool}{l:List α}:match fst p l with
  |some n=>∃x,l[n]?=some x/\l.find? p=some x/\p x=true/\n<l.length
  |none=>l.find? p=none:=by
 induction l with
 |nil=>rfl
 |cons x l ih=>
  cases hp:p x with
  |true=>simp[fst,hp]
  |false=>
   simp only[fst,hp,cond_false,List.find?_cons]
   cases hf:fst p l with
   |none=>rw[hf]at ih;exact ih
   |some n=>
    rw[hf]at ih;obtain⟨y,h1,h2,h3,h4⟩:=ih;exact⟨y,by simpa using h1,h2,h3,by simp;omega⟩
def isJ(id:Int)(j:Job):Bool:=decide (j.id=id)
def zdF(l:List Job)(id:Int):Int:=fstI (isJ id) l
theorem zmJ{l:List Job}{id:Int}(hl:l.length<=10000):zlA l id=some (zdF l id):=zzV (by
 have hf:∀x:Job,zn5 x id=some (isJ id x):=fun x=>zxh rfl
 have:=zbv eJob (l:=l) (by omega) (p:=isJ id) (L:=fun i=>zen l id i) (fun h=>zfW (by simp[zcq,h]))
  (fun n x _ h1 h2 hp=>zfW (by simp[zcq,h1,h2,hf,hp]))
  (fun n x r _ h1 h2 hp h=>zfW (by simp[zcq,h1,h2,hf,hp,h]))
 rw[zn6];refine ztu ?_;rw[zio,this];unfold zdF fstI
 cases fst (isJ id) l<;>rfl)
theorem ziC{l:List Job}{id:Int}(hl:l.length<=10000):zmY l id=some (zdF l id):=zCZ (by
 have hf:∀x:Job,yab.ieq x.id id=isJ id x:=fun x=>rfl
 have:=zbv eJob (l:=l) (by omega) (p:=isJ id) (L:=fun i=>zlm l id i) (fun h=>zl0 (by simp[zgD,h]))
  (fun n x _ h1 h2 hp=>zl0 (by simp[zgD,h1,h2,hf,hp]))
  (fun n x r _ h1 h2 hp h=>zl0 (by simp[zgD,h1,h2,hf,hp,h]))
 rw[zqy,this];unfold zdF fstI
 cases fst (isJ id) l<;>rfl)
def setJ:List Job->Job->List Job
 | [],_=>[]
 |x::r,j=>if x.id=j.id then j::r else x::setJ r j
theorem zGm(l:List Job)(j:Job):(setJ l j).length=l.length:=by
 induction l with
 |nil=>rfl
 |cons x r ih=>unfold setJ;split<;>simp[ih]
theorem zGn{l:List Job}{j j':Job}(h:j.id=j'.id):setJ (setJ l j) j'=setJ l j':=by
 induction l with
 |nil=>rfl
 |cons x r ih=>
  by_cases hx:x.id=j.id
  ·simp[setJ,hx,h]
  ·simp[setJ,hx,ih,<-h]
theorem zw4{l:List Job}{j:Job}(h:fst (isJ j.id) l=none):setJ l j=l:=by
 have:=zkz h;clear h
 induction l with
 |nil=>rfl
 |cons x r ih=>
  have hx:¬x.id=j.id:=by simpa[isJ]using this x (by simp)
  rw[setJ,if_neg hx,ih fun y hy=>this y (by simp[hy])]
theorem zsE{l:List Job}{j:Job}{n:Nat}(h:fst (isJ j.id) l=some n):setJ l j=l.set n j:=by
 induction l generalizing n with
 |nil=>cases h
 |cons x r ih=>
  by_cases hx:x.id=j.id
  ·have:n=0:=by simpa[fst,isJ,hx]using h.symm
   subst this;simp[setJ,hx]
  ·simp only[fst,isJ,hx,decide_false,cond_false,yao]at h;obtain⟨m,hm,rfl⟩:=h;rw[setJ,if_neg hx,ih hm];rfl
theorem zET{l:List Job}{j:Job}{n:Nat}(h:fst (isJ j.id) l=some n)(hj:l[n]?=some j):setJ l j=l:=by
 rw[zsE h];obtain⟨hn,he⟩:=yae.1 hj;rw[<-he,List.set_getElem_self]
def zuz(n:Node)(l:List Job):Node:=⟨n.me,n.clock,n.joined,n.pred,n.list,n.fingers,n.store,n.pends,l,n.results,n.rid,n.jobID,n.nextBit⟩
def setN(n:Node)(j:Job):Node:=zuz n (setJ n.jobs j)
theorem zuu(n:Node){j j':Job}(h:j.id=j'.id):setN (setN n j) j'=setN n j':=by
 show zuz (setN n j) (setJ (setJ n.jobs j) j')=_;rw[zGn h];rfl
theorem zdP{n:Node}(h:Sz n)(j:Job):Sz (setN n j):=⟨h.pred,h.list,h.fingers,h.store,h.pends,by show(setJ n.jobs j).length<=1000;rw[zGm];exact h.jobs,h.results⟩
theorem zFW{α:Type}(l:List α)(n:Nat)(x:α):xset l (n:Int) x=l.set n x:=rfl
theorem ztC{n:Node}{j:Job}(h:Sz n):zpV n j=some (n.me.id,n.me.addr,n.clock,n.joined,n.pred,n.list,n.fingers,n.store,n.pends,setJ n.jobs j,n.results,n.rid,n.jobID,n.nextBit):=zCo (by
 have hj:=h.jobs;rw[zpX,zc1 h,yaa];dsimp only;rw[zmJ (by omega),yaa,zbg,zae];unfold zdF fstI
 cases hf:fst (isJ j.id) n.jobs with
 |none=>dsimp only;rw[if_neg (by omega),zw4 hf]
 |some k=>
  obtain⟨x,hx,_,hk,_⟩:=zeQ hf;dsimp only
  rw[if_pos (by omega),zaW,hx,yaa,zFW,zsE hf])
def repl(j:Job):Int->List Job->List Job
 |_,[]=>[]
 |k,x::r=>(if k=0 then j else x)::repl j (k-1) r
theorem zuo(j:Job):∀(l:List Job) (k:Int),k<0->repl j k l=l
 | [],_,_=>rfl
 |x::r,k,h=>by rw[repl,if_neg (by omega),zuo j r (k-1) (by omega)]
theorem zzg(j:Job):∀(l:List Job) (n:Nat),repl j (n:Int) l=l.set n j
 | [],_=>rfl
 |x::r,0=>by rw[repl,if_pos (by omega),zuo j r _ (by omega)];rfl
 |x::r,n+1=>by rw[repl,if_neg (by omega),show((n+1:Nat):Int)-1=(n:Int)by omega,zzg j r n];rfl
theorem zdG{n:Node}{j:Job}(h:Sz n):zfA n j=some (setN n j):=zEG (by
 have hj:=h.jobs
 have key:zh9 n j (zdF n.jobs j.id) 0 []=some (repl j (zdF n.jobs j.id) n.jobs):=by
  have:=zaV (σ:=List Job) eJob (l:=n.jobs) (by omega) (L:=fun i acc=>zh9 n j (zdF n.jobs j.id) i acc) (res:=fun k acc rest=>acc++repl j (zdF n.jobs j.id-(k:Int)) rest) (Inv:=fun k acc=>acc.length=k)
   (fun acc _ hh=>zsr (by rw[zj1,hh];simp[repl]))
   (fun k x rest acc ha hn hx hd h1 h2 h3 ih=>zsr (by
    rw[zj1,h1,cond_true,zai,zae];have ih':=fun(y:Job)=>ih (acc++[y]) (by simp[ha])
    by_cases hk:(k:Int)=zdF n.jobs j.id
    ·rw[if_pos hk,zay eJob (by simp;omega) (by omega),cond_true,h3,ih',repl,if_pos (by omega)];simp only[yak,ybw];rw[show zdF n.jobs j.id-((k+1:Nat):Int)=zdF n.jobs j.id-(k:Int)-1 by omega]
    ·rw[if_neg hk,h2,yaa,zay eJob (by simp;omega) (by omega),cond_true,h3,ih',repl,if_neg (by omega)];simp only[yak,ybw]
     rw[show zdF n.jobs j.id-((k+1:Nat):Int)=zdF n.jobs j.id-(k:Int)-1 by omega])) [] rfl
  simpa using this
 rw[zsq,ziC (by omega),yaa,key,yaa]
 have e:repl j (zdF n.jobs j.id) n.jobs=setJ n.jobs j:=by
  unfold zdF fstI
  cases hf:fst (isJ j.id) n.jobs with
  |none=>dsimp only;rw[zuo _ _ _ (by omega),zw4 hf]
  |some k=>dsimp only;rw[zzg,zsE hf]
 rw[e];rfl)
def delJ:List Job->Int->List Job
 | [],_=>[]
 |x::r,id=>if x.id=id then r else x::delJ r id
theorem zFw(l:List Job)(id:Int):(delJ l id).length<=l.length:=by
 induction l with
 |nil=>exact yag _
 |cons x r ih=>unfold delJ;split<;>simp<;>omega
theorem zwM{l:List Job}{id:Int}{n:Nat}(h:fst (isJ id) l=some n):delJ l id=l.eraseIdx n:=by
 induction l generalizing n with
 |nil=>cases h
 |cons x r ih=>
  by_cases hx:x.id=id
  ·have:n=0:=by simpa[fst,isJ,hx]using h.symm
   subst this;simp[delJ,hx]
  ·simp only[fst,isJ,hx,decide_false,cond_false,yao]at h;obtain⟨m,hm,rfl⟩:=h;rw[delJ,if_neg hx,ih hm];rfl
def zbe(x:Job)(has:Bool)(val:ByteArray)(e:Int):Result:=⟨x.id,x.kind,x.key,val,has,e⟩
def told(l:List Result)(x:Job)(has:Bool)(val:ByteArray)(e:Int):List Result:=
 if x.kind=2\/x.kind=3 then(l++[zbe x has val e]).drop ((l++[zbe x has val e]).length-16)else l
theorem zGv(l:List Result)(x:Job)(has:Bool)(val:ByteArray)(e:Int)(h:l.length<=1000):(told l x has val e).length<=1000:=by
 unfold told;split
 ·simp;omega
 ·exact h
def zbt(n:Node)(id:Int)(has:Bool)(val:ByteArray)(e:Int):Node:=match n.jobs.find? (isJ id)with
 |none=>n
 |some x=>⟨n.me,n.clock,n.joined,n.pred,n.list,n.fingers,n.store,n.pends,delJ n.jobs id,told n.results x has val e,n.rid,n.jobID,n.nextBit⟩
theorem zjE{n:Node}(h:Sz n)(id:Int)(has:Bool)(val:ByteArray)(e:Int):Sz (zbt n id has val e):=by
 unfold zbt;split
 ·exact h
 ·exact⟨h.pred,h.list,h.fingers,h.store,h.pends,yaP (zFw _ _) h.jobs,zGv _ _ _ _ _ h.results⟩
theorem ziu(l:List Job)(id:Int):(zdF l id=-1/\fst (isJ id) l=none/\l.find? (isJ id)=none)\/∃n x,zdF l id=(n:Nat)/\fst (isJ id) l=some n/\l[n]?=some x/\n<l.length/\l.find? (isJ id)=some x/\x.id=id:=by
 have h:=zEb (p:=isJ id) (l:=l);unfold zdF fstI
 cases hf:fst (isJ id) l with
 |none=>rw[hf]at h;exact .inl ⟨rfl,rfl,h⟩
 |some n=>
  rw[hf]at h;obtain⟨x,h1,h2,h3,h4⟩:=h;exact .inr ⟨n,x,rfl,rfl,h1,h4,h2,of_decide_eq_true h3⟩
theorem zjA{α:Type}(e:α->AV)[Inj e](l:List α)(n:Nat)(h:n<=l.length):xsub e l 0 (n:Int)=some (l.take n):=by
 rw[zem,if_pos (by omega)];simp
theorem zes{α:Type}(e:α->AV)[Inj e](l:List α)(n:Nat)(h:n<=l.length):xsub e l (n:Int) (xlen e l)=some (l.drop n):=by
 rw[zem,zat,if_pos (by omega)];simp
theorem zxa{l:List Job}{n:Nat}(hl:l.length<=1000)(hn:n<l.length):zpx (n:Int) ((n+1:Nat):Int) l=some (l.eraseIdx n):=zx2 (by
 have h1:xsub eJob l (n:Int) ((n+1:Nat):Int)=some ((l.take (n+1)).drop n):=by rw[zem,if_pos (by omega)];simp only[yaQ]
 have h2:=zes eJob l (n+1) (by omega);have h3:yab.ieq (n:Int) ((n+1:Nat):Int)=false:=ieqF (by omega);have h4:=zjA eJob l n (by omega);have h5:yab.isub .i64 (xlen eJob l) (n:Int)=((l.length-n:Nat):Int):=by rw[zat,zCn (by omega) (by omega)];omega
 have h6:yab.ile (xlen eJob (l.drop (n+1))) ((l.length-n:Nat):Int)=true:=ileT (by rw[zat,yap];omega);have h7:yab.iadd .i64 (n:Int) (xlen eJob (l.drop (n+1)))=((l.length-1:Nat):Int):=by rw[zat,yap,zmh (by omega) (by omega)];omega
 have hput:xput l (n:Int) (l.drop (n+1))=l.eraseIdx n++l.drop (l.length-1):=by
  unfold xput;rw[yaQ,yap,List.eraseIdx_eq_take_drop_succ];congr 2;omega
 have hle:(l.eraseIdx n).length=l.length-1:=by rw[List.length_eraseIdx];simp[hn]
 have h8:xsub eJob (l.eraseIdx n++l.drop (l.length-1)) 0 ((l.length-1:Nat):Int)=some (l.eraseIdx n):=by
  rw[zjA eJob _ _ (by simp[hle]),<-hle,ya8]
 have h9:xsub eJob (l.eraseIdx n++l.drop (l.length-1)) (xlen eJob (l.eraseIdx n)) (xlen eJob l)=some (l.drop (l.length-1)):=by
  have e:xlen eJob l=xlen eJob (l.eraseIdx n++l.drop (l.length-1)):=by rw[zat,zat,yaf,hle,yap];omega
  rw[e,zat,zes eJob _ _ (by simp),List.drop_left]
 have h10:∀z:Job,xfil (l.eraseIdx n++l.drop (l.length-1)) (xlen eJob (l.eraseIdx n)) (xlen eJob l) z=l.eraseIdx n++yaz 1 z:=fun z=>by
  unfold xfil;rw[zat,zat,yaQ,yaQ,ya8,hle,show l.length-(l.length-1)=1 by omega,yak,yaK (by simp[hle]<;>omega),List.append_nil]
 have h11:∀z:Job,xsub eJob (l.eraseIdx n++yaz 1 z) 0 ((l.length-1:Nat):Int)=some (l.eraseIdx n):=fun z=>by
  rw[zjA eJob _ _ (by simp[hle]),<-hle,ya8]
 have hz:yab.ieq 0 0=true:=rfl
 simp only[zmu,h1,h2,h3,h4,h5,h6,h7,hput,h8,h9,h10,h11,hz,yaa,cond_true,cond_false])
theorem zvl{j:Job}{has:Bool}{val:ByteArray}{e a b c:Int}{d:Bool}{f g k:Int}{r1 r2:List Entry}{r3:List Finger}{r4:List Pair}{r5:List Pend}{r6:List Job}{r7:List Result}(h:r7.length<=1000):
  zjJ j has val e a b c d f g k r1 r2 r3 r4 r5 r6 r7=some ((r7++[zbe j has val e]).drop ((r7++[zbe j has val e]).length-16)):=zv8 (by
 have hlen:(r7++[zbe j has val e]).length=r7.length+1:=by simp
 have hs:yab.isub .i64 (xlen zaf (r7++[zbe j has val e])) 16=((r7.length:Int)+1)-16:=by rw[zat,hlen,zCn (by omega) (by omega)];omega
 show(bif zaA zaf 64 r7 [zbe j has val e]then bif yab.ilt 0 (yab.isub .i64 (xlen zaf (r7++[zbe j has val e])) 16)then(xsub zaf (r7++[zbe j has val e]) (yab.isub .i64 (xlen zaf (r7++[zbe j has val e])) 16) (xlen zaf (r7++[zbe j has val e]))).bind fun ys=>bif zaA zaf 64 [] ys then some ys else none
  else(xsub zaf (r7++[zbe j has val e]) 0 (xlen zaf (r7++[zbe j has val e]))).bind fun ys=>bif zaA zaf 64 [] ys then some ys else none else none)=_
 rw[zay zaf (by simp;omega) (by omega),cond_true,hs,zar,zae];by_cases hc:15<r7.length
 ·have e2:((r7.length:Int)+1)-16=((r7.length-15:Nat):Int):=by omega
  rw[if_pos (by omega),e2,zes zaf _ _ (by rw[hlen];omega),yaa,zay zaf (by rw[ybu,yap,hlen];omega) (by omega),cond_true,hlen];congr 2
 ·rw[if_neg (by omega),show(0:Int)=((0:Nat):Int)from rfl,zes zaf _ 0 (by omega),yaa,List.drop_zero,zay zaf (by rw[ybu,hlen];omega) (by omega),cond_true,hlen,show r7.length+1-16=0 by omega,List.drop_zero])
theorem zkB{n:Node}{id:Int}{has:Bool}{val:ByteArray}{e:Int}(h:Sz n):ziv n id has val e=some (zbt n id has val e):=zxi (by
 have hj:=h.jobs;rw[zlM,zc1 h,yaa];dsimp only;rw[zmJ (by omega),yaa,zar,zae];unfold zbt;rcases ziu n.jobs id with⟨h1,h2,h3⟩|⟨k,x,h1,h2,h3,h4,h5,h6⟩
 ·rw[h1,if_pos (by omega),h3]
 ·rw[h1,if_neg (by omega),h5,zaW,h3,yaa,zeW (by omega),zxa (by omega) h4,yaa,zwM h2]
  have e1:zrY x has val e n.me.id n.me.addr n.clock n.joined n.rid n.jobID n.nextBit n.pred n.list n.fingers n.store n.pends (n.jobs.eraseIdx k) n.results=some (if x.kind=2\/x.kind=3 then .inl (n.results++[zbe x has val e],told n.results x has val e)else .inr ()):=zzW (by
   rw[zn7,zvl h.results,yaa,zai,zai,zae,zae];unfold told;by_cases c2:x.kind=2
   ·rw[if_pos c2,if_pos (.inl c2),if_pos (.inl c2)];rfl
   ·by_cases c3:x.kind=3
    ·rw[if_neg c2,if_pos c3,if_pos (.inr c3),if_pos (.inr c3)];rfl
    ·rw[if_neg c2,if_neg c3,if_neg (by omega)])
  rw[e1,yaa];by_cases c:x.kind=2\/x.kind=3
  ·rw[if_pos c]
  ·rw[if_neg c];dsimp only
   rw[told,if_neg c])
theorem zwt{l:List Job}{n:Nat}(hl:l.length<=1000)(hn:n<l.length):zoq l (n:Int)=some (l.eraseIdx n):=zxy (by
 have:=zaV (σ:=List Job) eJob (l:=l) (by omega) (L:=fun i acc=>zfB l (n:Int) i acc) (res:=fun k acc rest=>acc++(if k<=n then rest.eraseIdx (n-k)else rest)) (Inv:=fun k acc=>acc.length<=k)
  (fun acc _ hh=>zm0 (by rw[zf2,hh];simp))
  (fun k x rest acc ha hk hx hd h1 h2 h3 ih=>zm0 (by
   rw[zf2,h1,cond_true,zai,zae];by_cases hc:k=n
   ·rw[if_pos (by omega),h3,ih acc (by omega),if_neg (by omega),if_pos (by omega),hc,Nat.sub_self];rfl
   ·rw[if_neg (by omega),h2,yaa,zay eJob (by simp;omega) (by omega),cond_true,h3,ih (acc++[x]) (by simp;omega)];by_cases hlt:k<=n
    ·rw[if_pos (by omega),if_pos hlt,show n-k=(n-(k+1))+1 by omega,List.eraseIdx_cons_succ];simp
    ·rw[if_neg (by omega),if_neg hlt];simp)) [] (by simp)
 rw[zl1,this]
 simp)
theorem zAi{l:List Result}{x:Job}{has:Bool}{val:ByteArray}{e:Int}(hl:l.length<=1000):zui l x has val e=some (told l x has val e):=zC0 (by
 have hlen:(l++[zbe x has val e]).length=l.length+1:=by simp
 have sub:∀k:Nat,k<=l.length+1->xsub zaf (l++[zbe x has val e]) (k:Int) ((l.length+1:Nat):Int)=some ((l++[zbe x has val e]).drop k):=fun k hk=>by
  have:=zes zaf (l++[zbe x has val e]) k (by rw[hlen];exact hk)
  rwa[zat,hlen]at this
 have lenD:∀k:Nat,xlen zaf ((l++[zbe x has val e]).drop k)=((l.length+1-k:Nat):Int):=fun k=>by rw[zat,yap,hlen]
 have loop:∀d k:Nat,k+d=l.length+1-16->1<=k->16<l.length+1->zei l x has val e (k:Int) ((l.length+1:Nat):Int)=some (.inr (((l.length+1-16:Nat):Int),((l.length+1:Nat):Int))):=by
  intro d
  induction d with
  |zero=>
   intro k hk h1 h16;refine znN ?_;show((xsub zaf (l++[zbe x has val e]) (k:Int) ((l.length+1:Nat):Int)).bind _)=_
   rw[sub k (by omega),yaa,lenD,zar,zae,if_neg (by omega),show k=l.length+1-16 by omega]
  |succ d ih=>
   intro k hk h1 h16;refine znN ?_;show((xsub zaf (l++[zbe x has val e]) (k:Int) ((l.length+1:Nat):Int)).bind _)=_
   have s1:xsub zaf ((l++[zbe x has val e]).drop k) 1 ((l.length+1-k:Nat):Int)=some (((l++[zbe x has val e]).drop k).drop 1):=by
    have:=zes zaf ((l++[zbe x has val e]).drop k) 1 (by rw[yap,hlen];omega)
    rwa[lenD]at this
   rw[sub k (by omega),yaa,lenD,zar,zae,if_pos (by omega),ieqF (show(k:Int)≠0 by omega),cond_false,s1,yaa,zeW (by omega),zmh (by omega) (by omega),show(k:Int)+((l.length+1-k:Nat):Int)=((l.length+1:Nat):Int)by omega];exact ih (k+1) (by omega) (by omega) h16
 have s0:ziD l x has val e=some (if 16<l.length+1 then .inr (((l.length+1-16:Nat):Int),((l.length+1:Nat):Int))else .inl ()):=zxx (by
  show(bif zaA zaf 64 [] l then bif zaA zaf 64 l [zbe x has val e]then zop l x has val e else none else none)=_;rw[zay zaf (by simp;omega) (by omega),zay zaf (by simp;omega) (by omega),cond_true,cond_true];refine zxw ?_;show(bif yab.ilt 16 (xlen zaf (l++[zbe x has val e]))then(xsub zaf (l++[zbe x has val e]) 1 (xlen zaf (l++[zbe x has val e]))).bind fun ys=>zei l x has val e 1 (xlen zaf (l++[zbe x has val e]))else some (.inl ()))=_;rw[zat,hlen,zar,zae];by_cases hc:16<l.length+1
  ·have:=sub 1 (by omega);rw[if_pos (by omega),if_pos hc,show(1:Int)=((1:Nat):Int)from rfl,this,yaa];exact loop (l.length+1-16-1) 1 (by omega) (by omega) hc
  ·rw[if_neg (by omega),if_neg hc])
 have fin:(ziD l x has val e).bind (fun r=>match r with| .inl ()=>some (l++[zbe x has val e])| .inr (lo,hi)=>(xsub zaf (l++[zbe x has val e]) lo hi).bind fun ys=>some ys)=some ((l++[zbe x has val e]).drop ((l++[zbe x has val e]).length-16)):=by
  rw[s0,yaa,hlen];by_cases hc:16<l.length+1
  ·rw[if_pos hc];dsimp only;rw[sub _ (by omega)];rfl
  ·rw[if_neg hc,show l.length+1-16=0 by omega];rfl
 unfold told;rw[zqA,zai,zai,zae,zae];by_cases c2:x.kind=2
 ·rw[if_pos c2,if_pos (.inl c2)];exact fin
 ·by_cases c3:x.kind=3
  ·rw[if_neg c2,if_pos c3,if_pos (.inr c3)];exact fin
  ·rw[if_neg c2,if_neg c3,if_neg (by omega)])
theorem zxv{n:Node}{id:Int}{has:Bool}{val:ByteArray}{e:Int}(h:Sz n):zqz n id has val e=some (zbt n id has val e):=zy9 (by
 have hj:=h.jobs;rw[zmZ,ziC (by omega),yaa,zar,zae];unfold zbt;rcases ziu n.jobs id with⟨h1,h2,h3⟩|⟨k,x,h1,h2,h3,h4,h5,h6⟩
 ·rw[h1,if_pos (by omega),h3]
 ·rw[h1,if_neg (by omega),h5,zaW,h3,yaa,zAi h.results,yaa,zwt (by omega) h4,yaa,zwM h2])
def isB(bit:Int)(f:Finger):Bool:=decide (f.bit=bit)
def gtB(bit:Int)(f:Finger):Bool:=decide (bit<f.bit)
def updF(bit:Int)(p:Peer):List Finger->List Finger
 | []=>[]
 |x::r=>if x.bit=bit then⟨x.bit,p⟩::r else x::updF bit p r
def insF(bit:Int)(p:Peer):List Finger->List Finger
 | []=>[⟨bit,p⟩]
 |x::r=>if bit<x.bit then⟨bit,p⟩::x::r else x::insF bit p r
def setF(l:List Finger)(bit:Int)(p:Peer):List Finger:=if bit<0\/63<bit then l else if l.any (isB bit)=true then updF bit p l else insF bit p l
theorem zGw(bit:Int)(p:Peer)(l:List Finger):(updF bit p l).length=l.length:=by
 induction l with
 |nil=>rfl
 |cons x r ih=>unfold updF;split<;>simp[ih]
theorem zyF(bit:Int)(p:Peer)(l:List Finger):(insF bit p l).length=l.length+1:=by
 induction l with
 |nil=>rfl
 |cons x r ih=>unfold insF;split<;>simp[ih]
theorem zut(l:List Finger)(bit:Int)(p:Peer):(setF l bit p).length<=l.length+1:=by
 unfold setF;split
 ·omega
 ·split
  ·rw[zGw];omega
  ·rw[zyF];omega
theorem zE2{bit:Int}{p:Peer}{l:List Finger}{n:Nat}{x:Finger}(h:fst (isB bit) l=some n)(hx:l[n]?=some x):updF bit p l=l.set n ⟨x.bit,p⟩:=by
 induction l generalizing n with
 |nil=>cases h
 |cons y r ih=>
  by_cases hy:y.bit=bit
  ·have:n=0:=by simpa[fst,isB,hy]using h.symm
   subst this;obtain rfl:y=x:=by simpa using hx
   simp[updF,hy]
  ·simp only[fst,isB,hy,decide_false,cond_false,yao]at h;obtain⟨m,hm,rfl⟩:=h;rw[updF,if_neg hy,ih hm (by simpa using hx)];rfl
theorem zCm(bit:Int)(p:Peer)(l:List Finger):insF bit p l=match fst (gtB bit) l with|some n=>l.take n++([⟨bit,p⟩]++l.drop n)|none=>l++[⟨bit,p⟩]:=by
 induction l with
 |nil=>rfl
 |cons x r ih=>
  by_cases hx:bit<x.bit
  ·simp[insF,fst,gtB,hx]
  ·simp only[insF,fst,gtB,if_neg hx,decide_eq_false hx,cond_false,ih];show _=match(fst (gtB bit) r).map (· +1)with|some n=>_|none=>_
   cases fst (gtB bit) r with
   |none=>rfl
   |some n=>simp
theorem zxb{l:List Finger}{bit:Int}(hl:l.length<=2000):zhd l bit=some (fstI (isB bit) l):=zpy (by
 have hf:∀x:Finger,zn2 x bit=some (isB bit x):=fun x=>zxf rfl
 have:=zbv zaa (l:=l) (by omega) (p:=isB bit) (L:=fun i=>zdg l bit i) (fun h=>zec (by simp[zbJ,h]))
  (fun n x _ h1 h2 hp=>zec (by simp[zbJ,h1,h2,hf,hp]))
  (fun n x r _ h1 h2 hp h=>zec (by simp[zbJ,h1,h2,hf,hp,h]))
 rw[zfT,this];unfold fstI
 cases fst (isB bit) l<;>rfl)
theorem zxc{l:List Finger}{bit:Int}(hl:l.length<=2000):zhe l bit=some (fstI (gtB bit) l):=zpz (by
 have hf:∀x:Finger,zn3 x bit=some (gtB bit x):=fun x=>zxg rfl
 have:=zbv zaa (l:=l) (by omega) (p:=gtB bit) (L:=fun i=>zdh l bit i) (fun h=>zed (by simp[zbL,h]))
  (fun n x _ h1 h2 hp=>zed (by simp[zbL,h1,h2,hf,hp]))
  (fun n x r _ h1 h2 hp h=>zed (by simp[zbL,h1,h2,hf,hp,h]))
 rw[zfU,this];unfold fstI
 cases fst (gtB bit) l<;>rfl)
theorem zyy{l:List Finger}{bit:Int}{p:Peer}(hl:l.length<=1000):zrR l bit p=some (setF l bit p):=zzS (by
 rw[zn4,zay zaa (by simp;omega) (by omega),cond_true,zar,zae,zar,zae];unfold setF;by_cases h1:bit<0
 ·rw[if_pos h1,if_pos (.inl h1)]
 by_cases h2:63<bit
 ·rw[if_neg h1,if_pos h2,if_pos (.inr h2)]
 rw[if_neg h1,if_neg h2,if_neg (by omega)];refine zv4 ?_;have hroom:zaA zaa 24 l [(⟨bit,p⟩:Finger)]=true:=zay zaa (by simp;omega) (by omega);rw[zky,zxb (by omega),yaa,zxc (by omega),yaa,hroom,cond_true,cond_true,zbg,zae,zar,zae]
 cases hf:fst (isB bit) l with
 |some n=>
  obtain⟨x,hx,_,_⟩:=zeQ hf;have e1:fstI (isB bit) l=(n:Int):=by unfold fstI;rw[hf]
  have ha:l.any (isB bit)=true:=by rw[<-ztj,e1];simp
  rw[e1,if_pos (by omega),if_pos ha,zaW,hx,yaa,zE2 hf hx];rfl
 |none=>
  have e1:fstI (isB bit) l=-1:=by unfold fstI;rw[hf]
  have ha:¬l.any (isB bit)=true:=by rw[<-ztj,e1];simp
  rw[e1,if_neg (by omega),if_neg ha,zCm]
  cases hg:fst (gtB bit) l with
  |none=>
   have e3:fstI (gtB bit) l=-1:=by unfold fstI;rw[hg]
   have h0:xsub zaa l 0 (xlen zaa l)=some l:=by rw[zat,zjA zaa l l.length (yag _),yb7]
   have h1:xsub zaa l (xlen zaa l) (xlen zaa l)=some []:=by
    have:=zes zaa l l.length (yag _);rw[zat]at this⊢;rw[this,yb5]
   rw[e3,if_pos (by omega),h0,yaa,h1,yaa];simp
  |some n=>
   obtain⟨_,_,_,hn,_⟩:=zeQ hg;have e3:fstI (gtB bit) l=(n:Int):=by unfold fstI;rw[hg]
   rw[e3,if_neg (by omega),zjA zaa l n (by omega),yaa,zes zaa l n (by omega),yaa])
theorem zCP{l:List Finger}{bit:Int}(hl:l.length<=1000):∃q,zwm l bit=some (q,l.any (isB bit)):=by
 have:∃z,zey l bit 0=some z/\(z.isLeft=l.any (isB bit)):=by
  have key:=zaV (σ:=Unit) zaa (l:=l) (by omega) (L:=fun i _=>(zey l bit i).map (·.isLeft)) (res:=fun _ _ rest=>rest.any (isB bit)) (Inv:=fun _ _=>True)
   (fun _ _ h=>by
    have e:zey l bit (l.length:Int)=some (.inr ()):=zmU (by rw[zhy,h];rfl)
    rw[e];rfl)
   (fun n x rest s _ hn hx hd h1 h2 h3 ih=>by
    cases hp:isB bit x with
    |true=>
     have e:zey l bit (n:Int)=some (.inl (x.peer.id,x.peer.addr)):=zmU (by
      have hp':yab.ieq x.bit bit=true:=hp
      rw[zhy,h1,h2,cond_true,yaa,hp'];rfl)
     rw[e,List.any_cons,hp];rfl
    |false=>
     have h4:=ih () trivial;obtain⟨z,hz,hz2⟩:=yao.1 h4
     have e:zey l bit (n:Int)=some z:=zmU (by
      have hp':yab.ieq x.bit bit=false:=hp
      rw[zhy,h1,h2,cond_true,yaa,hp',cond_false,h3,hz])
     rw[e,List.any_cons,hp,yb0,<-hz2];rfl) () trivial
  exact yao.1 key
 obtain⟨z,h1,h2⟩:=this;rcases z with⟨a,b⟩|u
 ·exact⟨⟨a,b⟩,zwZ (by rw[znI,h1,<-h2];rfl)⟩
 ·exact⟨⟨0,0⟩,zwZ (by rw[znI,h1,<-h2];rfl)⟩
def insG(bit:Int)(p:Peer):List Finger->List Finger
 | []=>[]
 |x::r=>if bit<x.bit then⟨bit,p⟩::x::r else x::insG bit p r
theorem zFO{bit:Int}{p:Peer}{l:List Finger}:(if l.any (gtB bit)=true then insG bit p l else insG bit p l++[⟨bit,p⟩])=insF bit p l:=by
 induction l with
 |nil=>rfl
 |cons x r ih=>
  by_cases hx:bit<x.bit
  ·simp[insG,insF,gtB,hx]
  ·have hx':gtB bit x=false:=decide_eq_false hx;rw[List.any_cons,hx',yb0,insG,insF,if_neg hx,if_neg hx,<-ih];by_cases ha:r.any (gtB bit)=true
   ·rw[if_pos ha,if_pos ha]
   ·rw[if_neg ha,if_neg ha];rfl
theorem znJ{l:List Finger}{bit i a b c d e:Int}{p:Peer}{there put_:Bool}{r3:List Finger}(hr:r3.length<=5000):zh5 l bit p there put_ i a b r3 c d e=
  some (there,(if there=true then put_ else put_||decide (bit<c)),i,a,b,(if there=true\/put_=true then r3++[⟨c,⟨d,e⟩⟩]else if bit<c then(r3++[⟨bit,p⟩])++[⟨c,⟨d,e⟩⟩]else r3++[⟨c,⟨d,e⟩⟩]),c,d,e):=zy5 (by
 have hroom:∀(k:Nat) (r:List Finger) (x:Finger),r.length<=5000+k->k<=1->zaA zaa 24 r [x]=true:=fun k r x h1 h2=>zay zaa (by simp;omega) (by omega)
 rw[zmW,hroom 0 _ _ (by omega) (by omega),hroom 0 _ _ (by omega) (by omega),hroom 1 _ _ (by simp;omega) (by omega),zar,zae];cases there
 ·cases put_
  ·by_cases hc:bit<c
   ·simp[hc]
   ·simp[hc]
  ·simp
 ·simp)
theorem zy7{l:List Finger}{bit a b:Int}{p:Peer}(hl:l.length<=1000):zb3 l bit p true false 0 a b []=some (l.any (isB bit),a,b,updF bit p l):=by
 have:=zaV (σ:=Bool×List Finger) zaa (l:=l) (by omega) (L:=fun i s=>zb3 l bit p true s.1 i a b s.2) (res:=fun _ s rest=>(s.1||rest.any (isB bit),a,b,s.2++(if s.1=true then rest else updF bit p rest))) (Inv:=fun n s=>s.2.length<=n)
  (fun s _ h=>zjS (by rw[zfv,h];rcases s with⟨s1,s2⟩;cases s1<;>simp[updF]))
  (fun n x rest s hs hn hx hd h1 h2 h3 ih=>zjS (by
   rcases s with⟨s1,s2⟩
   have hs':s2.length<=n:=hs;have ih':∀(c:Bool) (y:Finger),zb3 l bit p true c ((n+1:Nat):Int) a b (s2++[y])=some (c||rest.any (isB bit),a,b,(s2++[y])++(if c=true then rest else updF bit p rest)):=fun c y=>ih (c,s2++[y]) (by show(s2++[y]).length<=n+1;simp;omega)
   dsimp only;rw[zfv,h1,h2,cond_true,yaa,cond_true,znJ (by omega),znJ (by omega),znJ (by omega)];simp only[yaa,h3,ih',if_true,true_or]
   cases s1 with
   |true=>simp
   |false=>
    rw[cond_false,zai,zae];by_cases hc:x.bit=bit
    ·simp[hc,updF,isB]
    ·simp[hc,updF,isB])) (false,[]) (by simp)
 simpa using this
theorem zCT{l:List Finger}{bit a b:Int}{p:Peer}(hl:l.length<=1000):zb3 l bit p false false 0 a b []=some (l.any (gtB bit),a,b,insG bit p l):=by
 have:=zaV (σ:=Bool×List Finger) zaa (l:=l) (by omega) (L:=fun i s=>zb3 l bit p false s.1 i a b s.2) (res:=fun _ s rest=>(s.1||rest.any (gtB bit),a,b,s.2++(if s.1=true then rest else insG bit p rest))) (Inv:=fun n s=>s.2.length<=2*n)
  (fun s _ h=>zjS (by rw[zfv,h];rcases s with⟨s1,s2⟩;cases s1<;>simp[insG]))
  (fun n x rest s hs hn hx hd h1 h2 h3 ih=>zjS (by
   rcases s with⟨s1,s2⟩
   have hs':s2.length<=2*n:=hs;have ih':∀(c:Bool) (y:List Finger),y.length<=2->zb3 l bit p false c ((n+1:Nat):Int) a b (s2++y)=some (c||rest.any (gtB bit),a,b,(s2++y)++(if c=true then rest else insG bit p rest)):=fun c y hy=>ih (c,s2++y) (by show(s2++y).length<=2*(n+1);simp;omega)
   dsimp only;rw[zfv,h1,h2,cond_true,yaa,cond_false,znJ (by omega)]
   cases s1 with
   |true=>
    have:=ih' true [x] (by simp);simp[h3]at this⊢
    exact this
   |false=>
    by_cases hc:bit<x.bit
    ·have:=ih' true [⟨bit,p⟩,x] (by simp);simp[h3,hc,gtB,insG]at this⊢;exact this
    ·have:=ih' false [x] (by simp);simp[h3,hc,gtB,insG]at this⊢
     exact this)) (false,[]) (by simp)
 simpa using this
theorem zCS{l:List Finger}{bit:Int}{p:Peer}(hl:l.length<=1000):zwn l bit p=some (setF l bit p):=zEz (by
 rw[zsh,zar,zae,zar,zae];unfold setF;by_cases h1:bit<0
 ·rw[if_pos h1,if_pos (.inl h1)]
 by_cases h2:63<bit
 ·rw[if_neg h1,if_pos h2,if_pos (.inr h2)]
 rw[if_neg h1,if_neg h2,if_neg (by omega)];obtain⟨q,hq⟩:=zCP (l:=l) (bit:=bit) hl
 have e:zqu l bit p=some (q.id,q.addr,if l.any (isB bit)=true then updF bit p l else insF bit p l):=zy6 (by
  rw[zmX,hq,yaa];dsimp only
  cases ha:l.any (isB bit)with
  |true=>
   rw[zy7 hl,yaa,ha];rfl
  |false=>
   have hins:=zFO (bit:=bit) (p:=p) (l:=l);rw[zCT hl,yaa]
   have hgl:(insG bit p l).length<=2000:=by
    have e1:=zyF bit p l;rw[<-hins]at e1;split at e1
    ·omega
    ·simp at e1;omega
   cases hb:l.any (gtB bit)with
   |true=>rw[hb,if_pos rfl]at hins;rw[hins];rfl
   |false=>
    rw[hb,if_neg (by simp)]at hins;simp only[cond_false,zay zaa (b:=24) (l:=insG bit p l) (l':=[⟨bit,p⟩]) (by simp;omega) (by omega),cond_true,hins]
    rfl)
 rw[e];rfl)
def drpF(bit:Int)(l:List Finger):List Finger:=l.filter fun f=>!isB bit f
theorem zrO{bit:Int}{x:Finger}{l:List Finger}:drpF bit (x::l)=bif isB bit x then drpF bit l else x::drpF bit l:=by
 unfold drpF;cases h:isB bit x<;>simp[h]
theorem zwN{bit:Int}{l:List Finger}(h:∀x,x∈l->isB bit x=false):drpF bit l=l:=by
 unfold drpF;rw[List.filter_eq_self];intro x hx;simp[h x hx]
theorem zvZ(bit:Int)(l:List Finger):(drpF bit l).length<=l.length:=List.length_filter_le _ _
theorem zFz(bit:Int)(a b:List Finger):drpF bit (a++b)=drpF bit a++drpF bit b:=List.filter_append ..
def zeb(n:Node)(l:List Finger):Node:=⟨n.me,n.clock,n.joined,n.pred,n.list,l,n.store,n.pends,n.jobs,n.results,n.rid,n.jobID,n.nextBit⟩
theorem zyn(N:Node)(j:Job)(o:List Out)(rest:List Finger):∀(kept:List Finger) (j0:Finger) (jt:List Finger),kept.length+(jt.length+1)+rest.length<=1000->
  ∃junk,zbD j o (kept.length:Nat) ((kept++j0::jt).length:Nat) (zeb N (kept++j0::jt++rest))=some ((((kept++drpF j.bit rest).length:Nat):Int),zeb N (kept++drpF j.bit rest++junk)):=by
 induction rest with
 |nil=>
  intro kept j0 jt h;refine⟨j0::jt,zcM ?_⟩;have:yab.ilt ((kept++j0::jt).length:Nat) (xlen zaa (kept++j0::jt++[]))=false:=by rw[zeg];simp
  rw[zbm,show(zeb N (kept++j0::jt++[])).fingers=kept++j0::jt++[]from rfl,this]
  simp[drpF]
 |cons x rest ih=>
  intro kept j0 jt h;simp only[yaw]at h;have hfi:(zeb N (kept++j0::jt++x::rest)).fingers=kept++j0::jt++x::rest:=rfl;have hlt:yab.ilt ((kept++j0::jt).length:Nat) (xlen zaa (kept++j0::jt++x::rest))=true:=by rw[zeg];simp
  have hg:xget zaa (kept++j0::jt++x::rest) ((kept++j0::jt).length:Nat)=some x:=by rw[zaW];simp
  have hadd:yab.iadd .i64 ((kept++j0::jt).length:Nat) 1=(((kept++j0::jt).length+1:Nat):Int):=zeW (by simp;omega);have hd:zdb x (zeb N (kept++j0::jt++x::rest)) j o=some (isB j.bit x):=zkl rfl;rw[zrO]
  cases hx:isB j.bit x with
  |true=>
   obtain⟨junk,h2⟩:=ih kept j0 (jt++[x]) (by simp;omega);refine⟨junk,zcM ?_⟩;rw[zbm,hfi,hlt,hg,hadd];simp only[cond_true,yaa,hd,hx]
   simpa[yaS]using h2
  |false=>
   have hg0:xget zaa (kept++j0::jt++x::rest) (kept.length:Nat)=some j0:=by rw[zaW];simp
   have hadd2:yab.iadd .i64 (kept.length:Nat) 1=((kept.length+1:Nat):Int):=zeW (by omega)
   have hset:xset (kept++j0::jt++x::rest) (kept.length:Nat) x=(kept++[x])++(jt++[x])++rest:=by
    unfold xset;simp
   have go:zbD j o ((kept.length+1:Nat):Int) (((kept++j0::jt).length+1:Nat):Int) (zeb N ((kept++[x])++(jt++[x])++rest))=zbm j o (kept.length:Nat) ((kept++j0::jt).length:Nat) (zeb N (kept++j0::jt++x::rest)):=by
    rw[zbm,hfi,hlt,hg,hadd];simp only[cond_true,yaa,hd,hx,cond_false,hg0,hadd2,hset];rfl
   cases jt with
   |nil=>
    obtain⟨junk,h2⟩:=ih (kept++[x]) x [] (by simp;omega);refine⟨junk,zcM (go.symm.trans ?_)⟩
    simpa[yaS]using h2
   |cons j1 jt=>
    obtain⟨junk,h2⟩:=ih (kept++[x]) j1 (jt++[x]) (by simp at h⊢;omega);refine⟨junk,zcM (go.symm.trans ?_)⟩;simpa[yaS]using h2
theorem zx4{N:Node}{j:Job}{o:List Out}(hl:N.fingers.length<=1000):zjb N j o=some (fstI (isB j.bit) N.fingers):=zrw (by
 have hf:∀x:Finger,zdb x N j o=some (isB j.bit x):=fun x=>zkl rfl
 have:=zbv zaa (l:=N.fingers) (by omega) (p:=isB j.bit) (L:=fun i=>zd7 N j o i) (fun h=>ze1 (by simp[zca,h]))
  (fun n x _ h1 h2 hp=>ze1 (by simp[zca,h1,h2,hf,hp]))
  (fun n x r _ h1 h2 hp h=>ze1 (by simp[zca,h1,h2,hf,hp,h]))
 rw[zhg,this];unfold fstI
 cases fst (isB j.bit) N.fingers<;>rfl)
theorem zw8{N:Node}{j:Job}{o:List Out}(hl:N.fingers.length<=1000):zik N j o=some (drpF j.bit N.fingers,N.me.id,N.me.addr,N.clock,N.joined,N.pred,N.list,N.store,N.pends,N.jobs,N.results,N.rid,N.jobID,N.nextBit):=zrr (by
 rw[zgY,zx4 hl,yaa];unfold fstI
 cases hf:fst (isB j.bit) N.fingers with
 |none=>
  rw[zwN (zkz hf)];rfl
 |some n=>
  obtain⟨x,hx,hp,hn,hb⟩:=zeQ hf;obtain⟨hn',hxe⟩:=yae.1 hx
  have hsplit:N.fingers=N.fingers.take n++x::N.fingers.drop (n+1):=by
   rw[<-hxe,<-yaF hn,List.take_append_drop]
  have hkl:(N.fingers.take n).length=n:=by simp;omega
  have hbefore:drpF j.bit (N.fingers.take n)=N.fingers.take n:=zwN fun y hy=>by
   obtain⟨i,hi,rfl⟩:=List.mem_iff_getElem.1 hy;have hin:i<n:=by rw[hkl]at hi;exact hi
   exact hb i _ hin (by rw[List.getElem_take,List.getElem?_eq_getElem])
  obtain⟨junk,hloop⟩:=zyn N j o (N.fingers.drop (n+1)) (N.fingers.take n) x [] (by simp;omega)
  have hdr:drpF j.bit N.fingers=N.fingers.take n++drpF j.bit (N.fingers.drop (n+1)):=by
   rw[congrArg (drpF j.bit) hsplit,zFz,hbefore,zrO,hp];rfl
  have hN:zeb N (N.fingers.take n++[x]++N.fingers.drop (n+1))=N:=by
   rw[yak,ybw,<-hsplit];rfl
  rw[hN,<-hdr,hkl]at hloop;rw[show(N.fingers.take n++[x]).length=n+1 by rw[yaf,hkl];rfl]at hloop;have hz:yab.ieq 0 0=true:=rfl
  have hsub:∀z:Finger,xsub zaa (xfil (drpF j.bit N.fingers++junk) (((drpF j.bit N.fingers).length:Nat):Int) (xlen zaa (drpF j.bit N.fingers++junk)) z) 0 (((drpF j.bit N.fingers).length:Nat):Int)=some (drpF j.bit N.fingers):=fun z=>by
   unfold xfil;rw[zat,yaQ,yaQ,ya8,yak,zjA zaa _ _ (by simp),ya8]
  have hf2:(zeb N (drpF j.bit N.fingers++junk)).fingers=drpF j.bit N.fingers++junk:=rfl;dsimp only;rw[ieqF (show(n:Int)≠ -1 by omega),cond_false,zeW (by omega),hloop,yaa];dsimp only;rw[hf2,zes zaa _ _ (by simp),yaa,hsub,yaa,hz,cond_true]
  rfl)
theorem zxD{j:Job}{owner:Peer}{N:Node}(hl:N.fingers.length<=1000):zib j owner 0 N []=some (N,drpF j.bit N.fingers):=by
 have:=zaV (σ:=List Finger) zaa (l:=N.fingers) (by omega) (L:=fun i acc=>zib j owner i N acc) (res:=fun _ acc rest=>(N,acc++drpF j.bit rest)) (Inv:=fun k acc=>acc.length<=k)
  (fun acc _ h=>zsv (by rw[zj2,h];simp[drpF]))
  (fun k x rest acc ha hk hx hd h1 h2 h3 ih=>zsv (by
   rw[zj2,h1,h2,cond_true,yaa,zrO,h3];show(bif isB j.bit x then _ else _)=_
   cases hc:isB j.bit x with
   |true=>rw[cond_true,cond_true,ih acc (by omega)]
   |false=>rw[cond_false,cond_false,zay zaa (by simp;omega) (by omega),cond_true,ih (acc++[x]) (by simp;omega)];simp)) [] (by simp)
 simpa using this
end Go.Ab.Tryz
namespace Go.Ab.Tryz
open Go Go.Ab Go.Proofs Go.Lib
open Pe (dist PeOk)
open Bool renaming and_eq_true->yaA,or_eq_true->ya1
open List renaming getElem?_take->yaL,length_append->yaf,length_map->yaJ,mem_cons->yaN,mem_cons_of_mem->ya2,mem_iff_getElem?->ybL,mem_of_getElem?->yat,nil_append->ya7,take_length->yb7,take_of_length_le->yaM
open Nat renaming le_refl->yag
open Option renaming bind_some->yaa
def btw(a x b:Int):Bool:=decide (x≠a)&&(decide (a=b)||decide (dist a x<dist a b))
theorem zvz(a x b:Int):zhJ a x b=some (btw a x b):=zpo (by
 simp only[zid,Pe.ring_Dist_eq,yaa,zai,zar,zae,btw];by_cases h1:x=a<;>by_cases h2:a=b<;>simp[h1,h2]
 all_goals (by_cases h3:x=b<;>simp[h3]))
theorem zwi{a x b:Int}(ha:0<=a/\a<18446744073709551616)(hx:0<=x/\x<18446744073709551616)(hb:0<=b/\b<18446744073709551616):zob a x b=some (btw a x b):=zxm (by
 simp only[zlO,zoc ha hx hb,zai,zae,btw,upto,dist];by_cases h1:a=b
 ·subst h1;simp
 ·by_cases h2:x=b
  ·subst h2;simp[h1]
  ·simp[h1,h2]
   first|done|rfl|(congr 1;exact decide_eq_decide.2 Iff.rfl)|(congr 2))
def hLe(me:Peer)(x y:Peer):Bool:=!znx me.id (y.id,y.addr) (x.id,x.addr)
theorem zkA{me x y:Peer}:hLe me x y=true<->dist me.id y.id<dist me.id x.id\/(dist me.id x.id=dist me.id y.id/\x.addr<=y.addr):=by
 simp only[hLe,znx,dist,Bool.not_eq_true',Bool.or_eq_false_iff,Bool.and_eq_false_iff,decide_eq_false_iff_not];omega
def znw(me:Peer)(l:List Peer):List Peer:=l.mergeSort (hLe me)
theorem zyU:∀{l:List Peer},(∀p,p∈l->PeOk p)->zkt (l.map zad)=some (l.map fun p=>(p.id,p.addr))
 | [],_=>rfl
 |p::l,h=>by
  have hp:=h p (by simp);have ih:=zyU (l:=l) fun q hq=>h q (by simp[hq])
  have e:zuJ (zad p)=some (p.id,p.addr):=by
   show(if 0<=p.id/\p.id<18446744073709551616 then some (p.id,p.addr)else none)=_;exact if_pos hp
  simp only[List.map_cons,zkt,e,ih]
theorem zI3{me:Peer}{l:List Peer}(hl:l.length<=1000000)(ho:∀p,p∈l->PeOk p):xsrt zad me.id l=some (znw me l):=by
 refine zrB ?_
 show(match zkt (l.map zad)with
  |some l=>if l.length<=1000000 then some ((hopSort me.id l).map zc0)else none
  |none=>none)=_
 rw[zyU ho];simp only[yaJ,hl,if_true];congr 1;have hm:(l.mergeSort (hLe me)).map (fun p=>(p.id,p.addr))=(l.map fun p=>(p.id,p.addr)).mergeSort fun x y=>!znx me.id y x:=List.map_mergeSort (fun a _ b _=>rfl)
 rw[hopSort,<-hm,List.map_map];rfl
def bef(me y p:Peer):Bool:=decide (dist me.id p.id<dist me.id y.id)||(decide (dist me.id y.id=dist me.id p.id)&&decide (y.addr<p.addr))
def posH(me p:Peer):List Peer->Nat
 | []=>0
 |y::r=>if bef me y p=true then posH me p r+1 else 0
def insH(me p:Peer):List Peer->List Peer
 | []=>[p]
 |y::r=>if bef me y p=true then y::insH me p r else p::y::r
theorem zBT(me p:Peer):∀l,posH me p l<=l.length
 | []=>yag _
 |y::r=>by
  have:=zBT me p r;simp only[posH];split<;>simp<;>omega
theorem zvi(me p:Peer):∀l,l.take (posH me p l)++[p]++l.drop (posH me p l)=insH me p l
 | []=>rfl
 |y::r=>by
  have ih:=zvi me p r;simp only[posH,insH];split
  ·simp only[List.take_succ_cons,List.drop_succ_cons,List.cons_append,ih]
  ·rfl
theorem zlz(me p:Peer):∀l,(insH me p l).Perm (p::l)
 | []=>List.Perm.refl _
 |y::r=>by
  simp only[insH];split
  ·exact((zlz me p r).cons y).trans (List.Perm.swap p y r)
  ·exact List.Perm.refl _
theorem ztB(me p:Peer):∀{l},l.Pairwise (fun a b=>hLe me a b=true)->(insH me p l).Pairwise (fun a b=>hLe me a b=true)
 | [],_=>by simp[insH]
 |y::r,h=>by
  rw[List.pairwise_cons]at h;simp only[insH];split
  ·rename_i hb;refine List.pairwise_cons.2 ⟨fun z hz=>?_,ztB me p h.2⟩;rcases yaN.1 ((zlz me p r).mem_iff.1 hz)with rfl|hz
   ·rw[zkA];simp only[bef,ya1,yaA,decide_eq_true_eq]at hb;omega
   ·exact h.1 z hz
  ·rename_i hb
   have hpy:hLe me p y=true:=by
    rw[zkA];simp only[bef,ya1,yaA,decide_eq_true_eq]at hb;omega
   refine List.pairwise_cons.2 ⟨fun z hz=>?_,List.pairwise_cons.2 h⟩;rcases yaN.1 hz with rfl|hz
   ·exact hpy
   ·have:=h.1 z hz;rw[zkA]at *
    omega
def zit(me:Peer)(out cs:List Peer):List Peer:=cs.foldl (fun o p=>insH me p o) out
theorem zrW(me:Peer):∀(cs:List Peer) {out:List Peer},out.Pairwise (fun a b=>hLe me a b=true)->(zit me out cs).Pairwise (fun a b=>hLe me a b=true)/\(zit me out cs).Perm (out++cs)
 | [],out,h=>⟨h,by simp[zit]⟩
 |p::cs,out,h=>by
  obtain⟨h1,h2⟩:=zrW me cs (ztB me p h);refine⟨h1,h2.trans ?_⟩;exact((zlz me p out).append_right cs).trans ((List.perm_middle (l₁:=out) (l₂:=cs) (a:=p)).symm)
theorem zDg{me:Peer}(hm:PeOk me){l:List Peer}(ho:∀p,p∈l->PeOk p):zit me [] l=znw me l:=by
 obtain⟨h1,h2⟩:=zrW me l (out:=[]) List.Pairwise.nil;rw[ya7]at h2
 have h3:(znw me l).Pairwise (fun a b=>hLe me a b=true):=List.pairwise_mergeSort (fun a b c hab hbc=>by rw[zkA]at *;omega) (fun a b=>by
  rw[ya1,zkA,zkA];omega) l
 have h4:(znw me l).Perm l:=List.mergeSort_perm l (hLe me);refine List.Perm.eq_of_pairwise (le:=fun a b=>hLe me a b=true) (fun a b ha hb hab hba=>?_) h1 h3 (h2.trans h4.symm);have oa:=ho a (h2.mem_iff.1 ha);have ob:=ho b (h4.mem_iff.1 hb);rw[zkA]at hab hba;have e1:dist me.id a.id=dist me.id b.id:=by omega
 have e2:a.addr=b.addr:=by omega
 have e3:a.id=b.id:=by
  simp only[dist,PeOk]at *
  omega
 obtain⟨ai,aa⟩:=a;obtain⟨bi,ba⟩:=b;simp only at e2 e3;rw[e2,e3]
def has(l:List Peer)(a:Int):Bool:=l.any fun q=>decide (q.addr=a)
def filt(me:Peer)(key:Int):List Peer->List Peer->List Peer
 |_,[]=>[]
 |pre,p::r=>if has pre p.addr=false/\p.addr≠me.addr/\btw me.id p.id key=true then p::filt me key (pre++[p]) r else filt me key (pre++[p]) r
def zpJ(me:Peer)(key:Int):List Peer->List Peer->List Peer
 |_,[]=>[]
 |met,p::r=>if has met p.addr=true\/p.addr=me.addr then zpJ me key met r else if btw me.id p.id key=true then p::zpJ me key (met++[p]) r else zpJ me key (met++[p]) r
def metR(me:Peer):List Peer->List Peer->List Peer
 |met,[]=>met
 |met,p::r=>if has met p.addr=true\/p.addr=me.addr then metR me met r else metR me (met++[p]) r
theorem ztk(l:List Peer)(p:Peer)(a:Int):has (l++[p]) a=(has l a||decide (p.addr=a)):=by simp[has]
theorem znn(me:Peer)(key:Int):∀(l met pre:List Peer),(∀a,a≠me.addr->has met a=has pre a)->zpJ me key met l=filt me key pre l
 | [],_,_,_=>rfl
 |p::r,met,pre,h=>by
  simp only[zpJ,filt];by_cases hm:p.addr=me.addr
  ·rw[if_pos (.inr hm),if_neg (fun h=>h.2.1 hm)];refine znn me key r met _ fun a ha=>?_
   rw[ztk,h a ha];have:decide (p.addr=a)=false:=by rw[decide_eq_false_iff_not];omega
   rw[this,Bool.or_false]
  ·have hp:=h p.addr hm
   cases hh:has pre p.addr with
   |true=>
    rw[if_pos (.inl (hp.trans hh)),if_neg (fun h=>by cases h.1)];refine znn me key r met _ fun a ha=>?_
    rw[ztk,h a ha];by_cases hpa:p.addr=a
    ·rw[<-hpa,hh];rfl
    ·rw[decide_eq_false hpa,Bool.or_false]
   |false=>
    have ih:=znn me key r (met++[p]) (pre++[p]) fun a ha=>by rw[ztk,ztk,h a ha]
    rw[if_neg (fun h2=>by rcases h2 with h2|h2;rw[hp,hh]at h2;cases h2;exact hm h2)];by_cases hb:btw me.id p.id key=true
    ·rw[if_pos hb,if_pos ⟨rfl,hm,hb⟩,ih]
    ·rw[if_neg hb,if_neg (fun h=>hb h.2.2),ih]
theorem zpQ(me:Peer)(key:Int):∀(l pre:List Peer) (p:Peer),p∈filt me key pre l->p∈l
 | [],_,_,h=>by cases h
 |q::r,pre,p,h=>by
  simp only[filt]at h;split at h
  ·rcases yaN.1 h with rfl|h
   ·simp
   ·exact ya2 _ (zpQ me key r _ p h)
  ·exact ya2 _ (zpQ me key r _ p h)
theorem zyv(me:Peer)(key:Int):∀(l pre:List Peer),(filt me key pre l).length<=l.length
 | [],_=>yag _
 |q::r,pre=>by
  have:=zyv me key r (pre++[q]);simp only[filt];split<;>simp<;>omega
theorem zEa{all:List Peer}{n:Nat}{x:Peer}(hx:all[n]?=some x):fstI (fun q=>decide (q.addr=x.addr)) all=(n:Int)<->has (all.take n) x.addr=false:=by
 have hxm:=yat hx;obtain⟨k,hk⟩:=zKM (p:=fun q:Peer=>decide (q.addr=x.addr)) (l:=all) ⟨x,hxm,by simp⟩;obtain⟨y,hy,hpy,hkl,hbe⟩:=zeQ hk;have e:fstI (fun q:Peer=>decide (q.addr=x.addr)) all=(k:Int):=by unfold fstI;rw[hk]
 rw[e];constructor
 ·intro hkn;have hkn:k=n:=by omega
  subst hkn;rw[has,List.any_eq_false];intro q hq;obtain⟨i,hi⟩:=ybL.1 hq;rw[yaL]at hi;split at hi
  ·rename_i hlt;have:=hbe i q hlt hi;simpa using this
  ·cases hi
 ·intro hh;rw[has,List.any_eq_false]at hh;rcases Nat.lt_trichotomy k n with h1|h1|h1
  ·exfalso;have hyt:y∈all.take n:=ybL.2 ⟨k,by rw[yaL,if_pos h1];exact hy⟩;exact hh y hyt hpy
  ·omega
  ·exfalso;have:=hbe n x h1 hx;simp at this
theorem zvR{l:List Peer}{id addr:Int}(hl:l.length<=10000):zkq l id addr=some (fstI (fun q=>decide (q.addr=addr)) l):=ztU (by
 have hf:∀x:Peer,zmG x id addr=some (decide (x.addr=addr)):=fun x=>zv3 rfl
 have:=zbv zad (l:=l) (by omega) (p:=fun q=>decide (q.addr=addr)) (L:=fun i=>zeS l id addr i) (fun h=>zg2 (by simp[zcE,h]))
  (fun n x _ h1 h2 hp=>zg2 (by simp[zcE,h1,h2,hf,hp]))
  (fun n x r _ h1 h2 hp h=>zg2 (by simp[zcE,h1,h2,hf,hp,h]))
 rw[zjd,this];unfold fstI
 cases fst (fun q:Peer=>decide (q.addr=addr)) l<;>rfl)
def allP(l:List Entry)(f:List Finger):List Peer:=Pe.firms l++f.map Finger.peer
def hops(me:Peer)(l:List Entry)(f:List Finger)(key most:Int):List Peer:=(znw me (filt me key [] (allP l f))).take most.toNat
theorem zEd(me:Peer)(l:List Peer):(znw me l).length=l.length:=List.length_mergeSort ..
theorem zxe{me:Peer}{l:List Entry}{f:List Finger}{key most:Int}(hl:l.length<=1000)(hf:f.length<=1000)(ho:∀p,p∈allP l f->PeOk p)(hmost:most<1000):zpS me l f key most=some (hops me l f key most):=zyx (by
 have hfl:=Pe.firms_le l;rw[zmH,(Pe.some_eq hl).1,yaa]
 have e0:=zaV (σ:=List Peer) zaa (l:=f) (by omega) (L:=fun i s=>ziK me f key most i s) (res:=fun _ s rest=>s++rest.map Finger.peer) (Inv:=fun n s=>s.length<=(Pe.firms l).length+n)
  (fun s _ h=>znt (by rw[zg4,h];simp))
  (fun n x rest s hi hn hx hd h1 h2 h3 ih=>znt (by
   rw[zg4,h1,h2,cond_true,yaa,zay zad (by simp;omega) (by omega),cond_true,h3,ih _ (by simp;omega)]
   simp)) (Pe.firms l) (by omega)
 rw[e0,yaa];show((zcx me key most (allP l f) (xlen zad (allP l f)) 0 (allP l f) []).bind _)=_;have hal:(allP l f).length<=2000:=by simp only[allP,yaf,yaJ];omega
 have e1:=zaV (σ:=List Peer) zad (l:=allP l f) (by omega) (L:=fun i s=>zcx me key most (allP l f) (xlen zad (allP l f)) i (allP l f) s)
  (res:=fun n s rest=>(allP l f,s++filt me key ((allP l f).take n) rest)) (Inv:=fun n s=>s.length<=n)
  (fun s _ h=>znu (by rw[zg5,h];simp[filt]))
  (fun n x rest s hi hn hx hd h1 h2 h3 ih=>znu (by
   have ht:(allP l f).take (n+1)=(allP l f).take n++[x]:=by rw[List.take_add_one,hx];rfl
   rw[zg5,h1,h2,cond_true,yaa,zvR (by omega),yaa,h3,zai,zae];have hfi:=zEa hx;simp only[filt];by_cases c1:has ((allP l f).take n) x.addr=false
   ·rw[if_pos (hfi.2 c1),zai,zae];by_cases c2:x.addr=me.addr
    ·rw[if_pos c2,if_neg (fun h=>h.2.1 c2),ih s (by omega),ht]
    ·rw[if_neg c2,zvz,yaa]
     cases c3:btw me.id x.id key with
     |true=>
      rw[cond_true,zay zad (by simp;omega) (by omega),cond_true,if_pos ⟨c1,c2,rfl⟩,ih _ (by simp;omega),ht]
      simp
     |false=>
      rw[cond_false,if_neg (fun h=>by cases h.2.2),ih s (by omega),ht]
   ·rw[if_neg (fun h=>c1 (hfi.1 h)),if_neg (fun h=>c1 h.1),ih s (by omega),ht])) [] (by simp)
 rw[e1,yaa];dsimp only;rw[ya7,List.take_zero];have hfo:∀p,p∈filt me key [] (allP l f)->PeOk p:=fun p hp=>ho p (zpQ me key _ _ p hp)
 have hfl2:=zyv me key (allP l f) [];rw[zI3 (by omega) hfo,yaa,hops];have hsl:=zEd me (filt me key [] (allP l f));obtain⟨q,hq⟩:∃q,znw me (filt me key [] (allP l f))=q:=⟨_,rfl⟩
 rw[hq]at hsl⊢;rw[zar,zae,zat,zar,zae,zar,zae];by_cases c1:most<0
 ·rw[if_pos c1,show most.toNat=0 by omega,List.take_zero];by_cases c2:(0:Int)<(q.length:Int)
  ·rw[if_pos c2,show xsub zad q 0 0=some (q.take 0)from zeM q 0 (Nat.zero_le _)];rfl
  ·rw[if_neg c2,zeM q _ (yag _),yb7];have:q=[]:=List.eq_nil_of_length_eq_zero (by omega);rw[this];rfl
 ·rw[if_neg c1];by_cases c2:most<(q.length:Int)
  ·rw[if_pos c2];obtain⟨m,rfl⟩:∃m:Nat,most=(m:Int):=⟨most.toNat,by omega⟩
   rw[zeM q m (by omega)];rfl
  ·rw[if_neg c2,zeM q _ (yag _),yb7,yaa,yaM (by omega)])
theorem zy8{l:List Peer}{a:Int}(hl:l.length<=10000):zsi l a=some (has l a):=zAf (by
 have:=zaV (σ:=Unit) zad (l:=l) (by omega) (L:=fun i _=>zjT l a i) (res:=fun _ _ rest=>bif has rest a then .inl ()else .inr ()) (Inv:=fun _ _=>True)
  (fun _ _ h=>zpm (by rw[zh6,h];rfl))
  (fun n x rest s _ hn hx hd h1 h2 h3 ih=>zpm (by
   rw[zh6,h1,h2,cond_true,yaa,zai,zae,h3];by_cases c:x.addr=a
   ·rw[if_pos c];simp[has,c]
   ·rw[if_neg c,ih () trivial];simp[has,c])) () trivial
 rw[zok,this,yaa]
 cases has l a<;>rfl)
theorem zGf{me p:Peer}{key most i:Int}{out r2 r3:List Peer}(hm:PeOk me)(ho:∀q,q∈out->PeOk q)(hl:out.length<=10000):
  zgT me key most out i 0 (dist me.id p.id) r2 r3 p.id p.addr=some (out,i,(posH me p out:Int),r2,r3,p.id,p.addr):=by
 have:=zaV (σ:=Unit) zad (l:=out) (by omega) (L:=fun k _=>zgT me key most out i k (dist me.id p.id) r2 r3 p.id p.addr) (res:=fun n _ rest=>(out,i,((n+posH me p rest:Nat):Int),r2,r3,p.id,p.addr)) (Inv:=fun _ _=>True)
  (fun _ _ h=>zq7 (by rw[ziT,h];rfl))
  (fun n x rest s _ hn hx hd h1 h2 h3 ih=>zq7 (by
   have hxo:=ho x (yat hx);rw[ziT,h1,h2,cond_true,yaa,Pe.r03_Dist_eq hm.1 hm.2 hxo.1 hxo.2,yaa,zar,zae,zai,zae,zar,zae,h3];have ihh:=ih () trivial
   (try dsimp only at ihh)
   have e:((n+1+posH me p rest:Nat):Int)=((n+(posH me p rest+1):Nat):Int):=by omega
   rw[e]at ihh;simp only[posH,bef,ya1,yaA,decide_eq_true_eq];by_cases c1:dist me.id p.id<dist me.id x.id
   ·rw[if_pos c1,if_pos (.inl c1)];exact ihh
   ·rw[if_neg c1];by_cases c2:dist me.id x.id=dist me.id p.id
    ·rw[if_pos c2];by_cases c3:x.addr<p.addr
     ·rw[if_pos c3,if_pos (.inr ⟨c2,c3⟩)];exact ihh
     ·rw[if_neg c3,if_neg (by omega)];rfl
    ·rw[if_neg c2,if_neg (by omega)];rfl)) () trivial
 simpa using this
theorem zEA{me p:Peer}{key most i:Int}{out r2 r3:List Peer}(hm:PeOk me)(hp:PeOk p)(hk:0<=key/\key<18446744073709551616)(ho:∀q,q∈out->PeOk q)(hl:out.length<=5000)(h3:r3.length<=5000):
  zoj me key most out i r2 r3 p.id p.addr=some (if btw me.id p.id key=true then .inl (insH me p out,i,r2,r3++[p],p.id,p.addr)else .inr (out,i,r2,r3++[p],p.id,p.addr)):=zxo (by
 have hpl:=zBT me p out;rw[zlW,zay zad (by simp;omega) (by omega),cond_true,zwi hm hp hk,yaa];have ep:(⟨p.id,p.addr⟩:Peer)=p:=rfl;rw[ep]
 cases hb:btw me.id p.id key with
 |false=>rfl
 |true=>
  rw[cond_true,Pe.r03_Dist_eq hm.1 hm.2 hp.1 hp.2,yaa,zGf hm ho (by omega),yaa];dsimp only
  have hxd:xsub zad out ((posH me p out:Nat):Int) (xlen zad out)=some (out.drop (posH me p out)):=by
   rw[zem,zat,if_pos (by omega)];simp
  rw[zeM out _ hpl,yaa,zay zad (by simp;omega) (by omega),cond_true,zay zad (by simp;omega) (by omega),cond_true,hxd,yaa,zay zad (by simp;omega) (by omega),cond_true,ep,zvi]
  rfl)
theorem zFP(me p:Peer)(l:List Peer):(insH me p l).length=l.length+1:=by rw[(zlz me p l).length_eq];rfl
theorem zAe{me:Peer}{l:List Entry}{f:List Finger}{key most:Int}(hl:l.length<=1000)(hf:f.length<=1000)(hm:PeOk me)(hk:0<=key/\key<18446744073709551616)(ho:∀p,p∈allP l f->PeOk p):zuf me l f key most=some (hops me l f key most):=zCQ (by
 have hfl:=Pe.firms_le l;rw[zqs,(Pe.some_eq hl).2.1,yaa]
 have e0:=zaV (σ:=List Peer) zaa (l:=f) (by omega) (L:=fun i s=>zlh me f key most i s) (res:=fun _ s rest=>s++rest.map Finger.peer) (Inv:=fun n s=>s.length<=(Pe.firms l).length+n)
  (fun s _ h=>zq6 (by rw[ziS,h];simp))
  (fun n x rest s hi hn hx hd h1 h2 h3 ih=>zq6 (by
   rw[ziS,h1,h2,cond_true,yaa,zay zad (by simp;omega) (by omega),cond_true,h3,ih _ (by simp;omega)]
   simp)) (Pe.firms l) (by omega)
 rw[e0,yaa];show((zdK me key most [] 0 (allP l f) []).bind _)=_;have hal:(allP l f).length<=2000:=by simp only[allP,yaf,yaJ];omega
 have e1:=zaV (σ:=List Peer×List Peer) zad (l:=allP l f) (by omega) (L:=fun i s=>zdK me key most s.1 i (allP l f) s.2)
  (res:=fun n s rest=>(zit me s.1 (zpJ me key s.2 rest),allP l f,metR me s.2 rest)) (Inv:=fun n s=>s.1.length<=n/\s.2.length<=n/\∀q,q∈s.1->PeOk q)
  (fun s _ h=>zq8 (by rw[ziU,h];rfl))
  (fun n x rest s hi hn hx hd h1 h2 h3 ih=>zq8 (by
   obtain⟨hi1,hi2,hi3⟩:=hi;have hxo:=ho x (yat hx);rw[ziU,h1,h2,cond_true,yaa,zy8 (by omega),yaa,h3];simp only[zpJ,metR]
   cases c1:has s.2 x.addr with
   |true=>rw[cond_true,if_pos (.inl rfl),if_pos (.inl rfl)];exact ih s ⟨by omega,by omega,hi3⟩
   |false=>
    rw[cond_false,zai,zae];by_cases c2:x.addr=me.addr
    ·rw[if_pos c2,if_pos (.inr c2),if_pos (.inr c2)];exact ih s ⟨by omega,by omega,hi3⟩
    ·have hno:¬(false=true\/x.addr=me.addr):=fun h=>h.elim (fun h=>by cases h) c2
     rw[if_neg c2,if_neg hno,if_neg hno,zEA hm hxo hk hi3 (by omega) (by omega),yaa];by_cases c3:btw me.id x.id key=true
     ·rw[if_pos c3,if_pos c3];dsimp only;rw[h3]
      exact ih (insH me x s.1,s.2++[x]) ⟨by rw[zFP];omega,by simp;omega,fun q hq=>by
       rcases yaN.1 ((zlz me x s.1).mem_iff.1 hq)with rfl|hq
       ·exact hxo
       ·exact hi3 q hq⟩
     ·rw[if_neg c3,if_neg c3];dsimp only;rw[h3]
      exact ih (s.1,s.2++[x]) ⟨by show s.1.length<=_;omega,by simp;omega,hi3⟩)) ([],[]) ⟨by simp,by simp,fun q hq=>by cases hq⟩
 dsimp only at e1;rw[e1,yaa];dsimp only;have hfo:∀p,p∈filt me key [] (allP l f)->PeOk p:=fun p hp=>ho p (zpQ me key _ _ p hp)
 rw[znn me key (allP l f) [] [] (fun _ _=>rfl),zDg hm hfo,hops];obtain⟨q,hq⟩:∃q,znw me (filt me key [] (allP l f))=q:=⟨_,rfl⟩
 rw[hq,zar,zae,zat,zar,zae];by_cases c1:most<0
 ·rw[if_pos c1,show most.toNat=0 by omega,List.take_zero]
 ·rw[if_neg c1];by_cases c2:most<(q.length:Int)
  ·rw[if_pos c2];obtain⟨m,rfl⟩:∃m:Nat,most=(m:Int):=⟨most.toNat,by omega⟩
   rw[zeM q m (by omega)];rfl
  ·rw[if_neg c2,yaM (by omega)])
end Go.Ab.Tryz
namespace Go.Ab.Tryz
open Go Go.Ab Go.Proofs Go.Lib
open Pe (dist PeOk EnOk)
open Go.Ab.Ops renaming std->yab
open List renaming mem_append->yal
open Nat renaming zero_le->yaR
open Option renaming bind_some->yaa
structure NOk(n:Node):Prop where
 me:PeOk n.me
 pred:EnOk n.pred
 list:EnOk n.list
 fingers:∀x,x∈n.fingers->PeOk x.peer
theorem zyz{l:List Entry}(h:EnOk l):∀p,p∈Pe.firms l->PeOk p:=fun p hp=>by
 unfold Pe.firms at hp;obtain⟨x,hx,hpx⟩:=List.mem_flatMap.1 hp;cases hb:yab.ile x.misses 0<;>rw[hb]at hpx
 ·cases hpx
 ·simp only[cond_true,List.mem_singleton]at hpx;subst hpx;exact h x hx
theorem zAE{n:Node}(h:NOk n):∀p,p∈allP n.list n.fingers->PeOk p:=fun p hp=>by
 rcases yal.1 hp with hp|hp
 ·exact zyz h.list p hp
 ·obtain⟨x,hx,rfl⟩:=List.mem_map.1 hp;exact h.fingers x hx
def zef(n:Node)(key:Int):Bool:=match n.pred with
 | []=>false
 |x::_=>decide (x.misses<=0)&&upto x.peer.id key n.me.id
theorem zvB(n:Node)(key:Int):zm5 n key=some (zef n key):=zww (by
 rw[zkW,zat,zar,zae,zef]
 cases hp:n.pred with
 |nil=>rfl
 |cons x r=>
  rw[if_pos (by simp<;>omega),show(0:Int)=((0:Nat):Int)from rfl,zaW];show(bif yab.ile x.misses 0 then zjD x.peer.id key n.me.id else some false)=_;rw[zbg,zae,zsB]
  by_cases c:x.misses<=0<;>simp[c])
def zpY(n:Node)(key:Int):Peer×List Peer×Bool:=if(hops n.me n.list n.fingers key 4).length=0 then(n.me,[],true)else(⟨0,0⟩,hops n.me n.list n.fingers key 4,false)
def zeE(n:Node)(key:Int):Peer×List Peer×Bool:=match Pe.firms n.list with
 | []=>(n.me,[],true)
 |f::_=>if key=n.me.id then(n.me,[],true)else if upto n.me.id key f.id=true then(f,[],true)else if zef n key=true then(n.me,[],true)else zpY n key
theorem zrm{n:Node}{key:Int}(h:Sz n)(ok:NOk n):zqK n key=some (zeE n key):=zzh (by
 have hl:=h.list;rw[zm4,(Pe.some_eq hl).1,yaa,zat,zai,zae,zai,zae,zeE]
 cases hf:Pe.firms n.list with
 |nil=>rfl
 |cons f r=>
  rw[if_neg (by simp<;>omega)];dsimp only;by_cases c1:key=n.me.id
  ·rw[if_pos c1,if_pos c1]
  ·rw[if_neg c1,if_neg c1]
   have e:zl6 n key (f::r)=some (if upto n.me.id key f.id=true then .inl (f.id,f.addr,f::r)else if zef n key=true then .inl (n.me.id,n.me.addr,f::r)else if(hops n.me n.list n.fingers key 4).length=0 then .inl (n.me.id,n.me.addr,f::r)else .inr (hops n.me n.list n.fingers key 4,f::r)):=zvA (by
    rw[zj8,show(0:Int)=((0:Nat):Int)from rfl,zaW];show(zjD n.me.id key f.id).bind _=_;rw[zsB,yaa,zvB,yaa,zxe hl h.fingers (zAE ok) (by omega),yaa,zat,zar];cases upto n.me.id key f.id
    ·cases zef n key
     ·by_cases c:(hops n.me n.list n.fingers key 4).length=0
      ·rw[decide_eq_false (by omega)];simp[c]
      ·rw[decide_eq_true (by omega)];simp[c]
     ·rfl
    ·rfl)
   rw[e,yaa,zpY];by_cases c2:upto n.me.id key f.id=true
   ·rw[if_pos c2,if_pos c2]
   ·rw[if_neg c2,if_neg c2];by_cases c3:zef n key=true
    ·rw[if_pos c3,if_pos c3]
    ·rw[if_neg c3,if_neg c3];by_cases c4:(hops n.me n.list n.fingers key 4).length=0
     ·rw[if_pos c4,if_pos c4]
     ·rw[if_neg c4,if_neg c4])
theorem zAj{n:Node}{key:Int}(h:Sz n)(ok:NOk n)(hk:0<=key/\key<18446744073709551616):zuj n key=some (zeE n key):=zC1 (by
 have hl:=h.list;have hfo:=zyz ok.list;rw[zqB,(Pe.some_eq hl).2.1,yaa,zat,zai,zae,zai,zae,zeE]
 cases hf:Pe.firms n.list with
 |nil=>rfl
 |cons f r=>
  rw[hf]at hfo;have hfp:=hfo f (by simp);rw[if_neg (by simp<;>omega)];dsimp only;by_cases c1:key=n.me.id
  ·rw[if_pos c1,if_pos c1]
  ·rw[if_neg c1,if_neg c1]
   have e0:zgU n key (f::r)=some (if(hops n.me n.list n.fingers key 4).length=0 then .inl (f::r)else .inr (hops n.me n.list n.fingers key 4,f::r)):=zxz (by
    rw[zl3,zAe hl h.fingers ok.me hk (zAE ok),yaa,zat,zai,zae];by_cases c:(hops n.me n.list n.fingers key 4).length=0
    ·rw[if_pos (by omega),if_pos c]
    ·rw[if_neg (by omega),if_neg c])
   obtain⟨w,hw,hwz⟩:∃w,zgU n key (f::r)=some w/\(match w with| .inl _=>((n.me,[],true):Peer×List Peer×Bool)| .inr (t,_)=>(⟨0,0⟩,t,false))=zpY n key:=by
    by_cases c:(hops n.me n.list n.fingers key 4).length=0
    ·exact⟨.inl (f::r),by rw[e0,if_pos c],by rw[zpY,if_pos c]⟩
    ·exact⟨.inr (hops n.me n.list n.fingers key 4,f::r),by rw[e0,if_neg c],by rw[zpY,if_neg c]⟩
   have e:∃z,zor n key (f::r)=some z/\(match z with| .inl (a,b,_)=>((⟨a,b⟩,[],true):Peer×List Peer×Bool)| .inr (t,_)=>(⟨0,0⟩,t,false))=(if upto n.me.id key f.id=true then(f,[],true)else if zef n key=true then(n.me,[],true)else zpY n key):=by
    refine Exists.elim (?_:∃z,ziZ n key (f::r)=some z/\_) fun z hz=>⟨z,zxA hz.1,hz.2⟩
    have hx0:xget zad (f::r) 0=some f:=zaW zad (f::r) 0;rw[ziZ,hx0,yaa,zoc ok.me hk hfp,yaa]
    cases hu:upto n.me.id key f.id with
    |true=>exact⟨_,rfl,rfl⟩
    |false=>
     rw[cond_false,hw,yaa,if_neg (by simp),zat,zar,zae]
     cases hp:n.pred with
     |nil=>
      have hb:zef n key=false:=by rw[zef,hp]
      rw[if_neg (by simp),hb,if_neg (by simp)]
      rcases w with a|⟨t,b⟩<;>exact⟨_,rfl,hwz⟩
     |cons x rr=>
      have hb:zef n key=(decide (x.misses<=0)&&upto x.peer.id key n.me.id):=by rw[zef,hp]
      have hxo:=ok.pred x (by rw[hp];simp);have hx1:xget zab (x::rr) 0=some x:=zaW zab (x::rr) 0;rw[if_pos (by simp<;>omega),hx1,yaa,zar,zae];by_cases c2:x.misses<1
      ·rw[decide_eq_true (by omega:x.misses<=0),Bool.true_and]at hb;rw[if_pos c2,zoc hxo hk ok.me,yaa,hb]
       cases upto x.peer.id key n.me.id with
       |true=>exact⟨_,rfl,rfl⟩
       |false=>
        rw[cond_false,if_neg (by simp)];rcases w with a|⟨t,b⟩<;>exact⟨_,rfl,hwz⟩
      ·rw[decide_eq_false (by omega:¬x.misses<=0),Bool.false_and]at hb;rw[if_neg c2,hb,if_neg (by simp)];rcases w with a|⟨t,b⟩<;>exact⟨_,rfl,hwz⟩
   obtain⟨z,hz,hzz⟩:=e;rw[hz,yaa,<-hzz]
   rcases z with⟨a,b,c⟩|⟨a,b⟩<;>rfl)
def jAt(j:Job)(to_:Peer):Job:=⟨j.id,j.kind,j.bit,j.key,j.val,j.target,j.via,to_,j.doing,j.hops,j.tries,j.due⟩
def jDo(j:Job)(b:Bool):Job:=⟨j.id,j.kind,j.bit,j.key,j.val,j.target,j.via,j.at_,b,j.hops,j.tries,j.due⟩
def zh1(j:Job)(h:Int):Job:=⟨j.id,j.kind,j.bit,j.key,j.val,j.target,j.via,j.at_,false,h,j.tries,j.due⟩
def jTry(j:Job)(t:Int):Job:=⟨j.id,j.kind,j.bit,j.key,j.val,j.target,j.via,j.at_,j.doing,j.hops,t,j.due⟩
def goM(j:Job):Msg:=⟨1,0,0,false,j.target,⟨#[]⟩,⟨#[]⟩,⟨0,0⟩,[],[]⟩
def actM(j:Job):Msg:=if j.kind=2 then⟨7,0,0,false,0,j.key,j.val,⟨0,0⟩,[],[]⟩else if j.kind=3 then⟨8,0,0,false,0,j.key,⟨#[]⟩,⟨0,0⟩,[],[]⟩else⟨3,0,0,false,0,⟨#[]⟩,⟨#[]⟩,⟨0,0⟩,[],[]⟩
def znv(n:Node)(j:Job)(to_:Peer):Node×List Out:=askN (setN n (jAt j to_)) to_ (goM j) 4 j.id
def actN(n:Node)(j:Job)(to_:Peer):Node×List Out:=askN (setN n (jAt (jDo j true) to_)) to_ (actM j) 5 j.id
def endL(n:Node)(j:Job)(owner:Peer):Node×List Out:=
 if j.kind=1 then actN n j j.via else
 if j.kind=2 then(if(zcQ n j.key j.val).2.2=0 then(zbt (zcQ n j.key j.val).1 j.id true j.val 0,(zcQ n j.key j.val).2.1)else(zbt n j.id false ⟨#[]⟩ (zcQ n j.key j.val).2.2,[]))else
 if j.kind=3 then(zbt n j.id (getP n.store j.key).2 (getP n.store j.key).1 0,[])else
 if owner.addr=n.me.addr then(zbt (zeb n (drpF j.bit n.fingers)) j.id false ⟨#[]⟩ 0,[])else
 (zbt (zeb n (setF n.fingers j.bit owner)) j.id false ⟨#[]⟩ 0,[])
def endN(n:Node)(j:Job)(owner:Peer):Node×List Out:=
 if owner.addr≠n.me.addr/\j.kind≠4 then actN n j owner else endL (setN n j) j owner
def zlp(n:Node)(j:Job):Node×List Out:=
 if j.kind=1 then znv n (zh1 j 0) j.via else
 if(zeE n j.target).2.2=true then endN n (zh1 j 0) (zeE n j.target).1 else
 match(zeE n j.target).2.1 with
 | []=>(n,[])
 |x::_=>znv n (zh1 j 1) x
def zjH(n:Node)(j:Job)(why:Int):Node×List Out:=
 if j.kind=1 then(setN n (jDo j false),[])else
 if j.kind=4\/3<=j.tries then(zbt n j.id false ⟨#[]⟩ why,[])else
 zlp n (jTry j (if j.tries<0 then 1 else j.tries+1))
structure JOk(j:Job):Prop where
 target:0<=j.target/\j.target<18446744073709551616
 at_:PeOk j.at_
 key:j.key.size<1000000
theorem ztJ{n:Node}{j:Job}{to_:Peer}(h:Sz n):zqF n j to_=some (znv n j to_):=zC6 (by
 show(zfA n (jAt j to_)).bind _=_
 rw[zdG h,yaa,zjX (zdP h _)];rfl)
theorem zvv{n:Node}{j:Job}{to_:Peer}(h:Sz n):ztq n j to_=some (actN n j to_):=zEH (by
 have s0:∀(k:Int) (key val:ByteArray),zml n j to_ k key val=some (if j.kind=3 then((askN (setN n (jAt (jDo j true) to_)) to_ ⟨8,0,0,false,0,j.key,⟨#[]⟩,⟨0,0⟩,[],[]⟩ 5 j.id).2,(askN (setN n (jAt (jDo j true) to_)) to_ ⟨8,0,0,false,0,j.key,⟨#[]⟩,⟨0,0⟩,[],[]⟩ 5 j.id).1,8,j.key,⟨#[]⟩)
   else((askN (setN n (jAt (jDo j true) to_)) to_ ⟨k,0,0,false,0,key,val,⟨0,0⟩,[],[]⟩ 5 j.id).2,(askN (setN n (jAt (jDo j true) to_)) to_ ⟨k,0,0,false,0,key,val,⟨0,0⟩,[],[]⟩ 5 j.id).1,k,key,val)):=fun k key val=>zzb (by
  show(bif yab.ieq j.kind 3 then(zfA n (jAt (jDo j true) to_)).bind _ else(zfA n (jAt (jDo j true) to_)).bind _)=_;rw[zdG h,yaa,yaa,zjX (zdP h _),zjX (zdP h _),zai,zae]
  split<;>rfl)
 rw[zss,s0,s0,zai,zae];unfold actN actM;by_cases c2:j.kind=2
 ·rw[if_pos c2,if_pos c2,if_neg (by omega)];rfl
 ·rw[if_neg c2,if_neg c2];by_cases c3:j.kind=3
  ·rw[if_pos c3,if_pos c3];rfl
  ·rw[if_neg c3,if_neg c3];rfl)
theorem zdv{n:Node}{j:Job}{has:Bool}{val:ByteArray}{e:Int}(h:Sz n):zcu n j has val e=some (zbt n j.id has val e):=zzc (zxv h)
theorem zk3{n:Node}(h:Sz n){l:List Finger}(hl:l.length<=1000):Sz (zeb n l):=⟨h.pred,h.list,hl,h.store,h.pends,h.jobs,h.results⟩
def prE:zj4->Node×List Out
 | .inl (o,_,n)=>(n,o)
 | .inr (.inl (_,n,_))=>(n,[])
 | .inr (.inr (.inl (_,n)))=>(n,[])
 | .inr (.inr (.inr (_,n)))=>(n,[])
theorem zxE{n:Node}{j:Job}{owner:Peer}(h:Sz n)(hf:n.fingers.length<=900)(hk:j.key.size<1000000):∃z,zj3 n j owner=some z/\prE z=endL (setN n j) j owner:=by
 have hs:=zdP h j;have hfs:(setN n j).fingers.length<=900:=hf;unfold endL;by_cases c1:j.kind=1
 ·refine⟨_,zfC (by rw[zc3,zdG h,yaa,zai,zae,if_pos c1,zvv hs,yaa]),?_⟩;rw[if_pos c1];rfl
 by_cases c2:j.kind=2
 ·rw[if_neg c1,if_pos c2];by_cases c0:(zcQ (setN n j) j.key j.val).2.2=0
  ·refine⟨_,zfC (by rw[zc3,zdG h,yaa,zai,zae,if_neg c1,zai,zae,if_pos c2,ztI hs hk,yaa];dsimp only;rw[zai,zae,if_pos c0,zdv (zv9 hs).1,yaa]),?_⟩;rw[if_pos c0];rfl
  ·refine⟨_,zfC (by rw[zc3,zdG h,yaa,zai,zae,if_neg c1,zai,zae,if_pos c2,ztI hs hk,yaa];dsimp only;rw[zai,zae,if_neg c0,zdv hs,yaa]),?_⟩;rw[if_neg c0];rfl
 by_cases c3:j.kind=3
 ·rw[if_neg c1,if_neg c2,if_pos c3];refine⟨_,zfC (by rw[zc3,zdG h,yaa,zai,zae,if_neg c1,zai,zae,if_neg c2,zai,zae,if_pos c3,(zyC (l:=(setN n j).store) (key:=j.key) (by have:=hs.store;omega)).2,yaa];dsimp only;rw[zdv hs,yaa]),?_⟩;rfl
 rw[if_neg c1,if_neg c2,if_neg c3];by_cases c4:owner.addr=(setN n j).me.addr
 ·rw[if_pos c4]
  refine⟨_,zfC (by
   rw[zc3,zdG h,yaa,zai,zae,if_neg c1,zai,zae,if_neg c2,zai,zae,if_neg c3,zai,zae,if_pos c4,zxD (by omega),yaa];show(zcu (zeb (setN n j) (drpF j.bit (setN n j).fingers)) j false ⟨#[]⟩ 0).bind _=_
   rw[zdv (zk3 hs (by have:=zvZ j.bit (setN n j).fingers;omega)),yaa]),?_⟩
  rfl
 ·rw[if_neg c4]
  refine⟨_,zfC (by
   rw[zc3,zdG h,yaa,zai,zae,if_neg c1,zai,zae,if_neg c2,zai,zae,if_neg c3,zai,zae,if_neg c4,zCS (by omega),yaa];show(zcu (zeb (setN n j) (setF (setN n j).fingers j.bit owner)) j false ⟨#[]⟩ 0).bind _=_
   rw[zdv (zk3 hs (by have:=zut (setN n j).fingers j.bit owner;omega)),yaa]),?_⟩
  rfl
theorem zC4{n:Node}{j:Job}{owner:Peer}(h:Sz n)(hf:n.fingers.length<=900)(hk:j.key.size<1000000):zwu n j owner=some (endN n j owner):=zEI (by
 obtain⟨z,h1,h2⟩:=zxE (owner:=owner) h hf hk
 have e:(zj3 n j owner).bind (fun r=>match r with
   | .inl (t7,b0,b3)=>some (b3,t7)
   | .inr (.inl (b0,b3,b5))=>some (b3,[])
   | .inr (.inr (.inl (b0,b3)))=>some (b3,[])
   | .inr (.inr (.inr (b0,b3)))=>some (b3,[]))=some (endL (setN n j) j owner):=by
  rw[h1,yaa,<-h2];rcases z with⟨a,b,c⟩|⟨a,b,c⟩|⟨a,b⟩|⟨a,b⟩<;>rfl
 rw[zsu,zai,zae,zai,zae];unfold endN;by_cases c1:owner.addr=n.me.addr
 ·rw[if_pos c1,if_neg (fun hh=>hh.1 c1)];exact e
 ·rw[if_neg c1];by_cases c4:j.kind=4
  ·rw[if_pos c4,if_neg (fun hh=>hh.2 c4)];exact e
  ·rw[if_neg c4,if_pos ⟨c1,c4⟩];exact zvv h)
theorem zvH{n:Node}{key:Int}(h:(zeE n key).2.2=false):∃x r,(zeE n key).2.1=x::r:=by
 unfold zeE at h⊢;split at h
 ·cases h
 ·rename_i f r hf
  try dsimp only
  by_cases c1:key=n.me.id
  ·rw[if_pos c1]at h;cases h
  rw[if_neg c1]at h⊢;by_cases c2:upto n.me.id key f.id=true
  ·rw[if_pos c2]at h;cases h
  rw[if_neg c2]at h⊢;by_cases c3:zef n key=true
  ·rw[if_pos c3]at h;cases h
  rw[if_neg c3]at h⊢;unfold zpY at h⊢;by_cases c4:(hops n.me n.list n.fingers key 4).length=0
  ·rw[if_pos c4]at h;cases h
  rw[if_neg c4]
  cases hh:hops n.me n.list n.fingers key 4 with
  |nil=>rw[hh]at c4;exact absurd rfl c4
  |cons x r=>exact⟨x,r,rfl⟩
theorem ztK{n:Node}{j:Job}(h:Sz n)(ok:NOk n)(hf:n.fingers.length<=900)(hj:JOk j):zkU n j=some (zlp n j):=zC7 (by
 rw[zqG,zai,zae];unfold zlp;by_cases c1:j.kind=1
 ·rw[if_pos c1,if_pos c1];exact ztJ (j:=zh1 j 0) h
 rw[if_neg c1,if_neg c1,zAj h ok hj.target,yaa]
 cases hb:(zeE n j.target).2.2 with
 |true=>
  obtain⟨⟨o,l,b⟩,hq⟩:∃z,zeE n j.target=z:=⟨_,rfl⟩
  rw[hq]at hb⊢;dsimp only at hb⊢
  rw[hb,cond_true,if_pos rfl];exact zC4 (j:=zh1 j 0) h hf hj.key
 |false=>
  obtain⟨x,r,hx⟩:=zvH hb;obtain⟨⟨o,l,b⟩,hq⟩:∃z,zeE n j.target=z:=⟨_,rfl⟩
  rw[hq]at hb hx⊢;dsimp only at hb hx⊢;rw[hb,cond_false,if_neg (by simp),hx,show(0:Int)=((0:Nat):Int)from rfl,zaW]
  exact ztJ (j:=zh1 j 1) h)
theorem ztn{j:Job}(h:JOk j)(t:Int):JOk (jTry j t):=⟨h.target,h.at_,h.key⟩
theorem zAl{n:Node}{j:Job}{why:Int}(h:Sz n)(ok:NOk n)(hf:n.fingers.length<=900)(hj:JOk j):zum n j why=some (zjH n j why):=zC5 (by
 have s0:¬3<=j.tries->∃a,zot n j=some ((zlp n (jTry j (if j.tries<0 then 1 else j.tries+1))).2,a,(zlp n (jTry j (if j.tries<0 then 1 else j.tries+1))).1):=fun h3=>by
  by_cases c0:j.tries<0
  ·refine⟨_,zrj (by
    rw[zi2,zar,zae,if_pos c0];show(zkU n (jTry j 1)).bind _=_
    rw[ztK h ok hf (ztn hj 1),yaa,if_pos c0])⟩
  ·refine⟨_,zrj (by
    rw[zi2,zar,zae,if_neg c0,zmh (a:=j.tries) (b:=1) (by omega) (by omega)];show(zkU n (jTry j (j.tries+1))).bind _=_
    rw[ztK h ok hf (ztn hj _),yaa,if_neg c0])⟩
 rw[zqE,zai,zae,zai,zae,zbg,zae];unfold zjH;by_cases c1:j.kind=1
 ·rw[if_pos c1,if_pos c1];show(zfA n (jDo j false)).bind _=_;rw[zdG h];rfl
 rw[if_neg c1,if_neg c1];by_cases c4:j.kind=4
 ·rw[if_pos c4,if_pos (.inl c4),zdv h];rfl
 rw[if_neg c4];by_cases c3:3<=j.tries
 ·rw[if_pos c3,if_pos (.inr c3),zdv h];rfl
 ·obtain⟨a,ha⟩:=s0 c3
  rw[if_neg c3,if_neg (by omega),ha];rfl)
theorem ztS{n:Node}{j:Job}{o:List Out}(h:Sz n):zel n j o=some (setN n j,n.fingers):=zvP (by
 rw[zkm,ztC h];rfl)
theorem zsQ{n:Node}{j:Job}{o:List Out}(h:Sz n):zdo n j o=some (setN n j,n.fingers):=ztx (by
 rw[zir,ztC h];rfl)
theorem zne{m n:Node}{j:Job}{o more:List Out}(ho:o.length<=1000)(hm:more.length<=1000):zfN m more n j o=some (n.fingers,o++more):=zuD (by
 rw[zjs,zay eOut (by omega) (by omega)];rfl)
theorem ztR{n:Node}{j:Job}{to_:Peer}{m:Msg}{why:Int}{o:List Out}(h:Sz n)(ho:o.length<=900)(hp:m.peers.length<=1000000)(hq:m.pairs.length<=1000000):
  zek to_ m why n j o=some ((askN (setN n (jAt j to_)) to_ m why j.id).1,jAt j to_,n.fingers,o++(askN (setN n (jAt j to_)) to_ m why j.id).2):=zvO (by
 show(zel n (jAt j to_) o).bind _=_;rw[ztS h,yaa]
 try dsimp only
 rw[zld (zdP h _) hp hq,yaa]
 try dsimp only
 rw[zne (by omega) (by have:=(zhY (to_:=to_) (m:=m) (why:=why) (job:=j.id) (zdP h (jAt j to_))).2;omega),yaa]
 rfl)
theorem zzA{n:Node}{j:Job}{to_:Peer}{m:Msg}{why:Int}{o:List Out}(h:Sz n)(ho:o.length<=900)(hp:m.peers.length<=1000000)(hq:m.pairs.length<=1000000):
  zkg to_ m why n j o=some ((askN (setN n (jAt j to_)) to_ m why j.id).1,jAt j to_,n.fingers,o++(askN (setN n (jAt j to_)) to_ m why j.id).2):=ztw (by
 show(zdo n (jAt j to_) o).bind _=_;rw[zsQ h,yaa]
 try dsimp only
 rw[zld (zdP h _) hp hq,yaa]
 try dsimp only
 rw[zne (by omega) (by have:=(zhY (to_:=to_) (m:=m) (why:=why) (job:=j.id) (zdP h (jAt j to_))).2;omega),yaa]
 rfl)
theorem zzC{n:Node}{j:Job}{to_:Peer}{o:List Out}(h:Sz n)(ho:o.length<=900):zk5 to_ n j o=some ((znv n j to_).1,jAt j to_,n.fingers,o++(znv n j to_).2):=zuB (ztR h ho (yaR _) (yaR _))
theorem zxO{n:Node}{j:Job}{to_:Peer}{o:List Out}(h:Sz n)(ho:o.length<=900):zjn to_ n j o=some ((znv n j to_).1,jAt j to_,n.fingers,o++(znv n j to_).2):=zsU (zzA h ho (yaR _) (yaR _))
theorem ztQ{n:Node}{j:Job}{to_:Peer}{o:List Out}(h:Sz n)(ho:o.length<=900):zi8 to_ n j o=some ((actN n j to_).1,jAt (jDo j true) to_,n.fingers,o++(actN n j to_).2):=zvN (by
 have e:=fun(m:Msg) h1 h2=>ztR (n:=n) (j:=jDo j true) (to_:=to_) (m:=m) (why:=5) (o:=o) h ho h1 h2
 rw[zkf,zai,zae,zai,zae];unfold actN actM;by_cases c2:j.kind=2
 ·rw[if_pos c2,if_pos c2];exact e _ (yaR _) (yaR _)
 rw[if_neg c2,if_neg c2];by_cases c3:j.kind=3
 ·rw[if_pos c3,if_pos c3];exact e _ (yaR _) (yaR _)
 ·rw[if_neg c3,if_neg c3];exact e _ (yaR _) (yaR _))
theorem zii{n:Node}{j:Job}{has:Bool}{val:ByteArray}{e:Int}{o:List Out}(h:Sz n):zb6 has val e n j o=some (zbt n j.id has val e,n.fingers):=zsV (by
 rw[zhW,zkB h];rfl)
theorem znX{n:Node}{j:Job}{has:Bool}{val:ByteArray}{e:Int}{o:List Out}(h:Sz n):zde has val e n j o=some (zbt n j.id has val e):=zqP (zkB h)
theorem zvM{n:Node}{j:Job}{has:Bool}{val:ByteArray}{e:Int}{o:List Out}(h:Sz n):zhV has val e n j o=some (zbt n j.id has val e,n.fingers):=zqQ (by
 rw[zf7,zkB h];rfl)
theorem zwF{n:Node}{j:Job}{owner:Peer}{mine:Bool}{o:List Out}(h:Sz n)(hf:n.fingers.length<=900):∃f,zjm owner mine n j o=some (zbt (zeb n (if mine=true then drpF j.bit n.fingers else setF n.fingers j.bit owner)) j.id false ⟨#[]⟩ 0,f):=by
 cases mine with
 |true=>
  refine⟨_,zlK (by
   rw[zeL,cond_true,zw8 (by omega),yaa];dsimp only;show zb6 false ⟨#[]⟩ 0 (zeb n (drpF j.bit n.fingers)) j o=_
   rw[zii (zk3 h (by have:=zvZ j.bit n.fingers;omega))];rfl)⟩
 |false=>
  refine⟨_,zlK (by
   rw[zeL,cond_false,zyy (by omega),yaa];show(zde false ⟨#[]⟩ 0 (zeb n (setF n.fingers j.bit owner)) j o).bind _=_
   rw[znX (zk3 h (by have:=zut n.fingers j.bit owner;omega))];rfl)⟩
theorem zzD{n:Node}{j:Job}{o:List Out}(h:Sz n)(ho:o.length<=900)(hk:j.key.size<1000000):∃f,zk6 n j o=some (if(zcQ n j.key j.val).2.2=0 then(zbt (zcQ n j.key j.val).1 j.id true j.val 0,f,o++(zcQ n j.key j.val).2.1)else(zbt n j.id false ⟨#[]⟩ (zcQ n j.key j.val).2.2,f,o)):=by
 refine⟨n.fingers,zuC ?_⟩;rw[zjp,zxI h hk,yaa];obtain⟨hk1,hk2⟩:=zv9 (key:=j.key) (val:=j.val) h;obtain⟨⟨a,b,c⟩,hq⟩:∃z,zcQ n j.key j.val=z:=⟨_,rfl⟩
 rw[hq]at hk1 hk2⊢;dsimp only at hk1 hk2⊢;rw[zai,zae];by_cases c0:c=0
 ·rw[if_pos c0,if_pos c0,zne (by omega) (by omega),yaa];dsimp only;rw[znX hk1];rfl
 ·rw[if_neg c0,if_neg c0,zvM h];rfl
theorem zGo(n:Node)(j:Job)(to_:Peer):actN (setN n j) j to_=actN n j to_:=by
 unfold actN;rw[zuu n (show j.id=(jAt (jDo j true) to_).id from rfl)]
theorem zGp(n:Node)(j:Job)(owner:Peer):endN (setN n j) j owner=endN n j owner:=by
 unfold endN;rw[zGo,zuu n rfl];rfl
theorem znq{n:Node}{j:Job}(hl:setN n j=n)(owner:Peer):endN n j owner=if owner.addr≠n.me.addr/\j.kind≠4 then actN n j owner else endL n j owner:=by
 unfold endN;rw[hl]
theorem zAD{n:Node}{j:Job}{owner:Peer}{o:List Out}(h:Sz n)(hf:n.fingers.length<=900)(hl:setN n j=n)(ho:o.length<=900)(hk:j.key.size<1000000)(h1:1<=j.kind)(h4:j.kind<=4):
  ∃q f,zi9 owner n j o=some ((endN n j owner).1,q,f,o++(endN n j owner).2):=by
 have s0:∀t:Bool,(t=true->j.kind=3/\owner.addr=n.me.addr)->(t=false->owner.addr≠n.me.addr/\j.kind≠4)->∃q f,zf3 owner n j o t=some ((endN n j owner).1,q,f,o++(endN n j owner).2):=fun t ht hff=>by
  rw[znq hl]
  cases t with
  |true=>
   obtain⟨k3,ka⟩:=ht rfl;rw[if_neg (fun hh=>hh.1 ka)];unfold endL;rw[if_neg (by omega),if_neg (by omega),if_pos k3];dsimp only;rw[List.append_nil]
   exact⟨_,_,zlJ (by
    rw[zeK,cond_true,(zyC (l:=n.store) (key:=j.key) (by have:=h.store;omega)).1,yaa]
    try dsimp only
    rw[zii h,yaa])⟩
  |false=>
   obtain⟨ka,k4⟩:=hff rfl;refine⟨_,_,zlJ (by rw[zeK,cond_false,if_pos ⟨ka,k4⟩];exact ztQ h ho)⟩
 have s1:∀t:Bool,(t=true->j.kind=2/\owner.addr=n.me.addr)->(t=false->j.kind≠4/\(owner.addr=n.me.addr->j.kind=3))->∃q f,zf4 owner n j o (yab.ieq owner.addr n.me.addr) t=some ((endN n j owner).1,q,f,o++(endN n j owner).2):=fun t ht hff=>by
  cases t with
  |true=>
   obtain⟨k2,ka⟩:=ht rfl;obtain⟨f,hkp⟩:=zzD (n:=n) (j:=j) (o:=o) h ho hk;rw[znq hl,if_neg (fun hh=>hh.1 ka)];unfold endL;rw[if_neg (by omega),if_pos k2];by_cases c0:(zcQ n j.key j.val).2.2=0
   ·rw[if_pos c0]at hkp⊢;exact⟨_,_,zc7 (by rw[zby,cond_true,hkp];rfl)⟩
   ·rw[if_neg c0]at hkp⊢
    exact⟨_,_,zc7 (by rw[zby,cond_true,hkp];simp;exact⟨rfl,rfl⟩)⟩
  |false=>
   obtain⟨k4,ka⟩:=hff rfl;by_cases k3:j.kind=3
   ·by_cases kk:owner.addr=n.me.addr
    ·obtain⟨q,f,hz⟩:=s0 true (fun _=>⟨k3,kk⟩) (fun hh=>by cases hh);exact⟨q,f,zc7 (by rw[zby,cond_false,zai,zae,if_pos k3,zai,decide_eq_true kk];exact hz)⟩
    ·obtain⟨q,f,hz⟩:=s0 false (fun hh=>by cases hh) (fun _=>⟨kk,k4⟩);exact⟨q,f,zc7 (by rw[zby,cond_false,zai,zae,if_pos k3,zai,decide_eq_false kk];exact hz)⟩
   ·obtain⟨q,f,hz⟩:=s0 false (fun hh=>by cases hh) (fun _=>⟨fun hh=>k3 (ka hh),k4⟩);exact⟨q,f,zc7 (by rw[zby,cond_false,zai,zae,if_neg k3];exact hz)⟩
 have s2:∀t:Bool,(t=true->j.kind=1/\owner.addr=n.me.addr)->(t=false->(j.kind=1->owner.addr≠n.me.addr))->∃q f,zf5 owner n j o t=some ((endN n j owner).1,q,f,o++(endN n j owner).2):=fun t ht hff=>by
  cases t with
  |true=>
   obtain⟨k1,ka⟩:=ht rfl
   refine⟨_,_,zc9 (by
    rw[zbz,cond_true,znq hl,if_neg (fun hh=>hh.1 ka)];unfold endL
    rw[if_pos k1];exact ztQ h ho)⟩
  |false=>
   have hn:=hff rfl;by_cases k4:j.kind=4
   ·obtain⟨f,hfi⟩:=zwF (n:=n) (j:=j) (owner:=owner) (mine:=yab.ieq owner.addr n.me.addr) (o:=o) h hf
    have e:endN n j owner=(zbt (zeb n (if yab.ieq owner.addr n.me.addr=true then drpF j.bit n.fingers else setF n.fingers j.bit owner)) j.id false ⟨#[]⟩ 0,[]):=by
     rw[znq hl,if_neg (fun hh:owner.addr≠n.me.addr/\j.kind≠4=>hh.2 k4)];unfold endL;rw[if_neg (show¬j.kind=1 by omega),if_neg (show¬j.kind=2 by omega),if_neg (show¬j.kind=3 by omega),zai];by_cases ka:owner.addr=n.me.addr
     ·rw[if_pos ka,if_pos (decide_eq_true ka)]
     ·rw[if_neg ka,if_neg (by simpa using ka)]
    refine⟨j,f,zc9 ?_⟩;rw[zbz,cond_false,show yab.ieq j.kind 4=true from decide_eq_true k4,cond_true,hfi,yaa,e];simp
   ·by_cases k2:j.kind=2
    ·by_cases kk:owner.addr=n.me.addr
     ·obtain⟨q,f,hz⟩:=s1 true (fun _=>⟨k2,kk⟩) (fun hh=>by cases hh);refine⟨q,f,zc9 ?_⟩;rw[zbz,cond_false,zai,zae,if_neg k4,zai,zae,if_pos k2];rw[show yab.ieq owner.addr n.me.addr=true from decide_eq_true kk]at hz⊢;exact hz
     ·obtain⟨q,f,hz⟩:=s1 false (fun hh=>by cases hh) (fun _=>⟨k4,fun hh=>absurd hh kk⟩);refine⟨q,f,zc9 ?_⟩;rw[zbz,cond_false,zai,zae,if_neg k4,zai,zae,if_pos k2];rw[show yab.ieq owner.addr n.me.addr=false from decide_eq_false kk]at hz⊢;exact hz
    ·obtain⟨q,f,hz⟩:=s1 false (fun hh=>by cases hh) (fun _=>⟨k4,fun hh=>by
      by_cases k1:j.kind=1
      ·exact absurd hh (hn k1)
      ·omega⟩)
     refine⟨q,f,zc9 ?_⟩;rw[zbz,cond_false,zai,zae,if_neg k4,zai,zae,if_neg k2];exact hz
 by_cases k1:j.kind=1
 ·by_cases kk:owner.addr=n.me.addr
  ·obtain⟨q,f,hz⟩:=s2 true (fun _=>⟨k1,kk⟩) (fun hh=>by cases hh);exact⟨q,f,zkj (by rw[zeI,zai,zae,if_pos k1,zai,decide_eq_true kk];exact hz)⟩
  ·obtain⟨q,f,hz⟩:=s2 false (fun hh=>by cases hh) (fun _ _=>kk);exact⟨q,f,zkj (by rw[zeI,zai,zae,if_pos k1,zai,decide_eq_false kk];exact hz)⟩
 ·obtain⟨q,f,hz⟩:=s2 false (fun hh=>by cases hh) (fun _ hh=>absurd hh k1);exact⟨q,f,zkj (by rw[zeI,zai,zae,if_neg k1];exact hz)⟩
theorem zsS{n:Node}{j:Job}{o:List Out}(h:Sz n)(ok:NOk n)(hf:n.fingers.length<=900)(hj:JOk j)(ho:o.length<=900)(h1:1<=j.kind)(h4:j.kind<=4):
  ∃q f,zdQ n j o=some ((zlp n j).1,q,f,o++(zlp n j).2):=by
 unfold zlp;by_cases c1:j.kind=1
 ·rw[if_pos c1];exact⟨_,_,zjr (by rw[zd5,zai,zae,if_pos c1];exact zzC (j:=zh1 j 0) h ho)⟩
 rw[if_neg c1]
 cases hb:(zeE n j.target).2.2 with
 |true=>
  rw[if_pos rfl];obtain⟨q,f,he⟩:=zAD (n:=setN n (zh1 j 0)) (j:=zh1 j 0) (owner:=(zeE n j.target).1) (o:=o) (zdP h _) hf (zuu n rfl) ho hj.key h1 h4;rw[zGp]at he;refine⟨q,n.fingers,zjr ?_⟩;rw[zd5,zai,zae,if_neg c1,zrm h ok,yaa];obtain⟨⟨ow,l,b⟩,hq⟩:∃z,zeE n j.target=z:=⟨_,rfl⟩
  rw[hq]at hb he⊢;dsimp only at hb he⊢;rw[hb,cond_true];show(zdo n (zh1 j 0) o).bind _=_;rw[zsQ h,yaa];show(zi9 ow (setN n (zh1 j 0)) (zh1 j 0) o).bind _=_
  rw[he];rfl
 |false=>
  rw[if_neg (by simp)];obtain⟨x,r,hx⟩:=zvH hb;rw[hx]
  refine⟨_,_,zjr (by
   rw[zd5,zai,zae,if_neg c1,zrm h ok,yaa];obtain⟨⟨ow,l,b⟩,hq⟩:∃z,zeE n j.target=z:=⟨_,rfl⟩
   rw[hq]at hb hx⊢;dsimp only at hb hx⊢;rw[hb,cond_false,hx,show(0:Int)=((0:Nat):Int)from rfl,zaW]
   exact zxO (j:=zh1 j 1) h ho)⟩
def prF(o:List Out):zf6->Node×List Out
 | .inl (n,_,_)=>(n,o)
 | .inr (n,_,_,r)=>(n,r)
theorem zzB{n:Node}{j:Job}{why:Int}{o:List Out}(h:Sz n)(ok:NOk n)(hf:n.fingers.length<=900)(hj:JOk j)(ho:o.length<=900)(h1:1<=j.kind)(h4:j.kind<=4):
  ∃z,zk4 why n j o=some z/\prF o z=((zjH n j why).1,o++(zjH n j why).2):=by
 unfold zjH;by_cases c1:j.kind=1
 ·rw[if_pos c1]
  refine⟨_,zd2 (by
   rw[zb5,zai,zae,if_pos c1];show(zel n (jDo j false) o).bind _=_
   rw[ztS h,yaa]),?_⟩
  simp[prF]
 rw[if_neg c1];by_cases c4:j.kind=4
 ·rw[if_pos (.inl c4)];refine⟨_,zd2 (by rw[zb5,zai,zae,if_neg c1,zai,zae,if_pos c4,zii h,yaa]),?_⟩;simp[prF]
 by_cases c3:3<=j.tries
 ·rw[if_pos (.inr c3)];refine⟨_,zd2 (by rw[zb5,zai,zae,if_neg c1,zai,zae,if_neg c4,zbg,zae,if_pos c3,zii h,yaa]),?_⟩;simp[prF]
 rw[if_neg (by omega)];by_cases c0:j.tries<0
 ·obtain⟨q,f,hs⟩:=zsS (n:=n) (j:=jTry j 1) (o:=o) h ok hf (ztn hj _) ho h1 h4;rw[if_pos c0]
  refine⟨_,zd2 (by
   rw[zb5,zai,zae,if_neg c1,zai,zae,if_neg c4,zbg,zae,if_neg c3,zar,zae,if_pos c0];show(zdQ n (jTry j 1) o).bind _=_
   rw[hs,yaa]),rfl⟩
 ·obtain⟨q,f,hs⟩:=zsS (n:=n) (j:=jTry j (j.tries+1)) (o:=o) h ok hf (ztn hj _) ho h1 h4;rw[if_neg c0]
  refine⟨_,zd2 (by
   rw[zb5,zai,zae,if_neg c1,zai,zae,if_neg c4,zbg,zae,if_neg c3,zar,zae,if_neg c0,zmh (a:=j.tries) (b:=1) (by omega) (by omega)];show(zdQ n (jTry j (j.tries+1)) o).bind _=_
   rw[hs,yaa]),rfl⟩
def zmo(n:Node)(id:Int):Option Job:=match n.jobs.find? (isJ id)with
 |none=>none
 |some x=>if 1<=x.kind/\x.kind<=4 then some x else none
theorem zvK{n:Node}{id:Int}{x:Job}(h:zmo n id=some x):x∈n.jobs/\x.id=id/\1<=x.kind/\x.kind<=4/\setN n x=n:=by
 unfold zmo at h;rcases ziu n.jobs id with⟨h1,h2,h3⟩|⟨k,y,h1,h2,h3,h4,h5,h6⟩
 ·rw[h3]at h;cases h
 ·rw[h5]at h;dsimp only at h;split at h
  ·rename_i hk;cases h;refine⟨List.mem_of_getElem? h3,h6,hk.1,hk.2,?_⟩;show zuz n (setJ n.jobs x)=n;rw[zET (n:=k) (by rw[h6];exact h2) h3];rfl
  ·cases h
theorem zDh{n:Node}{id:Int}(h:Sz n):zwG n id=some (match zmo n id with|some x=>(true,n,x,[])|none=>(false,n,⟨0,0,0,⟨#[]⟩,⟨#[]⟩,0,⟨0,0⟩,⟨0,0⟩,false,0,0,0⟩,[])):=zE4 (by
 have hj:=h.jobs;rw[zsR,zc1 h,yaa];dsimp only;rw[zmJ (by omega),yaa,zar,zae];unfold zmo;rcases ziu n.jobs id with⟨h1,h2,h3⟩|⟨k,x,h1,h2,h3,h4,h5,h6⟩
 ·rw[h1,if_pos (by omega),h3]
 ·rw[h1,if_neg (by omega),h5,zaW,h3,yaa,zar,zae,zar,zae];dsimp only;by_cases c1:x.kind<1
  ·rw[if_pos c1,if_neg (by omega)]
  ·by_cases c4:4<x.kind
   ·rw[if_neg c1,if_pos c4,if_neg (by omega)]
   ·rw[if_neg c1,if_neg c4,if_pos (by omega)]
    have e:∀(a b:List Entry) (c:List Pair) (d:List Pend) (f:List Job) (g:List Result),zmp n (k:Int) a b c d f g n=some (a,b,c,d,f,g,n,x):=fun a b c d f g=>zzE (by
     rw[znd,zaW,h3];rfl)
    show(zmp n (k:Int) n.pred n.list n.store n.pends n.jobs n.results n).bind _=_
    rw[e];rfl)
theorem zzd{n:Node}{id:Int}(h:Sz n):∃k:Int,zsx n id=some k/\(match zmo n id with|some x=>0<=k/\xget eJob n.jobs k=some x|none=>k<0):=by
 have hj:=h.jobs;unfold zmo;rcases ziu n.jobs id with⟨h1,h2,h3⟩|⟨k,x,h1,h2,h3,h4,h5,h6⟩
 ·rw[h3];exact⟨-1,zou (by rw[ziE,ziC (by omega),yaa,h1];rfl),by omega⟩
 ·rw[h5];dsimp only;by_cases c:1<=x.kind/\x.kind<=4
  ·rw[if_pos c]
   refine⟨(k:Int),zou (by
    rw[ziE,ziC (by omega),yaa,h1,zbg,zae,if_pos (by omega),zaW,h3,yaa,zar,zae,if_neg (by omega),zar,zae,if_neg (by omega)]),by omega,by rw[zaW,h3]⟩
  ·rw[if_neg c]
   refine⟨-1,zou (by
    rw[ziE,ziC (by omega),yaa,h1,zbg,zae,if_pos (by omega),zaW,h3,yaa,zar,zae,zar,zae];by_cases c1:x.kind<1
    ·rw[if_pos c1]
    ·rw[if_neg c1,if_pos (by omega)]),by show(-1:Int)<0;omega⟩
def zpP(n:Node)(id why:Int):Node×List Out:=match zmo n id with|some x=>zjH n x why|none=>(n,[])
def JsOk(n:Node):Prop:=∀j,j∈n.jobs->JOk j
theorem zxC{n:Node}{id why:Int}(h:Sz n)(ok:NOk n)(hf:n.fingers.length<=900)(hj:JsOk n):zia n id why=some (zpP n id why):=zza (by
 obtain⟨k,hk,hx⟩:=zzd (id:=id) h;rw[zm1,hk,yaa,zar,zae];unfold zpP
 cases ht:zmo n id with
 |none=>rw[ht]at hx;rw[if_pos hx]
 |some x=>
  rw[ht]at hx;rw[if_neg (by omega),hx.2,yaa]
  exact zAl h ok hf (hj x (zvK ht).1))
theorem zsP{n:Node}{j:Job}{o:List Out}:zij n j o=some (n.me.id,n.me.addr,n.clock,n.joined,n.pred,n.list,n.store,n.pends,n.jobs,n.results,n.rid,n.jobID,n.nextBit):=zuA rfl
theorem zxN{n:Node}{j:Job}{o:List Out}:zjk n j o=some n:=zsT rfl
theorem zwE{n:Node}{id why:Int}(h:Sz n)(ok:NOk n)(hf:n.fingers.length<=900)(hj:JsOk n):zgV n id why=some (zpP n id why):=zxM (by
 rw[zl8,zDh h,yaa];unfold zpP
 cases ht:zmo n id with
 |none=>dsimp only;rw[cond_false,zsP];rfl
 |some x=>
  obtain⟨t1,t2,t3,t4,t5⟩:=zvK ht;obtain⟨z,hz,hp⟩:=zzB (n:=n) (j:=x) (why:=why) (o:=[]) h ok hf (hj x t1) (by simp) t3 t4;dsimp only;rw[cond_true,hz,yaa];rw[List.nil_append]at hp;rw[<-show(zjH n x why)=((zjH n x why).1,(zjH n x why).2)from rfl]at hp;rw[<-hp];rcases z with⟨a,b,c⟩|⟨a,b,c,d⟩
  ·dsimp only;rw[zsP];rfl
  ·dsimp only;rw[zxN];rfl)
structure MSz(M:Msg):Prop where
 key:M.key.size<1000000
 pairs:M.pairs.length<=1000
 keys:Keys M.pairs
structure MPl(M:Msg):Prop where
 id:0<=M.id/\M.id<18446744073709551616
 peer:PeOk M.peer
def MFit(m:Msg):Prop:=m.peers.length<=1000000/\m.pairs.length<=1000000
def AFit(l:List Out):Prop:=∀o,o∈l->MFit o.msg
theorem AFit.nil:AFit []:=fun o ho=>by cases ho
theorem AFit.one{o:Out}(h:MFit o.msg):AFit [o]:=fun q hq=>by rw[List.mem_singleton.1 hq];exact h
theorem AFit.cons{o:Out}{l:List Out}(h:MFit o.msg)(hl:AFit l):AFit (o::l):=fun q hq=>by
 rcases List.mem_cons.1 hq with e|e
 ·rw[e];exact h
 ·exact hl q e
theorem AFit.app{a b:List Out}(ha:AFit a)(hb:AFit b):AFit (a++b):=fun q hq=>(yal.1 hq).elim (ha q) (hb q)
theorem ztX{n:Node}{to_:Peer}{m:Msg}{why job:Int}(h:MFit m):AFit (askN n to_ m why job).2:=by
 unfold askN;split
 ·exact AFit.nil
 ·exact AFit.one h
theorem zwQ(to_:Peer)(fresh:Bool):∀(cs:List (List Pair)) (n:Node),(∀c,c∈cs->c.length<=1000000)->AFit (zeV to_ fresh cs n).2
 | [],n,h=>AFit.nil
 |c::cs,n,h=>AFit.app (ztX ⟨yaR _,h c (by simp)⟩) (zwQ to_ fresh cs _ fun x hx=>h x (by simp[hx]))
theorem zFM{n:Node}{to_:Peer}{l:List Pair}{fresh:Bool}:AFit (hand n to_ l fresh).2:=zwQ to_ fresh (cut8 l) n fun c hc=>by have:=zBC hc;omega
theorem zwS(key val:ByteArray):∀(ps:List Peer) (n:Node),AFit (zdj key val ps n).2
 | [],n=>AFit.nil
 |p::ps,n=>AFit.app zFM (zwS key val ps _)
theorem zFX{n:Node}{key val:ByteArray}:AFit (zcQ n key val).2.1:=by
 unfold zcQ;split
 ·exact zwS key val _ _
 ·exact AFit.nil
def bigJ(x:Job):Bool:=decide (300<x.key.size)||decide (700<x.val.size)
def bigR(x:Result):Bool:=decide (300<x.key.size)||decide (700<x.val.size)
theorem zEo{n:Node}(h:n.jobs.length<=1000):zhO n 0=some (bif n.jobs.any bigJ then .inl ()else .inr ()):=
 zaV (σ:=Unit) eJob (l:=n.jobs) (by omega) (L:=fun i _=>zhO n i) (res:=fun _ _ rest=>bif rest.any bigJ then .inl ()else .inr ()) (Inv:=fun _ _=>True)
  (fun _ _ hh=>zpt (by rw[zig,hh]<;>rfl))
  (fun k x rest s _ hn hx hd h1 h2 h3 ih=>zpt (by
   rw[zig,h1,cond_true,h2,yaa,zbp,zbp,List.any_cons,bigJ];by_cases a:300<x.key.size
   ·rw[iltT (by omega),decide_eq_true a]<;>rfl
   ·rw[iltF (by omega),decide_eq_false a,cond_false];by_cases b:700<x.val.size
    ·rw[iltT (by omega),decide_eq_true b]<;>rfl
    ·rw[iltF (by omega),decide_eq_false b,cond_false,h3,ih () trivial]<;>rfl)) () trivial
theorem zEp{n:Node}(h:n.results.length<=1000):zhP n 0=some (bif n.results.any bigR then .inl ()else .inr ()):=
 zaV (σ:=Unit) zaf (l:=n.results) (by omega) (L:=fun i _=>zhP n i) (res:=fun _ _ rest=>bif rest.any bigR then .inl ()else .inr ()) (Inv:=fun _ _=>True)
  (fun _ _ hh=>zpu (by rw[zih,hh]<;>rfl))
  (fun k x rest s _ hn hx hd h1 h2 h3 ih=>zpu (by
   rw[zih,h1,cond_true,h2,yaa,zbp,zbp,List.any_cons,bigR];by_cases a:300<x.key.size
   ·rw[iltT (by omega),decide_eq_true a]<;>rfl
   ·rw[iltF (by omega),decide_eq_false a,cond_false];by_cases b:700<x.val.size
    ·rw[iltT (by omega),decide_eq_true b]<;>rfl
    ·rw[iltF (by omega),decide_eq_false b,cond_false,h3,ih () trivial]<;>rfl)) () trivial
structure Sm(n:Node):Prop where
 pred:n.pred.length<=5
 list:n.list.length<=40
 fingers:n.fingers.length<=80
 pends:n.pends.length<=100
 jobs:n.jobs.length<=20
 results:n.results.length<=40
 store:n.store.length<=100
 keys:Keys n.store
theorem Sm.sz{n:Node}(h:Sm n):Sz n:=by
 obtain⟨h1,h2,h3,h4,h5,h6,h7,_⟩:=h;exact⟨by omega,by omega,by omega,by omega,by omega,by omega,by omega⟩
structure MSm(m:Msg):Prop where
 key:m.key.size<=300
 val:m.val.size<=700
 peers:m.peers.length<=40
 pairs:m.pairs.length<=20
 all:∀p,p∈m.pairs->p.key.size<=300/\p.val.size<=700
end Go.Ab.Tryz
namespace Go.Ab.Tryz
open Go Go.Ab Go.Proofs Go.Lib
open Pe (PeOk EnOk)
open Bool renaming false_or->yb0
open List renaming length_append->yaf
open Nat renaming zero_le->yaR
open Option renaming bind_some->yaa
def isH(why addr:Int)(p:Pend):Bool:=decide (p.why=why/\p.to_.addr=addr)
theorem zH2(p q:Prop)[Decidable p][Decidable q]:(bif decide p then some (decide q)else some false)=some (decide (p/\q)):=by by_cases p<;>simp[*]
theorem zz4{l:List Pend}{why addr:Int}(hl:l.length<=10000):zt9 l why addr=some (l.any (isH why addr)):=zCz (by
 have hf:∀x:Pend,zqc x why addr=some (isH why addr x):=fun x=>zyX (zH2 _ _)
 have:=zbv zaI (l:=l) (by omega) (p:=isH why addr) (L:=fun i=>zeT l why addr i) (fun h=>zg3 (by simp[zcG,h]))
  (fun n x _ h1 h2 hp=>zg3 (by simp[zcG,h1,h2,hf,hp]))
  (fun n x r _ h1 h2 hp h=>zg3 (by simp[zcG,h1,h2,hf,hp,h]))
 rw[zqd];refine zrq ?_
 have e:zkr l why addr=some (fstI (isH why addr) l):=ztV (by
  rw[zje,this];unfold fstI
  cases fst (isH why addr) l<;>rfl)
 rw[zgW,e,yaa,zbg,ztj])
theorem zCV{l:List Pend}{why addr:Int}(hl:l.length<=10000):zwq l why addr=some (l.any (isH why addr)):=zEE (by
 have:=zaV (σ:=Unit) zaI (l:=l) (by omega) (L:=fun i _=>zjY l why addr i) (res:=fun _ _ rest=>if rest.any (isH why addr)=true then Sum.inl ()else Sum.inr ()) (Inv:=fun _ _=>True)
  (fun _ _ h=>zsn (by rw[zjZ,h];rfl))
  (fun n x rest s _ hn hx hd h1 h2 h3 ih=>zsn (by
   rw[zjZ,h1,h2,cond_true,yaa,zai,zai,List.any_cons,h3,ih () trivial];unfold isH
   by_cases a:x.why=why<;>by_cases b:x.to_.addr=addr<;>simp[a,b])) () trivial
 rw[zsm,this]
 cases l.any (isH why addr)<;>rfl)
def isP(p:Peer)(x:Entry):Bool:=decide (x.peer.id=p.id/\x.peer.addr=p.addr)
theorem zzX{l:List Entry}{p:Peer}(hl:l.length<=10000):zha l p.id p.addr=some (l.any (isP p)):=zpw (by
 have hf:∀x:Entry,zmK x p.id p.addr=some (isP p x):=fun x=>zwa (by
  rw[zkC,zai,zai];unfold isP
  by_cases a:x.peer.id=p.id<;>by_cases b:x.peer.addr=p.addr<;>simp[a,b])
 have:=zbv zab (l:=l) (by omega) (p:=isP p) (L:=fun i=>zdD l p.id p.addr i) (fun h=>zeP (by simp[zbY,h]))
  (fun n x _ h1 h2 hp=>zeP (by simp[zbY,h1,h2,hf,hp]))
  (fun n x r _ h1 h2 hp h=>zeP (by simp[zbY,h1,h2,hf,hp,h]))
 have e:zin l p.id p.addr=some (fstI (isP p) l):=zru (by
  rw[zg1,this];unfold fstI
  cases fst (isP p) l<;>rfl)
 rw[zfR,e,yaa,zbg,ztj])
def znE:Msg:=⟨11,0,0,false,0,⟨#[]⟩,⟨#[]⟩,⟨0,0⟩,[],[]⟩
def zxZ(n:Node)(p:Peer):Bool:=decide (p.addr=n.me.addr)||(n.list.any (isP p)||n.pends.any (isH 3 p.addr))
def zf1(n:Node)(p:Peer):Node×List Out:=if zxZ n p=true then(n,[])else askN n p znE 3 0
def zci:List Peer->Node->Node×List Out
 | [],n=>(n,[])
 |p::l,n=>((zci l (zf1 n p).1).1,(zf1 n p).2++(zci l (zf1 n p).1).2)
theorem zt7{n:Node}{p:Peer}(h:Sz n):Sz (zf1 n p).1/\(zf1 n p).2.length<=1:=by
 unfold zf1;split
 ·exact⟨h,by simp⟩
 ·exact zhY h
theorem zBL:∀(l:List Peer) {n:Node},Sz n->Sz (zci l n).1/\(zci l n).2.length<=l.length
 | [],n,h=>⟨h,by simp[zci]⟩
 |p::l,n,h=>by
  obtain⟨h1,h2⟩:=zt7 (p:=p) h;obtain⟨h3,h4⟩:=zBL l h1;refine⟨h3,?_⟩;simp only[zci,yaf,List.length_cons];omega
theorem zyM:∀(l:List Peer) (n:Node),AFit (zci l n).2
 | [],n=>AFit.nil
 |p::l,n=>by
  have h1:AFit (zf1 n p).2:=by
   unfold zf1;split
   ·exact AFit.nil
   ·exact ztX ⟨yaR _,yaR _⟩
  exact h1.app (zyM l _)
theorem zxj{n:Node}{l:List Peer}(h:Sz n)(hl:l.length<=10000):zpZ n l=some (zci l n):=zyK (by
 rw[zmL,zc1 h,yaa];dsimp only
 have:=zaV (σ:=Node×List Out) zad (l:=l) (by omega) (L:=fun i s=>zdq l i s.1 n.pred n.list n.fingers n.store n.pends n.jobs n.results s.2)
  (res:=fun k s rest=>((zci rest s.1).1,n.pred,n.list,n.fingers,n.store,n.pends,n.jobs,n.results,s.2++(zci rest s.1).2)) (Inv:=fun k s=>Sz s.1/\s.2.length<=k)
  (fun s hi h0=>znA (by rw[zg6,h0];simp[zci]))
  (fun k x rest s hi hn hx hd h1 h2 h3 ih=>znA (by
   obtain⟨h4,h5⟩:=zt7 (p:=x) hi.1;have h6:=hi.2;have hli:=hi.1.list;have hpe:=hi.1.pends;have go:=ih ((zf1 s.1 x).1,s.2++(zf1 s.1 x).2) ⟨h4,by simp only[yaf];omega⟩;rw[zg6,h1,h2,cond_true,yaa,zzX (by omega),yaa,zai,zae,zz4 (by omega),yaa,h3];simp only[zci];have hk:zf1 s.1 x=if zxZ s.1 x=true then(s.1,[])else askN s.1 x znE 3 0:=rfl
   unfold zxZ at hk;by_cases c1:x.addr=s.1.me.addr
   ·rw[decide_eq_true c1,Bool.true_or,if_pos rfl]at hk;rw[if_pos c1];rw[hk]at go⊢;simpa using go
   ·rw[if_neg c1];rw[decide_eq_false c1,yb0]at hk
    cases c2:s.1.list.any (isP x)with
    |true=>
     rw[c2,Bool.true_or,if_pos rfl]at hk
     rw[cond_true];rw[hk]at go⊢;simpa using go
    |false=>
     rw[c2,yb0]at hk;rw[cond_false]
     cases c3:s.1.pends.any (isH 3 x.addr)with
     |true=>
      rw[c3,if_pos rfl]at hk
      rw[cond_true];rw[hk]at go⊢;simpa using go
     |false=>
      rw[c3,if_neg (by simp)]at hk;rw[hk]at h5;rw[cond_false];show(zjh s.1 x znE 3 0).bind _=_;rw[eta2 (zld hi.1 (by simp[znE]) (by simp[znE])),yaa];dsimp only
      rw[zay eOut (by omega) (by omega),cond_true];rw[hk]at go⊢;simpa using go)) (n,[]) ⟨h,by simp⟩
 dsimp only at this;have e:(⟨⟨n.me.id,n.me.addr⟩,n.clock,n.joined,n.pred,n.list,n.fingers,n.store,n.pends,n.jobs,n.results,n.rid,n.jobID,n.nextBit⟩:Node)=n:=rfl;rw[e,this,yaa]
 simp)
theorem zAm{n:Node}{l:List Peer}(h:Sz n)(hl:l.length<=10000):zun n l=some (zci l n):=zC8 (by
 have:=zaV (σ:=Node×List Out) zad (l:=l) (by omega) (L:=fun i s=>zcS l i s.1 s.2)
  (res:=fun k s rest=>((zci rest s.1).1,s.2++(zci rest s.1).2)) (Inv:=fun k s=>Sz s.1/\s.2.length<=k)
  (fun s hi h0=>zrl (by rw[zi4,h0];simp[zci]))
  (fun k x rest s hi hn hx hd h1 h2 h3 ih=>zrl (by
   obtain⟨h4,h5⟩:=zt7 (p:=x) hi.1;have h6:=hi.2;have hli:=hi.1.list;have hpe:=hi.1.pends;have go:=ih ((zf1 s.1 x).1,s.2++(zf1 s.1 x).2) ⟨h4,by simp only[yaf];omega⟩
   have hin:∀b,zcR l (k:Int) b 0 s.1 s.2=some ((k:Int),b||s.1.list.any (isP x),s.1,s.2):=fun b=>
    zaV (σ:=Bool) zab (l:=s.1.list) (by omega) (L:=fun i t=>zcR l (k:Int) t i s.1 s.2) (res:=fun _ t rest=>((k:Int),t||rest.any (isP x),s.1,s.2)) (Inv:=fun _ _=>True)
     (fun t _ h0=>zrk (by rw[zi3,h0];simp))
     (fun j y rest' t _ hn' hx' hd' g1 g2 g3 ih'=>zrk (by
      rw[zi3,g1,cond_true,g2,yaa,h2,yaa,zai,zai,g3,ih' true trivial,ih' false trivial,List.any_cons];unfold isP;cases t
      ·by_cases a:y.peer.id=x.id<;>by_cases b:y.peer.addr=x.addr<;>simp[a,b]
      ·simp)) b trivial
   have h7:=(zhY (to_:=x) (m:=znE) (why:=3) (job:=0) hi.1).2
   have hend:∀b,b=(decide (x.addr=s.1.me.addr)||s.1.pends.any (isH 3 x.addr))->(bif (b||s.1.list.any (isP x))then zcS l ((k+1:Nat):Int) s.1 s.2 else(zh7 s.1 x znE 3 0).bind fun q=>bif zaA eOut 136 s.2 q.2 then zcS l ((k+1:Nat):Int) q.1 (s.2++q.2)else none)=some ((zci (x::rest) s.1).1,s.2++(zci (x::rest) s.1).2):=fun b hb=>by
    have hk:zf1 s.1 x=if(b||s.1.list.any (isP x))=true then(s.1,[])else askN s.1 x znE 3 0:=by
     rw[hb];unfold zf1 zxZ;cases decide (x.addr=s.1.me.addr)<;>cases s.1.pends.any (isH 3 x.addr)<;>cases s.1.list.any (isP x)<;>rfl
    simp only[zci]
    cases c:(b||s.1.list.any (isP x))with
    |true=>rw[c,if_pos rfl]at hk;rw[cond_true];rw[hk]at go⊢;simpa using go
    |false=>
     rw[c,if_neg (by simp)]at hk;rw[cond_false,zjX hi.1,yaa,zay eOut (by omega) (by omega),cond_true];rw[hk]at go⊢;simpa using go
   rw[zi4,h1,h2,cond_true,yaa,zai,zae,zCV (by omega),yaa,hin,hin,yaa,yaa];dsimp only;rw[h2,yaa,h3];by_cases c1:x.addr=s.1.me.addr
   ·rw[if_pos c1];exact hend true (by rw[decide_eq_true c1];rfl)
   ·rw[if_neg c1];exact hend _ (by rw[decide_eq_false c1];rfl))) (n,[]) ⟨h,by simp⟩
 rw[zqH,this]
 simp)
end Go.Ab.Tryz
namespace Go.Ab.Tryz
open Go Go.Ab Go.Proofs Go.Lib
open Pe (dist PeOk EnOk)
open Nat renaming zero_le->yaR
open Option renaming bind_some->yaa
def Good(r:Node×List Out):Prop:=Sz r.1/\r.2.length<=200/\AFit r.2
theorem Good.same{r:Node×List Out}(h:Good r):zkT r.1 r.1=some true/\zkS r.2 r.2=some true:=⟨zrc h.1,zrb ⟨by have:=h.2.1;omega,h.2.2⟩⟩
theorem Good.nil{n:Node}(h:Sz n):Good (n,[]):=⟨h,yaR _,AFit.nil⟩
theorem Good.ask{n:Node}{to_:Peer}{m:Msg}{why job:Int}(h:Sz n)(hm:MFit m):Good (askN n to_ m why job):=⟨(zhY h).1,by have:=(zhY (to_:=to_) (m:=m) (why:=why) (job:=job) h).2;omega,ztX hm⟩
theorem zwP{n:Node}{j:Job}{p:Peer}(h:Sz n):Good (znv n j p):=Good.ask (zdP h _) ⟨yaR _,yaR _⟩
theorem zx6{n:Node}{j:Job}{p:Peer}(h:Sz n):Good (actN n j p):=Good.ask (zdP h _) (by
 unfold actM;split
 ·exact⟨yaR _,yaR _⟩
 ·split<;>exact⟨yaR _,yaR _⟩)
theorem zD6{n:Node}{j:Job}{p:Peer}(h:Sz n)(hf:n.fingers.length<=900):Good (endL n j p):=by
 unfold endL;split
 ·exact zx6 h
 split
 ·have hk:=zv9 (key:=j.key) (val:=j.val) h;split
  ·exact⟨zjE hk.1 _ _ _ _,by have:=hk.2;show(zcQ n j.key j.val).2.1.length<=200;omega,zFX⟩
  ·exact Good.nil (zjE h _ _ _ _)
 split
 ·exact Good.nil (zjE h _ _ _ _)
 split
 ·exact Good.nil (zjE (zk3 h (by have:=zvZ j.bit n.fingers;omega)) _ _ _ _)
 ·exact Good.nil (zjE (zk3 h (by have:=zut n.fingers j.bit p;omega)) _ _ _ _)
theorem zFF{n:Node}{j:Job}{p:Peer}(h:Sz n)(hf:n.fingers.length<=900):Good (endN n j p):=by
 unfold endN;split
 ·exact zx6 h
 ·exact zD6 (zdP h _) hf
theorem zES{n:Node}{j:Job}(h:Sz n)(hf:n.fingers.length<=900):Good (zlp n j):=by
 unfold zlp;split
 ·exact zwP h
 split
 ·exact zFF h hf
 split
 ·exact Good.nil h
 ·exact zwP h
theorem zD9{n:Node}{j:Job}{why:Int}(h:Sz n)(hf:n.fingers.length<=900):Good (zjH n j why):=by
 unfold zjH;split
 ·exact Good.nil (zdP h _)
 split
 ·exact Good.nil (zjE h _ _ _ _)
 ·exact zES h hf
theorem zCc{n:Node}{id why:Int}(h:Sz n)(hf:n.fingers.length<=900):Good (zpP n id why):=by
 unfold zpP;split
 ·exact zD9 h hf
 ·exact Good.nil h
theorem zCv(n:Node):∃b,zsN n=some b/\(b=false->Sm n/\n.jobs.any bigJ=false):=by
 refine Exists.elim (?_:∃b,zls n=some b/\(b=false->Sm n/\n.jobs.any bigJ=false)) fun b hb=>⟨b,zAC hb.1,hb.2⟩
 rw[zls,zat,zat,zat,zat,zat,zat,zar,zar,zar,zar,zar,zar,zae,zae,zae,zae,zae,zae,zFY,yaa];have no:∃b,some true=some b/\(b=false->Sm n/\n.jobs.any bigJ=false):=⟨true,rfl,fun h=>by cases h⟩
 by_cases h1:(5:Int)<(n.pred.length:Int)
 ·rw[if_pos h1];exact no
 rw[if_neg h1];by_cases h2:(40:Int)<(n.list.length:Int)
 ·rw[if_pos h2];exact no
 rw[if_neg h2];by_cases h3:(80:Int)<(n.fingers.length:Int)
 ·rw[if_pos h3];exact no
 rw[if_neg h3];by_cases h4:(100:Int)<(n.pends.length:Int)
 ·rw[if_pos h4];exact no
 rw[if_neg h4];by_cases h5:(20:Int)<(n.jobs.length:Int)
 ·rw[if_pos h5];exact no
 rw[if_neg h5];by_cases h6:(40:Int)<(n.results.length:Int)
 ·rw[if_pos h6];exact no
 rw[if_neg h6]
 cases h7:zvm n.store with
 |true=>exact no
 |false=>
  obtain⟨h8,h9⟩:=zEj h7
  have e:znb n=some (bif n.jobs.any bigJ then true else bif n.results.any bigR then true else false):=zwD (by
   rw[zk2,zEo (by omega),yaa];cases n.jobs.any bigJ
   ·dsimp only[cond_false];rw[zEp (by omega),yaa];cases n.results.any bigR<;>rfl
   ·rfl)
  rw[cond_false,e];refine⟨_,rfl,fun hh=>⟨⟨by omega,by omega,by omega,by omega,by omega,by omega,h8,h9⟩,?_⟩⟩
  cases hb:n.jobs.any bigJ with
  |true=>rw[hb]at hh;cases hh
  |false=>rfl
def JRng(n:Node):Prop:=∀j,j∈n.jobs->(0<=j.target/\j.target<18446744073709551616)/\PeOk j.at_
theorem jsOk{n:Node}(h:JRng n)(hb:n.jobs.any bigJ=false):JsOk n:=fun j hj=>by
 have:=List.any_eq_false.1 hb j hj;simp only[bigJ,Bool.or_eq_true,decide_eq_true_eq,not_or]at this;exact⟨(h j hj).1,(h j hj).2,by omega⟩
end Go.Ab.Tryz
namespace Go.Ab.Tryz
open Go Go.Ab Go.Proofs Go.Lib
open Pe (PeOk EnOk)
open Nat renaming le_trans->yaP
open Option renaming bind_some->yaa
def isA(addr:Int)(f:Finger):Bool:=decide (f.peer.addr=addr)
def drpA(addr:Int)(l:List Finger):List Finger:=l.filter fun f=>!isA addr f
theorem zBG(addr:Int)(l:List Finger):(drpA addr l).length<=l.length:=List.length_filter_le _ _
theorem zxd{l:List Finger}{addr:Int}(hl:l.length<=1000):zpR l addr=some (drpA addr l):=zyw (by
 have hf:∀x:Finger,zjI x addr=some (isA addr x):=fun x=>zv2 rfl
 have:=zbv zaa (l:=l) (by omega) (p:=isA addr) (L:=fun i=>zdi l addr i) (fun h=>zee (by simp[zbN,h]))
  (fun n x _ h1 h2 hp=>zee (by simp[zbN,h1,h2,hf,hp]))
  (fun n x r _ h1 h2 hp h=>zee (by simp[zbN,h1,h2,hf,hp,h]))
 have hd:Dels zaa (isA addr) (fun i j r=>zbS addr i j r):=fun i j r q h=>zms (by rw[zdR];simpa only[hf,yaa]using h)
 have e:zhf l addr=some (fstI (isA addr) l):=zpA (by
  rw[zfV,this];unfold fstI
  cases fst (isA addr) l<;>rfl)
 rw[zmF,zay zaa (by simp;omega) (by omega),cond_true];refine zoD ?_;rw[zeZ,e,yaa,zai,zae];unfold fstI
 cases hq:fst (isA addr) l with
 |none=>rw[if_pos rfl];exact congrArg some (List.filter_eq_self.2 fun y hy=>by simp[zkz hq y hy]).symm
 |some n=>
  rw[if_neg (by show¬(n:Int)=-1;omega)]
  exact zFx zaa hd (⟨0,⟨0,0⟩⟩:Finger) (by omega) hq)
theorem zD1(addr:Int)(l:List Finger):(l.flatMap fun x=>bif isA addr x then []else [x])=drpA addr l:=by
 unfold drpA
 induction l with
 |nil=>rfl
 |cons x l ih=>rw[List.flatMap_cons,ih,List.filter_cons];cases isA addr x<;>rfl
theorem zAd{l:List Finger}{addr:Int}(hl:l.length<=1000):zue l addr=some (drpA addr l):=zCO (by
 have h:=zk9 zaa (l:=l) (by omega) (f:=fun x=>bif isA addr x then []else [x]) (L:=fun i acc=>ziB l addr i acc) 1 (fun x _=>by cases isA addr x<;>simp)
  (fun acc h=>zq5 (by simp[zgq,h]))
  (fun n x acc r ha hn _ h1 h2 h=>zq5 (by
   cases hx:isA addr x with
   |true=>
    have hx':Ops.std.ieq x.peer.addr addr=true:=hx;simp only[hx,cond_true,List.append_nil]at h
    simp[zgq,h1,h2,hx',h]
   |false=>
    have hx':Ops.std.ieq x.peer.addr addr=false:=hx;simp only[hx,cond_false]at h
    simp[zgq,h1,h2,hx',zay zaa (b:=24) (l:=acc) (l':=[x]) (by simp;omega) (by omega),h]))
 rw[zqr,h,zD1])
def zdt(n:Node)(a:Int):Node:=⟨n.me,n.clock,n.joined,if Pe.place (Pe.miss n.list a) a<0 then Pe.drp a n.pred else n.pred,Pe.miss n.list a,if Pe.place (Pe.miss n.list a) a<0 then drpA a n.fingers else n.fingers,n.store,n.pends,n.jobs,n.results,n.rid,n.jobID,n.nextBit⟩
def zkF(n:Node)(p:Pend):Node×List Out:=if p.why=4\/p.why=5 then zpP (zdt n p.to_.addr) p.job 18 else(zdt n p.to_.addr,[])
theorem zlb{n:Node}(h:Sz n)(a:Int):Sz (zdt n a):=by
 have h1:=Pe.miss_le n.list a;have h2:=Pe.drp_le a n.pred;have h3:=zBG a n.fingers;refine⟨?_,yaP h1 h.list,?_,h.store,h.pends,h.jobs,h.results⟩
 ·unfold zdt;dsimp only;split
  ·exact yaP h2 h.pred
  ·exact h.pred
 ·unfold zdt;dsimp only;split
  ·exact yaP h3 h.fingers
  ·exact h.fingers
theorem zp3{n:Node}(a:Int):(zdt n a).fingers.length<=n.fingers.length:=by
 unfold zdt;dsimp only;split
 ·exact zBG a n.fingers
 ·exact Nat.le_refl _
theorem zF2{l:List Entry}{a:Int}{x:Entry}(h:x∈Pe.miss l a):∃y,y∈l/\x.peer=y.peer:=by
 unfold Pe.miss at h;split at h
 ·exact⟨x,h,rfl⟩
 ·split at h
  ·exact⟨x,h,rfl⟩
  ·rename_i y hy;split at h
   ·exact⟨x,List.mem_of_mem_eraseIdx h,rfl⟩
   ·rcases List.mem_or_eq_of_mem_set h with h|h
    ·exact⟨x,h,rfl⟩
    ·exact⟨y,List.mem_of_getElem? hy,by rw[h]⟩
theorem ztF{n:Node}(ok:NOk n)(a:Int):NOk (zdt n a):=by
 refine⟨ok.me,?_,fun x hx=>?_,?_⟩
 ·unfold zdt;dsimp only;split
  ·exact fun x hx=>ok.pred x (List.mem_filter.1 hx).1
  ·exact ok.pred
 ·obtain⟨y,hy,e⟩:=zF2 hx;rw[e];exact ok.list y hy
 ·unfold zdt;dsimp only;split
  ·exact fun x hx=>ok.fingers x (List.mem_filter.1 hx).1
  ·exact ok.fingers
theorem zvo{n:Node}{p:Pend}(h:Sz n)(ok:NOk n)(hf:n.fingers.length<=900)(hj:JsOk n):zmM n p=some (zkF n p):=zwb (by
 have hli:=h.list;have hm:=Pe.miss_le n.list p.to_.addr;have hw:=zwE (id:=p.job) (why:=18) (zlb h p.to_.addr) (ztF ok p.to_.addr) (yaP (zp3 _) hf) hj;rw[zkD,zc1 h,yaa];dsimp only;rw[Pe.peers_Miss_eq hli,yaa,Pe.peers_Place_eq (by omega),yaa,zar,zae,zxd h.fingers,yaa,Pe.peers_Drop_eq h.pred,yaa,zai,zai,zae,zae,zae,zae,zkF];unfold zdt at hw⊢
 by_cases c:Pe.place (Pe.miss n.list p.to_.addr) p.to_.addr<0<;>by_cases c4:p.why=4<;>by_cases c5:p.why=5<;>simp only[c,c4,c5,if_true,if_false,true_or,or_true,or_self]at hw⊢ <;>first|exact hw|rfl|omega)
theorem zxF{n:Node}{p:Pend}(h:Sz n)(ok:NOk n)(hf:n.fingers.length<=900)(hj:JsOk n):zqI n p=some (zkF n p):=zze (by
 have hli:=h.list;have hm:=Pe.miss_le n.list p.to_.addr;have hw:=zxC (id:=p.job) (why:=18) (zlb h p.to_.addr) (ztF ok p.to_.addr) (yaP (zp3 _) hf) hj;rw[zm3,Pe.r27_Miss_eq hli,yaa,Pe.r27_Place_eq (by omega),yaa,zar,zae,zAd h.fingers,yaa,Pe.r27_Drop_eq h.pred,yaa,zai,zai,zae,zae,zae,zae,zkF];unfold zdt at hw⊢
 by_cases c:Pe.place (Pe.miss n.list p.to_.addr) p.to_.addr<0<;>by_cases c4:p.why=4<;>by_cases c5:p.why=5<;>simp only[c,c4,c5,if_true,if_false,true_or,or_true,or_self]at hw⊢ <;>first|exact hw|rfl|omega)
theorem zFg:znW=some true:=zrB ((zKU 60).call _ _ _ _ (by kernel_rfl))
theorem zz1{n:Node}{p:Pend}(h:Sz n)(hf:n.fingers.length<=900):Good (zkF n p):=by
 unfold zkF;split
 ·exact zCc (zlb h _) (yaP (zp3 _) hf)
 ·exact Good.nil (zlb h _)
theorem law_LMisses{n:Node}{p:Pend}{l:List Peer}(ok:NOk n)(hr:JRng n):znV n p l=some true:=ztv (by
 obtain⟨b,hb,hs⟩:=zCv n;rw[zip,hb,yaa,zFg,zat,zar,zae]
 cases hbb:b with
 |true=>rfl
 |false=>
  rw[cond_false];by_cases hl:(60:Int)<(l.length:Int)
  ·rw[if_pos hl]
  ·rw[if_neg hl];obtain⟨sm,hjb⟩:=hs hbb;have h:=sm.sz;have hj:=jsOk hr hjb;have hf:n.fingers.length<=900:=by have:=sm.fingers;omega
   have g1:=zz1 (p:=p) h hf;obtain⟨m1,m2⟩:=zBL l h;have p1:=zvo (p:=p) h ok hf hj;have q1:=zxF (p:=p) h ok hf hj;have p2:=zxj (l:=l) h (by omega);have q2:=zAm (l:=l) h (by omega);obtain⟨s1,t1⟩:=g1.same;have s2:zkT (zci l n).1 (zci l n).1=some true:=zrc m1;have t2:zkS (zci l n).2 (zci l n).2=some true:=zrb ⟨by omega,zyM l n⟩;obtain⟨⟨a,o⟩,ha⟩:∃z,zkF n p=z:=⟨_,rfl⟩
   obtain⟨⟨c,q⟩,hc⟩:∃z,zci l n=z:=⟨_,rfl⟩
   rw[ha]at p1 q1 s1 t1;rw[hc]at p2 q2 s2 t2;dsimp only at s1 t1 s2 t2;rw[p1,yaa,q1,p2,q2];dsimp only[yaa]
   rw[s1,yaa,cond_true,t1,yaa,cond_true,s2,yaa,cond_true,t2,yaa,cond_true])
end Go.Ab.Tryz
namespace Go.Ab.Tryz
open Go Go.Ab
open Pe (PeOk EnOk)
theorem peOk{p:Peer}(h:p.Ok):PeOk p:=⟨h.1.1,by have:=h.1.2;omega⟩
theorem enOk{l:List Entry}(h:OkL Entry.Ok l):EnOk l:=fun x hx=>peOk (h.1 x hx).1
theorem nodeOk{n:Node}(h:n.Ok):NOk n:=by
 obtain⟨h1,h2,h3,h4,h5,h6,h7⟩:=h;exact⟨peOk h1,enOk h4,enOk h5,fun x hx=>peOk (h6.1 x hx).2⟩
theorem jobsOk{n:Node}(h:n.Ok):JRng n:=by
 obtain⟨h1,h2,h3,h4,h5,h6,h7,h8,h9,h10⟩:=h;intro j hj;obtain⟨j1,j2,j3,j4,j5,j6,j7,j8,j9⟩:=h9.1 j hj;exact⟨⟨j6.1,by have:=j6.2;omega⟩,peOk j8⟩
end Go.Ab.Tryz
