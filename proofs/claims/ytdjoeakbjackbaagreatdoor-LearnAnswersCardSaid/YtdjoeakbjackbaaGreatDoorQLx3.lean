/- Our texts for this statement, merged: what its theorem leads to. -/
import Derived.Shelf.SlicesE.Clone
import Derived.Deep.Slices
import Derived.Shelf.Spec.SlicesInsertGrow
import Derived.Shelf.Unicode.DecodeAny
import Derived.Shelf.SlGeneric
import Derived.Test.YtdjoeakbjackbaaGreatDoorProg
import Derived.Deep.AppendLies
import Derived.Deep.RegionHeld3
import Derived.KernelRfl
import Derived.LoopTactic
import Derived.OwnWalk
import Derived.StillTactics
import Derived.Tactics
import Derived.Tactics2
import Derived.WalkKit
import Derived.WalkSpells
import Derived.RangeFuncBox
import Derived.Maps.AppendAt
import Derived.Deep.DrawnRows
import Derived.Deep.Draws
import Derived.Deep.RegionLaw
import Derived.Deep.RegionWith
import Derived.Sort.Grow
import Derived.Sort.Row
import Derived.Shelf.SlLaysF0
import Derived.Shelf.SlSortCmp.NoneTotal
import Derived.LoopIn
import Derived.LoopNIn
import Derived.OwnWalkIn
import Derived.RangeFuncCalls
import Derived.RangeFuncLeaves
import Derived.RegionIn
import Derived.Shelf.Abstract
import Derived.Shelf.RegionOpen
import Derived.TacticsInMore
import Derived.RangeFuncMany
import Derived.LaidMore
import Derived.LaidOnce
import Derived.Lay
import Derived.Lib.LaidU8T
import Derived.PinnedBridge
import Derived.Test.YtdjoeakbjackbaaGreatDoorRows
import Derived.Test.YtdjoeakbjackbaaGreatDoorQLx2
set_option linter.unusedVariables false
set_option linter.unusedSimpArgs false
noncomputable section
namespace Go.Ab
open Go
open Classical renaming choose->ybI,choose_spec->yaC
open Go.Ab.Ops renaming std->yac
open List renaming replicate->yaA
open Nat renaming add_comm->ycv
structure Le(I J:Ifc):Prop where
 o:J.o=I.o
 prim:J.prim=I.prim
 call:∀f a s r,I.call f a s=some r->J.call f a s=some r
 loop:∀lv m d s r,I.loop lv m d s=some r->J.loop lv m d s=some r
 seg:∀af d s r,I.seg af d s=some r->J.seg af d s=some r
theorem Le.refl(I:Ifc):Le I I:=⟨rfl,rfl,fun _ _ _ _ h=>h,fun _ _ _ _ _ h=>h,fun _ _ _ _ h=>h⟩
theorem Le.trans{I J K:Ifc}(x:Le I J)(y:Le J K):Le I K:=⟨y.o.trans x.o,y.prim.trans x.prim,fun f a s r h=>y.call f a s r (x.call f a s r h),fun lv m d s r h=>y.loop lv m d s r (x.loop lv m d s r h),fun af d s r h=>y.seg af d s r (x.seg af d s r h)⟩
theorem zIp{I J:Ifc}(L:Le I J){f:FuncId}{args:List AV}{h:Store}{r:AV×Store×Nat}(he:zde I f args h=some r):zde J f args h=some r:=by
 unfold zde at he⊢;rw[L.o];split at he
 ·cases he
 ·rename_i args' ix hl;split at he
  ·cases he
  ·rename_i s hs;split at he
   ·cases he
   ·rename_i r' h2 hc;rw[L.call _ _ _ _ hc];exact he
theorem zIq{I J:Ifc}(L:Le I J){f:FuncId}{args:List AV}{h:Store}{r:AV×Store×Nat}(he:zfg I f args h=some r):zfg J f args h=some r:=by
 unfold zfg zlD at he⊢;generalize zcE h 64 (rfs args) []=ix at he⊢;split at he
 ·cases he
 ·split at he
  ·cases he
  ·split at he
   ·cases he
   ·split at he
    ·cases he
    ·rename_i hc;rw[L.call _ _ _ _ hc];exact he
theorem zuL{I J:Ifc}(L:Le I J){f:FuncId}{args:List AV}{h:Store}{r:AV×Store×Nat}(he:zb5 I f args h=some r):zb5 J f args h=some r:=by
 unfold zb5 at he⊢;rw[L.prim];split at he
 ·exact zIp L he
 ·exact zIq L he
 ·rw[L.o];exact he
theorem zM4{I J:Ifc}(L:Le I J){i:Ir}{t:List AV}{h:Store}{r:AV×Store×Nat}(he:evOp I i t h=some r):evOp J i t h=some r:=by
 cases i
 case call f shs args=>exact zuL L he
 case callz f shs kz args=>
  simp only[evOp,L.o]at he⊢;split at he
  ·rename_i hc;rw[zuL L hc];exact he
  ·cases he
 case callv x args=>
  simp only[evOp]at he⊢;split at he
  ·exact zuL L he
  ·cases he
 all_goals (simp only[evOp,L.o]at he⊢;exact he)
theorem Stp.le{I J:Ifc}{md:Nat}(L:Le I J){ip:Ip}{s s':St}(h:Stp I md ip s s'):Stp J md ip s s':=by
 rcases h with⟨hw,v,h1,m,he,hu,e⟩|h
 ·exact .inl ⟨hw,v,h1,m,zM4 L he,hu,e⟩
 ·exact .inr h
theorem zCp{I:Ifc}{md:Nat}{ip:Ip}{r:List Ip}{s s1:St}(st:Stp I md ip s s1):zbl I md (ip::r) s=zbl I md r s1:=by
 rcases st with⟨hw,v,h1,m,he,hu,rfl⟩|⟨hw,rfl⟩
 ·unfold zfE at hw;split at hw
  ·rename_i hg;simp only[zbl,hg,he,hu]
  ·rename_i j w hg;simp only[zbl,hg,hw,he,hu]
 ·unfold zfE at hw;split at hw
  ·cases hw
  ·rename_i j w hg;simp only[zbl,hg,hw]
theorem Stp.one{I:Ifc}{md md':Nat}{ip:Ip}{s a b:St}(x:Stp I md ip s a)(y:Stp I md' ip s b):a=b:=by
 rcases x with⟨hw,v,h1,m,he,_,rfl⟩|⟨hw,rfl⟩
 ·rcases y with⟨hw',v',h1',m',he',_,rfl⟩|⟨hw',rfl⟩
  ·rw[he]at he';cases he';rfl
  ·rw[hw]at hw';cases hw'
 ·rcases y with⟨hw',v',h1',m',he',_,rfl⟩|⟨hw',rfl⟩
  ·rw[hw]at hw';cases hw'
  ·rfl
theorem zGp{I:Ifc}{md md':Nat}(l:List Ip):∀{s a b:St},zbl I md l s=some a->zbl I md' l s=some b->a=b:=by
 induction l with
 |nil=>intro s a b h1 h2;simp only[zbl]at h1 h2;cases h1;cases h2;rfl
 |cons ip r ih=>
  intro s a b h1 h2;obtain⟨s1,st1,e1⟩:=zhj h1;obtain⟨s2,st2,e2⟩:=zhj h2;have:=st1.one st2;subst this;exact ih e1 e2
theorem zP0{I:Ifc}{ops:List Ip}{s s':St}{md:Nat}(h:zbl I md ops s=some s'):∀{l:List Nat},md∈l->znm I ops s l=some s':=by
 intro l
 induction l with
 |nil=>intro hm;cases hm
 |cons x r ih=>
  intro hm;simp only[znm]
  cases hx:zbl I x ops s with
  |some s''=>simp only[];rw[zGp ops hx h]
  |none=>
   simp only[];rcases List.mem_cons.1 hm with rfl|hm
   ·rw[h]at hx;cases hx
   ·exact ih hm
theorem zwT{I:Ifc}{md:Nat}{ops:List Ip}{s s':St}(hm:md∈zGI)(h:zbl I md ops s=some s'):exec I (.region ops) s=some (.nor,s'):=by
 simp only[exec,zP0 h hm]
theorem zw3{I:Ifc}{ops:List Ip}{s:St}{r:X×St}(h:exec I (.region ops) s=some r):∃md s',md∈zGI/\zbl I md ops s=some s'/\r=(.nor,s'):=by
 simp only[exec]at h;split at h
 ·rename_i s' hs;cases h;obtain⟨md,hm,he⟩:=zpN hs;exact⟨md,s',hm,he,rfl⟩
 ·cases h
theorem zCo{I J:Ifc}{md:Nat}(L:Le I J)(l:List Ip):∀{s s':St},zbl I md l s=some s'->zbl J md l s=some s':=by
 induction l with
 |nil=>intro s s' h;exact h
 |cons ip r ih=>
  intro s s' h;obtain⟨s1,st,h1⟩:=zhj h;rw[zCp (st.le L)];exact ih h1
theorem zoY{I J:Ifc}(L:Le I J)(d:Cd):∀{s:St} {r:X×St},exec I d s=some r->exec J d s=some r:=by
 induction d with
 |skip|exit|ret=>intro s r h;exact h
 |region ops=>
  intro s r h;obtain⟨md,s',hm,h1,rfl⟩:=zw3 h
  exact zwT hm (zCo L ops h1)
 |seq a b iha ihb=>
  intro s r h;simp only[exec]at h⊢;split at h
  ·rename_i s' hs;rw[iha hs];exact ihb h
  ·rename_i hne
   cases ha:exec I a s with
   |none=>rw[ha]at h;cases h
   |some p=>
    obtain⟨x,s'⟩:=p;rw[iha ha];rw[ha]at h
    cases x with
    |nor=>exact absurd ha (hne s')
    |_=>exact h
 |cond c a b iha ihb=>
  intro s r h;simp only[exec]at h⊢;split at h
  ·exact iha h
  ·exact ihb h
  ·cases h
 |block id a iha=>
  intro s r h;simp only[exec]at h⊢
  cases ha:exec I a s with
  |none=>rw[ha]at h;cases h
  |some p=>rw[ha]at h;rw[iha ha];exact h
 |loop lv a iha=>
  intro s r h;simp only[exec]at h⊢
  exact L.loop _ _ _ _ _ h
 |seg lv af a iha=>
  intro s r h;simp only[exec]at h⊢;exact L.seg _ _ _ _ h
theorem zJO{I J:Ifc}(L:Le I J){af:List Nat}{d:Cd}{s:St}{r:X×St}(h:I.apart af d s=some r):J.apart af d s=some r:=by
 unfold Ifc.apart at h⊢
 cases ha:exec I d s with
 |none=>rw[ha]at h;cases h
 |some p=>rw[ha]at h;rw[zoY L d ha];exact h
theorem zKU{I J:Ifc}(L:Le I J){fn:Fn}{args:List AV}{s:Store}{r:AV×Store}(h:zak I fn args s=some r):zak J fn args s=some r:=by
 unfold zak at h⊢;rw[L.o]
 cases he:exec I fn.body ⟨args++yaA (fn.ntmps-args.length) .bad,s⟩with
 |none=>rw[he]at h;cases h
 |some p=>rw[he]at h;rw[zoY L _ he];exact h
section
variable {F:FuncId->Option Fn} {pr:FuncId->Option Prim}
theorem zqh(n:Nat):(ifc yac F pr n).o=yac:=by cases n<;>rfl
theorem zsW(n:Nat):(ifc yac F pr n).prim=pr:=by cases n<;>rfl
theorem zKS{I J:Ifc}(L:Le I J){lv:List Nat}{m:Nat}{d:Cd}{s:St}{r:X×St}(h:I.round lv m d s=some r):J.round lv m d s=some r:=by
 unfold Ifc.round at h⊢
 cases ha:exec I d s with
 |none=>rw[ha]at h;cases h
 |some p=>
  obtain⟨x,s'⟩:=p;rw[ha]at h;rw[zoY L d ha]
  cases x with
  |nor=>exact L.loop _ _ _ _ _ h
  |_=>exact h
theorem zM9:∀n,Le (ifc yac F pr n) (ifc yac F pr (n+1)):=by
 intro n
 induction n with
 |zero=>exact⟨rfl,rfl,fun f a s r h=>by simp[ifc]at h,fun lv m d s r h=>by simp[ifc]at h,fun af d s r h=>by simp[ifc]at h⟩
 |succ n ih=>
  refine⟨rfl,rfl,fun f a s r h=>?_,fun lv m d s r h=>?_,fun af d s r h=>?_⟩
  ·simp only[ifc]at h⊢;split at h
   ·rename_i fn hfn;exact zKU ih h
   ·cases h
  ·rw[ifc]at h⊢;exact zKS ih h
  ·rw[ifc]at h⊢;exact zJO ih h
theorem zgg(n:Nat):∀k,Le (ifc yac F pr n) (ifc yac F pr (n+k))
 |0=>Le.refl _
 |k+1=>(zgg n k).trans (zM9 (n+k))
open Classical in
def lim(F:FuncId->Option Fn)(pr:FuncId->Option Prim):Ifc where
 o:=yac
 prim:=pr
 call f a s:=if h:∃n r,(ifc yac F pr n).call f a s=some r then some (ybI (yaC h))else none
 loop lv m d s:=if h:∃n r,(ifc yac F pr n).loop lv m d s=some r then some (ybI (yaC h))else none
 seg af d s:=if h:∃n r,(ifc yac F pr n).seg af d s=some r then some (ybI (yaC h))else none
theorem zpm{f:FuncId}{a:List AV}{s:Store}{r:AV×Store}:(lim F pr).call f a s=some r<->∃n,(ifc yac F pr n).call f a s=some r:=by
 constructor
 ·intro h;simp only[lim]at h;split at h
  ·rename_i hh;cases h;exact⟨_,yaC (yaC hh)⟩
  ·cases h
 ·rintro⟨n,h⟩;simp only[lim];have hh:∃n r,(ifc yac F pr n).call f a s=some r:=⟨n,r,h⟩
  rw[dif_pos hh];have h2:=yaC (yaC hh);generalize ybI (yaC hh)=r2 at h2⊢;generalize ybI hh=m at h2;have h3:=(zgg (F:=F) (pr:=pr) n m).call f a s r h;have h4:=(zgg (F:=F) (pr:=pr) m n).call f a s r2 h2;rw[ycv]at h4;rw[h3]at h4;exact h4.symm
theorem zmU{lv:List Nat}{m:Nat}{d:Cd}{s:St}{r:X×St}:(lim F pr).loop lv m d s=some r<->∃n,(ifc yac F pr n).loop lv m d s=some r:=by
 constructor
 ·intro h;simp only[lim]at h;split at h
  ·rename_i hh;cases h;exact⟨_,yaC (yaC hh)⟩
  ·cases h
 ·rintro⟨n,h⟩;simp only[lim];have hh:∃n r,(ifc yac F pr n).loop lv m d s=some r:=⟨n,r,h⟩
  rw[dif_pos hh];have h2:=yaC (yaC hh);generalize ybI (yaC hh)=r2 at h2⊢;generalize ybI hh=m2 at h2;have h3:=(zgg (F:=F) (pr:=pr) n m2).loop lv m d s r h;have h4:=(zgg (F:=F) (pr:=pr) m2 n).loop lv m d s r2 h2;rw[ycv]at h4;rw[h3]at h4;exact h4.symm
theorem zzD{af:List Nat}{d:Cd}{s:St}{r:X×St}:(lim F pr).seg af d s=some r<->∃n,(ifc yac F pr n).seg af d s=some r:=by
 constructor
 ·intro h;simp only[lim]at h;split at h
  ·rename_i hh;cases h;exact⟨_,yaC (yaC hh)⟩
  ·cases h
 ·rintro⟨n,h⟩;simp only[lim];have hh:∃n r,(ifc yac F pr n).seg af d s=some r:=⟨n,r,h⟩
  rw[dif_pos hh];have h2:=yaC (yaC hh);generalize ybI (yaC hh)=r2 at h2⊢;generalize ybI hh=m2 at h2;have h3:=(zgg (F:=F) (pr:=pr) n m2).seg af d s r h;have h4:=(zgg (F:=F) (pr:=pr) m2 n).seg af d s r2 h2;rw[ycv]at h4;rw[h3]at h4;exact h4.symm
theorem zIQ(n:Nat):Le (ifc yac F pr n) (lim F pr):=
 ⟨(zqh n).symm,(zsW n).symm,fun f a s r h=>zpm.2 ⟨n,h⟩,fun lv m d s r h=>zmU.2 ⟨n,h⟩,fun af d s r h=>zzD.2 ⟨n,h⟩⟩
theorem zKf{i:Ir}{t:List AV}{h:Store}{r:AV×Store×Nat}(he:evOp (lim F pr) i t h=some r):∃n,evOp (ifc yac F pr n) i t h=some r:=by
 have key0:∀{f:FuncId} {args:List AV} {h:Store} {r:AV×Store×Nat},zde (lim F pr) f args h=some r->∃n,zde (ifc yac F pr n) f args h=some r:=by
  intro f args h r he;unfold zde at he⊢;simp only[zqh];simp only[lim]at he;split at he
  ·cases he
  ·rename_i args' ix hl;split at he
   ·cases he
   ·rename_i s hs;split at he
    ·cases he
    ·rename_i r' h2 hc;obtain⟨n,hn⟩:=zpm.1 (show(lim F pr).call f args' s=some (r',h2)from hc);exact⟨n,by rw[hn];exact he⟩
 have key:∀{f:FuncId} {args:List AV} {h:Store} {r:AV×Store×Nat},zb5 (lim F pr) f args h=some r->∃n,zb5 (ifc yac F pr n) f args h=some r:=by
  intro f args h r he;unfold zb5 at he⊢
  cases hp:pr f with
  |some p=>
   have h1:(lim F pr).prim f=some p:=hp;simp only[h1]at he;simp only[zsW,hp,zqh]
   cases p with
   |mv=>
    simp only at he⊢;unfold zfg zlD at he⊢;generalize zcE h 64 (rfs args) []=ix at he⊢;split at he
    ·cases he
    ·rename_i a1 ha1;split at he
     ·cases he
     ·rename_i a2 ha2;split at he
      ·cases he
      ·rename_i a3;split at he
       ·cases he
       ·rename_i r' h2 hc;obtain⟨n,hn⟩:=zpm.1 hc
        exact⟨n,by rw[hn];exact he⟩
   |_=>exact⟨0,he⟩
  |none=>
   have h1:(lim F pr).prim f=none:=hp;simp only[h1]at he;simp only[zsW,hp];exact key0 he
 cases i
 case call f shs args=>exact key he
 case callz f shs kz args=>
  simp only[evOp]at he⊢;split at he
  ·rename_i hc;obtain⟨n,hn⟩:=key hc;exact⟨n,by rw[hn];simp only[zqh];exact he⟩
  ·cases he
 case callv x args=>
  simp only[evOp]at he⊢;split at he
  ·exact key he
  ·cases he
 all_goals exact⟨0,by simp only[evOp]at he⊢;exact he⟩
theorem zID{md:Nat}(l:List Ip):∀{s s':St},zbl (lim F pr) md l s=some s'->∃n,zbl (ifc yac F pr n) md l s=some s':=by
 induction l with
 |nil=>intro s s' h;exact⟨0,h⟩
 |cons ip r ih=>
  intro s s' h;obtain⟨s1,st,h1⟩:=zhj h;obtain⟨n,hn⟩:=ih h1
  have:∃m,Stp (ifc yac F pr m) md ip s s1:=by
   rcases st with⟨hw,v,h1,m,he,hu,e⟩|h
   ·obtain⟨k,hk⟩:=zKf he;exact⟨k,.inl ⟨hw,v,h1,m,hk,hu,e⟩⟩
   ·exact⟨0,.inr h⟩
  obtain⟨m,hm⟩:=this;refine⟨n+m,?_⟩;have h2:=ycv m n▸zgg (F:=F) (pr:=pr) m n;rw[zCp (hm.le h2)];exact zCo (zgg n m) r hn
theorem zxr(d:Cd):∀{s:St} {r:X×St},exec (lim F pr) d s=some r->∃n,exec (ifc yac F pr n) d s=some r:=by
 induction d with
 |skip|exit|ret=>intro s r h;exact⟨0,h⟩
 |region ops=>
  intro s r h;obtain⟨md,s',hm,h1,rfl⟩:=zw3 h;obtain⟨n,hn⟩:=zID ops h1
  exact⟨n,zwT hm hn⟩
 |seq a b iha ihb=>
  intro s r h;simp only[exec]at h⊢
  cases ha:exec (lim F pr) a s with
  |none=>rw[ha]at h;cases h
  |some p=>
   obtain⟨x,s'⟩:=p;obtain⟨n,hn⟩:=iha ha;rw[ha]at h
   cases x with
   |nor=>
    obtain⟨m,hm⟩:=ihb h;refine⟨n+m,?_⟩;rw[zoY (zgg n m) a hn]
    exact zoY (ycv m n▸zgg (F:=F) (pr:=pr) m n) b hm
   |_=>exact⟨n,by rw[hn];exact h⟩
 |cond c a b iha ihb=>
  intro s r h;simp only[exec]at h⊢;split at h
  ·exact iha h
  ·exact ihb h
  ·cases h
 |block id a iha=>
  intro s r h;simp only[exec]at h⊢
  cases ha:exec (lim F pr) a s with
  |none=>rw[ha]at h;cases h
  |some p=>
   obtain⟨n,hn⟩:=iha ha;rw[ha]at h
   exact⟨n,by rw[hn];exact h⟩
 |loop lv a iha=>
  intro s r h;simp only[exec]at h⊢
  exact zmU.1 h
 |seg lv af a iha=>
  intro s r h;simp only[exec]at h⊢;exact zzD.1 h
theorem zCe{f:FuncId}{fn:Fn}(hf:F f=some fn){a:List AV}{s:Store}{r:AV×Store}(h:zak (lim F pr) fn a s=some r):(lim F pr).call f a s=some r:=by
 have:∃n,zak (ifc yac F pr n) fn a s=some r:=by
  unfold zak at h⊢;simp only[zqh]
  cases he:exec (lim F pr) fn.body ⟨a++yaA (fn.ntmps-a.length) .bad,s⟩with
  |none=>rw[he]at h;cases h
  |some p=>
   obtain⟨n,hn⟩:=zxr _ he;rw[he]at h;exact⟨n,by rw[hn];exact h⟩
 obtain⟨n,hn⟩:=this;exact zpm.2 ⟨n+1,by simp only[ifc,hf];exact hn⟩
theorem zF8{af:List Nat}{d:Cd}{s:St}{r:X×St}(h:(lim F pr).apart af d s=some r):(lim F pr).seg af d s=some r:=by
 unfold Ifc.apart at h
 cases he:exec (lim F pr) d s with
 |none=>rw[he]at h;cases h
 |some p=>
  obtain⟨n,hn⟩:=zxr d he;rw[he]at h;refine zzD.2 ⟨n+1,?_⟩;rw[ifc];simp only[Ifc.apart,hn];exact h
theorem zqA{lv:List Nat}{m:Nat}{d:Cd}{s:St}{r:X×St}(h:(lim F pr).round lv m d s=some r):(lim F pr).loop lv m d s=some r:=by
 unfold Ifc.round at h
 cases he:exec (lim F pr) d s with
 |none=>rw[he]at h;cases h
 |some p=>
  obtain⟨x,s'⟩:=p;obtain⟨n,hn⟩:=zxr d he;rw[he]at h
  cases x with
  |nor=>
   obtain⟨k,hk⟩:=zmU.1 h;refine zmU.2 ⟨n+k+1,?_⟩;rw[ifc];simp only[Ifc.round,zoY (zgg n k) d hn]
   exact(ycv k n▸zgg (F:=F) (pr:=pr) k n).loop _ _ _ _ _ hk
  |brk id=>refine zmU.2 ⟨n+1,?_⟩;rw[ifc];simp only[Ifc.round,hn];exact h
  |ret=>refine zmU.2 ⟨n+1,?_⟩;rw[ifc];simp only[Ifc.round,hn];exact h
theorem zPx{P:Program}{base:Base}(hmx:P.follows .mixedOrders=true)(hF:∀f fn,F f=some fn->∃kmd fz,zae P kmd fz f=some fn)(hPr:∀f p,pr f=some p->ziN P base f p):∀n,zdx P base (ifc yac F pr n)/\zx0 P base (ifc yac F pr n)/\zhb P (ifc yac F pr n)/\zGb P base (ifc yac F pr n):=by
 intro n;have hP:∀n,zdf P base (ifc yac F pr n):=fun n f p h=>hPr f p (by rw[zsW]at h;exact h)
 induction n with
 |zero=>exact⟨fun f a s r h2 h=>by simp[ifc]at h,fun fz rt ex af c d hc lv m s x s2 h=>by simp[ifc]at h,fun f a s r h=>by simp[ifc]at h,fun c fz rt ex af d hc ag s x s2 h=>by simp[ifc]at h⟩
 |succ n ih=>
  obtain⟨h1,h2,h3,h4⟩:=ih;refine⟨fun f a s r s2 h E vs hPe R V=>?_,fun fz rt ex af c d hc lv m s x s2 h h0 E0 E a Q hPe hl hm hlt R S V L=>?_,fun f a s r h=>?_,fun c fz rt ex af d hc ag s x s2 h E a Q hPe R V L=>?_⟩
  ·simp only[ifc]at h;split at h
   ·rename_i fn hfn;obtain⟨kmd,fz,hk⟩:=hF f fn hfn;exact zEB hmx (zqh n) h1 (hP n) h3 h2 h4 hk h E vs hPe R V
   ·cases h
  ·rw[ifc]at h;exact zGE h2 (zoL hmx (zqh n) h1 (hP n) h3 h2 h4 c) hc h hPe hl hm hlt R S V L
  ·simp only[ifc]at h;split at h
   ·rename_i fn hfn;obtain⟨kmd,fz,hk⟩:=hF f fn hfn;obtain⟨g,c,hg,hb,_,_,_,hn⟩:=zyt hk;exact⟨g,hg,by rw[hb];rfl,hn⟩
   ·cases h
  ·rw[ifc]at h;exact zDM (zoL hmx (zqh n) h1 (hP n) h3 h2 h4 c) hc h hPe R V L
theorem zPC{P:Program}{base:Base}(hmx:P.follows .mixedOrders=true)(hF:∀f fn,F f=some fn->∃kmd fz,zae P kmd fz f=some fn)(hPr:∀f p,pr f=some p->ziN P base f p):zdx P base (lim F pr):=by
 intro f a s r h2 h E vs hP R V;obtain⟨n,hn⟩:=zpm.1 h;exact(zPx hmx hF hPr n).1 f a s r h2 hn E vs hP R V
end
end Go.Ab
namespace Go.Ab
open Go Go.RowKit
def zDr(P:Program)(W:World):Env where
 P:=P
 w:=W
 n:=0
 gen _:=none
 top _:=0
 esz _:=0
 row _:=undef
 box _:=0
 own _:=False
theorem zJz(P:Program)(W:World):Rel ⟨W.heap.size,W⟩ [] (zDr P W) where
 n:=rfl
 lo:=⟨Nat.le_refl _,fun _ _=>rfl⟩
 ent k e h:=by simp at h
 nogen _ _:=rfl
 own k b h:=by simp[blkOf]at h
 inj k j b h _:=by simp[blkOf]at h
 lt b h:=h.elim
theorem calls_scW{P:Program}{F:FuncId->Option Fn}{pr:FuncId->Option Prim}(hm:P.follows .mixedOrders=true)(hF:∀f fn,F f=some fn->∃kmd fz,zae P kmd fz f=some fn)(W:World)(hPr:∀f p,pr f=some p->ziN P ⟨W.heap.size,W⟩ f p){f:FuncId}{args:List AV}{h2:Store}{u:Value}(h:(lim F pr).call f args []=some (.sc u,h2)){vs:List Value}(hv:DL P W (fun _=>False) args vs):
  Calls P f vs.toArray W fun e w'=>e=.returned u/\Below W.heap.size W w':=by
 refine(zPC (base:=⟨W.heap.size,W⟩) hm hF hPr f args [] (.sc u) h2 h (zDr P W) vs rfl (zJz P W) (DL.vl hv)).mono fun e w' ⟨v,E',he,hw,R,S,V⟩=>?_
 subst hw;refine⟨by rw[he,V.sc_inv.1],S.os,S.tape,S.output,S.size,fun k hk=>S.heap k hk fun j hj=>by simp[blkOf]at hj⟩
end Go.Ab
namespace Go.Ab
open Go
open Go.Ab.Ops renaming std->yac
open List renaming drop_eq_getElem_cons->yaF,drop_length->yb7,getElem?_eq_getElem->yad,getElem_mem->yb8,length_append->yaf,length_map->yaK,map->yab,mem_of_getElem?->yam,replicate->yaA
open List.cons renaming injEq->ya0
open Nat renaming add_assoc->yaU
open Option renaming bind_some->yaa,some->ycx
open Prod.mk renaming injEq->ybs
abbrev i64(x:Int):AV:=.sc (.int .i64 x)
abbrev u64(x:Int):AV:=.sc (.int .u64 x)
abbrev str(x:ByteArray):AV:=.sc (.string x)
abbrev vI(x:Int):AV:=.sc (.int .i64 x)
abbrev vU(x:Int):AV:=.sc (.int .u64 x)
abbrev vW(x:Int):AV:=.sc (.int .u32 x)
abbrev vH(x:Int):AV:=.sc (.int .u16 x)
abbrev vB(x:Int):AV:=.sc (.int .u8 x)
abbrev vF(x:Bool):AV:=.sc (.bool x)
abbrev vT(x:ByteArray):AV:=.sc (.string x)
theorem iltT{a b:Int}(h:a<b):yac.ilt a b=true:=decide_eq_true h
theorem iltF{a b:Int}(h:¬a<b):yac.ilt a b=false:=decide_eq_false h
theorem ileT{a b:Int}(h:a<=b):yac.ile a b=true:=decide_eq_true h
theorem ileF{a b:Int}(h:¬a<=b):yac.ile a b=false:=decide_eq_false h
theorem ieqT{a b:Int}(h:a=b):yac.ieq a b=true:=decide_eq_true h
theorem ieqF{a b:Int}(h:¬a=b):yac.ieq a b=false:=decide_eq_false h
theorem zJF{x:Int}(h1:-9223372036854775808<=x)(h2:x<=9223372036854775807):IntKind.i64.wrap x=x:=by
 rw[IntKind.wrap_i64];omega
theorem znu{a b:Int}(h1:-9223372036854775808<=a+b)(h2:a+b<=9223372036854775807):yac.iadd .i64 a b=a+b:=zJF h1 h2
theorem zsX{a b:Int}(h1:-9223372036854775808<=a-b)(h2:a-b<=9223372036854775807):yac.isub .i64 a b=a-b:=zJF h1 h2
theorem zfY{n:Nat}(h:n<9223372036854775807):yac.iadd .i64 (n:Int) 1=((n+1:Nat):Int):=by rw[znu (by omega) (by omega)];omega
theorem zFY(xs:List AV):yac.llen xs=(xs.length:Int):=rfl
theorem more{pre rest:List AV}{x:AV}:yac.ilt (pre.length:Int) (yac.llen (pre++x::rest))=true:=by
 refine iltT ?_;rw[zFY];simp;omega
theorem done{pre:List AV}:yac.ilt (pre.length:Int) (yac.llen pre)=false:=by
 refine iltF ?_;rw[zFY];omega
section
variable {α:Type} {f:α->AV} {pre rest:List α} {x:α}
end
def capp:List AV->List AV->List AV
 | [],b=>b
 |x::a,b=>x::capp a b
theorem zlE(a b:List AV):capp a b=a++b:=by
 induction a with
 |nil=>rfl
 |cons x a ih=>simp[capp,ih]
class Inj {α β:Type} (e:α->β):Prop where
 inj:∀a b,e a=e b->a=b
class InjS {α β:Type} (e:(Nat->Nat)->α->β):Prop where
 inj:∀γ γ' a b,e γ a=e γ' b->a=b
section
variable {α β ι:Type}
open Classical in
def ask(e:α->β)(y:Option β):Option α:=if h:∃a,y=some (e a)then some h.choose else none
theorem ask_some{e:α->β}{y:Option β}{a:α}(h:ask e y=some a):y=some (e a):=by
 unfold ask at h;split at h
 ·rename_i hh;cases h;exact hh.choose_spec
 ·cases h
theorem zrA{e:α->β}[I:Inj e]{y:Option β}{a:α}(h:y=some (e a)):ask e y=some a:=by
 have hh:∃a,y=some (e a):=⟨a,h⟩
 unfold ask;rw[dif_pos hh];have:=h.symm.trans hh.choose_spec;rw[I.inj _ _ (ycx.inj this)]
theorem zES{e:α->β}[Inj e](a:α):ask e (some (e a))=some a:=zrA rfl
theorem zxl{e:α->β}:ask e none=none:=by
 unfold ask;rw[dif_neg];rintro⟨a,h⟩;cases h
open Classical in
def asks(y:(Nat->Nat)->Option β)(e:(Nat->Nat)->α->β):Option α:=if h:∃a,∀γ,∃γ',y γ=some (e γ' a)then some h.choose else none
theorem zuD{y:(Nat->Nat)->Option β}{e:(Nat->Nat)->α->β}{a:α}(h:asks y e=some a)(γ:Nat->Nat):∃γ',y γ=some (e γ' a):=by
 unfold asks at h;split at h
 ·rename_i hh;cases h;exact hh.choose_spec γ
 ·cases h
theorem zML{y:(Nat->Nat)->Option β}{e:(Nat->Nat)->α->β}[I:InjS e]{a:α}(h:∀γ,∃γ',y γ=some (e γ' a)):asks y e=some a:=by
 have hh:∃a,∀γ,∃γ',y γ=some (e γ' a):=⟨a,h⟩
 unfold asks;rw[dif_pos hh];obtain⟨g1,h1⟩:=hh.choose_spec (fun _=>0);obtain⟨g2,h2⟩:=h (fun _=>0);rw[h1]at h2;rw[I.inj _ _ _ _ (ycx.inj h2)]
def gam:List Nat->Nat->Nat
 | [],_=>0
 |x::_,0=>x
 |_::l,n+1=>gam l n
theorem zIv{c:Bool}{x y:Option α}{a:α}(h:(bif c then x else y)=some a):(c=true/\x=some a)\/(c=false/\y=some a):=by
 cases c
 ·exact .inr ⟨rfl,h⟩
 ·exact .inl ⟨rfl,h⟩
theorem bind_some{x:Option α}{f:α->Option β}{b:β}(h:x.bind f=some b):∃a,x=some a/\f a=some b:=Option.bind_eq_some_iff.1 h
def xopt(x:Option α)(f:α->Option β)(y:Option β):Option β:=match x with|some a=>f a|none=>y
theorem zJG{x:Option α}{f:α->Option β}{y:Option β}{b:β}(h:xopt x f y=some b):(∃a,x=some a/\f a=some b)\/(x=none/\y=some b):=by
 cases x with
 |none=>exact .inr ⟨rfl,h⟩
 |some a=>exact .inl ⟨a,rfl,h⟩
theorem zJR{γ:Type}{e:α->γ}{y:Option γ}{f:α->Option β}{b:β}(h:(ask e y).bind f=some b):∃a,y=some (e a)/\f a=some b:=by
 obtain⟨a,h1,h2⟩:=bind_some h;exact⟨a,ask_some h1,h2⟩
theorem zIl{γ:Type}{e:(Nat->Nat)->α->γ}{y:(Nat->Nat)->Option γ}{f:α->Option β}{b:β}(h:(asks y e).bind f=some b)(g:Nat->Nat):∃a g',y g=some (e g' a)/\f a=some b:=by
 obtain⟨a,h1,h2⟩:=bind_some h;obtain⟨g',h3⟩:=zuD h1 g;exact⟨a,g',h3,h2⟩
open Classical in
def askg(y:(Nat->Nat)->Option β)(e:(Nat->Nat)->α->β):Option α:=if h:∃a,∀γ,y γ=some (e γ a)then some h.choose else none
theorem zuC{y:(Nat->Nat)->Option β}{e:(Nat->Nat)->α->β}{a:α}(h:askg y e=some a)(γ:Nat->Nat):y γ=some (e γ a):=by
 unfold askg at h;split at h
 ·rename_i hh;cases h;exact hh.choose_spec γ
 ·cases h
theorem zMK{y:(Nat->Nat)->Option β}{e:(Nat->Nat)->α->β}[I:InjS e]{a:α}(h:∀γ,y γ=some (e γ a)):askg y e=some a:=by
 have hh:∃a,∀γ,y γ=some (e γ a):=⟨a,h⟩
 unfold askg;rw[dif_pos hh];have h1:=hh.choose_spec (fun _=>0);rw[h (fun _=>0)]at h1;rw[I.inj _ _ _ _ (ycx.inj h1)]
theorem zIk{γ:Type}{e:(Nat->Nat)->α->γ}{y:(Nat->Nat)->Option γ}{f:α->Option β}{b:β}(h:(askg y e).bind f=some b)(g:Nat->Nat):∃a,y g=some (e g a)/\f a=some b:=by
 obtain⟨a,h1,h2⟩:=bind_some h;exact⟨a,zuC h1 g,h2⟩
variable {γ:Type} {P H:Prop} {b:β} {f:α->Option β}
theorem kz{a:α}:none=some a->P:=nofun
theorem kb{e:α->γ}{y:Option γ}(k:∀a,y=some (e a)->f a=some b->P):(ask e y).bind f=some b->P:=fun h=>let⟨a,x,z⟩:=zJR h;k a x z
theorem ks{e:(Nat->Nat)->α->γ}{y:(Nat->Nat)->Option γ}(g:List Nat)(k:∀a g',y (gam g)=some (e g' a)->f a=some b->P):(asks y e).bind f=some b->P:=fun h=>let⟨a,g',x,z⟩:=zIl h (gam g);k a g' x z
theorem kg{e:(Nat->Nat)->α->γ}{y:(Nat->Nat)->Option γ}(g:List Nat)(k:∀a,y (gam g)=some (e (gam g) a)->f a=some b->P):(askg y e).bind f=some b->P:=fun h=>let⟨a,x,z⟩:=zIk h (gam g);k a x z
theorem pb{e:α->γ}{y:Option γ}{r:α}(k:∀a,y=some (e a)->some a=some r->P):ask e y=some r->P:=fun h=>k r (ask_some h) rfl
theorem ps{e:(Nat->Nat)->α->γ}{y:(Nat->Nat)->Option γ}{r:α}(g:List Nat)(k:∀a g',y (gam g)=some (e g' a)->some a=some r->P):asks y e=some r->P:=fun h=>let⟨g',x⟩:=zuD h (gam g);k r g' x rfl
theorem pg{e:(Nat->Nat)->α->γ}{y:(Nat->Nat)->Option γ}{r:α}(g:List Nat)(k:∀a,y (gam g)=some (e (gam g) a)->some a=some r->P):askg y e=some r->P:=fun h=>k r (zuC h (gam g)) rfl
theorem kn{x:Option α}(k:∀a,x=some a->f a=some b->P):x.bind f=some b->P:=fun h=>let⟨a,x,z⟩:=bind_some h;k a x z
theorem kx{x:Option α}{y:Option β}(k:∀a,x=some a->f a=some b->P)(l:x=none->y=some b->P):xopt x f y=some b->P:=fun h=>(zJG h).elim (fun⟨a,x,z⟩=>k a x z) fun h=>l h.1 h.2
theorem kc{c:Bool}{x y:Option α}{a:α}(k:c=true->x=some a->P)(l:c=false->y=some a->P):(bif c then x else y)=some a->P:=fun h=>(zIv h).elim (fun h=>k h.1 h.2) fun h=>l h.1 h.2
theorem k1{c:Bool}{x:Option α}{a:α}(k:c=true->x=some a->P):(bif c then x else none)=some a->P:=kc k fun _=>kz
theorem k0{c:Bool}{x:Option α}{a:α}(k:c=false->x=some a->P):(bif c then none else x)=some a->P:=kc (fun _=>kz) k
theorem kas{e:(Nat->Nat)->α->γ}{y:(Nat->Nat)->Option γ}[InjS e]{a:α}(k:∀g,H->∃g',y g=some (e g' a)):H->asks y e=some a:=fun h=>zML fun g=>k g h
theorem kag{e:(Nat->Nat)->α->γ}{y:(Nat->Nat)->Option γ}[InjS e]{a:α}(k:∀g,H->y g=some (e g a)):H->askg y e=some a:=fun h=>zMK fun g=>k g h
theorem ka{e:α->γ}{y:Option γ}[Inj e]{a:α}(k:H->y=some (e a)):H->ask e y=some a:=fun h=>zrA (k h)
section
variable {F:FuncId->Option Fn} {pr:FuncId->Option Prim} {fi:FuncId} {fn:Fn} {l:List AV} {s:Store} {a r:α} {lv:List Nat} {m:Nat} {d:Cd} {st:St}
theorem lc{e:(Nat->Nat)->α->AV×Store}(hf:F fi=some fn)(g:List Nat)(h:zak (lim F pr) fn l s=some (e (gam g) a)):some a=some r->∃g',(lim F pr).call fi l s=some (e g' r):=fun h'=>⟨gam g,by cases h';exact zCe hf h⟩
theorem l0{e:α->AV×Store}(hf:F fi=some fn)(h:zak (lim F pr) fn l s=some (e a)):some a=some r->(lim F pr).call fi l s=some (e r):=fun h'=>by cases h';exact zCe hf h
theorem ls{e:(Nat->Nat)->α->X×St}(g:List Nat)(h:(lim F pr).apart lv d st=some (e (gam g) a)):some a=some r->∃g',(lim F pr).seg lv d st=some (e g' r):=fun h'=>⟨gam g,by cases h';exact zF8 h⟩
theorem l1{e:α->X×St}(h:(lim F pr).apart lv d st=some (e a)):some a=some r->(lim F pr).seg lv d st=some (e r):=fun h'=>by cases h';exact zF8 h
theorem lr{e:(Nat->Nat)->α->X×St}(g:List Nat)(h:(lim F pr).round lv m d st=some (e (gam g) a)):some a=some r->∃g',(lim F pr).loop lv m d st=some (e g' r):=fun h'=>⟨gam g,by cases h';exact zqA h⟩
theorem l2{e:α->X×St}(h:(lim F pr).round lv m d st=some (e a)):some a=some r->(lim F pr).loop lv m d st=some (e r):=fun h'=>by cases h';exact zqA h
theorem lg{e:(Nat->Nat)->α->X×St}{e':(Nat->Nat)->α->γ}{y:(Nat->Nat)->Option γ}(g:List Nat)(h:∀g',y (gam g)=some (e' g' r)->(lim F pr).round lv m d st=some (e g' r)):asks y e'=some r->∃g',(lim F pr).loop lv m d st=some (e g' r):=fun h'=>let⟨g',x⟩:=zuD h' (gam g);⟨g',zqA (h g' x)⟩
theorem lh{e':(Nat->Nat)->α->γ}{y:(Nat->Nat)->Option γ}{z:X×St}(g:List Nat)(h:y (gam g)=some (e' (gam g) r)->(lim F pr).round lv m d st=some z):askg y e'=some r->(lim F pr).loop lv m d st=some z:=fun h'=>zqA (h (zuC h' (gam g)))
end
end
theorem zAh{x a b:Int}(h:yac.ieq x a=true)(hn:a≠b):yac.ieq x b=false:=by
 have h1:x=a:=of_decide_eq_true h;subst h1;exact decide_eq_false hn
def bd:Nat->List AV->List AV
 |0,l=>l
 |n+1,l=>.bad::bd n l
theorem zNS{n:Nat}{l l':List AV}:bd n l=bd n l'<->l=l':=by
 induction n with
 |zero=>exact Iff.rfl
 |succ n ih=>simp only[bd,ya0,true_and,ih]
def zaE(I:Ifc)(lv:List Nat)(m:Nat)(d c:Cd)(s:St):Option (X×St):=
 match exec I c s with
 |some (.nor,s')=>I.loop lv m d (tidy lv m s')
 |some (.brk id,s')=>some (.brk id,snip m s')
 |some (.ret,s')=>some (.ret,snip m s')
 |none=>none
instance :Inj vI:=⟨fun _ _ h=>by injection h with h;injection h⟩
instance :Inj vU:=⟨fun _ _ h=>by injection h with h;injection h⟩
instance :Inj vW:=⟨fun _ _ h=>by injection h with h;injection h⟩
instance :Inj vH:=⟨fun _ _ h=>by injection h with h;injection h⟩
instance :Inj vB:=⟨fun _ _ h=>by injection h with h;injection h⟩
abbrev vR(x:Int):AV:=.sc (.int .i32 x)
instance :Inj vR:=⟨fun _ _ h=>by injection h with h;injection h⟩
instance :Inj vF:=⟨fun _ _ h=>by injection h with h;injection h⟩
instance :Inj vT:=⟨fun _ _ h=>by injection h with h;injection h⟩
theorem zwE{α β:Type}{e:α->β}[I:Inj e]:∀{l l':List α},l.map e=l'.map e->l=l'
 | [],[],_=>rfl
 | [],_::_,h=>by cases h
 |_::_,[],h=>by cases h
 |x::l,y::l',h=>by
  simp only[List.map_cons,ya0]at h;rw[I.inj _ _ h.1,zwE h.2]
theorem zd1{α β:Type}{e:α->β}[Inj e]{l l':List α}:l.map e=l'.map e<->l=l':=⟨zwE,fun h=>by rw[h]⟩
instance {α β:Type} {e:α->β} [Inj e]:Inj (yab e):=⟨fun _ _ h=>zwE h⟩
def eL{α:Type}(t:TypeId)(e:α->AV)(l:List α):AV:=.lit t false (l.map e)
instance {α:Type} {t:TypeId} {e:α->AV} [Inj e]:Inj (eL t e):=⟨fun _ _ h=>by injection h with _ _ h;exact zwE h⟩
theorem zPt{α:Type}{t:TypeId}{e:α->AV}[Inj e]{a b:List α}:eL t e a=eL t e b<->a=b:=⟨Inj.inj a b,fun h=>by rw[h]⟩
section
variable {α β γ δ:Type}
def R0(_:Unit):AV×Store:=(.tup [],[])
def R1(e:α->AV)(a:α):AV×Store:=(e a,[])
def R2(e:α->AV)(e':β->AV)(a:α×β):AV×Store:=(.tup [e a.1,e' a.2],[])
def R3(e:α->AV)(e':β->AV)(e'':γ->AV)(a:α×β×γ):AV×Store:=(.tup [e a.1,e' a.2.1,e'' a.2.2],[])
def K1(t:TypeId)(e:α->AV)(a:List α):AV×Store:=(.sl 0 0,[.row t 0 false (a.map e)])
instance :Inj R0:=⟨fun _ _ _=>rfl⟩
instance {e:α->AV} [I:Inj e]:Inj (R1 e):=⟨fun a b h=>I.inj _ _ (Prod.mk.inj h).1⟩
instance {e:α->AV} {e':β->AV} [I:Inj e] [J:Inj e']:Inj (R2 e e'):=⟨fun a b h=>by
 simp only[R2,ybs,AV.tup.injEq,ya0,and_true]at h
 exact Prod.ext (I.inj _ _ h.1) (J.inj _ _ h.2)⟩
instance {e:α->AV} {e':β->AV} {e'':γ->AV} [I:Inj e] [J:Inj e'] [K:Inj e'']:Inj (R3 e e' e''):=⟨fun a b h=>by
 simp only[R3,ybs,AV.tup.injEq,ya0,and_true]at h
 exact Prod.ext (I.inj _ _ h.1) (Prod.ext (J.inj _ _ h.2.1) (K.inj _ _ h.2.2))⟩
instance {t:TypeId} {e:α->AV} [Inj e]:Inj (K1 t e):=⟨fun a b h=>by
 simp only[K1,ybs,ya0,Ent.row.injEq,zd1,and_true,true_and]at h
 exact h⟩
end
section
variable {α:Type} (e:α->AV)
def xlen(l:List α):Int:=yac.llen (l.map e)
def xget(l:List α)(i:Int):Option α:=ask e (yac.lget (l.map e) i)
def xsub(l:List α)(lo hi:Int):Option (List α):=ask (yab e) (yac.lsub (l.map e) lo hi)
def xcut(t:TypeId)(l:List α):Option (List (List α)):=ask (yab (eL t e)) (yac.lcut t (l.map e))
def xsrt(me:Int)(l:List α):Option (List α):=ask (yab e) (yac.lsrt me (l.map e))
def zar(b:Nat)(l l':List α):Bool:=yac.room b (l.map e) (l'.map e)
def xset(l:List α)(i:Int)(x:α):List α:=l.set i.toNat x
def xput(l:List α)(i:Int)(l':List α):List α:=l.take i.toNat++l'++l.drop (i.toNat+l'.length)
def xfil(l:List α)(lo hi:Int)(z:α):List α:=l.take lo.toNat++yaA (hi.toNat-lo.toNat) z++l.drop hi.toNat
def zcF(s:ByteArray)(i:Int):Option Int:=yac.sget s i
def zwM(s:ByteArray)(i j:Int):Option ByteArray:=yac.ssub s i j
def xsapp(s t:ByteArray):Option ByteArray:=yac.sapp s t
def ztQ(s:ByteArray)(at_:Int):Option (Int×Int):=yac.sdec s at_
def zPY(s:ByteArray):List Int:=s.data.toList.map fun b=>(b.toNat:Int)
def xsofb(l:List Int):Option ByteArray:=yac.sofb (l.map vB)
omit e in
theorem zGF(s:ByteArray):(zPY s).map vB=yac.bofs s:=by
 show(s.data.toList.map fun b=>(b.toNat:Int)).map vB=s.data.toList.map _
 rw[List.map_map];rfl
theorem zNh(l l':List α):(l++l').map e=yac.lapp (l.map e) (l'.map e):=by
 show _=_++_;simp
theorem map_set(l:List α)(i:Int)(x:α):(xset l i x).map e=yac.lset (l.map e) i (e x):=by
 show(List.set _ _ _).map e=List.set _ _ _;simp
theorem zNj(l:List α)(i:Int)(l':List α):(xput l i l').map e=yac.lput (l.map e) i (l'.map e):=by
 show _=List.take _ _++_++List.drop _ _;simp[xput]
theorem zNi(l:List α)(lo hi:Int)(z:α):(xfil l lo hi z).map e=yac.lfil (l.map e) lo hi (e z):=by
 show _=List.take _ _++yaA _ _++List.drop _ _;simp[xfil]
theorem zav(l:List α):xlen e l=(l.length:Int):=by
 show(((l.map e).length:Nat):Int)=_;simp
variable [I:Inj e]
theorem zNN(l:List α)(i:Int):xget e l i=if 0<=i then l[i.toNat]? else none:=by
 show ask e (if 0<=i then(l.map e)[i.toNat]? else none)=_;split
 ·rw[List.getElem?_map]
  cases l[i.toNat]? with
  |none=>exact zxl
  |some x=>exact zES x
 ·exact zxl
theorem zfc(l:List α)(lo hi:Int):xsub e l lo hi=if 0<=lo/\lo<=hi/\hi<=l.length then some ((l.take hi.toNat).drop lo.toNat)else none:=by
 show ask (yab e) (if 0<=lo/\lo<=hi/\hi<=(((l.map e).length:Nat):Int)then some (((l.map e).take hi.toNat).drop lo.toNat)else none)=_;rw[yaK];split
 ·rw[<-List.map_take,<-List.map_drop];exact zES _
 ·exact zxl
omit I in
theorem zax{b:Nat}{l l':List α}(h:l.length+l'.length<=1000000)(hb:b<=1000000):zar e b l l'=true:=by
 have h1:(l.length+l'.length)*b<=1000000*1000000:=Nat.mul_le_mul h hb
 show(decide ((((l.map e).length+(l'.map e).length)*b<=140737488355328))&&decide ((l.map e).length+(l'.map e).length<=maxLen))=true
 rw[yaK,yaK]
 have h2:l.length+l'.length<=maxLen:=by unfold maxLen;omega
 have h3:(l.length+l'.length)*b<=140737488355328:=by omega
 simp only[decide_eq_true h2,decide_eq_true h3,Bool.and_self]
end
theorem zaq(a b:Int):yac.ilt a b=decide (a<b):=rfl
theorem za4(a b:Int):yac.ile a b=decide (a<=b):=rfl
theorem zaf(a b:Int):yac.ieq a b=decide (a=b):=rfl
theorem zxS(x:Int):IntKind.u64.wrap x=x%18446744073709551616:=by
 simp[IntKind.wrap,IntKind.signed,IntKind.bits]
theorem zwK{a b:ByteArray}:yac.seq a b=true<->a=b:=by
 constructor
 ·intro h;have:a.data.toList=b.data.toList:=by simpa[yac]using h
  cases a;cases b;simp_all
 ·rintro rfl;simp[yac]
theorem zF9(a b:ByteArray):yac.seq a b=@decide (a=b) (Classical.propDecidable _):=by
 cases h:yac.seq a b with
 |true=>simp[zwK.1 h]
 |false=>
  have:¬a=b:=fun e=>by rw[zwK.2 e]at h;cases h
  simp[this]
theorem zac{α:Type}{c:Prop}[Decidable c]{x y:α}:(bif decide c then x else y)=if c then x else y:=by by_cases h:c<;>simp[h]
section
variable {α σ ο:Type}
theorem zaO(e:α->AV)[Inj e](l:List α)(n:Nat):xget e l (n:Int)=l[n]?:=by
 rw[zNN,if_pos (by omega)];rfl
theorem ze5(e:α->AV){l:List α}{n:Nat}:yac.ilt (n:Int) (xlen e l)=decide (n<l.length):=by
 rw[zav];show decide ((n:Int)<(l.length:Int))=_;by_cases h:n<l.length
 ·rw[decide_eq_true h,decide_eq_true (by omega)]
 ·rw[decide_eq_false h,decide_eq_false (by omega)]
theorem zaW(e:α->AV)[Inj e]{l:List α}(hl:l.length<=4611686018427387904){L:Int->σ->Option ο}{res:Nat->σ->List α->ο}{Inv:Nat->σ->Prop}
  (hnil:∀s,Inv l.length s->yac.ilt (l.length:Int) (xlen e l)=false->L (l.length:Int) s=some (res l.length s []))
  (hcons:∀(n:Nat) (x:α) (rest:List α) (s:σ),Inv n s->n<l.length->l[n]?=some x->l.drop n=x::rest->yac.ilt (n:Int) (xlen e l)=true->xget e l (n:Int)=some x->yac.iadd .i64 (n:Int) 1=((n+1:Nat):Int)->
   (∀s',Inv (n+1) s'->L ((n+1:Nat):Int) s'=some (res (n+1) s' rest))->L (n:Int) s=some (res n s (x::rest))) (s:σ) (h0:Inv 0 s):L 0 s=some (res 0 s l):=by
 have key:∀(k n:Nat),n+k=l.length->∀s,Inv n s->L (n:Int) s=some (res n s (l.drop n)):=by
  intro k
  induction k with
  |zero=>
   intro n hn s hs;obtain rfl:n=l.length:=by omega
   rw[yb7]
   exact hnil s hs (by rw[ze5];simp)
  |succ k ih=>
   intro n hn s hs;have hlt:n<l.length:=by omega
   rw[yaF hlt];exact hcons n l[n] (l.drop (n+1)) s hs hlt (yad hlt) (yaF hlt) (by rw[ze5];simp[hlt]) (by rw[zaO];exact yad hlt) (zfY (by omega)) (fun s' hs'=>ih (n+1) (by omega) s' hs')
 have:=key l.length 0 (by omega) s h0;simpa using this
def fst(p:α->Bool):List α->Option Nat
 | []=>none
 |x::l=>bif p x then some 0 else(fst p l).map (· +1)
def fstI(p:α->Bool)(l:List α):Int:=match fst p l with|some n=>n|none=>-1
theorem zb6{p:α->Bool}{l:List α}{n:Nat}(h:fst p l=some n):∃x,l[n]?=some x/\p x=true/\n<l.length/\∀i y,i<n->l[i]?=some y->p y=false:=by
 induction l generalizing n with
 |nil=>cases h
 |cons x l ih=>
  simp only[fst]at h
  cases hp:p x with
  |true=>
   rw[hp]at h;cases h
   exact⟨x,rfl,hp,by simp,fun i y hi=>by omega⟩
  |false=>
   rw[hp,cond_false]at h
   cases hf:fst p l with
   |none=>rw[hf]at h;cases h
   |some m=>
    rw[hf]at h;cases h;obtain⟨y,h1,h2,h3,h4⟩:=ih hf;refine⟨y,by simpa using h1,h2,by simp;omega,fun i z hi hz=>?_⟩
    cases i with
    |zero=>simp at hz;subst hz;exact hp
    |succ i=>exact h4 i z (by have hi:i+1<m+1:=hi;omega) (by simpa using hz)
theorem zlm{p:α->Bool}{l:List α}(h:fst p l=none):∀x,x∈l->p x=false:=by
 induction l with
 |nil=>intro x hx;cases hx
 |cons y l ih=>
  simp only[fst]at h
  cases hp:p y with
  |true=>rw[hp]at h;cases h
  |false=>
   rw[hp,cond_false,Option.map_eq_none_iff]at h;intro x hx;rcases List.mem_cons.1 hx with rfl|hx
   ·exact hp
   ·exact ih h x hx
theorem zIG{p:α->Bool}{l:List α}(h:∃x,x∈l/\p x=true):∃n,fst p l=some n:=by
 cases hf:fst p l with
 |some n=>exact⟨n,rfl⟩
 |none=>obtain⟨x,hx,hp⟩:=h;rw[zlm hf x hx]at hp;cases hp
theorem zbu(e:α->AV)[Inj e]{l:List α}(hl:l.length<=4611686018427387904){p:α->Bool}{L:Int->Option (Int⊕Unit)}
  (hnil:yac.ilt (l.length:Int) (xlen e l)=false->L (l.length:Int)=some (.inr ()))
  (hyes:∀(n:Nat) (x:α),x∈l->yac.ilt (n:Int) (xlen e l)=true->xget e l (n:Int)=some x->p x=true->L (n:Int)=some (.inl (n:Int)))
  (hno:∀(n:Nat) (x:α) (r:Int⊕Unit),x∈l->yac.ilt (n:Int) (xlen e l)=true->xget e l (n:Int)=some x->p x=false->L (yac.iadd .i64 (n:Int) 1)=some r->L (n:Int)=some r):
  L 0=some (match fst p l with|some n=>.inl (n:Int)|none=>.inr ()):=by
 have:=zaW (σ:=Unit) e hl (L:=fun i _=>L i) (res:=fun n _ rest=>match fst p rest with|some m=>Sum.inl ((n+m:Nat):Int)|none=>.inr ()) (Inv:=fun _ _=>True)
  (fun _ _ h=>by simpa[fst]using hnil h)
  (fun n x rest s _ hn hx hd h1 h2 h3 ih=>by
   have hm:x∈l:=yam hx
   cases hp:p x with
   |true=>simpa[fst,hp]using hyes n x hm h1 h2 hp
   |false=>
    have:=hno n x _ hm h1 h2 hp (by rw[h3];exact ih () trivial);rw[this];congr 1;simp only[fst,hp,cond_false]
    cases fst p rest with
    |none=>rfl
    |some m=>simp only[Option.map_some];congr 2;omega) () trivial
 simpa using this
theorem zqR{β:Type}(e:α->AV)[Inj e]{l:List α}(hl:l.length<=4611686018427387904){f:α->List β}{L:Int->List β->Option (List β)}(k:Nat)(hf:∀x,x∈l->(f x).length<=k)
  (hnil:∀acc,yac.ilt (l.length:Int) (xlen e l)=false->L (l.length:Int) acc=some acc)
  (hcons:∀(n:Nat) (x:α) (acc r:List β),acc.length<=k*n->n<l.length->x∈l->yac.ilt (n:Int) (xlen e l)=true->xget e l (n:Int)=some x->L (yac.iadd .i64 (n:Int) 1) (acc++f x)=some r->L (n:Int) acc=some r):
  L 0 []=some (l.flatMap f):=by
 have:=zaW (σ:=List β) e hl (L:=L) (res:=fun n acc rest=>acc++rest.flatMap f) (Inv:=fun n acc=>acc.length<=k*n)
  (fun acc _ h=>by simpa using hnil acc h)
  (fun n x rest acc hi hn hx hd h1 h2 h3 ih=>by
   have hm:x∈l:=yam hx;rw[hcons n x acc _ hi hn hm h1 h2 (by rw[h3];exact ih (acc++f x) (by have:=hf x hm;rw[yaf,Nat.mul_add,Nat.mul_one];omega))]
   simp) [] (by simp)
 simpa using this
theorem zqB(e:α->AV)[Inj e]{l l':List α}(hl:l.length<=4611686018427387904)(he:l.length=l'.length){L:Int->Option (Unit⊕Unit)}
  (hnil:yac.ilt (l.length:Int) (xlen e l)=false->L (l.length:Int)=some (.inr ()))
  (hyes:∀(n:Nat) (x:α) (r:Unit⊕Unit),x∈l->yac.ilt (n:Int) (xlen e l)=true->xget e l (n:Int)=some x->xget e l' (n:Int)=some x->L (yac.iadd .i64 (n:Int) 1)=some r->L (n:Int)=some r)
  (hno:∀(n:Nat) (x y:α),x∈l->yac.ilt (n:Int) (xlen e l)=true->xget e l (n:Int)=some x->xget e l' (n:Int)=some y->x≠y->L (n:Int)=some (.inl ())):
  (l=l'/\L 0=some (.inr ()))\/(l≠l'/\L 0=some (.inl ())):=by
 have key:∀(k n:Nat),n+k=l.length->(l.drop n=l'.drop n/\L (n:Int)=some (.inr ()))\/(l.drop n≠l'.drop n/\L (n:Int)=some (.inl ())):=by
  intro k
  induction k with
  |zero=>
   intro n hn;obtain rfl:n=l.length:=by omega
   refine .inl ⟨?_,hnil (by rw[ze5];simp)⟩
   rw[yb7,he,yb7]
  |succ k ih=>
   intro n hn;have hlt:n<l.length:=by omega
   have hlt':n<l'.length:=by omega
   have g1:xget e l (n:Int)=some l[n]:=by rw[zaO];exact yad hlt
   have g2:xget e l' (n:Int)=some l'[n]:=by rw[zaO];exact yad hlt'
   have h1:yac.ilt (n:Int) (xlen e l)=true:=by rw[ze5];simp[hlt]
   have hadd:yac.iadd .i64 (n:Int) 1=((n+1:Nat):Int):=zfY (by omega);rw[yaF hlt,yaF hlt'];by_cases hx:l[n]=l'[n]
   ·rw[<-hx]at g2;rcases ih (n+1) (by omega)with⟨h2,h3⟩|⟨h2,h3⟩
    ·exact .inl ⟨by rw[hx,h2],hyes n l[n] _ (yb8 hlt) h1 g1 g2 (by rw[hadd];exact h3)⟩
    ·exact .inr ⟨fun h=>h2 (List.cons.inj h).2,hyes n l[n] _ (yb8 hlt) h1 g1 g2 (by rw[hadd];exact h3)⟩
   ·exact .inr ⟨fun h=>hx (List.cons.inj h).1,hno n _ _ (yb8 hlt) h1 g1 g2 hx⟩
 have:=key l.length 0 (by omega);simpa using this
def allI(p:Nat->α->Bool):Nat->List α->Bool
 |_,[]=>true
 |n,x::l=>p n x&&allI p (n+1) l
theorem zxh{p:Nat->α->Bool}{l:List α}:∀{n:Nat},allI p n l=true<->∀i x,l[i]?=some x->p (n+i) x=true:=by
 induction l with
 |nil=>intro n;simp[allI]
 |cons y l ih=>
  intro n;simp only[allI,Bool.and_eq_true,ih];constructor
  ·rintro⟨h1,h2⟩ i x hx
   cases i with
   |zero=>simp at hx;subst hx;exact h1
   |succ i=>have:=h2 i x (by simpa using hx);rwa[show n+1+i=n+(i+1)by omega]at this
  ·intro h;exact⟨h 0 y rfl,fun i x hx=>by have:=h (i+1) x (by simpa using hx);rwa[show n+(i+1)=n+1+i by omega]at this⟩
theorem zxi(e:α->AV)[Inj e]{l:List α}(hl:l.length<=4611686018427387904){p:Nat->α->Bool}{L:Int->Option (Unit⊕Unit)}
  (hnil:yac.ilt (l.length:Int) (xlen e l)=false->L (l.length:Int)=some (.inr ()))
  (hyes:∀(n:Nat) (x:α) (r:Unit⊕Unit),l[n]?=some x->yac.ilt (n:Int) (xlen e l)=true->xget e l (n:Int)=some x->p n x=true->L (yac.iadd .i64 (n:Int) 1)=some r->L (n:Int)=some r)
  (hno:∀(n:Nat) (x:α),l[n]?=some x->yac.ilt (n:Int) (xlen e l)=true->xget e l (n:Int)=some x->p n x=false->L (n:Int)=some (.inl ())):
  L 0=some (bif allI p 0 l then .inr ()else .inl ()):=
 zaW (σ:=Unit) e hl (L:=fun i _=>L i) (res:=fun n _ rest=>bif allI p n rest then .inr ()else .inl ()) (Inv:=fun _ _=>True)
  (fun _ _ h=>hnil h)
  (fun n x rest s _ hn hx hd h1 h2 h3 ih=>by
   cases hp:p n x with
   |true=>rw[hyes n x _ hx h1 h2 hp (by rw[h3];exact ih () trivial)];simp[allI,hp]
   |false=>rw[hno n x hx h1 h2 hp];simp[allI,hp]) () trivial
end
def eqb{α:Type}(a b:α):Bool:=@decide (a=b) (Classical.propDecidable _)
theorem ziW{α:Type}(a:α):eqb a a=true:=by simp[eqb]
theorem znU{α:Type}{a b:α}(h:a≠b):eqb a b=false:=by simp[eqb,h]
def dcd(p:Prop):Bool:=@decide p (Classical.propDecidable p)
theorem zr6{p:Prop}:dcd p=true<->p:=by simp[dcd]
theorem zp7{p:Prop}:dcd p=false<->¬p:=by simp[dcd]
theorem zGl{p q:Prop}[Decidable p](h:p<->q):decide p=dcd q:=by
 by_cases hp:p
 ·rw[decide_eq_true hp,zr6.2 (h.1 hp)]
 ·rw[decide_eq_false hp,zp7.2 (fun hq=>hp (h.2 hq))]
section
variable {α:Type} (e:α->AV) [Inj e] {p:α->Bool} {L:Int->Int->List α->Option (Int×List α)}
def Dels(e:α->AV)[Inj e](p:α->Bool)(L:Int->Int->List α->Option (Int×List α)):Prop:=∀i j r q,(bif yac.ilt j (xlen e r)then(xget e r j).bind fun x=>bif p x then L i (yac.iadd .i64 j 1) r else(xget e r i).bind fun _=>L (yac.iadd .i64 i 1) (yac.iadd .i64 j 1) (xset r i x)else some (i,r))=some q->L i j r=some q
theorem zJ6(hL:Dels e p L)(rest:List α):∀(kept:List α) (j0:α) (jt:List α),kept.length+(jt.length+1)+rest.length<=100000->
  ∃junk,L (kept.length:Nat) ((kept++j0::jt).length:Nat) (kept++j0::jt++rest)=some ((((kept++rest.filter fun x=>!p x).length:Nat):Int),kept++(rest.filter fun x=>!p x)++junk):=by
 induction rest with
 |nil=>
  intro kept j0 jt h;refine⟨j0::jt,hL _ _ _ _ ?_⟩;have:yac.ilt ((kept++j0::jt).length:Nat) (xlen e (kept++j0::jt++[]))=false:=by rw[ze5];simp
  rw[this];simp
 |cons x rest ih=>
  intro kept j0 jt h;simp only[List.length_cons]at h;have hlt:yac.ilt ((kept++j0::jt).length:Nat) (xlen e (kept++j0::jt++x::rest))=true:=by rw[ze5];simp
  have hg:xget e (kept++j0::jt++x::rest) ((kept++j0::jt).length:Nat)=some x:=by rw[zaO];simp
  have hadd:yac.iadd .i64 ((kept++j0::jt).length:Nat) 1=(((kept++j0::jt).length+1:Nat):Int):=zfY (by simp;omega)
  cases hx:p x with
  |true=>
   obtain⟨junk,h2⟩:=ih kept j0 (jt++[x]) (by simp;omega);refine⟨junk,hL _ _ _ _ ?_⟩;rw[hlt,hg,hadd];simp only[cond_true,yaa,hx]
   simpa[yaU,hx]using h2
  |false=>
   have hg0:xget e (kept++j0::jt++x::rest) (kept.length:Nat)=some j0:=by rw[zaO];simp
   have hadd2:yac.iadd .i64 (kept.length:Nat) 1=((kept.length+1:Nat):Int):=zfY (by omega)
   have hset:xset (kept++j0::jt++x::rest) (kept.length:Nat) x=(kept++[x])++(jt++[x])++rest:=by
    unfold xset;simp
   cases jt with
   |nil=>
    obtain⟨junk,h2⟩:=ih (kept++[x]) x [] (by simp;omega);refine⟨junk,hL _ _ _ _ ?_⟩;rw[hlt,hg,hadd];simp only[cond_true,yaa,hx,cond_false,hg0,hadd2,hset]
    simpa[yaU,hx]using h2
   |cons j1 jt=>
    obtain⟨junk,h2⟩:=ih (kept++[x]) j1 (jt++[x]) (by simp at h⊢;omega);refine⟨junk,hL _ _ _ _ ?_⟩;rw[hlt,hg,hadd];simp only[cond_true,yaa,hx,cond_false,hg0,hadd2,hset];simpa[yaU,hx]using h2
theorem xsubD(l:List α)(n:Nat)(h:n<=l.length):xsub e l (n:Int) (xlen e l)=some (l.drop n):=by
 rw[zfc,zav,if_pos (by omega)];simp
theorem xsubT(l:List α)(n:Nat)(h:n<=l.length):xsub e l 0 (n:Int)=some (l.take n):=by
 rw[zfc,if_pos (by omega)];simp
theorem zJ5(hL:Dels e p L)(z:α){l:List α}(hl:l.length<=100000){n:Nat}(hf:fst p l=some n):
  ((L n (yac.iadd .i64 n 1) l).bind fun x=>(xsub e x.2 x.1 (xlen e x.2)).bind fun _=>(xsub e (xfil x.2 x.1 (xlen e x.2) z) 0 x.1).bind fun y=>bif yac.ieq 0 0 then some y else none)=some (l.filter fun x=>!p x):=by
 obtain⟨x,hx,hp,hn,hb⟩:=zb6 hf;obtain⟨hn',hxe⟩:=List.getElem?_eq_some_iff.1 hx
 have hsplit:l=l.take n++x::l.drop (n+1):=by
  rw[<-hxe,<-yaF hn,List.take_append_drop]
 have hkl:(l.take n).length=n:=by simp;omega
 have hbefore:(l.take n).filter (fun x=>!p x)=l.take n:=List.filter_eq_self.2 fun y hy=>by
  obtain⟨i,hi,rfl⟩:=List.getElem_of_mem hy;rw[hkl]at hi;have:=hb i ((l.take n)[i]) hi (by rw[List.getElem_take];exact yad _);rw[this];rfl
 have hdrp:l.filter (fun x=>!p x)=l.take n++(l.drop (n+1)).filter fun x=>!p x:=by
  conv=>lhs;rw[hsplit]
  rw[List.filter_append,hbefore,List.filter_cons,hp];rfl
 obtain⟨junk,hlo⟩:=zJ6 e hL (l.drop (n+1)) (l.take n) x [] (by rw[hkl];simp;omega);rw[<-hdrp,List.append_assoc,List.singleton_append,<-hsplit,yaf,hkl,List.length_singleton]at hlo
 have hfil:xfil (l.filter (fun x=>!p x)++junk) ((l.filter fun x=>!p x).length:Nat) (xlen e (l.filter (fun x=>!p x)++junk)) z=l.filter (fun x=>!p x)++yaA junk.length z:=by
  unfold xfil;rw[zav];simp only[Int.toNat_natCast];simp
 rw[zfY (by omega),hlo,yaa];dsimp only;rw[xsubD e _ _ (by simp),yaa,hfil,xsubT e _ _ (by simp),yaa];show some _=_;simp
end
end Go.Ab
namespace Go.Ab
open Go Go.RowKit Go.Shelf Go.Proofs
open Nat renaming le_refl->yag
section
variable {P:Program} {base:Base} {ρ:Ren}
theorem zKL{w':World}{b0:Nat}{base:Base}(hb:base<=b0){e:TypeId}{size:Nat}{v:Value}{n:Nat}{vals:List Value}(h:w'.ownsRow b0 e size v n vals):RowAt base w' e size v n vals/\(∀b,zaP v=some b->b0<=b/\b<w'.heap.size)/\v.oneCell'=true:=by
 obtain⟨hl,h⟩:=h;rcases h with⟨rfl,rfl⟩|⟨g,cap,cur,rfl,hg,hh,hn,hm,hs,ht⟩
 ·exact⟨⟨hl,.inl ⟨rfl,none,rfl⟩⟩,fun b hb=>by simp[zaP]at hb,rfl⟩
 ·refine⟨⟨hl,?_⟩,fun b hb=>?_,rfl⟩
  ·by_cases hc:cap=0
   ·subst hc;have:n=0:=by omega
    subst this;exact .inl ⟨rfl,_,rfl⟩
   ·exact .inr ⟨g,cap,cur,by omega,rfl,Nat.le_trans hb hg,hh,hn,hm,hs,ht⟩
  ·cases cap with
   |zero=>simp[zaP]at hb
   |succ c=>
    simp[zaP]at hb;subst hb;exact⟨hg,(Array.getElem?_eq_some_iff.1 hh).1⟩
set_option maxHeartbeats 2000000 in
set_option maxRecDepth 100000 in
theorem zDS(L:SlLaysE0.n41 P ρ)(hi:(P.info? (ρ.t 23)).isSome=true)(A:Addr)(c:Nat)(w:World):
  Calls P (ρ.f 41) #[.slice (some A) 0 c] w fun e w'=>e=.returned (.slice (some ⟨w.heap.size,0,none⟩) 0 0)/\w'=w.alloc (.cells #[] (ρ.t 23)):=by
 have mixed:=L.mixed;have t4:=L.t4;have a4:=L.a4;have z4:=L.z4;have v4:=L.v4;have t22:=L.t22;have a22:=L.a22;have z22:=L.z22;have v22:=L.v22
 have q22:∀(w:World) (a:Option Addr) (n c n' c':Nat),(binOp .eql (ρ.t 22) (.slice a n c) (.slice none n' c')).run P w=.ok (.bool a.isNone) w:=fun w a n c n' c'=>Lib.run_eql_slice_nil w _ _ a n c n' c' L.t22
 have u22:∀w,Sem.run P (underlying (ρ.t 22)) w=.ok (TypeDesc.slice (ρ.t 23)) w:=run_underlying t22
 have z23:∀w,(Go.sizeOf (ρ.t 23)).run P w=.ok (P.cellsOf (ρ.t 23)) w:=fun w=>zbw hi
 have hr:=fun rt=>zft (P:=P) (w:=w.alloc (.cells #[] (ρ.t 23))) (ty:=ρ.t 22) (rt:=rt) t22 hi (some ⟨w.heap.size,0,none⟩) (some A) 0 0 c (yag _)
 obtain⟨_,_,FG⟩:=L.f41
 go_enter FG,SlBodyN.n41_ntmps ρ
 go_wp2_with (at_builtin;refine Lib.wpList_append_run _ rfl _ _ _ _ rfl _ _ rfl rfl _ _ (hr _) ?_)
 go_ret
 exact⟨rfl,rfl⟩
theorem zll(L:SlLaysE0.n41 P ρ){z:AV}(hz:zbb P (ρ.t 23)=some z)(h0:0<P.cellsOf (ρ.t 23)):ziN P base (ρ.f 41) (.clone (ρ.t 23) (P.bytesOf (ρ.t 23))):=by
 refine⟨?_,fun args h v h3 m he E vs hP R V=>?_,trivial⟩
 ·obtain⟨nm,hn,hf⟩:=L.f41;exact⟨_,hf,rfl,by simpa using hn⟩
 ·simp only[zcQ]at he;split at he
  ·rename_i x;split at he
   ·rename_i xs hxs;split at he
    ·rename_i hroom;cases he;obtain⟨xv,us,rfl,hx,hnil⟩:=V.uncons;cases hnil;obtain⟨hel,hs⟩:=zgd R hx hxs;obtain⟨ad,cap,vals,rfl,hc,hm,hd,hone,_,hrd⟩:=zeJ R hx hel;subst hP;have hvl:vals.length=xs.length*E.P.cellsOf (ρ.t 23):=by rw[hd.length,zbB hs]
     obtain⟨hb,hl⟩:=zjp hroom;simp only[List.length_nil,Nat.zero_add]at hb hl;by_cases hx0:xs.length=0
     ·have hxn:xs=[]:=List.eq_nil_of_length_eq_zero hx0;subst hxn
      cases ad with
      |none=>
       refine(AnyE.slices_Clone_nil L 0 cap E.w).mono fun e w' ⟨he,hw⟩=>?_
       subst hw
       obtain⟨E',hw,R',S,V'⟩:=zc2 (base:=base) R (e:=ρ.t 23) (w':=E.w) (v':=.slice none 0 0) (xs':=[]) (vals':=[]) rfl rfl rfl (yag _) (fun _ _=>rfl) (fun b hb=>by simp[zaP]at hb)
        ⟨by simp,.inl ⟨rfl,none,rfl⟩⟩ rfl (fun x hx=>by cases hx) (fun u hu=>by cases hu) .nil
       exact⟨_,E',he,hw,R',S,V'⟩
      |some A=>
       have hinfo:(E.P.info? (ρ.t 23)).isSome=true:=by obtain⟨i,_,hi,_⟩:=za7 (E:=E) hz;rw[hi];rfl
       refine(zDS L hinfo A cap E.w).mono fun e w' ⟨he,hw⟩=>?_
       subst hw
       obtain⟨E',hw,R',S,V'⟩:=zc2 (base:=base) R (e:=ρ.t 23) (w':=E.w.alloc (.cells #[] (ρ.t 23))) (v':=.slice (some ⟨E.w.heap.size,0,none⟩) 0 0) (xs':=[]) (vals':=[]) rfl rfl rfl (by simp) (fun b hb=>heap_alloc_old E.w _ hb) (fun b hb=>by simp[zaP]at hb)
        ⟨by simp,.inl ⟨rfl,_,rfl⟩⟩ rfl (fun x hx=>by cases hx) (fun u hu=>by cases hu) .nil
       exact⟨_,E',he,hw,R',S,V'⟩
     ·obtain⟨i,zv,hi,hzv,hzs,_,_⟩:=za7 (E:=E) hz;have his:i.size=E.P.cellsOf (ρ.t 23):=by simp[Program.cellsOf,hi]
      have hib:i.bytes=E.P.bytesOf (ρ.t 23):=by simp[Program.bytesOf,hi]
      have hpos:0<vals.length:=by rw[hvl];exact Nat.mul_pos (by omega) h0
      obtain⟨b,o,rfl,_⟩:=hrd 0 _ (List.getElem?_eq_getElem hpos)
      have hcl:∀j u,vals[j]?=some u->E.w.cell? ⟨b,o+j,none⟩=some u:=fun j u hj=>by
       obtain⟨b',o',hab,hc'⟩:=hrd j u hj;injection hab with hab;injection hab with e1 e2 _;subst e1 e2;exact hc'
      refine(AnyE.slices_Clone L i zv (E.P.cellsOf (ρ.t 23)) (E.P.bytesOf (ρ.t 23)) hi hzv his hib hzs h0 (fun w=>zbw (by rw[hi];rfl)) b o xs.length cap vals E.w hvl hl hb hcl hone).mono fun e w' ⟨v',he,hown,_,bel⟩=>?_
      obtain⟨hrow,hblk,h1⟩:=zKL R.le hown;obtain⟨E',hw,R',S,V'⟩:=zc2 (base:=base) R (e:=ρ.t 23) (w':=w') (v':=v') (xs':=xs) (vals':=vals) bel.os bel.tape bel.output bel.size bel.block hblk hrow h1 hs hone hd;exact⟨_,E',he,hw,R',S,V'⟩
    ·cases he
   ·cases he
  ·cases he
end
end Go.Ab
namespace Go.Ab
open Go Go.ChangeShapes Go.WideShapes
open Go.DataW renaming trod->yak
open List renaming getElem?_eq_getElem->yad,getElem?_eq_some_iff->yae,mem_append->yal
section
variable {H:Type} {enc:TypeId×Value->H} {P:Program} {w:World} {base:Nat} {spare:Nat->Bool} {held:Bool} {fuel:Nat} {cs:List Value} {x:DataW H×List MemPlace}
def zHv(P:Program)(w:World)(size:Nat)(Good:AV->Prop)(cs:List Value)(xa:AV):Prop:=
 DL P w (fun _=>False) xa.cells cs/\xa.cells.length=size/\(∀c,c∈xa.cells->c.one=true)/\Good xa
theorem zKc{size:Nat}{Good:AV->Prop}{a:Addr}:∀(len:Nat),(∀i,i<len->∃cs' xa,w.cells? base (a.add (i*size)) size=some cs'/\zHv P w size Good cs' xa)->
  ∃xs vals,xs.length=len/\(∀x,x∈xs->x.cells.length=size/\Good x)/\DL P w (fun _=>False) (flat xs) vals/\vals.length=len*size/\(∀u,u∈vals->u.oneCell'=true)/\∀j u,vals[j]?=some u->w.cell? (a.add j)=some u:=by
 intro len
 induction len with
 |zero=>intro _;exact⟨[],[],rfl,fun x h=>(by cases h),.nil,by simp,fun u h=>(by cases h),fun j u h=>by simp at h⟩
 |succ len ih=>
  intro h;obtain⟨xs,vals,h1,h2,h3,h4,h5,h6⟩:=ih (fun i hi=>h i (by omega));obtain⟨cs',xa,hc,hd,hl,ho,hg⟩:=h len (by omega);obtain⟨hb,hcl,hcell⟩:=World.cells?_some hc;refine⟨xs++[xa],vals++cs',by simp[h1],fun x hx=>?_,?_,?_,fun u hu=>?_,fun j u hu=>?_⟩
  ·rcases yal.1 hx with hx|hx
   ·exact h2 x hx
   ·simp at hx;subst hx;exact⟨hl,hg⟩
  ·rw[zep];refine h3.append ?_;simpa[flat]using hd
  ·rw[List.length_append,h4,hcl,Nat.add_mul,Nat.one_mul]
  ·rcases yal.1 hu with hu|hu
   ·exact h5 u hu
   ·exact(hd.vl (E:=⟨P,w,0,fun _=>none,fun _=>0,fun _=>0,fun _=>undef,fun _=>0,fun _=>False⟩)).one_cells ho u hu
  ·by_cases hj:j<vals.length
   ·rw[List.getElem?_append_left hj]at hu;exact h6 j u hu
   ·rw[List.getElem?_append_right (by omega)]at hu
    have hlt:j-vals.length<size:=by
     have:=(yae.1 hu).1;omega
    have:=hcell (j-vals.length) hlt;rw[Go.Deep.add_add,<-h4,show vals.length+(j-vals.length)=j by omega]at this;rw[this];exact hu
theorem zK2{t e:TypeId}{size:Nat}(ht:P.underlying t=some (.slice e))(hc:P.cellsOf e=size)(h0:0<size){Good:AV->Prop}(h:yak enc P w base spare held fuel t cs=some x)
  (el:∀n cs' y,n<fuel->yak enc P w base spare held n e cs'=some y->∃xa,zHv P w size Good cs' xa):
  ∃xs v,cs=[v]/\DL P w (fun _=>False) [.lit e false xs] [v]/\∀x,x∈xs->Good x:=by
 rcases DataW.trod_slice ht h with⟨rfl,rfl⟩|⟨a,len,cap,elems,rest,n,rfl,rfl,rfl,hb,hl,hm,hlen,hel,hsp,hns⟩
 ·exact⟨[],_,rfl,.lit (Nat.le_refl 0) (Nat.zero_le _) (by simp) (fun x h=>by cases h) .nil (fun u h=>by cases h) (fun j u h=>by simp at h) .nil,fun x h=>by cases h⟩
 ·obtain⟨xs,vals,h1,h2,h3,h4,h5,h6⟩:=zKc (P:=P) (w:=w) (base:=base) (size:=size) (Good:=Good) (a:=a) len (fun i hi=>by
   have:=hel i hi;rw[yad (by omega)]at this;obtain⟨cs',e1,e2⟩:=Option.bind_eq_some_iff.1 this;obtain⟨xa,hx⟩:=el n cs' _ (by omega) e2;rw[hc]at e1
   exact⟨cs',xa,e1,hx⟩)
  refine⟨xs,_,rfl,?_,fun x hx=>(h2 x hx).2⟩
  have hd:=DL.lit (P:=P) (w:=w) (own:=fun _=>False) (e:=e) (full:=false) (xs:=xs) (a:=some a) (cap:=cap) (vals:=vals) (r:=[]) (rs:=[]) (by omega) hm (by simp) (fun x hx=>by rw[hc];exact(h2 x hx).1) h3 h5 (fun j u hu=>by
   have hpos:0<vals.length:=by have:=(yae.1 hu).1;omega
   have h00:=h6 0 _ (yad hpos);have:=h6 j u hu
   have hsp:a.spot=none:=by
    rw[show a.add 0=a from if_pos rfl]at h00;unfold World.cell? at h00;split at h00
    ·split at h00
     ·cases h00
     ·rename_i hs;simpa using hs
    ·cases h00
   obtain⟨b,o,s⟩:=a;simp only at hsp;subst hsp;refine⟨b,o,rfl,id,?_⟩;rw[Addr.add_lit]at this
   exact this) .nil
  rw[h1]at hd;exact hd
end
def Rd{α:Type}(P:Program)(w:World)(e:α->AV)(Ok:α->Prop)(cs:List Value)(a:α):Prop:=
 DL P w (fun _=>False) (e a).cells cs/\(∀c,c∈(e a).cells->c.one=true)/\Ok a
abbrev OkI(x:Int):Prop:=-9223372036854775808<=x/\x<=9223372036854775807
abbrev OkU(x:Int):Prop:=0<=x/\x<=18446744073709551615
abbrev OkW(x:Int):Prop:=0<=x/\x<=4294967295
abbrev OkH(x:Int):Prop:=0<=x/\x<=65535
abbrev OkB(x:Int):Prop:=0<=x/\x<=255
abbrev OkT(x:ByteArray):Prop:=x.size<=maxLen
abbrev OkF(x:Bool):Prop:=True
def OkL{α:Type}(Ok:α->Prop)(l:List α):Prop:=(∀x,x∈l->Ok x)/\l.length<=maxLen
theorem zvZ{k:IntKind}{n:Int}(h:(Lit.int k n).wf=true):k.min<=n/\n<=k.max:=by
 simpa[Lit.wf]using h
theorem zP1{n:Int}(h:(Lit.int .i64 n).wf=true):OkI n:=zvZ h
theorem zP4{n:Int}(h:(Lit.int .u64 n).wf=true):OkU n:=zvZ h
theorem zP3{n:Int}(h:(Lit.int .u32 n).wf=true):OkW n:=zvZ h
theorem zP2{n:Int}(h:(Lit.int .u16 n).wf=true):OkH n:=zvZ h
theorem wf_u8{n:Int}(h:(Lit.int .u8 n).wf=true):OkB n:=zvZ h
section
variable {H:Type} {enc:TypeId×Value->H} {P:Program} {w:World} {base:Nat} {spare:Nat->Bool} {held:Bool} {fuel:Nat} {cs:List Value} {x:DataW H×List MemPlace} {t:TypeId}
theorem zvF{k:IntKind}(ht:P.underlying t=some (.int k))(h:yak enc P w base spare held fuel t cs=some x):∃n,Rd P w (fun n:Int=>.sc (.int k n)) (fun n=>(Lit.int k n).wf=true) cs n:=by
 obtain⟨n,rfl,_,hw⟩:=DataW.trod_int ht h;exact⟨n,.sc rfl .nil,fun c hc=>by simp[AV.cells]at hc;subst hc;rfl,hw⟩
theorem zcT(ht:P.underlying t=some (.int .i64))(h:yak enc P w base spare held fuel t cs=some x):∃n,Rd P w vI OkI cs n:=let⟨n,h1,h2,h3⟩:=zvF ht h;⟨n,h1,h2,zP1 h3⟩
theorem zDh(ht:P.underlying t=some (.int .u64))(h:yak enc P w base spare held fuel t cs=some x):∃n,Rd P w vU OkU cs n:=let⟨n,h1,h2,h3⟩:=zvF ht h;⟨n,h1,h2,zP4 h3⟩
theorem zDg(ht:P.underlying t=some (.int .u32))(h:yak enc P w base spare held fuel t cs=some x):∃n,Rd P w vW OkW cs n:=let⟨n,h1,h2,h3⟩:=zvF ht h;⟨n,h1,h2,zP3 h3⟩
theorem zPX(ht:P.underlying t=some (.int .u16))(h:yak enc P w base spare held fuel t cs=some x):∃n,Rd P w vH OkH cs n:=let⟨n,h1,h2,h3⟩:=zvF ht h;⟨n,h1,h2,zP2 h3⟩
theorem rd_u8(ht:P.underlying t=some (.int .u8))(h:yak enc P w base spare held fuel t cs=some x):∃n,Rd P w vB OkB cs n:=let⟨n,h1,h2,h3⟩:=zvF ht h;⟨n,h1,h2,wf_u8 h3⟩
theorem zg8(ht:P.underlying t=some .string)(h:yak enc P w base spare held fuel t cs=some x):∃s,Rd P w vT OkT cs s:=by
 obtain⟨s,rfl,_,hs⟩:=DataW.trod_string ht h;exact⟨s,.sc rfl .nil,fun c hc=>by simp[AV.cells]at hc;subst hc;rfl,hs⟩
theorem zwJ(ht:P.underlying t=some .bool)(h:yak enc P w base spare held fuel t cs=some x):∃s,Rd P w vF OkF cs s:=by
 obtain⟨s,rfl,_⟩:=DataW.trod_bool ht h;exact⟨s,.sc rfl .nil,fun c hc=>by simp[AV.cells]at hc;subst hc;rfl,trivial⟩
theorem znh{α:Type}{e:TypeId}{size:Nat}{f:α->AV}{Ok:α->Prop}(ht:P.underlying t=some (.slice e))(hc:P.cellsOf e=size)(h0:0<size)(hf:∀a,(f a).cells.length=size)(h:yak enc P w base spare held fuel t cs=some x)
  (el:∀n cs' y,n<fuel->yak enc P w base spare held n e cs'=some y->∃a,Rd P w f Ok cs' a):∃l,Rd P w (eL e f) (OkL Ok) cs l:=by
 obtain⟨xs,v,rfl,hd,hg⟩:=zK2 (P:=P) (w:=w) (size:=size) (Good:=fun v=>∃a,v=f a/\Ok a) ht hc h0 h (fun n cs' y hn hy=>by
  obtain⟨a,h1,h2,h3⟩:=el n cs' y hn hy
  exact⟨f a,h1,hf a,h2,a,rfl,h3⟩)
 have key:∀xs:List AV,(∀x,x∈xs->∃a,x=f a/\Ok a)->∃l:List α,xs=l.map f/\∀a,a∈l->Ok a:=by
  intro xs
  induction xs with
  |nil=>intro _;exact⟨[],rfl,fun a h=>by cases h⟩
  |cons x xs ih=>
   intro h;obtain⟨a,rfl,ha⟩:=h x (by simp);obtain⟨l,rfl,hl⟩:=ih (fun y hy=>h y (by simp[hy]));exact⟨a::l,rfl,fun b hb=>(List.mem_cons.1 hb).elim (fun e=>by rw[e];exact ha) (hl b)⟩
 obtain⟨l,rfl,hl⟩:=key xs hg
 have hlen:l.length<=maxLen:=by
  cases hd with
  |lit h1 h2 _ _ _ _ _ _=>rw[List.length_map]at h1;omega
 exact⟨l,hd,fun c hc=>by simp[eL,AV.cells]at hc;subst hc;rfl,hl,hlen⟩
theorem zsD{α:Type}{fs:Array Field}{f:α->AV}{Ok:α->Prop}(hagg:∀a,∃cs,f a=.agg cs)(ht:P.underlying t=some (.struct fs)){r:Reach}{b0:Nat}{v:Value}(hval:Value.okWide P w r b0 t v)(h:∃a,Rd P w f Ok v.cells.toList a):∃a,DL P w (fun _=>False) [f a] [v]/\Ok a:=by
 obtain⟨a,h1,_,h2⟩:=h;unfold Value.okWide at hval;rw[ht]at hval;obtain⟨cs,rfl,_,_⟩:=hval;obtain⟨l,hl⟩:=hagg a;rw[hl]at h1;refine⟨a,?_,h2⟩;rw[hl];have:=DL.agg h1 (r:=[]) (rs:=[]) .nil;simpa[AV.cells,Value.cells]using this
end
end Go.Ab
namespace Go.Ab
open Go Go.RowKit Go.Shelf Go.Proofs Go.Lib
open Go renaming sizeOf->ycn
open Go.Addr renaming add_lit->ycu
open Go.Builtin renaming append_->yaV,firstCells->ybo,zeroCells->yaX
open Go.Extern.SlicesOverlaps renaming overlaps->yaZ
open Go.IntKind renaming i64->ybD,wrap_i64->ybP
open Go.Value renaming bool->ycy
open List renaming getElem?_drop->ybu,getElem?_eq_getElem->yad,length_drop->yar,length_take->yan,mem_of_mem_drop->yaG
open Nat renaming add_assoc->yaU,add_mul->yaE,mul_le_mul_right->yaD
structure InsBase(P:Program)(ρ:Ren):Prop where
 mixed:P.follows .mixedOrders=true
 f22:Bears P (ρ.f 22) (Body2.n22 ρ)
 t0:P.underlying (ρ.t 0)=some (TypeDesc.tuple #[])
 a0:∀w,(isAgg (ρ.t 0)).run P w=.ok false w
 z0:∀w,(ycn (ρ.t 0)).run P w=.ok 1 w
 v0:∀w,(zeroValue (ρ.t 0)).run P w=.ok (Value.tuple #[]) w
 t3:P.underlying (ρ.t 3)=some (TypeDesc.int ybD)
 a3:∀w,(isAgg (ρ.t 3)).run P w=.ok false w
 z3:∀w,(ycn (ρ.t 3)).run P w=.ok 1 w
 v3:∀w,(zeroValue (ρ.t 3)).run P w=.ok (Value.int ybD 0) w
 t4:P.underlying (ρ.t 4)=some (TypeDesc.bool)
 a4:∀w,(isAgg (ρ.t 4)).run P w=.ok false w
 z4:∀w,(ycn (ρ.t 4)).run P w=.ok 1 w
 v4:∀w,(zeroValue (ρ.t 4)).run P w=.ok (ycy false) w
 t24:P.underlying (ρ.t 24)=some (TypeDesc.slice (ρ.t 9))
 a24:∀w,(isAgg (ρ.t 24)).run P w=.ok false w
 z24:∀w,(ycn (ρ.t 24)).run P w=.ok 1 w
 v24:∀w,(zeroValue (ρ.t 24)).run P w=.ok (Value.slice none 0 0) w
structure InsLaid(P:Program)(ρ:Ren):Prop extends InsBase P ρ where
 ov:∀args w v,(yaZ #[ρ.t 24,ρ.t 24] #[ρ.t 4] args).run P w=.ok v w->(callFunc (ρ.f 29) args).run P w=.ok (.value v) w
section
variable {P:Program} {ρ:Ren}
theorem zoU(w:World)(dT sT ty elem:TypeId)(k b o dLen dCap:Nat)(a:Addr)(sLen sCap:Nat)(cs:List Value)
  (hu:P.underlying dT=some (.slice elem)) (hs:(P.info? elem).map (·.size)=some k) (hn:cs.length=Nat.min sLen dLen*k)
  (hsrc:∀j v,cs[j]?=some v->w.cell? (a.add j)=some v) (hc:∀j,j<cs.length->(w.cell? ⟨b,o+j,none⟩).isSome=true) (hf:∀j,j<cs.length->w.frozen? ⟨b,o+j,none⟩=false) (h1:∀v∈cs,v.oneCell'=true):
  (Builtin.copy_ #[dT,sT] ty #[.slice (some ⟨b,o,none⟩) dLen dCap,.slice (some a) sLen sCap]).run P w=.ok (goInt (Nat.min sLen dLen)) (w.setCells b o cs):=by
 have hl:=run_loadCells_list (P:=P) w a cs hsrc;have hst:=run_storeCells_cells (P:=P) b o cs 0 w (by simpa using hc) (by simpa using hf) h1
 cases hq:P.info? elem with
 |none=>simp[hq]at hs
 |some i=>
  have hi:i.size=k:=by simpa[hq]using hs
  simp[Builtin.copy_,run_underlying hu,Builtin.lenOf,ybo,sizeOf,typeInfo,hq,hi,<-hn,hl,hst]
theorem zxK(w:World)(tS tR e:TypeId)(ht:P.underlying tS=some (.slice e))(size:Nat)(hz:∀w,(ycn e).run P w=.ok size w)
  (a b:Addr) (la ca lb cb:Nat) (hne:a.block≠b.block) {v:Value} (ha:w.cell? a=some v) {cur:Array Value} {t:TypeId} (hb:w.heap[b.block]?=some (.cells cur t (0,0))) (hcur:cur.size≠0):
  (yaZ #[tS,tS] #[tR] #[.slice (some a) la ca,.slice (some b) lb cb]).run P w=.ok (.bool false) w:=by
 have hnb:(a.block != b.block)=true:=by simpa using hne
 have hnb':(a.block==b.block)=false:=by simpa using hne
 have hsb:w.shape? b.block=some (t,cur.size):=by simp[World.shape?,hb]
 have hfb:∀o s,w.frozen? ⟨b.block,o,s⟩=false:=fun o s=>by simp[World.frozen?,hb]
 have hfb0:w.frozen? b=false:=by simp[World.frozen?,hb]
 obtain⟨tA,kA,hsa,hk⟩:∃tA kA,w.shape? a.block=some (tA,kA)/\kA≠0:=by
  unfold World.cell? at ha;split at ha
  ·rename_i c el fr hh;refine⟨el,c.size,by simp[World.shape?,hh],fun h0=>?_⟩;split at ha
   ·cases ha
   ·rw[Array.eq_empty_of_size_eq_zero h0]at ha;simp at ha
  ·cases ha
 change Sem.run P (α:=Value) (do
  let some t:=(#[tS,tS]:Array TypeId)[0]? |stuck "slices.overlaps: no parameter types"
  let .slice elem<-underlying t|stuck "slices.overlaps: slice type expected"
  let size<-sizeOf elem
  match(some a:Option Addr),(some b:Option Addr)with
  |some a,some b=>
   if la=0\/lb=0\/size=0 then pure (ycy false)
   else if a.block != b.block&&(<-frozen a)&&(<-frozen b)then unsupported .addressObserved
   else do
    if a.block != b.block then do
     noView a;noView b
     if<-mayBeOne a b then return ycy ((<-choose (.extern "sameAddr.stringBytes" 2))==1)
    pure (ycy (a.block==b.block&&a.off<b.off+lb*size&&b.off<a.off+la*size))
  |_,_=>pure (ycy false)) w=_
 by_cases h0:la=0\/lb=0\/size=0
 ·simp[run_underlying ht,hz,h0]
 ·obtain⟨kA',rfl⟩:∃m,kA=m+1:=⟨kA-1,by omega⟩
  cases hfa:w.frozen? a<;>cases hfe:w.frozen? {block:=a.block,off:=kA'+1}<;>
   simp[run_underlying ht,hz,h0,hnb,hnb',frozen,noView,viewAt,mayBeOne,stringish,shape,Sem.run,hsa,hsb,hfb0,hfb,hfa,hfe]
end
variable {P:Program} {ρ:Ren}
set_option maxHeartbeats 4000000 in
set_option maxRecDepth 100000 in
theorem zNb(L:InsLaid P ρ){k:Nat}(z9:∀w,(ycn (ρ.t 9)).run P w=.ok k w)(base:Option Addr)(n c m yc:Nat)(yb:Option Addr)(w w1:World)(v1:Value)(hm:0<m)
  (hr:∀rt,(yaV #[ρ.t 24,ρ.t 24] rt #[.slice base n c,.slice yb m yc]).run P w=.ok v1 w1):
  Calls P (ρ.f 22) #[.slice base n c,.int .i64 n,.slice yb m yc] w fun e w'=>e=.returned v1/\w'=w1:=by
 have t0:=L.t0;have a0:=L.a0;have z0:=L.z0;have v0:=L.v0;have t3:=L.t3;have a3:=L.a3;have z3:=L.z3;have v3:=L.v3;have t4:=L.t4;have a4:=L.a4;have z4:=L.z4;have v4:=L.v4;have t24:=L.t24;have a24:=L.a24;have z24:=L.z24;have v24:=L.v24
 have u0:=run_underlying L.t0;have u3:=run_underlying L.t3;have u4:=run_underlying L.t4;have u24:=run_underlying L.t24
 have mixed:=L.mixed
 have hz1:¬((m:Int)=0):=by omega
 obtain⟨_,_,FG⟩:=L.f22
 go_enter FG,Body2.n22_ntmps ρ
 cases base with
 |none=>
  go_wp2_with (at_builtin;refine Lib.wpList_append_run _ rfl _ _ _ _ rfl _ _ rfl rfl _ _ (hr _) ?_)
  go_ret
  exact⟨rfl,rfl⟩
 |some a=>
  obtain⟨ab,ao,asp⟩:=a
  go_wp2_with (at_builtin;refine Lib.wpList_append_run _ rfl _ _ _ _ rfl _ _ rfl rfl _ _ (hr _) ?_)
  all_goals (go_ret;exact⟨rfl,rfl⟩)
set_option maxHeartbeats 4000000 in
set_option maxRecDepth 100000 in
theorem zIM(L:InsLaid P ρ){k:Nat}(hk:(P.info? (ρ.t 9)).map (·.size)=some k)(z9:∀w,(ycn (ρ.t 9)).run P w=.ok k w)(b off n c i vb voff m vc:Nat)(cs vs:List Value)(w:World)(hi:i<n)(hm:0<m)(hroom:n+m<=c)(hc63:c<=9223372036854775807)(hvb:vb≠b)
  (hcl:cs.length=n*k) (hvl:vs.length=m*k)
  (hcs:∀j v,cs[j]?=some v->w.cell? ⟨b,off+j,none⟩=some v) (hsp:∀j,j<(n+m)*k->(w.cell? ⟨b,off+j,none⟩).isSome=true) (hfz:∀j,j<(n+m)*k->w.frozen? ⟨b,off+j,none⟩=false)
  (hvs:∀j v,vs[j]?=some v->w.cell? ⟨vb,voff+j,none⟩=some v) (h1c:∀v∈cs,v.oneCell'=true) (h1v:∀v∈vs,v.oneCell'=true)
  (hov:∀lb cb,(callFunc (ρ.f 29) #[.slice (some ⟨vb,voff,none⟩) m vc,.slice (some ⟨b,off+(i+m)*k,none⟩) lb cb]).run P w=.ok (.value (.bool false)) w):
  Calls P (ρ.f 22) #[.slice (some ⟨b,off,none⟩) n c,.int .i64 i,.slice (some ⟨vb,voff,none⟩) m vc] w fun e w'=>
   e=.returned (.slice (some ⟨b,off,none⟩) (n+m) c)/\w'=(w.drew.setCells b (off+(i+m)*k) (cs.drop (i*k))).setCells b (off+i*k) vs:=by
 have t0:=L.t0;have a0:=L.a0;have z0:=L.z0;have v0:=L.v0;have t3:=L.t3;have a3:=L.a3;have z3:=L.z3;have v3:=L.v3;have t4:=L.t4;have a4:=L.a4;have z4:=L.z4;have v4:=L.v4;have t24:=L.t24;have a24:=L.a24;have z24:=L.z24;have v24:=L.v24
 have u0:=run_underlying L.t0;have u3:=run_underlying L.t3;have u4:=run_underlying L.t4;have u24:=run_underlying L.t24
 have hz1:¬((m:Int)=0):=by omega
 have hz2:¬((i:Int)=(n:Int)):=by omega
 have hdl:(cs.drop (i*k)).length=(n-i)*k:=by rw[yar,hcl,Nat.sub_mul]
 have mixed:=L.mixed
 have hw1:ybD.wrap ((i:Int)+(m:Int))=(i:Int)+(m:Int):=by rw[ybP];omega
 have hb1:(0:Int)<=(i:Int)+(m:Int):=by omega
 have hin:i<=n:=by omega
 have htn:((i:Int)+(m:Int)).toNat=i+m:=by omega
 have hb2:¬(c=i+m):=by omega
 have hb3:(i:Int)<=(n:Int)+(m:Int):=by omega
 have hb4:¬(c=i):=by omega
 have hmul1:(i+m)*k+(n-i)*k=(n+m)*k:=by rw[<-yaE];congr 1;omega
 have hmul2:i*k+m*k<=(n+m)*k:=by rw[<-yaE];exact yaD _ (by omega)
 have hcp1:∀ty dc sc,(Builtin.copy_ #[(ρ.t 24),(ρ.t 24)] ty #[.slice (some ⟨b,off+(i+m)*k,none⟩) (n+m-(i+m)) dc,.slice (some ⟨b,off+i*k,none⟩) (n+m-i) sc]).run P w.drew=.ok (goInt (Nat.min (n+m-i) (n+m-(i+m)))) (w.drew.setCells b (off+(i+m)*k) (cs.drop (i*k))):=fun ty dc sc=>
  zoU w.drew _ _ ty (ρ.t 9) k b (off+(i+m)*k) (n+m-(i+m)) dc ⟨b,off+i*k,none⟩ (n+m-i) sc (cs.drop (i*k)) L.t24 hk (by rw[hdl];congr 1;simp only[Nat.min_def];split<;>omega)
   (fun j v hj=>by rw[ycu,yaU];exact hcs (i*k+j) v (by rwa[ybu]at hj))
   (fun j hj=>by rw[yaU];exact hsp _ (by omega)) (fun j hj=>by rw[yaU];exact hfz _ (by omega)) (fun v hv=>h1c v (yaG hv))
 obtain⟨W1,hW1⟩:∃W1,W1=w.drew.setCells b (off+(i+m)*k) (cs.drop (i*k)):=⟨_,rfl⟩
 have hsp1:∀q,q<(n+m)*k->(W1.cell? ⟨b,off+q,none⟩).isSome=true:=fun q hq=>by
  rw[hW1]
  exact isSome_setCells b _ _ _ (fun j hj=>by rw[yaU];exact hsp _ (by omega)) _ (hsp q hq)
 have hcp2:∀(W:World),(∀x,W.cell? x=W1.cell? x)->(∀x,W.frozen? x=W1.frozen? x)->∀ty dc,(Builtin.copy_ #[(ρ.t 24),(ρ.t 24)] ty #[.slice (some ⟨b,off+i*k,none⟩) (n+m-i) dc,.slice (some ⟨vb,voff,none⟩) m vc]).run P W=.ok (goInt (Nat.min m (n+m-i))) (W.setCells b (off+i*k) vs):=fun W hWc hWf ty dc=>
  zoU W _ _ ty (ρ.t 9) k b (off+i*k) (n+m-i) dc ⟨vb,voff,none⟩ m vc vs L.t24 hk (by rw[hvl];congr 1;simp only[Nat.min_def];split<;>omega)
   (fun j v hj=>by
    rw[ycu,hWc,hW1,World.cell?_setCells_out b _ _ _ _ (fun h _=>absurd h hvb)]
    exact hvs j v hj)
   (fun j hj=>by rw[hWc,yaU];exact hsp1 _ (by omega)) (fun j hj=>by rw[hWf,hW1,World.frozen?_setCells,yaU];exact hfz _ (by omega)) h1v
 rw[<-hW1]at hcp1
 clear hmul1 hmul2
 obtain⟨_,_,FG⟩:=L.f22
 go_enter FG,Body2.n22_ntmps ρ
 go_wp2_with (simp only[hov])
 go_region_law_o (refine step_copy_runI rfl _ _ (ρ.t 24) (ρ.t 24) rfl _ _ (by simp[Act.eval,Act.put]) (by simp[Act.eval,Act.put]) (hcp1 _ _ _) ?_)
 go_wp2_with (at_builtin;refine wpList_copy_runI _ rfl _ _ (ρ.t 24) (ρ.t 24) rfl _ _ rfl rfl (hcp2 _ (fun _=>rfl) (fun _=>rfl) _ _) ?_)
 go_ret
 first|exact⟨rfl,rfl⟩|exact⟨rfl,by rw[hW1]⟩
set_option maxHeartbeats 4000000 in
set_option maxRecDepth 100000 in
theorem zKp(L:InsLaid P ρ){k:Nat}(i0:TypeInfo)(zv:Value)(hi0:P.info? (ρ.t 9)=some i0)(hz0:i0.zero=some zv)(hzs:i0.size=k)(hk0:0<k)(hzc:zv.cells.size=k)(z9:∀w,(ycn (ρ.t 9)).run P w=.ok k w)
  (b off n c i vb voff m vc:Nat) (cs vs:List Value) (w:World) (hi:i<n) (hm:0<m) (hnc:n<=c) (hroom:c<n+m) (hbig:(n+m)*i0.bytes<=140737488355328) (hmax:n+m<=maxLen)
  (hcl:cs.length=n*k) (hvl:vs.length=m*k)
  (hcs:∀j v,cs[j]?=some v->w.cell? ⟨b,off+j,none⟩=some v)
  (hvs:∀j v,vs[j]?=some v->w.cell? ⟨vb,voff+j,none⟩=some v) (h1c:∀v∈cs,v.oneCell'=true) (h1v:∀v∈vs,v.oneCell'=true):
  Calls P (ρ.f 22) #[.slice (some ⟨b,off,none⟩) n c,.int .i64 i,.slice (some ⟨vb,voff,none⟩) m vc] w fun e w'=>
   e=.returned (.slice (some ⟨w.heap.size,0,none⟩) (n+m) (grownCap w (n+m) c (ρ.t 9)))/\
   w'=(((w.alloc (.cells ((cs.take (i*k)).toArray++yaX zv.cells (n+m-i)++yaX zv.cells (grownCap w (n+m) c (ρ.t 9)-(n+m))) (ρ.t 9))).drew.setCells w.heap.size (i*k) vs).drew).setCells w.heap.size ((i+m)*k) (cs.drop (i*k)):=by
 have t0:=L.t0;have a0:=L.a0;have z0:=L.z0;have v0:=L.v0;have t3:=L.t3;have a3:=L.a3;have z3:=L.z3;have v3:=L.v3;have t4:=L.t4;have a4:=L.a4;have z4:=L.z4;have v4:=L.v4;have t24:=L.t24;have a24:=L.a24;have z24:=L.z24;have v24:=L.v24
 have u0:=run_underlying L.t0;have u3:=run_underlying L.t3;have u4:=run_underlying L.t4;have u24:=run_underlying L.t24
 have mixed:=L.mixed
 have hz1:¬((m:Int)=0):=by omega
 have hz2:¬((i:Int)=(n:Int)):=by omega
 have hz3:(c:Int)<(n:Int)+(m:Int):=by omega
 have hk:(P.info? (ρ.t 9)).map (·.size)=some k:=by rw[hi0];simp[hzs]
 have hcpos:0<cs.length:=by rw[hcl];exact Nat.mul_pos (by omega) hk0
 have hvpos:0<vs.length:=by rw[hvl];exact Nat.mul_pos (by omega) hk0
 have hbw:b<w.heap.size:=Go.block_lt_of_cell (hcs 0 _ (yad hcpos))
 have hvw:vb<w.heap.size:=Go.block_lt_of_cell (hvs 0 _ (yad hvpos))
 have hkk:(n:Int)+(m:Int)-(i:Int)=((n+m-i:Nat):Int):=by omega
 have hik:i+(n+m-i)=n+m:=by omega
 have hmul1:(i+m)*k+(n-i)*k=(n+m)*k:=by rw[<-yaE];congr 1;omega
 have hmul2:i*k+m*k<=(n+m)*k:=by rw[<-yaE];exact yaD _ (by omega)
 have hmul3:i*k<=n*k:=yaD _ (by omega)
 have hold:(ybo i0.size i (.slice (some ⟨b,off,none⟩) i c)).run P w.drew=.ok (cs.take (i*k)).toArray w.drew:=by
  rw[hzs]
  exact run_firstCells_some w.drew k i ⟨b,off,none⟩ i c (cs.take (i*k)) (by rw[yan];omega) (fun j v hj=>by
   rw[ycu]
   rw[List.getElem?_take]at hj
   split at hj
   ·exact hcs j v hj
   ·cases hj)
 have hrz:∀ty,(yaV #[(ρ.t 24),(ρ.t 3)] ty #[.slice (some ⟨b,off,none⟩) i c,.int .i64 ((n:Int)+(m:Int)-(i:Int))]).run P w=
   .ok (.slice (some ⟨w.heap.size,0,none⟩) (n+m) (grownCap w (n+m) c (ρ.t 9))) (w.drew.alloc (.cells ((cs.take (i*k)).toArray++yaX zv.cells (n+m-i)++yaX zv.cells (grownCap w (n+m) c (ρ.t 9)-(n+m))) (ρ.t 9))):=fun ty=>by
  have hb3:(n+m-i)*i0.bytes<=(n+m)*i0.bytes:=yaD _ (by omega)
  have h:=Lib.run_append_grow_zeros w (ρ.t 24) (ρ.t 3) ty (ρ.t 9) i0 _ .i64 .i64 L.t24 L.t3 hi0 hz0 (some ⟨b,off,none⟩) i c (cs.take (i*k)) hold (n+m-i) (by omega) (by omega) (by omega) (by unfold maxLen at hmax;omega) (by omega) (by rw[hik];exact growslice_fits hroom hbig)
  rw[hik]at h
  rw[hkk]
  exact h
 obtain⟨G,hG⟩:∃G,G=grownCap w (n+m) c (ρ.t 9):=⟨_,rfl⟩
 obtain⟨ROW,hROW⟩:∃ROW:Array Value,ROW=(cs.take (i*k)).toArray++yaX zv.cells (n+m-i)++yaX zv.cells (G-(n+m)):=⟨_,rfl⟩
 rw[<-hG]at hrz⊢
 rw[<-hROW]at hrz⊢
 have hRl:(n+m)*k<=ROW.size:=by
  have h1:i*k+(n+m-i)*k=(n+m)*k:=by rw[<-yaE];congr 1
  rw[hROW]
  simp only[Array.size_append,List.size_toArray,yan,size_zeroCells,hzc]
  omega
 obtain⟨W1,hW1⟩:∃W1,W1=w.drew.alloc (.cells ROW (ρ.t 9)):=⟨_,rfl⟩
 rw[<-hW1]at hrz
 have hN:∀j,j<(n+m)*k->(W1.cell? ⟨w.heap.size,j,none⟩).isSome=true:=fun j hj=>by
  rw[hW1,World.cell?_alloc_at (w:=w.drew) ROW _ w.heap.size j rfl,Array.getElem?_eq_getElem (by omega)];rfl
 have hNf:∀j,W1.frozen? ⟨w.heap.size,j,none⟩=false:=fun j=>by rw[hW1];exact World.frozen?_alloc_at (w:=w.drew) ROW _ w.heap.size j rfl
 have hOb:∀j v,w.cell? ⟨b,j,none⟩=some v->W1.cell? ⟨b,j,none⟩=some v:=fun j v h=>by rw[hW1,World.cell?_alloc_past (w:=w.drew) _ b j hbw];exact h
 have hOv:∀j v,w.cell? ⟨vb,j,none⟩=some v->W1.cell? ⟨vb,j,none⟩=some v:=fun j v h=>by rw[hW1,World.cell?_alloc_past (w:=w.drew) _ vb j hvw];exact h
 have hcpA:∀(W:World),(∀x,W.cell? x=W1.cell? x)->(∀x,W.frozen? x=W1.frozen? x)->∀ty dc,(Builtin.copy_ #[(ρ.t 24),(ρ.t 24)] ty #[.slice (some ⟨w.heap.size,i*k,none⟩) (n+m-i) dc,.slice (some ⟨vb,voff,none⟩) m vc]).run P W=.ok (goInt (Nat.min m (n+m-i))) (W.setCells w.heap.size (i*k) vs):=fun W hWc hWf ty dc=>
  zoU W _ _ ty (ρ.t 9) k w.heap.size (i*k) (n+m-i) dc ⟨vb,voff,none⟩ m vc vs L.t24 hk (by rw[hvl];congr 1;simp only[Nat.min_def];split<;>omega)
   (fun j v hj=>by rw[ycu,hWc];exact hOv _ v (hvs j v hj))
   (fun j hj=>by rw[hWc];exact hN _ (by omega)) (fun j hj=>by rw[hWf];exact hNf _) h1v
 have hGn:n+m<=G:=by rw[hG];exact grownCap_ge w _ _ _
 have hG63:G<=9223372036854775807:=by
  have:=grownCap_le_maxLen w (n+m) c (ρ.t 9) hmax
  rw[<-hG]at this
  unfold maxLen at this
  omega
 have hGi:¬(G=i):=by omega
 have hGim:¬(G=i+m):=by omega
 have hci:¬(c=i):=by omega
 have hbN:b≠w.heap.size:=by omega
 have hdl:(cs.drop (i*k)).length=(n-i)*k:=by rw[yar,hcl,Nat.sub_mul]
 have hcpB:∀(W:World),(∀x,W.cell? x=(W1.setCells w.heap.size (i*k) vs).cell? x)->(∀x,W.frozen? x=(W1.setCells w.heap.size (i*k) vs).frozen? x)->∀ty dc sc,(Builtin.copy_ #[(ρ.t 24),(ρ.t 24)] ty #[.slice (some ⟨w.heap.size,(i+m)*k,none⟩) (n+m-(i+m)) dc,.slice (some ⟨b,off+i*k,none⟩) (n-i) sc]).run P W=.ok (goInt (Nat.min (n-i) (n+m-(i+m)))) (W.setCells w.heap.size ((i+m)*k) (cs.drop (i*k))):=fun W hWc hWf ty dc sc=>
  zoU W _ _ ty (ρ.t 9) k w.heap.size ((i+m)*k) (n+m-(i+m)) dc ⟨b,off+i*k,none⟩ (n-i) sc (cs.drop (i*k)) L.t24 hk (by rw[hdl];congr 1;simp only[Nat.min_def];split<;>omega)
   (fun j v hj=>by
    rw[ycu,hWc,World.cell?_setCells_out _ _ _ _ _ (fun h _=>absurd h hbN),yaU]
    exact hOb _ v (hcs (i*k+j) v (by rwa[ybu]at hj)))
   (fun j hj=>by rw[hWc];exact isSome_setCells _ _ _ _ (fun t ht=>hN _ (by omega)) _ (hN _ (by omega)))
   (fun j hj=>by rw[hWf,World.frozen?_setCells];exact hNf _) (fun v hv=>h1c v (yaG hv))
 subst hW1
 have hE1:∀x,((w.alloc (.cells ROW (ρ.t 9))).drew).cell? x=(w.drew.alloc (.cells ROW (ρ.t 9))).cell? x:=fun x=>rfl
 have hE2:∀x,((w.alloc (.cells ROW (ρ.t 9))).drew).frozen? x=(w.drew.alloc (.cells ROW (ρ.t 9))).frozen? x:=fun x=>rfl
 have hF1:∀x,(((w.alloc (.cells ROW (ρ.t 9))).drew.setCells w.heap.size (i*k) vs).drew).cell? x=((w.drew.alloc (.cells ROW (ρ.t 9))).setCells w.heap.size (i*k) vs).cell? x:=fun x=>rfl
 have hF2:∀x,(((w.alloc (.cells ROW (ρ.t 9))).drew.setCells w.heap.size (i*k) vs).drew).frozen? x=((w.drew.alloc (.cells ROW (ρ.t 9))).setCells w.heap.size (i*k) vs).frozen? x:=fun x=>rfl
 have hw1:ybD.wrap ((i:Int)+(m:Int))=(i:Int)+(m:Int):=by rw[ybP];omega
 have hb1:(0:Int)<=(i:Int)+(m:Int):=by omega
 have hin:i<=n:=by omega
 have htn:((i:Int)+(m:Int)).toNat=i+m:=by omega
 have hb3:(i:Int)<=(n:Int):=by omega
 clear hkk hik hold hROW hG hRl hmul1 hmul2 hmul3
 obtain⟨_,_,FG⟩:=L.f22
 go_enter FG,Body2.n22_ntmps ρ
 go_wp2_with (first
  |(at_builtin;refine Lib.wpList_append_run _ rfl _ _ _ _ rfl _ _ rfl rfl _ _ (hrz _) ?_)
  |(at_builtin;refine wpList_copy_runI _ rfl _ _ (ρ.t 24) (ρ.t 24) rfl _ _ rfl rfl (hcpA _ hE1 hE2 _ _) ?_)
  |(at_builtin;refine wpList_copy_runI _ rfl _ _ (ρ.t 24) (ρ.t 24) rfl _ _ rfl rfl (hcpB _ (fun _=>rfl) (fun _=>rfl) _ _ _) ?_))
 go_region_law_o (refine step_copy_runI rfl _ _ (ρ.t 24) (ρ.t 24) rfl (.slice (some ⟨w.heap.size,(i+m)*k,none⟩) (n+m-(i+m)) (G-(i+m))) (.slice (some ⟨b,off+i*k,none⟩) (n-i) (c-i)) (by simp[Act.eval,Act.put]) (by simp[Act.eval,Act.put]) (hcpB _ hF1 hF2 (ρ.t 3) (G-(i+m)) (c-i)) ?_)
 go_wp2
 go_ret
 exact⟨rfl,rfl⟩
end Go.Ab
namespace Go.Ab
open Go Go.RowKit Go.Shelf Go.Proofs Go.Lib
open Go.Ab.Ops renaming std->yac
open Go.Builtin renaming append_->yaV,zeroCells->yaX
open Go.Utf8 renaming decode->yaH
open List renaming append_assoc->yao,getElem?_eq_getElem->yad,getElem?_take->yaM,length_append->yaf,length_cons->yav,length_drop->yar,length_take->yan,mem_append->yal,mem_of_mem_drop->yaG,mem_of_mem_take->yaz,take_left->ya9,take_take->yco
open Nat renaming add_mul->yaE,le_refl->yag,mul_le_mul_right->yaD,one_mul->ybR,zero_add->yaQ
open _root_.Array renaming getElem?_modify->ycd,getElem?_toList->ybi,length_toList->ya8
section
variable {P:Program} {base:Base} {h:Store} {E:Env} {ρ:Ren}
theorem zGc(R:Rel base h E)(hP:E.P=P){ty e:TypeId}(hs:P.underlying ty=some (.slice e)){z:AV}(hz:zbb P e=some z)(h0:0<P.cellsOf e){k g:Nat}{xs ys:List AV}(hr:zaV h k g=some (e,false,xs)){y:AV}{rv yv:Value}(hx:VL E [.sl k g] [rv])(hy:VL E [y] [yv])
  (hys:zbc yac h y=some ys) (hsize:∀x,x∈ys->x.cells.length=P.cellsOf e) (hroom:yac.room (P.bytesOf e) xs ys=true):
  ∃v' E',(∀rt,(yaV #[ty,ty] rt #[rv,yv]).run P E.w=.ok v' E'.w)/\Rel base (h.set k (.row e (g+1) false (xs++ys))) E'/\Step h E (h.set k (.row e (g+1) false (xs++ys))) E'/\VL E' [.sl k (g+1)] [v']:=by
 let o:Oper:={(default:Oper)with op:=.call {callee:=.builtin .append,args:=#[.tmp 0,.tmp 1],argTypes:=#[ty,ty]}}
 let a:Act:={tmps:=#[rv,yv],defers:=[]}
 have ht:VL E [.sl k g,y] a.tmps.toList:=hx.cons hy;obtain⟨v',E',hrun,R',S',V'⟩:=zF3 (P:=P) (a:=a) (o:=o) (x:=.tmp 0) (y:=.tmp 1) (x':=.t 0) (y':=.t 1) (args:=#[.tmp 0,.tmp 1]) (tys:=#[ty,ty]) R hP ht rfl rfl rfl hs hz h0 rfl rfl (ys:=ys) hys hsize (k:=k) (g:=g) rfl hr hroom;refine⟨v',E',fun rt=>?_,R',S',V'⟩;have e1:a.eval (.tmp 0)=rv:=rfl;have e2:a.eval (.tmp 1)=yv:=rfl;show(yaV #[ty,ty] o.type #[rv,yv]).run P E.w=_
 cases hX:(yaV #[ty,ty] o.type #[rv,yv]).run P E.w with
 |ok v w1=>
  have:=zih (P:=P) (a:=a) (o:=o) (x:=.tmp 0) (y:=.tmp 1) (args:=#[.tmp 0,.tmp 1]) (tys:=#[ty,ty]) rfl rfl rfl hX;rcases hrun with hrun|⟨hrun,_⟩
  ·rw[this]at hrun;cases hrun;rfl
  ·rw[this]at hrun;cases hrun
 |halt hl w1=>
  exfalso
  have hx2:(execOp a.eval o).run P E.w=.halt hl w1:=by
   simp[execOp,o,resolve,invoke,builtin,e1,e2,hX,Result.andThen]
  rcases hrun with hrun|⟨hrun,_⟩<;>(rw[hx2]at hrun;cases hrun)
theorem zlb{b:Nat}{t:TypeId}{fr:Nat×Nat}:∀(vs:List Value) (o:Nat) (w:World) (cur:Array Value),w.heap[b]?=some (.cells cur t fr)->o+vs.length<=cur.size->
  ∃cur':Array Value,(w.setCells b o vs).heap[b]?=some (.cells cur' t fr)/\cur'.toList=cur.toList.take o++vs++cur.toList.drop (o+vs.length)/\(w.setCells b o vs).os=w.os/\(w.setCells b o vs).tape=w.tape/\(w.setCells b o vs).output=w.output/\(w.setCells b o vs).heap.size=w.heap.size/\∀j,j≠b->(w.setCells b o vs).heap[j]?=w.heap[j]?:=by
 intro vs
 induction vs with
 |nil=>intro o w cur hh hle;exact⟨cur,hh,by simp,rfl,rfl,rfl,rfl,fun _ _=>rfl⟩
 |cons v r ih=>
  intro o w cur hh hle;simp only[yav]at hle
  have h1:(w.setCell ⟨b,o,none⟩ v).heap[b]?=some (.cells (cur.setIfInBounds o v) t fr):=by
   have hb:=(Array.getElem?_eq_some_iff.1 hh).1;simp only[World.setCell,ycd,if_true];rw[hh];rfl
  obtain⟨cur',e1,e2,e3,e4,e5,e6,e7⟩:=ih (o+1) (w.setCell ⟨b,o,none⟩ v) _ h1 (by simp;omega)
  refine⟨cur',e1,?_,e3,e4,e5,by rw[World.setCells,e6];simp[World.setCell],fun j hj=>by
   rw[World.setCells,e7 j hj];simp only[World.setCell,ycd]
   rw[if_neg (Ne.symm hj)]⟩
  rw[e2];have hol:o<cur.toList.length:=by simp;omega
  simp only[Array.toList_setIfInBounds,yav];rw[List.take_set,List.take_succ_eq_append_getElem hol,List.drop_set_of_lt (by omega)];rw[List.set_append_right _ _ (by simp;omega)];simp only[Nat.add_assoc,Nat.add_comm 1,yan,yao];rw[show o-min o cur.toList.length=0 by omega];rfl
theorem zIK{α:Type}(cur olds news:List α)(p s N:Nat)(ho:olds=cur.take N)(hn:news.length=s)(hp:p<=N)(hle:N+s<=cur.length)(c1 c2:List α)
  (h1:c1=cur.take (p+s)++olds.drop p++cur.drop (p+s+(olds.drop p).length)) (h2:c2=c1.take p++news++c1.drop (p+news.length)):
  c2.take (N+s)=olds.take p++(news++olds.drop p)/\c2.length=cur.length:=by
 have hol:olds.length=N:=by rw[ho,yan];omega
 have hl1:c1.length=cur.length:=by rw[h1];simp only[yaf,yan,yar,hol];omega
 have ht:c1.take p=olds.take p:=by
  rw[h1,yao,List.take_append_of_le_length (by rw[yan];omega),yco,ho,yco];congr 1;omega
 have hd:c1.drop (p+s)=olds.drop p++cur.drop (p+s+(olds.drop p).length):=by
  rw[h1,yao];exact List.drop_left' (by rw[yan];omega)
 rw[hn,ht,hd]at h2;refine⟨?_,?_⟩
 ·have:c2=(olds.take p++(news++olds.drop p))++cur.drop (p+s+(olds.drop p).length):=by rw[h2];simp[yao]
  rw[this];have hl:(olds.take p++(news++olds.drop p)).length=N+s:=by simp only[yaf,yan,yar,hol,hn];omega
  rw[<-hl];exact ya9
 ·rw[h2];simp only[yaf,yan,yar,hol,hn];omega
theorem zIL{α:Type}(row olds news:List α)(p s N:Nat)(hol:olds.length=N)(hr:row.take p=olds.take p)(hn:news.length=s)(hp:p<=N)(hle:N+s<=row.length)(c1 c2:List α)
  (h1:c1=row.take p++news++row.drop (p+news.length)) (h2:c2=c1.take (p+s)++olds.drop p++c1.drop (p+s+(olds.drop p).length)):
  c2.take (N+s)=olds.take p++(news++olds.drop p)/\c2.length=row.length:=by
 have hl1:c1.length=row.length:=by rw[h1];simp only[yaf,yan,yar,hn];omega
 have ht:c1.take (p+s)=olds.take p++news:=by
  rw[h1,hr];have:(olds.take p++news).length=p+s:=by simp only[yaf,yan,hn,hol];omega
  rw[<-this];exact ya9
 rw[ht]at h2;refine⟨?_,?_⟩
 ·have:c2=(olds.take p++(news++olds.drop p))++c1.drop (p+s+(olds.drop p).length):=by rw[h2];simp[yao]
  rw[this];have hl:(olds.take p++(news++olds.drop p)).length=N+s:=by simp only[yaf,yan,yar,hol,hn];omega
  rw[<-hl];exact ya9
 ·rw[h2];simp only[yaf,yan,yar,hol,hn,hl1];omega
theorem zuZ(L:InsLaid P ρ){z:AV}(hz:zbb P (ρ.t 9)=some z)(h0:0<P.cellsOf (ρ.t 9)):ziN P base (ρ.f 22) (.insert (ρ.t 9) (P.bytesOf (ρ.t 9))):=by
 refine⟨?_,fun args h v h3 m he E vs hP R V=>?_,trivial⟩
 ·obtain⟨nm,hn,hf⟩:=L.f22;exact⟨_,hf,rfl,by simpa using hn⟩
 ·simp only[zcQ]at he;split at he
  ·rename_i k g i e2 f ys;split at he
   ·rename_i y hye;split at he
    ·rename_i e' xs hr;split at he
     ·rename_i hee;subst hee;split at he
      ·rename_i la lb hroom hla hlb;cases he;obtain⟨rv,us1,rfl,hx,V1⟩:=V.uncons;obtain⟨iv,us2,rfl,hiv,V2⟩:=V1.uncons;obtain⟨yv,us3,rfl,hy,V3⟩:=V2.uncons;cases V3;have hiv:=hiv.sc_inv.1;subst hiv;subst hP
       have hi0:0<=i/\i<=xs.length/\la=xs.take i.toNat/\lb=xs.drop i.toNat:=by
        simp only[yac]at hla hlb;split at hla
        ·rename_i hc;cases hla;split at hlb
         ·cases hlb;refine⟨hc.2.1,hc.2.2,by simp,by simp⟩
         ·cases hlb
        ·cases hla
       obtain⟨hi0,hin,rfl,rfl⟩:=hi0;obtain⟨i,rfl⟩:=Int.eq_ofNat_of_zero_le hi0;simp only[Int.ofNat_eq_natCast,Int.toNat_natCast]at *
       have hin:i<=xs.length:=by omega
       obtain⟨hel,hsy⟩:=zgd R hy hye;have hk:=za2 hr;obtain⟨hgen,htop,hesz,hsx,olds,hrow,hdx,honex⟩:=R.ent k _ hk;have hv:=hx.sl_inv.2.2.2 hgen;obtain⟨ad,yc,news,rfl,hyc,hym,_,_,hdy,honey,hrdy⟩:=hy.lit_inv.lit_inv;have hys1:ys=[y]:=by simpa[zbc]using hel
       subst hys1;obtain⟨hb,hl⟩:=zjp hroom;simp only[List.length_singleton]at hb hl;obtain⟨i0,zv,hi,hzv,hzs,_,_⟩:=za7 (E:=E) hz;have his:i0.size=E.P.cellsOf (ρ.t 9):=by simp[Program.cellsOf,hi]
       have hib:i0.bytes=E.P.bytesOf (ρ.t 9):=by simp[Program.bytesOf,hi]
       have z9:∀w,(Go.sizeOf (ρ.t 9)).run E.P w=.ok (E.P.cellsOf (ρ.t 9)) w:=fun w=>zbw (by rw[hi];rfl)
       have hk9:(E.P.info? (ρ.t 9)).map (·.size)=some (E.P.cellsOf (ρ.t 9)):=by rw[hi];simp[his]
       show Calls E.P (ρ.f 22) #[rv,.int .i64 i,.slice ad [y].length yc] E.w _;have hol:=hrow.1;have hnl:news.length=1*E.P.cellsOf (ρ.t 9):=by rw[hdy.length,zbB hsy];rfl
       by_cases hend:i=xs.length
       ·subst hend;obtain⟨v',E',hrun,R',S',V'⟩:=zGc R rfl L.t24 hz h0 hr hx hy hel hsy hroom;have hlist:yac.lapp (xs.take xs.length) (yac.lapp [y] (xs.drop xs.length))=xs++[y]:=by simp[yac]
        rw[hlist];rw[hv]at hrun⊢
        have hrv:∃bd cap,E.row k=.slice bd xs.length cap:=by
         rcases hrow.2 with⟨hn,a',ha⟩|⟨g',cap,cur,_,ha,_⟩
         ·exact⟨a',0,by rw[ha,hn]⟩
         ·exact⟨_,cap,ha⟩
        obtain⟨bd,cap,hre⟩:=hrv;rw[hre]at hrun⊢;exact(zNb L z9 bd xs.length cap 1 yc ad E.w E'.w v' (by omega) hrun).mono fun e w' ⟨he,hw⟩=>⟨v',E',he,hw.symm,R',S',V'⟩
       ·have hlt:i<xs.length:=by omega
        have hnpos:0<news.length:=by rw[hnl];omega
        obtain⟨vb,voff,rfl,hvown,hv0⟩:=hrdy 0 _ (yad hnpos)
        have hvs:∀j u,news[j]?=some u->E.w.cell? ⟨vb,voff+j,none⟩=some u:=fun j u hj=>by
         obtain⟨b',o',hab,_,hc'⟩:=hrdy j u hj;injection hab with hab;injection hab with e1 e2 _;subst e1 e2;exact hc'
        rcases hrow.2 with⟨hn0,_⟩|⟨b0,cap,cur,hc0,ha,hbb,hh,hle,hmx,hcs,htk⟩
        ·omega
        ·have hblk0:zaP (E.row k)=some b0:=by
          rw[ha]
          cases cap with
          |zero=>omega
          |succ c'=>rfl
         have hbk:blkOf E h k=some b0:=(zaN hk).trans hblk0;have hne:vb≠b0:=fun e=>hvown (by rw[e];exact R.own k b0 hbk)
         generalize hS:E.P.cellsOf (ρ.t 9)=s at *
         have hcell:∀q,E.w.cell? ⟨b0,q,none⟩=cur[q]?:=fun q=>cell_of_row E.w b0 q cur _ (0,0) hh
         have hfro:∀q,E.w.frozen? ⟨b0,q,none⟩=false:=fun q=>by simp[World.frozen?,hh]
         have hmul:i*s<=xs.length*s:=yaD _ hin;have hn1:news.length=s:=by rw[hnl,ybR]
         have hsz1:(xs.length+1)*s=xs.length*s+s:=by rw[yaE,ybR]
         have hiz1:(i+1)*s=i*s+s:=by rw[yaE,ybR]
         have hs':∀x,x∈xs.take i++([y]++xs.drop i)->x.cells.length=E.P.cellsOf (ρ.t 9):=fun x hx=>by
          rw[hS];rcases yal.1 hx with hx|hx
          ·exact hsx x (yaz hx)
          ·rcases yal.1 hx with hx|hx
           ·exact hsy x hx
           ·exact hsx x (yaG hx)
         have hone':∀u,u∈olds.take (i*s)++(news++olds.drop (i*s))->u.oneCell'=true:=fun u hu=>by
          rcases yal.1 hu with hu|hu
          ·exact honex u (yaz hu)
          ·rcases yal.1 hu with hu|hu
           ·exact honey u hu
           ·exact honex u (yaG hu)
         have hdl':DL E.P E.w E.own (flat (xs.take i++([y]++xs.drop i))) (olds.take (i*s)++(news++olds.drop (i*s))):=by
          rw[zep,zep,zlI hsx,znV hsx];exact(hdx.take _).append (hdy.append (hdx.drop _))
         have hxl:(xs.take i++([y]++xs.drop i)).length=xs.length+1:=by simp only[yaf,yan,yar,List.length_singleton];omega
         have hvl':(olds.take (i*s)++(news++olds.drop (i*s))).length=(xs.length+1)*s:=by
          simp only[yaf,yan,yar,hol,hn1];omega
         have hlist:yac.lapp (xs.take i) (yac.lapp [y] (xs.drop i))=xs.take i++([y]++xs.drop i):=rfl;rw[hlist,hv,ha];have hcur:cur.toList.length=cap*s:=by simpa using hcs
         by_cases hroomy:xs.length+1<=cap
         ·have hcap:(xs.length+1)*s<=cap*s:=yaD _ hroomy
          have hov:∀lb cb,(callFunc (ρ.f 29) #[.slice (some ⟨vb,voff,none⟩) 1 yc,.slice (some ⟨b0,0+(i+1)*s,none⟩) lb cb]).run E.P E.w=.ok (.value (.bool false)) E.w:=fun lb cb=>
           L.ov _ _ _ (zxK E.w (ρ.t 24) (ρ.t 4) (ρ.t 9) L.t24 s z9 ⟨vb,voff,none⟩ ⟨b0,0+(i+1)*s,none⟩ 1 yc lb cb hne (hvs 0 _ (yad hnpos)) hh (by rw[hcs];have:=Nat.mul_pos hc0 h0;omega))
          refine(zIM L hk9 z9 b0 0 xs.length cap i vb voff 1 yc olds news E.w hlt (by omega) hroomy (by unfold maxLen at hmx;omega) hne hol hnl
           (fun j u hj=>by rw[yaQ,hcell,<-ybi];rw[<-htk,yaM]at hj;split at hj;exact hj;cases hj)
           (fun j hj=>by rw[yaQ,hcell,Array.getElem?_eq_getElem (by rw[hcs];omega)];rfl) (fun j _=>hfro _) hvs honex honey hov).mono fun e w' ⟨he,hw⟩=>?_
          rw[yaQ,yaQ]at hw;obtain⟨c1,a1,a2,a3,a4,a5,a6,a7⟩:=zlb (b:=b0) (olds.drop (i*s)) ((i+1)*s) E.w.drew cur hh (by simp only[yar,hol];rw[hcs];omega)
          have hl1:c1.size=cur.size:=by
           have:c1.toList.length=cur.toList.length:=by rw[a2];simp only[yaf,yan,yar,hol,hcur];omega
           simpa using this
          obtain⟨c2,b1,b2,b3,b4,b5,b6,b7⟩:=zlb (b:=b0) news (i*s) _ c1 a1 (by rw[hn1,hl1,hcs];omega);rw[hiz1]at a2;obtain⟨l1,l2⟩:=zIK cur.toList olds news (i*s) s (xs.length*s) htk.symm hn1 hmul (by rw[hcur];omega) c1.toList c2.toList a2 b2;rw[<-hw]at b1 b3 b4 b5 b6 b7
          have hrv':zaP (.slice (some ⟨b0,0,none⟩) (xs.length+1) cap)=some b0:=by
           cases cap with
           |zero=>omega
           |succ c'=>rfl
          obtain⟨E',hw',R',S',V'⟩:=zj9 (base:=base) R hk (w':=w') (v':=.slice (some ⟨b0,0,none⟩) (xs.length+1) cap) (xs':=xs.take i++([y]++xs.drop i)) (vals':=olds.take (i*s)++(news++olds.drop (i*s))) (b3.trans a3) (b4.trans a4) (b5.trans a5) (by rw[b6,a6];exact yag _)
           (fun b _ hnb=>by
            have:b≠b0:=fun e=>hnb (by rw[hblk0,e])
            rw[b7 b this,a7 b this];rfl)
           (fun b hb=>by rw[hrv']at hb;cases hb;exact⟨.inl hblk0,by rw[b6,a6];exact zee R hbk⟩)
           (by
            rw[hS];refine⟨by rw[hvl',hxl],.inr ⟨b0,cap,c2,hc0,by rw[hxl],hbb,b1,by rw[hxl];exact hroomy,hmx,?_,?_⟩⟩
            ·have:c2.toList.length=cap*s:=by rw[l2,hcur]
             simpa using this
            ·rw[hxl,hsz1];exact l1) rfl hs' hone' hdl'
          exact⟨_,E',he,hw',R',S',V'⟩
         ·have hgt:cap<xs.length+1:=by omega
          refine(zKp L i0 zv hi hzv his h0 hzs z9 b0 0 xs.length cap i vb voff 1 yc olds news E.w hlt (by omega) hle hgt (by rw[hib];exact hb) hl hol hnl
           (fun j u hj=>by rw[yaQ,hcell,<-ybi];rw[<-htk,yaM]at hj;split at hj;exact hj;cases hj) hvs honex honey).mono fun e w' ⟨he,hw⟩=>?_
          have hge:=grownCap_ge E.w (xs.length+1) cap (ρ.t 9);have hgl:=grownCap_le_maxLen E.w (xs.length+1) cap (ρ.t 9) hl;generalize hG:grownCap E.w (xs.length+1) cap (ρ.t 9)=G at *
          generalize hROW:(olds.take (i*s)).toArray++yaX zv.cells (xs.length+1-i)++yaX zv.cells (G-(xs.length+1))=ROW at *
          have hRs:ROW.size=G*s:=by
           rw[<-hROW];simp only[Array.size_append,List.size_toArray,yan,size_zeroCells,hzs,hol];have e1:i*s+(xs.length+1-i)*s=(xs.length+1)*s:=by rw[<-yaE];congr 1;omega
           have e2:(xs.length+1)*s+(G-(xs.length+1))*s=G*s:=by rw[<-yaE];congr 1;omega
           omega
          have hRl:ROW.toList.length=G*s:=(ya8 (xs:=ROW)).trans hRs;have hcapG:(xs.length+1)*s<=G*s:=yaD _ hge
          have hRt:ROW.toList.take (i*s)=olds.take (i*s):=by
           rw[<-hROW];simp only[Array.toList_append,yao];rw[List.take_append_of_le_length (by simp only[yan,hol];omega),yco,Nat.min_self]
          obtain⟨c1,a1,a2,a3,a4,a5,a6,a7⟩:=zlb (b:=E.w.heap.size) news (i*s) ((E.w.alloc (.cells ROW (ρ.t 9))).drew) ROW (heap_alloc_new E.w _) (by rw[hRs,hn1];omega)
          have hl1:c1.size=ROW.size:=by
           have:c1.toList.length=ROW.toList.length:=by rw[a2];simp only[yaf,yan,yar,hn1,ya8,hRs];omega
           simpa using this
          obtain⟨c2,b1,b2,b3,b4,b5,b6,b7⟩:=zlb (b:=E.w.heap.size) (olds.drop (i*s)) ((i+1)*s) ((((E.w.alloc (.cells ROW (ρ.t 9))).drew).setCells E.w.heap.size (i*s) news).drew) c1 a1 (by rw[hl1,hRs];simp only[yar,hol];omega);rw[hiz1]at b2;obtain⟨l1,l2⟩:=zIL ROW.toList olds news (i*s) s (xs.length*s) hol hRt hn1 hmul (by rw[hRl];omega) c1.toList c2.toList a2 b2;rw[<-hw]at b1 b3 b4 b5 b6 b7
          have hrv':zaP (.slice (some ⟨E.w.heap.size,0,none⟩) (xs.length+1) G)=some E.w.heap.size:=by
           cases G with
           |zero=>omega
           |succ c'=>rfl
          have hsz':w'.heap.size=E.w.heap.size+1:=by
           rw[b6];show(((E.w.alloc (.cells ROW (ρ.t 9))).drew).setCells E.w.heap.size (i*s) news).heap.size=_;rw[a6];show(E.w.alloc (.cells ROW (ρ.t 9))).heap.size=_;simp
          obtain⟨E',hw',R',S',V'⟩:=zj9 (base:=base) R hk (w':=w') (v':=.slice (some ⟨E.w.heap.size,0,none⟩) (xs.length+1) G) (xs':=xs.take i++([y]++xs.drop i)) (vals':=olds.take (i*s)++(news++olds.drop (i*s))) (b3.trans a3) (b4.trans a4) (b5.trans a5) (by omega)
           (fun b hb _=>by
            have hbn:b≠E.w.heap.size:=by omega
            rw[b7 b hbn];show(((E.w.alloc (.cells ROW (ρ.t 9))).drew).setCells E.w.heap.size (i*s) news).heap[b]?=_;rw[a7 b hbn]
            exact Go.heap_alloc_old E.w _ hb)
           (fun b hb=>by rw[hrv']at hb;cases hb;exact⟨.inr (yag _),by omega⟩)
           (by
            rw[hS];refine⟨by rw[hvl',hxl],.inr ⟨E.w.heap.size,G,c2,by omega,by rw[hxl],R.le,b1,by rw[hxl];exact hge,hgl,?_,?_⟩⟩
            ·have:c2.toList.length=G*s:=by rw[l2,hRl]
             simpa using this
            ·rw[hxl,hsz1];exact l1) rfl hs' hone' hdl'
          exact⟨_,E',he,hw',R',S',V'⟩
      ·cases he
     ·cases he
    ·cases he
   ·cases he
  ·cases he
end
section
variable {P:Program} {base:Base} {h:Store} {E:Env} {ρ:Ren}
theorem zsF(R:Rel base h E){w':World}(bel:Below E.w.heap.size E.w w'):Rel base h {E with w:=w'}/\Step h E h {E with w:=w'}:=by
 have hheap:∀b,b<E.w.heap.size->w'.heap[b]?=E.w.heap[b]?:=bel.block;have hx:Ext E {E with w:=w'}:=⟨rfl,yag _,fun _ _=>yag _,fun _ _ _ _ hc=>⟨hc,rfl,rfl⟩,fun _ _ h=>⟨h,rfl⟩,zwD R (fun b hb _=>hheap b hb) (fun b hb=>.inl hb)⟩
 have S:Step h E h {E with w:=w'}:=⟨hx,bel.os,bel.tape,bel.output,bel.size,fun b hb _=>hheap b hb,fun b hb=>.inl hb,fun b hb _=>hb,fun k b hk=>.inl ⟨k,hk⟩⟩
 have hb:∀j,blkOf {E with w:=w'} h j=blkOf E h j:=fun j=>by
  unfold blkOf
  cases h[j]? with
  |none=>rfl
  |some e=>exact zbA rfl rfl e
 refine⟨⟨R.n,R.step_lo S,fun k e hk=>?_,R.nogen,fun k b hk=>R.own k b (by rw[<-hb];exact hk),fun k j b hk hj=>R.inj k j b (by rw[<-hb];exact hk) (by rw[<-hb];exact hj),fun b hb=>Nat.lt_of_lt_of_le (R.lt b hb) bel.size⟩,S⟩;exact(R.ent k e hk).step hx ⟨rfl,rfl,rfl,rfl,rfl⟩ (fun b hbk=>hheap b (R.lt b (R.own k b (by rw[zaN hk];exact hbk))))
theorem zNH{g3 g4:Nat}(h3:g3<base.n)(h4:g4<base.n){w:World}(L:Lo base w)(T:Utf8Tabs g3 g4 base.w0):Utf8Tabs g3 g4 w:=by
 have e:∀b,b<base.n->∀c,w.cell? ⟨b,c,none⟩=base.w0.cell? ⟨b,c,none⟩:=fun b hb c=>World.cell?_of_block (L.low b hb)
 exact⟨fun c hc=>by rw[e g3 h3];exact T.1 c hc,fun i hi=>by rw[e g4 h4,e g4 h4];exact T.2 i hi⟩
def decP(o:Ops)(_:Store)(args:List AV):Option AV:=
 match args with
 | [.sc (.string s)]=>match o.sdec s 0 with
  |some (c,n)=>some (.tup [.sc (.int .i32 c),.sc (.int .i64 n)])
  |none=>some (.tup [.sc (.int .i32 65533),.sc (.int .i64 0)])
 |_=>none
theorem zPs(L:Lays.n197 P ρ){fn:Func}(hf:P.funcs[ρ.f 197]?=some fn)(hb:fn.body.isSome=true)(hn:fn.name≠ "runtime.NumGoroutine")(h3:ρ.g 3<base.n)(h4:ρ.g 4<base.n)(T:Utf8Tabs (ρ.g 3) (ρ.g 4) base.w0):ziN P base (ρ.f 197) (.look decP):=by
 refine⟨⟨fn,hf,hb,hn⟩,fun args h v h3' m he E vs hP R V=>?_,fun _ _ _ _ _ _ _ _ hg=>hg⟩;simp only[zcQ,Option.map_eq_some_iff]at he;obtain⟨v',he,hx⟩:=he;cases hx;unfold decP at he;split at he
 case h_2=>cases he
 rename_i s;obtain⟨xv,us,rfl,hx,hnil⟩:=V.uncons;cases hnil;obtain rfl:=hx.sc_inv.1;refine(Any.utf8_DecodeRuneInString L s E.w (zNH h3 h4 R.lo T)).mono fun e w' ⟨he',bel⟩=>?_
 obtain⟨R',S⟩:=zsF R bel;refine⟨_,{E with w:=w'},he',rfl,R',S,?_⟩;split at he
 ·rename_i c n hd;cases he;obtain⟨_,hlt,rfl,rfl⟩:=zAy hd;have h0:s.size≠0:=by have:(0:Int).toNat=0:=rfl;omega
  have e0:decodeGo s=yaH s 0:=by unfold decodeGo;rw[if_neg h0]
  rw[e0];have ez:(0:Int)+(((yaH s (0:Int).toNat).2:Nat):Int)=(((yaH s 0).2:Nat):Int):=by simp
  rw[ez];exact .tup (.data (.sc rfl .nil) (.data (.sc rfl .nil) .nil)) .nil
 ·rename_i hd;cases he;have h0:s.size=0:=by have:=zAx hd (by omega);have:(0:Int).toNat=0:=rfl;omega
  have e0:decodeGo s=(65533,0):=by unfold decodeGo;rw[if_pos h0]
  rw[e0];exact .tup (.data (.sc rfl .nil) (.data (.sc rfl .nil) .nil)) .nil
end
end Go.Ab
namespace Go.Ab
open Go Go.RowKit Go.Shelf Go.Proofs
open List renaming eq_nil_of_length_eq_zero->yai,length_cons->yav,length_drop->yar,length_map->yaK,mem_cons->yaJ,mem_map->ybJ,mem_of_mem_drop->yaG,mem_of_mem_take->yaz,take_of_length_le->yaN
open Nat renaming zero_add->yaQ
def chP(e u:TypeId)(o:Ops)(h:Store)(args:List AV):Option AV:=
 match args with
 | [x]=>match zbU o h e x with
  |some xs=>match o.lcut e xs with
   |some ys=>some (.lit u false ys)
   |none=>none
  |none=>none
 |_=>none
theorem zJW(e u:TypeId):zxZ (.look (chP e u)):=by
 intro X o h h' args v B H hg;unfold chP at hg⊢;split at hg
 ·split at hg
  ·rename_i hx;simp only[znt B H hx];exact hg
  ·cases hg
 ·cases hg
section
variable {P:Program} {base:Base} {h:Store} {E:Env}
theorem DL.owns{w:World}{own:Nat->Prop}{B size n:Nat}{e:TypeId}{v:Value}{vals:List Value}{xs:List AV}(h:w.ownsRow B e size v n vals)(hn:xs.length=n)(hs:∀x,x∈xs->x.cells.length=P.cellsOf e)
  (hown:∀b,own b->b<B) (hd:DL P w own (flat xs) vals) (h1:∀u,u∈vals->u.oneCell'=true):DL P w own [.lit e false xs] [v]:=by
 subst hn;rcases h.2 with⟨rfl,h0⟩|⟨g,cap,cur,rfl,hb,hgb,hc,hm,_,ht⟩
 ·have:xs=[]:=yai h0;subst this;exact .lit (Nat.le_refl _) (Nat.zero_le _) (fun h=>by cases h) hs hd h1 (fun j u hu=>by cases hd;cases hu) .nil
 ·refine .lit hc hm (fun h=>by cases h) hs hd h1 (fun j u hu=>⟨g,0,rfl,fun ho=>?_,?_⟩) .nil
  ·have:=hown g ho;omega
  ·rw[cell_of_row w g (0+j) cur e (0,0) hgb,yaQ,<-Array.getElem?_toList];rw[<-ht,List.getElem?_take]at hu;split at hu
   ·exact hu
   ·cases hu
theorem zKi{xs:List AV}(h:∀x,x∈xs->x.cells=[x]):flat xs=xs:=by
 induction xs with
 |nil=>rfl
 |cons x xs ih=>
  show x.cells++flat xs=_;rw[h x (List.mem_cons_self ..),ih (fun y hy=>h y (List.mem_cons_of_mem _ hy))];rfl
def Cuts(P:Program)(f:FuncId)(e u:TypeId):Prop:=
 ∀(b off len cap:Nat) (a:Option Addr) (vals:List Value),len<=cap->len<=1000000->∀w:World,(0<len->a=some ⟨b,off,none⟩)->vals.length=2*len->(∀j v,vals[j]?=some v->w.cell? ⟨b,off+j,none⟩=some v)->(∀v∈vals,v.oneCell'=true)->
  Calls P f #[.slice a len cap] w fun z W'=>∃v svs,z=.returned v/\svs.length=(len+7) / 8/\W'.ownsRow w.heap.size u 1 v svs.length svs/\
   (∀(k:Nat) (sv:Value),svs[k]?=some sv->W'.ownsRow w.heap.size e 2 sv (min 8 (len-8*k)) ((vals.drop (16*k)).take (2*min 8 (len-8*k))))/\Below w.heap.size w W'
theorem zCQ{w:World}{own:Nat->Prop}{B:Nat}{e:TypeId}(he:P.cellsOf e=2){xs:List AV}{vals:List Value}(hs:∀x,x∈xs->x.cells.length=P.cellsOf e)(hown:∀b,own b->b<B)(hd:DL P w own (flat xs) vals)
  (h1:∀u,u∈vals->u.oneCell'=true):∀(svs:List Value) (k0:Nat),(∀(k:Nat) (sv:Value),svs[k]?=some sv->w.ownsRow B e 2 sv (min 8 (xs.length-8*(k0+k))) ((vals.drop (16*(k0+k))).take (2*min 8 (xs.length-8*(k0+k)))))->
  DL P w own ((List.range' k0 svs.length).map fun k=>.lit e false ((xs.drop (8*k)).take 8)) svs
 | [],_,_=>.nil
 |sv::svs,k0,hr=>by
  have h0:=hr 0 sv rfl;rw[yav,List.range'_succ,List.map_cons]
  have hx:DL P w own [.lit e false ((xs.drop (8*k0)).take 8)] [sv]:=by
   refine DL.owns h0 (by rw[List.length_take,yar];omega) (fun x hx=>hs x (yaG (yaz hx))) hown ?_ (fun u hu=>h1 u (yaG (yaz hu)));have hs':∀x,x∈xs.drop (8*k0)->x.cells.length=P.cellsOf e:=fun x hx=>hs x (yaG hx)
   have ed:(flat xs).drop (16*k0)=flat (xs.drop (8*k0)):=by rw[znV hs,he];congr 1;omega
   have hl:(xs.drop (8*k0)).take 8=(xs.drop (8*k0)).take (min 8 (xs.length-8*k0)):=by
    by_cases h8:8<=xs.length-8*k0
    ·rw[Nat.min_eq_left h8]
    ·rw[yaN (by rw[yar];omega),yaN (by rw[yar];omega)]
   rw[hl,zlI hs',he,<-ed,Nat.mul_comm _ 2];exact(hd.drop _).take _
  have ht:=zCQ he hs hown hd h1 svs (k0+1) (fun k sv' hk=>by
   have:=hr (k+1) sv' hk
   rwa[show k0+(k+1)=k0+1+k by omega]at this)
  exact hx.append ht
theorem zCg{f:FuncId}{e u:TypeId}(he:P.cellsOf e=2)(hu:P.cellsOf u=1)(hf:∃fn,P.funcs[f]?=some fn/\fn.body.isSome=true/\fn.name≠ "runtime.NumGoroutine")(hC:Cuts P f e u):ziN P base f (.look (chP e u)):=by
 refine⟨hf,fun args h v h3' m hp E vs hP R V=>?_,zJW e u⟩;simp only[zcQ,Option.map_eq_some_iff]at hp;obtain⟨v',hp,hx⟩:=hp;cases hx;unfold chP at hp;split at hp
 case h_2=>cases hp
 rename_i x;split at hp
 case h_2=>cases hp
 rename_i xs hxs;split at hp
 case h_2=>cases hp
 rename_i ys hys;cases hp;simp only[Ops.std]at hys;split at hys
 case isFalse=>cases hys
 rename_i hlen;cases hys;obtain⟨xv,us,rfl,hx,hnil⟩:=V.uncons;cases hnil;obtain⟨hel,hs⟩:=zgd R hx hxs;obtain⟨ad,cap,vals,rfl,hc,hm,hd,hone,_,hrd⟩:=zeJ R hx hel;subst hP;have hvl:vals.length=2*xs.length:=by rw[hd.length,zbB hs,he,Nat.mul_comm]
 obtain⟨b,off,hab,hcell⟩:∃b off,(0<xs.length->ad=some ⟨b,off,none⟩)/\∀j u,vals[j]?=some u->E.w.cell? ⟨b,off+j,none⟩=some u:=by
  cases vals with
  |nil=>exact⟨0,0,fun h=>by simp at hvl;omega,fun j u hj=>by cases hj⟩
  |cons v0 vr=>
   obtain⟨b,o,hab,_⟩:=hrd 0 v0 rfl;refine⟨b,o,fun _=>hab,fun j u hj=>?_⟩;obtain⟨b',o',hab',hc'⟩:=hrd j u hj;rw[hab]at hab';injection hab' with hab';injection hab' with e1 e2 _;subst e1 e2;exact hc'
 refine(hC b off xs.length cap ad vals hc hlen E.w hab hvl hcell hone).mono fun z w' ⟨v,svs,hz,hlv,hrow,heach,bel⟩=>?_
 obtain⟨R',S⟩:=zsF R bel;refine⟨_,{E with w:=w'},hz,rfl,R',S,.data ?_ .nil⟩;have hd':DL E.P w' E.own (flat xs) vals:=hd.step S.ext
 have hcl:∀y,y∈(cut8 xs).map (AV.lit e false)->y.cells=[y]:=fun y hy=>by
  obtain⟨_,_,rfl⟩:=ybJ.1 hy;rfl
 refine DL.owns hrow (by rw[yaK,cut8,yaK,List.length_range,hlv]) (fun y hy=>by rw[hcl y hy,hu];rfl) (fun b hb=>R.lt b hb) ?_ (fun u hu'=>?_)
 ·rw[zKi hcl];have:=zCQ he hs (fun b hb=>R.lt b hb) hd' hone svs 0 (fun k sv hk=>by rw[yaQ];exact heach k sv hk);rw[cut8,List.map_map,<-hlv,List.range_eq_range'];exact this
 ·obtain⟨k,hk⟩:=List.mem_iff_getElem?.1 hu';rcases(heach k u hk).2 with⟨rfl,_⟩|⟨_,_,_,rfl,_⟩<;>rfl
end
section
variable {P:Program} {base:Base} {h:Store} {E:Env}
def pcells(p:Int×Int):List Value:=[.int .u64 p.1,.int .u16 p.2]
def InR(p:Int×Int):Prop:=0<=p.1/\p.1<18446744073709551616
theorem zDN{x:AV}{p:Int×Int}(hx:zx2 x=some p):x=zdD p/\InR p:=by
 unfold zx2 at hx;split at hx
 ·split at hx
  ·rename_i hr;cases hx;exact⟨rfl,hr⟩
  ·cases hx
 ·cases hx
theorem zuE:∀{xs:List AV} {l:List (Int×Int)},zmK xs=some l->xs=l.map zdD/\∀p,p∈l->InR p
 | [],l,h=>by cases h;exact⟨rfl,fun p hp=>by cases hp⟩
 |x::r,l,h=>by
  rw[zmK]at h;split at h
  ·rename_i p l' h1 h2;cases h;obtain⟨rfl,hp⟩:=zDN h1;obtain⟨rfl,hl⟩:=zuE h2;refine⟨rfl,fun q hq=>?_⟩;rcases yaJ.1 hq with rfl|hq
   ·exact hp
   ·exact hl q hq
  ·cases h
theorem zyP{w:World}{own:Nat->Prop}:∀{l:List (Int×Int)} {vals:List Value},DL P w own (flat (l.map zdD)) vals->vals=l.flatMap pcells
 | [],vals,h=>by cases h;rfl
 |p::l,vals,h=>by
  have h':DL P w own (.sc (.int .u64 p.1):: .sc (.int .u16 p.2)::flat (l.map zdD)) vals:=h
  cases h' with
  |sc _ t=>cases t with
   |sc _ t=>rw[zyP t];rfl
theorem zCV{w:World}{own:Nat->Prop}:∀(l:List (Int×Int)),DL P w own (flat (l.map zdD)) (l.flatMap pcells)
 | []=>.nil
 |p::l=>.sc rfl (.sc rfl (zCV l))
theorem zI7{l:List (Int×Int)}:∀u,u∈l.flatMap pcells->u.oneCell'=true:=fun u hu=>by
 obtain⟨p,_,hp⟩:=List.mem_flatMap.1 hu;rcases yaJ.1 hp with rfl|hp
 ·rfl
 ·rcases yaJ.1 hp with rfl|hp
  ·rfl
  ·cases hp
theorem zD0(me:Int)(l:List (Int×Int)):(hopSort me l).length=l.length:=List.length_mergeSort ..
theorem zyM(l:List (Int×Int)):(l.flatMap pcells).length=l.length*2:=by
 induction l with
 |nil=>rfl
 |cons p l ih=>rw[List.flatMap_cons,List.length_append,ih,yav,Nat.add_mul];show 2+_=_;omega
structure Sorts(P:Program)(f:FuncId)(e:TypeId)(g:FuncId):Prop where
 at0:∀(a:Option Addr) (c:Nat) (fv:Value) (w:World),Calls P f #[.slice a 0 c,fv] w fun z w'=>z=.returned (.tuple #[])/\w'=w
 atN:∀(me:Int) (blk cap bx:Nat) (cur:Array Value) (d:List (Int×Int)) (w:World),w.cell? ⟨bx,0,none⟩=some (.int .u64 me)->bx≠blk->w.heap[blk]?=some (.cells cur e (0,0))->d.length*2<=cur.size->cur.toList.take (d.length*2)=d.flatMap pcells->
  0<d.length->d.length<=1000000->(∀p,p∈d->InR p)->
  Calls P f #[.slice (some ⟨blk,0,none⟩) d.length cap,.func (.func g) #[] #[.pointer (some ⟨bx,0,none⟩)]] w fun z w'=>z=.returned (.tuple #[])/\
   Below w.heap.size (w.setRow blk ((hopSort me d).flatMap pcells++cur.toList.drop (d.length*2)).toArray) w'
theorem zNE{f g:FuncId}{e:TypeId}(he:P.cellsOf e=2)(hf:∃fn,P.funcs[f]?=some fn/\fn.body.isSome=true/\fn.name≠ "runtime.NumGoroutine")(hS:Sorts P f e g):ziN P base f (.sort e g):=by
 refine⟨hf,fun args h v h3 m hp E vs hP R V=>?_,trivial⟩;simp only[zcQ]at hp;split at hp
 case h_2=>cases hp
 rename_i k gg f' b;split at hp
 case h_2=>cases hp
 rename_i e' xs t me cs hr hb;split at hp
 case isFalse=>cases hp
 rename_i hef;obtain⟨rfl,rfl⟩:=hef;split at hp
 case h_2=>cases hp
 rename_i ys hys;cases hp;simp only[Ops.std]at hys;split at hys
 case h_2=>cases hys
 rename_i l hl;split at hys
 case isFalse=>cases hys
 rename_i hlen;cases hys;subst hP;obtain⟨rfl,hin⟩:=zuE hl;obtain⟨sv,us,rfl,hsv,V2⟩:=V.uncons;obtain⟨fv,us2,rfl,hfv,hnil⟩:=V2.uncons;cases hnil;have hk:=za2 hr;obtain⟨hgen,htop,hesz,hsx,olds,hrow,hdx,honex⟩:=R.ent k _ hk
 have hsv':sv=E.row k:=by
  cases hsv with
  |data h _=>cases h
  |sl _ _ _ h _=>exact h hgen
 subst hsv'
 obtain⟨cv,hfv',hcv⟩:∃cv,fv=.func (.func g) #[] #[cv]/\cv=.pointer (some ⟨E.box b,0,none⟩):=by
  cases hfv with
  |data h _=>cases h
  |fn h _=>
   obtain⟨c,us3,rfl,hc,hn⟩:=h.uncons;cases hn
   cases hc with
   |data h _=>cases h
   |bptr _ _=>exact⟨_,rfl,rfl⟩
 subst hcv hfv';obtain⟨hbg,hbt,hbb,hbone,bvals,hbh,hbv⟩:=R.ent b _ hb;have hol:=zyP hdx;subst hol;rcases hrow.2 with⟨hn0,a',ha'⟩|⟨b0,cap,cur,hc0,ha,hb0,hh,hlec,hmx,hcs,htk⟩
 ·have:l=[]:=yai (by simpa using hn0);subst this;rw[ha'];refine(hS.at0 a' 0 _ E.w).mono fun z w' ⟨hz,hw⟩=>?_
  subst hw
  have e1:h.set k (.row e gg false ((hopSort me []).map zdD))=h:=by
   have:(hopSort me []).map zdD=[]:=by simp[hopSort]
   rw[this];exact znk hk
  rw[e1];exact⟨_,E,hz,rfl,R,.refl h E,.tup .nil .nil⟩
 ·have hbk:blkOf E h k=some b0:=(zaN hk).trans (by
   show zaP (E.row k)=_;rw[ha]
   cases cap with
   |zero=>omega
   |succ c=>rfl)
  have hbkb:blkOf E h b=some (E.box b):=zaN hb
  have hne:E.box b≠b0:=fun he=>by
   have:=R.inj k b b0 hbk (by rw[hbkb,he]);subst this;rw[hk]at hb;cases hb
  have hcell:E.w.cell? ⟨E.box b,0,none⟩=some (.int .u64 me):=by
   obtain⟨u,us4,rfl,hu,_⟩:=hbv.uncons;obtain rfl:=hu.sc_inv.1;simp[World.cell?,hbh]
  by_cases hl0:l.length=0
  ·have:l=[]:=yai hl0;subst this;rw[ha];refine(hS.at0 _ cap _ E.w).mono fun z w' ⟨hz,hw⟩=>?_
   subst hw
   have e1:h.set k (.row e gg false ((hopSort me []).map zdD))=h:=by
    have:(hopSort me []).map zdD=[]:=by simp[hopSort]
    rw[this];exact znk hk
   rw[e1];exact⟨_,E,hz,rfl,R,.refl h E,.tup .nil .nil⟩
  ·rw[ha,yaK];rw[he]at hcs htk;rw[yaK]at hlec htk;refine(hS.atN me b0 cap (E.box b) cur l E.w hcell hne hh (by omega) htk (by omega) hlen hin).mono fun z w' ⟨hz,bel⟩=>?_
   have hsl:=zD0 me l
   have RP:=zvK R hr (p:=0) (ys:=(hopSort me l).map zdD) (news:=(hopSort me l).flatMap pcells) (by simp[hsl]) (fun y hy=>by
    obtain⟨q,_,rfl⟩:=ybJ.1 hy
    rw[he];rfl) (zCV _) zI7 ha hh hc0
   have ex:((l.map zdD).take 0++(hopSort me l).map zdD++(l.map zdD).drop (0+((hopSort me l).map zdD).length))=(hopSort me l).map zdD:=by
    rw[List.drop_of_length_le (by simp[hsl])];simp
   have ew:cur.toList.take (0*E.P.cellsOf e)++(hopSort me l).flatMap pcells++cur.toList.drop (0*E.P.cellsOf e+((hopSort me l).flatMap pcells).length)=(hopSort me l).flatMap pcells++cur.toList.drop (l.length*2):=by
    rw[zyM,hsl];simp
   rw[ex,ew]at RP;obtain⟨R1,S1⟩:=RP
   obtain⟨R2,S2⟩:=zsF R1 (w':=w') (by
    have:(E.w.setRow b0 ((hopSort me l).flatMap pcells++cur.toList.drop (l.length*2)).toArray).heap.size=E.w.heap.size:=by simp[World.setRow]
    show Below (E.w.setRow b0 _).heap.size (E.w.setRow b0 _) w'
    rw[this];exact bel)
   exact⟨_,_,hz,rfl,R2,S1.trans S2 R.lt,.tup .nil .nil⟩
end
end Go.Ab
namespace Go.Proofs
open Go.Shelf
open Go.Extern.SlicesOverlaps renaming overlaps->yaZ
open Go.Shelf renaming Ren->ybM
def Tryz.clone43_ren:ybM:=⟨fun|41=>43|n=>n,fun|22=>26|23=>55|4=>4|n=>n,fun|n=>n⟩
theorem Tryz.clone43:Go.Proofs.SlLaysE0.n41 Tryz.prog Tryz.clone43_ren where
 mixed:=by kernel_rfl
 f41:=⟨Tryz.f43.name,by decide,Tryz.func43.trans (congrArg some (by kernel_rfl))⟩
 t4:=Tryz.underlying4
 a4:=Tryz.isAgg4
 z4:=Tryz.sizeOf4
 v4:=Tryz.zeroValue4
 t22:=Tryz.underlying26
 a22:=Tryz.isAgg26
 z22:=Tryz.sizeOf26
 v22:=Tryz.zeroValue26
def Tryz.clone44_ren:ybM:=⟨fun|41=>44|n=>n,fun|22=>27|23=>82|4=>4|n=>n,fun|n=>n⟩
theorem Tryz.clone44:Go.Proofs.SlLaysE0.n41 Tryz.prog Tryz.clone44_ren where
 mixed:=by kernel_rfl
 f41:=⟨Tryz.f44.name,by decide,Tryz.func44.trans (congrArg some (by kernel_rfl))⟩
 t4:=Tryz.underlying4
 a4:=Tryz.isAgg4
 z4:=Tryz.sizeOf4
 v4:=Tryz.zeroValue4
 t22:=Tryz.underlying27
 a22:=Tryz.isAgg27
 z22:=Tryz.sizeOf27
 v22:=Tryz.zeroValue27
def Tryz.clone45_ren:ybM:=⟨fun|41=>45|n=>n,fun|22=>28|23=>76|4=>4|n=>n,fun|n=>n⟩
theorem Tryz.clone45:Go.Proofs.SlLaysE0.n41 Tryz.prog Tryz.clone45_ren where
 mixed:=by kernel_rfl
 f41:=⟨Tryz.f45.name,by decide,Tryz.func45.trans (congrArg some (by kernel_rfl))⟩
 t4:=Tryz.underlying4
 a4:=Tryz.isAgg4
 z4:=Tryz.sizeOf4
 v4:=Tryz.zeroValue4
 t22:=Tryz.underlying28
 a22:=Tryz.isAgg28
 z22:=Tryz.sizeOf28
 v22:=Tryz.zeroValue28
def Tryz.clone46_ren:ybM:=⟨fun|41=>46|n=>n,fun|22=>29|23=>36|4=>4|n=>n,fun|n=>n⟩
theorem Tryz.clone46:Go.Proofs.SlLaysE0.n41 Tryz.prog Tryz.clone46_ren where
 mixed:=by kernel_rfl
 f41:=⟨Tryz.f46.name,by decide,Tryz.func46.trans (congrArg some (by kernel_rfl))⟩
 t4:=Tryz.underlying4
 a4:=Tryz.isAgg4
 z4:=Tryz.sizeOf4
 v4:=Tryz.zeroValue4
 t22:=Tryz.underlying29
 a22:=Tryz.isAgg29
 z22:=Tryz.sizeOf29
 v22:=Tryz.zeroValue29
def Tryz.clone47_ren:ybM:=⟨fun|41=>47|n=>n,fun|22=>30|23=>57|4=>4|n=>n,fun|n=>n⟩
theorem Tryz.clone47:Go.Proofs.SlLaysE0.n41 Tryz.prog Tryz.clone47_ren where
 mixed:=by kernel_rfl
 f41:=⟨Tryz.f47.name,by decide,Tryz.func47.trans (congrArg some (by kernel_rfl))⟩
 t4:=Tryz.underlying4
 a4:=Tryz.isAgg4
 z4:=Tryz.sizeOf4
 v4:=Tryz.zeroValue4
 t22:=Tryz.underlying30
 a22:=Tryz.isAgg30
 z22:=Tryz.sizeOf30
 v22:=Tryz.zeroValue30
def Tryz.clone48_ren:ybM:=⟨fun|41=>48|n=>n,fun|22=>31|23=>74|4=>4|n=>n,fun|n=>n⟩
theorem Tryz.clone48:Go.Proofs.SlLaysE0.n41 Tryz.prog Tryz.clone48_ren where
 mixed:=by kernel_rfl
 f41:=⟨Tryz.f48.name,by decide,Tryz.func48.trans (congrArg some (by kernel_rfl))⟩
 t4:=Tryz.underlying4
 a4:=Tryz.isAgg4
 z4:=Tryz.sizeOf4
 v4:=Tryz.zeroValue4
 t22:=Tryz.underlying31
 a22:=Tryz.isAgg31
 z22:=Tryz.sizeOf31
 v22:=Tryz.zeroValue31
def Tryz.clone220_ren:ybM:=⟨fun|41=>220|n=>n,fun|22=>37|23=>25|4=>4|n=>n,fun|n=>n⟩
theorem Tryz.clone220:Go.Proofs.SlLaysE0.n41 Tryz.prog Tryz.clone220_ren where
 mixed:=by kernel_rfl
 f41:=⟨Tryz.f220.name,by decide,Tryz.func220.trans (congrArg some (by kernel_rfl))⟩
 t4:=Tryz.underlying4
 a4:=Tryz.isAgg4
 z4:=Tryz.sizeOf4
 v4:=Tryz.zeroValue4
 t22:=Tryz.underlying37
 a22:=Tryz.isAgg37
 z22:=Tryz.sizeOf37
 v22:=Tryz.zeroValue37
def Tryz.ins276_ren:ybM:=⟨fun|22=>276|29=>289|30=>290|36=>305|17=>313|n=>n,fun|24=>28|9=>76|3=>3|4=>4|0=>0|n=>n,fun|n=>n⟩
theorem Tryz.ins276:Go.Ab.InsBase Tryz.prog Tryz.ins276_ren where
 mixed:=by kernel_rfl
 f22:=⟨Tryz.f276.name,by decide,Tryz.func276.trans (congrArg some (by kernel_rfl))⟩
 t0:=Tryz.underlying0
 a0:=Tryz.isAgg0
 z0:=Tryz.sizeOf0
 v0:=Tryz.zeroValue0
 t3:=Tryz.underlying3
 a3:=Tryz.isAgg3
 z3:=Tryz.sizeOf3
 v3:=Tryz.zeroValue3
 t4:=Tryz.underlying4
 a4:=Tryz.isAgg4
 z4:=Tryz.sizeOf4
 v4:=Tryz.zeroValue4
 t24:=Tryz.underlying28
 a24:=Tryz.isAgg28
 z24:=Tryz.sizeOf28
 v24:=Tryz.zeroValue28
def Tryz.ins116_ren:ybM:=⟨fun|22=>116|29=>196|30=>197|36=>255|17=>279|n=>n,fun|24=>26|9=>55|3=>3|4=>4|0=>0|n=>n,fun|n=>n⟩
theorem Tryz.ins116:Go.Ab.InsBase Tryz.prog Tryz.ins116_ren where
 mixed:=by kernel_rfl
 f22:=⟨Tryz.f116.name,by decide,Tryz.func116.trans (congrArg some (by kernel_rfl))⟩
 t0:=Tryz.underlying0
 a0:=Tryz.isAgg0
 z0:=Tryz.sizeOf0
 v0:=Tryz.zeroValue0
 t3:=Tryz.underlying3
 a3:=Tryz.isAgg3
 z3:=Tryz.sizeOf3
 v3:=Tryz.zeroValue3
 t4:=Tryz.underlying4
 a4:=Tryz.isAgg4
 z4:=Tryz.sizeOf4
 v4:=Tryz.zeroValue4
 t24:=Tryz.underlying26
 a24:=Tryz.isAgg26
 z24:=Tryz.sizeOf26
 v24:=Tryz.zeroValue26
def Tryz.ins282_ren:ybM:=⟨fun|22=>282|29=>292|30=>293|36=>306|17=>314|n=>n,fun|24=>27|9=>82|3=>3|4=>4|0=>0|n=>n,fun|n=>n⟩
theorem Tryz.ins282:Go.Ab.InsBase Tryz.prog Tryz.ins282_ren where
 mixed:=by kernel_rfl
 f22:=⟨Tryz.f282.name,by decide,Tryz.func282.trans (congrArg some (by kernel_rfl))⟩
 t0:=Tryz.underlying0
 a0:=Tryz.isAgg0
 z0:=Tryz.sizeOf0
 v0:=Tryz.zeroValue0
 t3:=Tryz.underlying3
 a3:=Tryz.isAgg3
 z3:=Tryz.sizeOf3
 v3:=Tryz.zeroValue3
 t4:=Tryz.underlying4
 a4:=Tryz.isAgg4
 z4:=Tryz.sizeOf4
 v4:=Tryz.zeroValue4
 t24:=Tryz.underlying27
 a24:=Tryz.isAgg27
 z24:=Tryz.sizeOf27
 v24:=Tryz.zeroValue27
def Tryz.dec304_ren:ybM:=⟨fun|197=>304|260=>312|n=>n,fun|9=>9|21=>21|3=>3|4=>4|5=>5|105=>258|119=>271|0=>0|46=>206|139=>274|138=>273|n=>n,fun|3=>0|4=>1|n=>n⟩
theorem Tryz.dec304:Go.Proofs.Lays.n197 Tryz.prog Tryz.dec304_ren where
 mixed:=by kernel_rfl
 f197:=Tryz.func304.trans (congrArg some (by kernel_rfl))
 f260:=Tryz.func312.trans (congrArg some (by kernel_rfl))
 t0:=Tryz.underlying0
 a0:=Tryz.isAgg0
 z0:=Tryz.sizeOf0
 v0:=Tryz.zeroValue0
 t3:=Tryz.underlying3
 a3:=Tryz.isAgg3
 z3:=Tryz.sizeOf3
 v3:=Tryz.zeroValue3
 t4:=Tryz.underlying4
 a4:=Tryz.isAgg4
 z4:=Tryz.sizeOf4
 v4:=Tryz.zeroValue4
 t5:=Tryz.underlying5
 a5:=Tryz.isAgg5
 z5:=Tryz.sizeOf5
 v5:=Tryz.zeroValue5
 t9:=Tryz.underlying9
 a9:=Tryz.isAgg9
 z9:=Tryz.sizeOf9
 v9:=Tryz.zeroValue9
 t21:=Tryz.underlying21
 a21:=Tryz.isAgg21
 z21:=Tryz.sizeOf21
 v21:=Tryz.zeroValue21
 t46:=Tryz.underlying206
 a46:=Tryz.isAgg206
 z46:=Tryz.sizeOf206
 v46:=Tryz.zeroValue206
 t105:=Tryz.underlying258
 a105:=Tryz.isAgg258
 z105:=Tryz.sizeOf258
 v105:=Tryz.zeroValue258
 t119:=Tryz.underlying271
 a119:=Tryz.isAgg271
 z119:=Tryz.sizeOf271
 t138:=Tryz.underlying273
 a138:=Tryz.isAgg273
 z138:=Tryz.sizeOf273
 v138:=Tryz.zeroValue273
 t139:=Tryz.underlying274
 a139:=Tryz.isAgg274
 z139:=Tryz.sizeOf274
 v139:=Tryz.zeroValue274
 g3:=by kernel_rfl
 g4:=by kernel_rfl
theorem Tryz.over289(args:Array Value)(w:World)(v:Value)(h:(yaZ #[Tryz.ins276_ren.t 24,Tryz.ins276_ren.t 24] #[Tryz.ins276_ren.t 4] args).run Tryz.prog w=.ok v w):(callFunc (Tryz.ins276_ren.f 29) args).run Tryz.prog w=.ok (.value v) w:=by
 show(callFunc 289 args).run Tryz.prog w=_;rw[run_callFunc_extern Tryz.func289 (by kernel_rfl) (by kernel_rfl) (by kernel_rfl) (e:=yaZ #[Tryz.ins276_ren.t 24,Tryz.ins276_ren.t 24] #[Tryz.ins276_ren.t 4]) (by kernel_rfl),h];rfl
theorem Tryz.over196(args:Array Value)(w:World)(v:Value)(h:(yaZ #[Tryz.ins116_ren.t 24,Tryz.ins116_ren.t 24] #[Tryz.ins116_ren.t 4] args).run Tryz.prog w=.ok v w):(callFunc (Tryz.ins116_ren.f 29) args).run Tryz.prog w=.ok (.value v) w:=by
 show(callFunc 196 args).run Tryz.prog w=_;rw[run_callFunc_extern Tryz.func196 (by kernel_rfl) (by kernel_rfl) (by kernel_rfl) (e:=yaZ #[Tryz.ins116_ren.t 24,Tryz.ins116_ren.t 24] #[Tryz.ins116_ren.t 4]) (by kernel_rfl),h];rfl
theorem Tryz.over292(args:Array Value)(w:World)(v:Value)(h:(yaZ #[Tryz.ins282_ren.t 24,Tryz.ins282_ren.t 24] #[Tryz.ins282_ren.t 4] args).run Tryz.prog w=.ok v w):(callFunc (Tryz.ins282_ren.f 29) args).run Tryz.prog w=.ok (.value v) w:=by
 show(callFunc 292 args).run Tryz.prog w=_;rw[run_callFunc_extern Tryz.func292 (by kernel_rfl) (by kernel_rfl) (by kernel_rfl) (e:=yaZ #[Tryz.ins282_ren.t 24,Tryz.ins282_ren.t 24] #[Tryz.ins282_ren.t 4]) (by kernel_rfl),h];rfl
end Go.Proofs
namespace Go.Proofs
open Go.RowKit Go.Shelf
open Go.Ground renaming data->ya5,phase->yay
open Go.IntKind renaming i64->ybD
open Go.Operand renaming tmp->yaI
open Go.Value renaming int->ybH
open Go.World renaming block_lt_of_cell?->ybj
open List renaming drop_eq_getElem_cons->yaF,getElem?_append_left->yah,getElem?_append_right->yax,getElem?_eq_getElem->yad,getElem?_eq_some_iff->yae,length_set->ybU,mem_of_getElem?->yam
open _root_.Array renaming getElem?_eq_some_iff->ya2
theorem zMZ:(Tryz.prog.info? 28).map (fun i=>(i.zero,i.size,i.bytes))=some (some (.slice none 0 0),1,24):=by kernel_rfl
theorem zM0:(Tryz.prog.info? 76).map (fun i=>(i.zero,i.size,i.bytes))=some (some (.agg #[.string ⟨#[]⟩,.string ⟨#[]⟩]),2,32):=by kernel_rfl
def zGL(K:Act->World->Prop):Exit->Act->World->Prop
 | .normal,a,w=>K a w
 |_,_,_=>False
def reg7:Code:=(Code.region 7 #[{dst:=some 17,op:=Op.move (yaI 3),type:=166,pos:= "ref.go:100",after:=#[],guard:=none},{dst:=some 18,op:=Op.move (yaI 4),type:=3,pos:= "ref.go:100",after:=#[],guard:=none},{dst:=some 19,op:=Op.binOp BinOp.quo 3 (yaI 18) (Operand.const (ybH ybD 8)) 3,type:=3,pos:= "ref.go:100",after:=#[{on:=1,ground:=ya5}],guard:=none},{dst:=some 20,op:=Op.move (yaI 3),type:=166,pos:= "ref.go:100",after:=#[],guard:=none},{dst:=some 21,op:=Op.move (yaI 4),type:=3,pos:= "ref.go:100",after:=#[],guard:=none},{dst:=some 22,op:=Op.binOp BinOp.quo 3 (yaI 21) (Operand.const (ybH ybD 8)) 3,type:=3,pos:= "ref.go:100",after:=#[{on:=4,ground:=ya5}],guard:=none},{dst:=some 23,op:=Op.indexAddr 166 (yaI 20) (yaI 22),type:=0,pos:= "ref.go:100",after:=#[{on:=3,ground:=ya5},{on:=5,ground:=ya5}],guard:=none},{dst:=some 24,op:=Op.load 28 (yaI 23),type:=28,pos:= "ref.go:100",after:=#[{on:=6,ground:=ya5}],guard:=none},{dst:=some 25,op:=Op.move (yaI 0),type:=28,pos:= "ref.go:100",after:=#[],guard:=none},{dst:=some 26,op:=Op.move (yaI 4),type:=3,pos:= "ref.go:100",after:=#[],guard:=none},{dst:=some 27,op:=Op.indexAddr 28 (yaI 25) (yaI 26),type:=0,pos:= "ref.go:100",after:=#[{on:=8,ground:=ya5},{on:=9,ground:=ya5}],guard:=none},{dst:=some 28,op:=Op.load 76 (yaI 27),type:=76,pos:= "ref.go:100",after:=#[{on:=10,ground:=ya5}],guard:=none},{dst:=some 29,op:=Op.buildSlice 28 1 #[(0,yaI 28)],type:=28,pos:= "ref.go:100",after:=#[{on:=11,ground:=ya5}],guard:=none},{dst:=some 30,op:=Op.call {callee:=Callee.builtin Builtin.append,args:=#[yaI 24,yaI 29],argTypes:=#[28,28]},type:=28,pos:= "ref.go:100",after:=#[{on:=7,ground:=ya5},{on:=12,ground:=ya5}],guard:=none},{dst:=some 31,op:=Op.indexAddr 166 (yaI 17) (yaI 19),type:=0,pos:= "ref.go:100",after:=#[{on:=0,ground:=ya5},{on:=2,ground:=ya5},{on:=0,ground:=yay},{on:=1,ground:=yay},{on:=2,ground:=yay},{on:=3,ground:=yay},{on:=4,ground:=yay},{on:=5,ground:=yay},{on:=6,ground:=yay},{on:=7,ground:=yay},{on:=8,ground:=yay},{on:=9,ground:=yay},{on:=10,ground:=yay},{on:=11,ground:=yay},{on:=12,ground:=yay},{on:=13,ground:=yay}],guard:=none},{dst:=none,op:=Op.store 28 (yaI 31) (yaI 30),type:=0,pos:= "ref.go:100",after:=#[{on:=14,ground:=ya5},{on:=13,ground:=ya5},{on:=13,ground:=Ground.chain},{on:=0,ground:=yay},{on:=1,ground:=yay},{on:=2,ground:=yay},{on:=3,ground:=yay},{on:=4,ground:=yay},{on:=5,ground:=yay},{on:=6,ground:=yay},{on:=7,ground:=yay},{on:=8,ground:=yay},{on:=9,ground:=yay},{on:=10,ground:=yay},{on:=11,ground:=yay},{on:=12,ground:=yay},{on:=13,ground:=yay}],guard:=none}] true)
set_option maxRecDepth 100000 in
set_option maxHeartbeats 3200000 in
theorem zNy(base b off len cap go co m n c:Nat)(svs:List Value)(sl p0 p1:Value)(xs:List Value)(u5 u6 u7 u8 u9 u10 u11 u12 u13 u14 u15 u16 u17 u18 u19 u20 u21 u22 u23 u24 u25 u26 u27 u28 u29 u30 u31:Value)(W:World)(K:Act->World->Prop)
    (hn:n<len) (hlen:len<=1000000) (hm:svs.length=m) (hnm:n / 8<m) (hbase:base<=W.heap.size)
    (hrow:W.ownsRow base 28 1 (.slice (some ⟨go,0,none⟩) m co) m svs) (hsl:svs[n / 8]?=some sl) (hl:W.ownsRow base 76 2 sl c xs) (hc8:c<8) (hgo:sl.ownBlock≠some go)
    (h0:W.cell? ⟨b,off+n*2,none⟩=some p0) (h1:W.cell? ⟨b,off+n*2+1,none⟩=some p1) (o0:p0.oneCell'=true) (o1:p1.oneCell'=true) (hb:sl.ownBlock≠some b)
    (hQ:∀(x17 x18 x19 x20 x21 x22 x23 x24 x25 x26 x27 x28 x29 x30 x31:Value) (g cp:Nat) (W1:World),W1.ownsRow base 76 2 (.slice (some ⟨g,0,none⟩) (c+1) cp) (c+1) (xs++[p0,p1])->(W.alloc (.cells #[p0,p1] 76)).drew.grownBy W1 sl.ownBlock->(sl.ownBlock=some g\/g=W.heap.size+1)->g<W1.heap.size->
      K {tmps:=#[.slice (some ⟨b,off,none⟩) len cap,undef,.slice none 0 0,.slice (some ⟨go,0,none⟩) m co,.int .i64 (n:Int),u5,u6,u7,u8,u9,u10,u11,u12,u13,u14,u15,u16,x17,x18,x19,x20,x21,x22,x23,x24,x25,x26,x27,x28,x29,x30,x31,undef],defers:=[]} (W1.setCell ⟨go,n / 8,none⟩ (.slice (some ⟨g,0,none⟩) (c+1) cp))):
    reg7.wp Tryz.prog (zGL K) {tmps:=#[.slice (some ⟨b,off,none⟩) len cap,undef,.slice none 0 0,.slice (some ⟨go,0,none⟩) m co,.int .i64 (n:Int),u5,u6,u7,u8,u9,u10,u11,u12,u13,u14,u15,u16,u17,u18,u19,u20,u21,u22,u23,u24,u25,u26,u27,u28,u29,u30,u31,undef],defers:=[]} W:=by
  obtain⟨i0,hi0,hz0,hz1,hz2⟩:=info_parts zM0
  have hN:((n:Int) / 8).toNat=n / 8:=by omega
  have hgoc:∃cur,W.heap[go]?=some (.cells cur 28 (0,0))/\cur.toList.take (m*1)=svs:=by
    rcases hrow.2 with⟨h,_⟩|⟨g',cap',cur',h,_,hgb,_,_,_,ht⟩
    · cases h
    · cases h;exact⟨cur',hgb,ht⟩
  obtain⟨cur,hgob,htake⟩:=hgoc
  have hgolt:go<W.heap.size:=(ya2.1 hgob).1
  have hblt:b<W.heap.size:=ybj _ _ h0
  have hcell:W.cell? ⟨go,((n:Int) / 8).toNat,none⟩=some sl:=by
    rw[hN,cell_of_row W go (n / 8) cur 28 (0,0) hgob,<-Array.getElem?_toList]
    rw[<-htake,List.getElem?_take]at hsl
    split at hsl
    · exact hsl
    · cases hsl
  have hfrz:W.frozen? ⟨go,((n:Int) / 8).toNat,none⟩=false:=by simp[World.frozen?,hgob]
  clear hN
  have hfz:∀(o:Obj) (x:Nat),(W.alloc o).drew.frozen? ⟨go,x,none⟩=false:=fun o x=>by
    have:(W.alloc o).drew.heap[go]?=some (.cells cur 28 (0,0)):=(Below.heap_alloc W o go hgolt).trans hgob
    simp[World.frozen?,this]
  have hne1:=World.new_ne W _ hcell
  have hne2:=World.new_ne W _ h0
  have hw:ybD.wrap ((n:Int) / 8)=(n:Int) / 8:=by rw[IntKind.wrap_i64];omega
  have hk0:(0:Int)<=(n:Int) / 8:=by omega
  have hk1:(n:Int) / 8<(m:Int):=by omega
  have hj0:(0:Int)<=(n:Int):=Int.natCast_nonneg _
  have hj1:(n:Int)<(len:Int):=by omega
  unfold reg7
  have hc':∀(o:Obj),(W.alloc o).drew.cell? ⟨go,((n:Int) / 8).toNat,none⟩=some sl:=fun o=>(World.cell?_alloc_lt _ _ _ hgolt).trans hcell
  have hd1:W.drew.cell? ⟨go,((n:Int) / 8).toNat,none⟩=some sl:=hcell
  have hd2:W.drew.cell? ⟨b,off+n*2,none⟩=some p0:=h0
  have hd3:W.drew.cell? ⟨b,off+n*2+1,none⟩=some p1:=h1
  go_region_law
    ((refine step_append_lies _ (by rfl) _ _ _ (by rfl) base 76 i0 _ 2 32 Tryz.underlying28 hi0 hz0 hz1 hz2 rfl (by omega) sl c xs (by rfl) ((hl.alloc _).drew)
        ⟨W.heap.size,0,none⟩ 1 1 [p0,p1] (by rfl) (by rfl) (World.news_of_block (cs:=#[p0,p1]) (t:=76) (fr:=(0,0)) (heap_alloc_new W _)) (by simp[o0,o1])
        (by omega) (by unfold maxLen;omega) (by omega) (by simp;omega) (W.heap.size+1) (by simp) ?_;intro gg cp w1 hown1 hgrow hat hlt;
      (have hq1:w1.cell? ⟨go,((n:Int) / 8).toNat,none⟩=some sl:=(hgrow.cell_far _ (by simp;omega) (Ne.symm hgo)).trans (hc' _));(have hq2:w1.frozen? ⟨go,((n:Int) / 8).toNat,none⟩=false:=(hgrow.frozen_far _ (by simp;omega) (Ne.symm hgo)).trans (hfz _ _))))
  all_goals
    (have hN:((n:Int) / 8).toNat=n / 8:=by omega
     rw[hN]
     exact hQ _ _ _ _ _ _ _ _ _ _ _ _ _ _ _ gg cp w1 hown1 hgrow hat hlt)
theorem zxd{P:Program}{c:Code}{Q:Exit->Act->World->Prop}{a:Act}{w:World}(h:c.wp P (zGL fun a w=>Q .normal a w) a w):c.wp P Q a w:=
 Code.wp_mono (fun e a w h=>by cases e<;>first|exact h|exact h.elim) h
theorem zwL{W:World}{base base':Nat}{e e':TypeId}{size size':Nat}{v v':Value}{k k':Nat}{xs xs':List Value}(h:W.ownsRow base e size v k xs)(h':W.ownsRow base' e' size' v' k' xs')(hne:e≠e'):v.ownBlock=none\/v.ownBlock≠v'.ownBlock:=by
 rcases h.2 with⟨rfl,_⟩|⟨g,cap,cur,rfl,_,hgb,_⟩
 ·exact .inl rfl
 ·refine .inr fun e''=>?_
  rcases h'.2 with⟨rfl,_⟩|⟨g',cap',cur',rfl,_,hgb',_⟩
  ·cases e''
  ·have:g=g':=by simpa[Value.ownBlock]using e''
   subst this;rw[hgb]at hgb';cases hgb';exact hne rfl
theorem zNL{W:World}{base:Nat}{e:TypeId}{size:Nat}{v:Value}{k:Nat}{xs:List Value}(h:W.ownsRow base e size v k xs){g:Nat}(hg:v.ownBlock=some g):g<W.heap.size:=(h.lt g hg).2
def cntN(n k:Nat):Nat:=min 8 (n-8*k)
def newsN(vals:List Value)(n k:Nat):List Value:=(vals.drop (16*k)).take (2*cntN n k)
structure Gath(base:Nat)(vals:List Value)(n m:Nat)(v:Value)(svs:List Value)(W:World):Prop where
 row:W.ownsRow base 28 1 v m svs
 len:svs.length=m
 each:∀(k:Nat) (sv:Value),svs[k]?=some sv->W.ownsRow base 76 2 sv (cntN n k) (newsN vals n k)
 apart:∀(j k:Nat) (sv sv':Value),svs[j]?=some sv->svs[k]?=some sv'->j≠k->sv.ownBlock=none\/sv.ownBlock≠sv'.ownBlock
theorem Gath.nil{base:Nat}{vals:List Value}{n m:Nat}{v v2:Value}{svs:List Value}{W A W2:World}(h:Gath base vals n m v svs W)(hm:n<=8*m)(hA:∀{e s u k xs},W.ownsRow base e s u k xs->A.ownsRow base e s u k xs)(hg:A.grownBy W2 v.ownBlock)(hown:W2.ownsRow base 28 1 v2 (m+1) (svs++[.slice none 0 0])):
  Gath base vals n (m+1) v2 (svs++[.slice none 0 0]) W2:=by
 refine⟨hown,by simp[h.len],fun k sv hk=>?_,fun j k sv sv' hj hk hne=>?_⟩
 ·by_cases hkl:k<svs.length
  ·rw[yah hkl]at hk;have h1:=hA (h.each k sv hk);exact h1.kept hg (zwL h1 (hA h.row) (by decide))
  ·rw[yax (by omega)]at hk;have hk0:k-svs.length=0:=by have:=(yae.1 hk).1;simp at this;omega
   rw[hk0]at hk;simp at hk;subst hk;have hl:=h.len;have e0:cntN n k=0:=by unfold cntN;omega
   unfold newsN;rw[e0];exact⟨by simp,.inl ⟨rfl,rfl⟩⟩
 ·by_cases hjl:j<svs.length
  ·rw[yah hjl]at hj;by_cases hkl:k<svs.length
   ·rw[yah hkl]at hk;exact h.apart j k sv sv' hj hk hne
   ·rw[yax (by omega)]at hk;have hk0:k-svs.length=0:=by have:=(yae.1 hk).1;simp at this;omega
    rw[hk0]at hk;simp at hk;subst hk
    cases sv.ownBlock with
    |none=>exact .inl rfl
    |some x=>exact .inr (by intro e;cases e)
  ·rw[yax (by omega)]at hj;have hj0:j-svs.length=0:=by have:=(yae.1 hj).1;simp at this;omega
   rw[hj0]at hj;simp at hj;subst hj;exact .inl rfl
theorem zK7{W:World}{base g cap k j:Nat}{e:TypeId}{svs:List Value}{u:Value}(h:W.ownsRow base e 1 (.slice (some ⟨g,0,none⟩) k cap) k svs)(hj:j<k):(W.setCell ⟨g,j,none⟩ u).ownsRow base e 1 (.slice (some ⟨g,0,none⟩) k cap) k (svs.set j u):=by
 refine⟨by rw[ybU];exact h.1,?_⟩;rcases h.2 with⟨h',_⟩|⟨g',cap',cur,h',hb,hgb,h1,h2,h3,h4⟩
 ·cases h'
 ·cases h';obtain⟨hlt,hk⟩:=ya2.1 hgb;refine .inr ⟨g,cap,cur.setIfInBounds j u,rfl,hb,?_,h1,h2,by rw[Array.size_setIfInBounds];exact h3,?_⟩
  ·show(W.heap.modify g _)[g]?=_;rw[Array.getElem?_eq_getElem (by rw[Array.size_modify];exact hlt),Array.getElem_modify_self,hk];rfl
  ·rw[<-h4,Array.toList_setIfInBounds,List.take_set]
theorem Gath.pair{base:Nat}{vals:List Value}{n:Nat}{go co g cp:Nat}{svs:List Value}{sl p0 p1:Value}{W A W1:World}(h:Gath base vals n (n / 8+1) (.slice (some ⟨go,0,none⟩) (n / 8+1) co) svs W)
  (hsl:svs[n / 8]?=some sl) (hp0:vals[2*n]?=some p0) (hp1:vals[2*n+1]?=some p1)
  (hA:∀{e s u k xs},W.ownsRow base e s u k xs->A.ownsRow base e s u k xs) (hown:W1.ownsRow base 76 2 (.slice (some ⟨g,0,none⟩) (cntN n (n / 8)+1) cp) (cntN n (n / 8)+1) (newsN vals n (n / 8)++[p0,p1]))
  (hg:A.grownBy W1 sl.ownBlock) (hat:sl.ownBlock=some g\/g=W.heap.size+1):
  Gath base vals (n+1) (n / 8+1) (.slice (some ⟨go,0,none⟩) (n / 8+1) co) (svs.set (n / 8) (.slice (some ⟨g,0,none⟩) (cntN n (n / 8)+1) cp)) (W1.setCell ⟨go,n / 8,none⟩ (.slice (some ⟨g,0,none⟩) (cntN n (n / 8)+1) cp)):=by
 have hl:=h.len
 have hrow1:W1.ownsRow base 28 1 (.slice (some ⟨go,0,none⟩) (n / 8+1) co) (n / 8+1) svs:=by
  have h1:=hA h.row;exact h1.kept hg (zwL h1 (hA (h.each _ _ hsl)) (by decide))
 have hset:=grownBy_setCell' W1 go (.slice (some ⟨g,0,none⟩) (cntN n (n / 8)+1) cp)
 have hgs:W1.grownBy (W1.setCell ⟨go,n / 8,none⟩ (.slice (some ⟨g,0,none⟩) (cntN n (n / 8)+1) cp)) (some go):=
  ⟨rfl,rfl,rfl,by show W1.heap.size<=(W1.heap.modify _ _).size;rw[Array.size_modify];exact Nat.le_refl _,fun k _ hk=>Below.heap_setCell _ _ _ k (fun e=>hk (by rw[e]))⟩
 have c41:∀{u:Value} {k:Nat} {xs:List Value},W1.ownsRow base 76 2 u k xs->(W1.setCell ⟨go,n / 8,none⟩ (.slice (some ⟨g,0,none⟩) (cntN n (n / 8)+1) cp)).ownsRow base 76 2 u k xs:=fun hu=>hu.kept hgs (zwL hu hrow1 (by decide))
 refine⟨zK7 hrow1 (by omega),by rw[ybU];exact hl,fun k sv hk=>?_,fun j k sv sv' hj hk hne=>?_⟩
 ·rw[List.getElem?_set]at hk;split at hk
  ·rename_i e;subst e;split at hk
   ·cases hk;have e1:cntN (n+1) (n / 8)=cntN n (n / 8)+1:=by unfold cntN;omega
    have e2:newsN vals (n+1) (n / 8)=newsN vals n (n / 8)++[p0,p1]:=by
     unfold newsN;rw[e1,show 2*(cntN n (n / 8)+1)=2*cntN n (n / 8)+2 by omega,List.take_add,List.drop_drop];congr 1;have e3:16*(n / 8)+2*cntN n (n / 8)=2*n:=by unfold cntN;omega
     rw[e3];obtain⟨l0,h0⟩:=yae.1 hp0;obtain⟨l1,h1⟩:=yae.1 hp1;rw[yaF l0,yaF l1,h0,h1];rfl
    rw[e1,e2];exact c41 hown
   ·cases hk
  ·rename_i e;have hkl:=(yae.1 hk).1;have e1:cntN (n+1) k=cntN n k:=by unfold cntN;omega
   have h1:=hA (h.each k sv hk);have h2:=c41 (h1.kept hg (h.apart k (n / 8) sv sl hk hsl (fun e'=>e e'.symm)));unfold newsN at h2⊢;rw[e1];exact h2
 ·have hnew:∀(i:Nat) (u:Value),svs[i]?=some u->i≠n / 8->u.ownBlock=none\/u.ownBlock≠some g:=fun i u hi hin=>by
   rcases hat with e|e
   ·rw[<-e];exact h.apart i (n / 8) u sl hi hsl hin
   ·cases hu:u.ownBlock with
    |none=>exact .inl rfl
    |some x=>
     refine .inr fun e'=>?_
     have:=zNL (h.each i u hi) hu;cases e';omega
  rw[List.getElem?_set]at hj hk;split at hj
  ·rename_i ej;split at hj
   ·cases hj;split at hk
    ·rename_i ek;omega
    ·rename_i ek;rcases hnew k sv' hk (fun e'=>ek e'.symm)with e|e
     ·exact .inr (by rw[e];simp[Value.ownBlock])
     ·exact .inr (fun e'=>e (e'.symm.trans rfl))
   ·cases hj
  ·rename_i ej;split at hk
   ·rename_i ek;split at hk
    ·cases hk;exact hnew j sv hj (fun e'=>ej e'.symm)
    ·cases hk
   ·exact h.apart j k sv sv' hj hk hne
set_option maxRecDepth 100000 in
theorem zAv(base b off len cap n:Nat)(vals:List Value)(u5 u6 u7 u8 u9 u10 u11 u12 u13 u14 u15 u16 u17 u18 u19 u20 u21 u22 u23 u24 u25 u26 u27 u28 u29 u30 u31:Value)(w0 W:World)(v:Value)(svs:List Value)(K:Act->World->Prop)
  (hn:n<len) (hlen:len<=1000000) (hbase:base<=W.heap.size) (hl:vals.length=2*len) (hbb:b<base)
  (hc:∀j u,vals[j]?=some u->W.cell? ⟨b,off+j,none⟩=some u) (h1:∀u∈vals,u.oneCell'=true)
  (hG:Gath base vals n (n / 8+1) v svs W) (hB:Below base w0 W)
  (hQ:∀(x17 x18 x19 x20 x21 x22 x23 x24 x25 x26 x27 x28 x29 x30 x31 v':Value) (svs':List Value) (W':World),Gath base vals (n+1) (n / 8+1) v' svs' W'->Below base w0 W'->
   K {tmps:=#[.slice (some ⟨b,off,none⟩) len cap,undef,.slice none 0 0,v',.int .i64 (n:Int),u5,u6,u7,u8,u9,u10,u11,u12,u13,u14,u15,u16,x17,x18,x19,x20,x21,x22,x23,x24,x25,x26,x27,x28,x29,x30,x31,undef],defers:=[]} W'):
  reg7.wp Tryz.prog (zGL K) {tmps:=#[.slice (some ⟨b,off,none⟩) len cap,undef,.slice none 0 0,v,.int .i64 (n:Int),u5,u6,u7,u8,u9,u10,u11,u12,u13,u14,u15,u16,u17,u18,u19,u20,u21,u22,u23,u24,u25,u26,u27,u28,u29,u30,u31,undef],defers:=[]} W:=by
 have hm:=hG.len
 obtain⟨sl,hsl⟩:∃sl,svs[n / 8]?=some sl:=⟨_,yad (by omega)⟩
 obtain⟨p0,hp0⟩:∃p,vals[2*n]?=some p:=⟨_,yad (by omega)⟩
 obtain⟨p1,hp1⟩:∃p,vals[2*n+1]?=some p:=⟨_,yad (by omega)⟩
 have hrow:=hG.row
 have hsr:=hG.each _ _ hsl
 have hv:∃go co,v=.slice (some ⟨go,0,none⟩) (n / 8+1) co/\base<=go:=by
  rcases hrow.2 with⟨_,h⟩|⟨g,cp,cur,h,hb,_⟩
  ·exact absurd h (by omega)
  ·exact⟨g,cp,h,hb⟩
 obtain⟨go,co,rfl,hgob⟩:=hv
 have hno:∀x,sl.ownBlock=some x->base<=x:=fun x hx=>(hsr.lt x hx).1
 refine zNy base b off len cap go co (n / 8+1) n (cntN n (n / 8)) svs sl p0 p1 (newsN vals n (n / 8)) u5 u6 u7 u8 u9 u10 u11 u12 u13 u14 u15 u16 u17 u18 u19 u20 u21 u22 u23 u24 u25 u26 u27 u28 u29 u30 u31 W K hn hlen hm (by omega) hbase hrow hsl hsr (by unfold cntN;omega) ?_
  (by have:=hc _ _ hp0;rwa[Nat.mul_comm]at this) (by have:=hc _ _ hp1;rw[Nat.mul_comm]at this;rw[Nat.add_assoc];exact this) (h1 _ (yam hp0)) (h1 _ (yam hp1)) ?_ ?_
 ·intro e
  rcases zwL hsr hrow (by decide)with h|h
  ·rw[h]at e;cases e
  ·exact h (e.trans rfl)
 ·intro e
  have:=hno _ e
  omega
 ·intro x17 x18 x19 x20 x21 x22 x23 x24 x25 x26 x27 x28 x29 x30 x31 g cp W1 hown hg hat hlt
  have hA:∀{e s u k xs},W.ownsRow base e s u k xs->(W.alloc (.cells #[p0,p1] 76)).drew.ownsRow base e s u k xs:=fun h=>(h.alloc _).drew
  refine hQ _ _ _ _ _ _ _ _ _ _ _ _ _ _ _ _ (svs.set (n / 8) (.slice (some ⟨g,0,none⟩) (cntN n (n / 8)+1) cp)) _ (Gath.pair hG hsl hp0 hp1 hA hown hg hat) ?_
  have hB1:Below base w0 W1:=by
   have h0:Below base w0 (W.alloc (.cells #[p0,p1] 76)).drew:=(hB.alloc hbase _).drew
   refine h0.grown hg (by simp;omega) (fun k e=>hno _ e)
  exact hB1.setCell hgob _
theorem zAb{B:Nat}{w W:World}(hB:Below B w W){b off:Nat}{vals:List Value}(hb:b<B)(hc:∀j u,vals[j]?=some u->w.cell? ⟨b,off+j,none⟩=some u):
  ∀j u,vals[j]?=some u->W.cell? ⟨b,off+j,none⟩=some u:=fun j u h=>(hB.cell (p:=⟨b,off+j,none⟩) hb).trans (hc j u h)
set_option maxRecDepth 100000 in
set_option maxHeartbeats 3200000 in
theorem zCy(b off len cap:Nat)(a:Option Addr)(vals:List Value)(hlen:len<=1000000)(w:World)
  (ha:0<len->a=some ⟨b,off,none⟩) (hl:vals.length=2*len) (hc:∀j u,vals[j]?=some u->w.cell? ⟨b,off+j,none⟩=some u) (h1:∀u∈vals,u.oneCell'=true):
  Calls Tryz.prog 164 #[.slice a len cap] w fun e W'=>∃v svs,e=.returned v/\Gath w.heap.size vals len ((len+7) / 8) v svs W'/\Below w.heap.size w W':=by
 obtain⟨i0,hi0,hz0,hz1,hz2⟩:=info_parts zMZ
 go_enter Tryz.func164,Tryz.ntmps164
 go_wp2
 go_loopw [3,4] (fun v i wr=>∃(n:Nat) (svs:List Value),n<=len/\i=.int .i64 (n:Int)/\Gath w.heap.size vals n ((n+7) / 8) v svs wr/\Below w.heap.size w wr) (fun _ i _=>len+1-(intOf i).toNat)
 case atStart=>
  exact⟨0,[],by omega,rfl,⟨⟨by simp,.inl ⟨rfl,rfl⟩⟩,rfl,(fun k sv h=>by cases h),(fun j k sv sv' h=>by cases h)⟩,Below.refl _ _⟩
 case round=>
  obtain⟨n,svs,hn,rfl,hG,hB⟩:=hrel
  have hsz:=hB.size
  have hm:=hG.len
  by_cases hnl:n<len
  ·obtain rfl:=ha (by omega)
   have hbb:b<w.heap.size:=ybj _ _ (hc 0 _ (yad (by omega)))
   go_wp2_with (at_builtin;refine wpList_append_own _ rfl _ _ 166 rfl w.heap.size 28 i0 (.slice none 0 0) 1 24 Tryz.underlying166 hi0 hz0 hz1 hz2 rfl (by omega) _ svs.length svs rfl (by rw[hm];exact hG.row.alloc _) ⟨wr.heap.size,0,none⟩ 1 1 [.slice none 0 0] rfl rfl (cell_one_new _ _ _) (by simp[Value.oneCell']) (by unfold maxLen;omega) (by omega) (by simp;omega) ?_;intro v2 w2 hown2 hg2 hnil2)
   ·rename_i hK hr
    have hr8:n%8=0:=by simp at hr;omega
    have em:(n+7) / 8=n / 8:=by omega
    rw[em]at hG
    have hA:∀{e s u k xs},wr.ownsRow w.heap.size e s u k xs->(wr.alloc (.cells #[.slice none 0 0] 28)).ownsRow w.heap.size e s u k xs:=fun h=>h.alloc _
    have hG2:Gath w.heap.size vals n (n / 8+1) v2 (svs++[.slice none 0 0]) w2:=Gath.nil hG (by omega) hA hg2 (by rw[<-hG.len];exact hown2)
    have hB2:Below w.heap.size w w2:=(hB.alloc hsz _).grown hg2 (by simp;omega) (fun k e=>(hG.row.lt k e).1)
    refine zxd (zAv w.heap.size b off len cap n vals _ _ _ _ _ _ _ _ _ _ _ _ _ _ _ _ _ _ _ _ _ _ _ _ _ _ _ w w2 v2 _ _ hnl hlen hB2.size hl hbb (zAb hB2 hbb hc) h1 hG2 hB2 ?_)
    intro x17 x18 x19 x20 x21 x22 x23 x24 x25 x26 x27 x28 x29 x30 x31 v' svs' W' hG' hB'
    refine hK _ _ ?_
    go_wp2
    go_roundw
    case rel=>exact⟨n+1,svs',by omega,by simp,by rw[show(n+1+7) / 8=n / 8+1 by omega];exact hG',hB'⟩
    case measure=>simp[intOf];omega
   ·rename_i hK hr
    have hr8:n%8≠0:=by simp at hr;omega
    have em:(n+7) / 8=n / 8+1:=by omega
    rw[em]at hG
    refine zxd (zAv w.heap.size b off len cap n vals _ _ _ _ _ _ _ _ _ _ _ _ _ _ _ _ _ _ _ _ _ _ _ _ _ _ _ w wr _ svs _ hnl hlen hsz hl hbb (zAb hB hbb hc) h1 hG hB ?_)
    intro x17 x18 x19 x20 x21 x22 x23 x24 x25 x26 x27 x28 x29 x30 x31 v' svs' W' hG' hB'
    refine hK _ _ ?_
    go_wp2
    go_roundw
    case rel=>exact⟨n+1,svs',by omega,by simp,by rw[show(n+1+7) / 8=n / 8+1 by omega];exact hG',hB'⟩
    case measure=>simp[intOf];omega
  ·have hnn:n=len:=by omega
   subst hnn
   go_wp2
   go_ret
   exact⟨_,svs,rfl,hG,hB⟩
end Go.Proofs
namespace Go.Proofs
open Go.RowKit Go.Sort
open Go.IntKind renaming u64->ycr
open Go.Value renaming int->ybH
open Go.World renaming cell?_alloc_lt->ycm
attribute [local go_sem ↓] Go.wp_at_zero Go.wp_at_succ
def cmpI(x y:Int):Int:=if x<y then -1 else if y<x then 1 else 0
theorem zPD(x:Int)(w:World):Calls Tryz.prog 286 #[.int .u64 x] w fun e w'=>e=.returned (.bool false)/\w'=w:=by
 go_enter Tryz.func286,Tryz.ntmps286
 go_wp2
 go_ret
 exact⟨by simp,rfl⟩
theorem zPE(x:Int)(w:World):Calls Tryz.prog 287 #[.int .u16 x] w fun e w'=>e=.returned (.bool false)/\w'=w:=by
 go_enter Tryz.func287,Tryz.ntmps287
 go_wp2
 go_ret
 exact⟨by simp,rfl⟩
set_option maxHeartbeats 1000000 in
theorem zCh(x y:Int)(w:World):Calls Tryz.prog 268 #[.int .u64 x,.int .u64 y] w fun e w'=>e=.returned (.int .i64 (cmpI x y))/\w'=w:=by
 go_enter Tryz.func268,Tryz.ntmps268
 go_wp2_with (go_at_call 286;refine(zPD _ _).mono ?_;rintro e w' ⟨rfl,hw⟩;rw[hw])
 all_goals (go_ret;refine⟨?_,rfl⟩;unfold cmpI;(repeat' split)<;>first|rfl|(exfalso;omega))
set_option maxHeartbeats 1000000 in
theorem zCi(x y:Int)(w:World):Calls Tryz.prog 269 #[.int .u16 x,.int .u16 y] w fun e w'=>e=.returned (.int .i64 (cmpI x y))/\w'=w:=by
 go_enter Tryz.func269,Tryz.ntmps269
 go_wp2_with (go_at_call 287;refine(zPE _ _).mono ?_;rintro e w' ⟨rfl,hw⟩;rw[hw])
 all_goals (go_ret;refine⟨?_,rfl⟩;unfold cmpI;(repeat' split)<;>first|rfl|(exfalso;omega))
theorem zFR(a b:Int)(w:World):Calls Tryz.prog 140 #[.int .u64 a,.int .u64 b] w fun e w'=>e=.returned (.int .u64 ((b-a)%18446744073709551616))/\w'=w:=by
 go_enter Tryz.func140,Tryz.ntmps140
 go_wp2
 go_ret
 exact⟨by simp[IntKind.wrap,IntKind.signed,IntKind.bits],rfl⟩
theorem or267(a b r:Int)(hr:r=if a=0 then b else a)(blk:Nat)(w:World)(ha:w.cell? ⟨blk,0,none⟩=some (.int .i64 a))(hb:w.cell? ⟨blk,1,none⟩=some (.int .i64 b)):
  Calls Tryz.prog 267 #[.slice (some ⟨blk,0,none⟩) 2 2] w fun e w'=>e=.returned (.int .i64 r)/\w'=w:=by
 by_cases h0:a=0
 ·rw[if_pos h0]at hr;subst hr;subst h0;by_cases h1:r=0
  ·subst h1
   go_enter Tryz.func267,Tryz.ntmps267
   go_wp2
   refine wp_loop_rounds 3 ?_;rw[rounds_succ]
   go_wp2
   rw[rounds_succ]
   go_wp2
   rw[rounds_succ]
   go_wp2
   go_ret
   exact⟨rfl,rfl⟩
  ·go_enter Tryz.func267,Tryz.ntmps267
   go_wp2
   refine wp_loop_rounds 3 ?_;rw[rounds_succ]
   go_wp2
   rw[rounds_succ]
   go_wp2
   go_ret
   exact⟨rfl,rfl⟩
 ·rw[if_neg h0]at hr;subst hr
  go_enter Tryz.func267,Tryz.ntmps267
  go_wp2
  refine wp_loop_rounds 3 ?_;rw[rounds_succ]
  go_wp2
  go_ret
  exact⟨rfl,rfl⟩
def zyA(me:Int)(x y:Int×Int):Int:=if cmpI ((y.1-me)%18446744073709551616) ((x.1-me)%18446744073709551616)=0 then cmpI x.2 y.2 else cmpI ((y.1-me)%18446744073709551616) ((x.1-me)%18446744073709551616)
set_option maxHeartbeats 4000000 in
set_option maxRecDepth 100000 in
theorem zMY(me:Int)(x y:Int×Int)(bx:Nat)(W:World)(hc:W.cell? ⟨bx,0,none⟩=some (.int .u64 me)):
  Calls Tryz.prog 266 #[.agg #[.int .u64 x.1,.int .u16 x.2],.agg #[.int .u64 y.1,.int .u16 y.2],.pointer (some ⟨bx,0,none⟩)] W fun e w'=>e=.returned (.int .i64 (zyA me x y))/\∃q os',w'=grow (W.drewN q) os':=by
 obtain⟨x1,x2⟩:=x
 obtain⟨y1,y2⟩:=y
 have hlt:bx<W.heap.size:=World.block_lt_of_cell? _ _ hc
 obtain⟨A,hA⟩:∃A,A=(y1-me)%18446744073709551616:=⟨_,rfl⟩
 obtain⟨B,hB⟩:∃B,B=(x1-me)%18446744073709551616:=⟨_,rfl⟩
 have d1:∀w,Calls Tryz.prog 140 #[.int .u64 me,.int .u64 y1] w fun e w'=>e=.returned (.int .u64 A)/\w'=w:=fun w=>by rw[hA];exact zFR me y1 w
 have d2:∀w,Calls Tryz.prog 140 #[.int .u64 me,.int .u64 x1] w fun e w'=>e=.returned (.int .u64 B)/\w'=w:=fun w=>by rw[hB];exact zFR me x1 w
 obtain⟨C,hC⟩:∃C,C=cmpI A B:=⟨_,rfl⟩
 obtain⟨D,hD⟩:∃D,D=cmpI x2 y2:=⟨_,rfl⟩
 have c1:∀w,Calls Tryz.prog 268 #[.int .u64 A,.int .u64 B] w fun e w'=>e=.returned (.int .i64 C)/\w'=w:=fun w=>by rw[hC];exact zCh A B w
 have c2:∀w,Calls Tryz.prog 269 #[.int .u16 x2,.int .u16 y2] w fun e w'=>e=.returned (.int .i64 D)/\w'=w:=fun w=>by rw[hD];exact zCi x2 y2 w
 obtain⟨r,hr⟩:∃r,r=if C=0 then D else C:=⟨_,rfl⟩
 have hrr:zyA me (x1,x2) (y1,y2)=r:=by rw[hr,hC,hD,hA,hB];rfl
 have o1:∀blk w,w.cell? ⟨blk,0,none⟩=some (.int .i64 C)->w.cell? ⟨blk,1,none⟩=some (.int .i64 D)->Calls Tryz.prog 267 #[.slice (some ⟨blk,0,none⟩) 2 2] w fun e w'=>e=.returned (.int .i64 r)/\w'=w:=fun blk w h1 h2=>or267 C D r hr blk w h1 h2
 rw[hrr]
 clear hrr hA hB hC hD hr
 dsimp only
 go_enter Tryz.func266,Tryz.ntmps266
 go_wp2
 obtain⟨V,hV⟩:∃V,(W.alloc (.cells #[.int .u64 x1,.int .u16 x2] 25)).alloc (.cells #[.int .u64 y1,.int .u16 y2] 25)=V:=⟨_,rfl⟩
 have c0:V.drew.cell? ⟨bx,0,none⟩=some (.int .u64 me):=by
  rw[<-hV]
  exact(ycm _ _ _ (by simp;omega)).trans ((ycm _ _ _ hlt).trans hc)
 have rd:∀(w:World) (g j:Nat) (cs:Array Value),w.heap[g]?=some (.cells cs 25 (0,0))->w.cell? ⟨g,j,none⟩=cs[j]?:=fun w g j cs hg=>cell_of_row w g j cs 25 (0,0) hg
 have hx0:((W.alloc (.cells #[.int .u64 x1,.int .u16 x2] 25)).alloc (.cells #[.int .u64 y1,.int .u16 y2] 25)).heap[W.heap.size]?=some (.cells #[.int .u64 x1,.int .u16 x2] 25 (0,0)):=(heap_alloc_old _ _ (by simp)).trans (heap_alloc_new W _)
 have hy0:((W.alloc (.cells #[.int .u64 x1,.int .u16 x2] 25)).alloc (.cells #[.int .u64 y1,.int .u16 y2] 25)).heap[W.heap.size+1]?=some (.cells #[.int .u64 y1,.int .u16 y2] 25 (0,0)):=by
  have hs:(W.alloc (.cells #[.int .u64 x1,.int .u16 x2] 25)).heap.size=W.heap.size+1:=by simp
  rw[<-hs];exact heap_alloc_new _ _
 rw[hV]at hx0 hy0
 have cx:∀j u,[ybH .u64 x1,.int .u16 x2][j]?=some u->V.drew.cell? ⟨W.heap.size,j,none⟩=some u:=fun j u hj=>by
  refine(rd V.drew _ _ _ hx0).trans ?_
  simpa using hj
 have cy:∀j u,[ybH .u64 y1,.int .u16 y2][j]?=some u->V.drew.cell? ⟨W.heap.size+1,j,none⟩=some u:=fun j u hj=>by
  refine(rd V.drew _ _ _ hy0).trans ?_
  simpa using hj
 have cx0:=cx 0 _ rfl
 have cx1:=cx 1 _ rfl
 have cy0:=cy 0 _ rfl
 have cy1:=cy 1 _ rfl
 have hV2:∀o,∃q os',V.drew.alloc o=grow (W.drewN q) os':=fun o=>⟨1,#[.cells #[.int .u64 x1,.int .u16 x2] 25]++ #[.cells #[.int .u64 y1,.int .u16 y2] 25]++ #[o],by
  rw[<-hV,alloc_eq_grow _ o,alloc_eq_grow (W.alloc _) _,alloc_eq_grow W _]
  show grow (grow (grow (W.drewN 1) #[.cells #[.int .u64 x1,.int .u16 x2] 25]) #[.cells #[.int .u64 y1,.int .u16 y2] 25]) #[o]=_
  rw[grow_grow,grow_grow,Array.append_assoc]⟩
 rw[hV]
 clear hV cx cy hx0 hy0 rd
 replace c0:V.cell? ⟨bx,0,none⟩=some (.int .u64 me):=c0
 replace cx0:V.cell? ⟨W.heap.size,0,none⟩=some (.int .u64 x1):=cx0
 replace cx1:V.cell? ⟨W.heap.size,1,none⟩=some (.int .u16 x2):=cx1
 replace cy0:V.cell? ⟨W.heap.size+1,0,none⟩=some (.int .u64 y1):=cy0
 replace cy1:V.cell? ⟨W.heap.size+1,1,none⟩=some (.int .u16 y2):=cy1
 go_region_held3 (fun w'=>w'.cell? ⟨bx,0,none⟩=some (.int .u64 me)/\w'.cell? ⟨W.heap.size,0,none⟩=some (.int .u64 x1)/\w'.cell? ⟨W.heap.size,1,none⟩=some (.int .u16 x2)/\w'.cell? ⟨W.heap.size+1,0,none⟩=some (.int .u64 y1)/\w'.cell? ⟨W.heap.size+1,1,none⟩=some (.int .u16 y2)) (go_keep) (first
  |(go_at_call_of 140 (ybH ycr y1);refine(d1 _).mono ?_;rintro e w' ⟨rfl,rfl⟩)
  |(go_at_call_of 140 (ybH ycr x1);refine(d2 _).mono ?_;rintro e w' ⟨rfl,rfl⟩)
  |(go_at_call 268;refine(c1 _).mono ?_;rintro e w' ⟨rfl,rfl⟩)
  |(go_at_call 269;refine(c2 _).mono ?_;rintro e w' ⟨rfl,rfl⟩)
  |(go_at_call 267;refine(o1 _ _ (by simp) (by simp)).mono ?_;rintro e w' ⟨rfl,rfl⟩))
 go_wp2
 go_ret
 exact⟨rfl,hV2 _⟩
end Go.Proofs
namespace Go.Proofs
open Go.Shelf Go.RowKit Go.Lib Go.Sort Go.Ab
open Bool renaming and_eq_true->yaB,eq_false_iff->ycf,or_eq_true->yaY
open List renaming length_map->yaK,toList_toArray->yct
open _root_.Array renaming getElem?_eq_getElem->ybl,getElem?_modify->ycd,getElem?_toList->ybi
def Tryz.sort265_ren:Go.Shelf.Ren:=⟨fun|6=>265|15=>285|14=>284|28=>302|29=>303|20=>294|21=>295|22=>296|23=>297|24=>298|25=>299|26=>300|27=>301|46=>307|47=>308|48=>309|49=>310|50=>311|57=>315|n=>n,fun|22=>37|24=>25|25=>232|3=>3|39=>206|0=>0|53=>32|55=>22|4=>4|46=>250|45=>249|50=>254|5=>5|9=>9|66=>260|70=>264|76=>268|77=>269|n=>n,fun|n=>n⟩
theorem Tryz.sort265:Go.Proofs.SlLaysF0.n6 Tryz.prog Tryz.sort265_ren where
 mixed:=by kernel_rfl
 f6:=⟨Tryz.f265.name,by decide,Tryz.func265.trans (congrArg some (by kernel_rfl))⟩
 f14:=⟨Tryz.f284.name,by decide,Tryz.func284.trans (congrArg some (by kernel_rfl))⟩
 f15:=Tryz.func285.trans (congrArg some (by kernel_rfl))
 f20:=⟨Tryz.f294.name,by decide,Tryz.func294.trans (congrArg some (by kernel_rfl))⟩
 f21:=⟨Tryz.f295.name,by decide,Tryz.func295.trans (congrArg some (by kernel_rfl))⟩
 f22:=⟨Tryz.f296.name,by decide,Tryz.func296.trans (congrArg some (by kernel_rfl))⟩
 f23:=⟨Tryz.f297.name,by decide,Tryz.func297.trans (congrArg some (by kernel_rfl))⟩
 f24:=⟨Tryz.f298.name,by decide,Tryz.func298.trans (congrArg some (by kernel_rfl))⟩
 f25:=⟨Tryz.f299.name,by decide,Tryz.func299.trans (congrArg some (by kernel_rfl))⟩
 f26:=⟨Tryz.f300.name,by decide,Tryz.func300.trans (congrArg some (by kernel_rfl))⟩
 f27:=⟨Tryz.f301.name,by decide,Tryz.func301.trans (congrArg some (by kernel_rfl))⟩
 f28:=Tryz.func302.trans (congrArg some (by kernel_rfl))
 f29:=Tryz.func303.trans (congrArg some (by kernel_rfl))
 f46:=⟨Tryz.f307.name,by decide,Tryz.func307.trans (congrArg some (by kernel_rfl))⟩
 f47:=Tryz.func308.trans (congrArg some (by kernel_rfl))
 f48:=Tryz.func309.trans (congrArg some (by kernel_rfl))
 f49:=⟨Tryz.f310.name,by decide,Tryz.func310.trans (congrArg some (by kernel_rfl))⟩
 f50:=⟨Tryz.f311.name,by decide,Tryz.func311.trans (congrArg some (by kernel_rfl))⟩
 f57:=⟨Tryz.f315.name,by decide,Tryz.func315.trans (congrArg some (by kernel_rfl))⟩
 t0:=Tryz.underlying0
 a0:=Tryz.isAgg0
 z0:=Tryz.sizeOf0
 v0:=Tryz.zeroValue0
 t3:=Tryz.underlying3
 a3:=Tryz.isAgg3
 z3:=Tryz.sizeOf3
 v3:=Tryz.zeroValue3
 t4:=Tryz.underlying4
 a4:=Tryz.isAgg4
 z4:=Tryz.sizeOf4
 v4:=Tryz.zeroValue4
 t5:=Tryz.underlying5
 a5:=Tryz.isAgg5
 z5:=Tryz.sizeOf5
 v5:=Tryz.zeroValue5
 t9:=Tryz.underlying9
 a9:=Tryz.isAgg9
 z9:=Tryz.sizeOf9
 v9:=Tryz.zeroValue9
 t22:=Tryz.underlying37
 a22:=Tryz.isAgg37
 z22:=Tryz.sizeOf37
 v22:=Tryz.zeroValue37
 t25:=Tryz.underlying232
 a25:=Tryz.isAgg232
 z25:=Tryz.sizeOf232
 v25:=Tryz.zeroValue232
 t39:=Tryz.underlying206
 a39:=Tryz.isAgg206
 z39:=Tryz.sizeOf206
 v39:=Tryz.zeroValue206
 t45:=Tryz.underlying249
 a45:=Tryz.isAgg249
 z45:=Tryz.sizeOf249
 v45:=Tryz.zeroValue249
 t46:=Tryz.underlying250
 a46:=Tryz.isAgg250
 z46:=Tryz.sizeOf250
 v46:=Tryz.zeroValue250
 t50:=Tryz.underlying254
 a50:=Tryz.isAgg254
 z50:=Tryz.sizeOf254
 v50:=Tryz.zeroValue254
 t53:=Tryz.underlying32
 a53:=Tryz.isAgg32
 z53:=Tryz.sizeOf32
 v53:=Tryz.zeroValue32
 t55:=Tryz.underlying22
 a55:=Tryz.isAgg22
 z55:=Tryz.sizeOf22
 v55:=Tryz.zeroValue22
 t66:=Tryz.underlying260
 a66:=Tryz.isAgg260
 z66:=Tryz.sizeOf260
 v66:=Tryz.zeroValue260
 t70:=Tryz.underlying264
 a70:=Tryz.isAgg264
 z70:=Tryz.sizeOf264
 v70:=Tryz.zeroValue264
 t76:=Tryz.underlying268
 a76:=Tryz.isAgg268
 z76:=Tryz.sizeOf268
 v76:=Tryz.zeroValue268
 t77:=Tryz.underlying269
 a77:=Tryz.isAgg269
 z77:=Tryz.sizeOf269
 v77:=Tryz.zeroValue269
abbrev PeR:={p:Int×Int // InR p}
instance :Inhabited PeR:=⟨⟨(0,0),by simp[InR]⟩⟩
def encP(p:PeR):List Value:=pcells p.1
def cfP(me:Int)(x y:PeR):Int:=zyA me x.1 y.1
theorem ltP(me:Int)(x y:PeR):ltOf (cfP me) x y=zqg me x.1 y.1:=by
 unfold ltOf cfP zyA zqg cmpI;obtain⟨⟨x1,x2⟩,hx⟩:=x;obtain⟨⟨y1,y2⟩,hy⟩:=y;dsimp only;generalize (y1-me)%18446744073709551616=a;generalize (x1-me)%18446744073709551616=b;rw[Bool.eq_iff_iff];simp only[decide_eq_true_eq,yaY,yaB]
 (repeat' split)<;>omega
theorem zwz(me:Int)(x y:Int×Int):zqg me x y=true<->(y.1-me)%18446744073709551616<(x.1-me)%18446744073709551616\/((x.1-me)%18446744073709551616=(y.1-me)%18446744073709551616/\x.2<y.2):=by
 simp only[zqg,decide_eq_true_eq,yaY,yaB]
theorem swoP(me:Int):SWO (ltOf (cfP me)) where
 irrefl x:=by rw[ltP,ycf];intro h;have:=(zwz me x.1 x.1).1 h;omega
 trans x y z h1 h2:=by rw[ltP,zwz]at *;omega
 ntrans x y z h1 h2:=by
  rw[ltP,ycf,ne_eq,zwz]at *
  omega
theorem oneP{me:Int}{x y:PeR}(h1:ltOf (cfP me) x y=false)(h2:ltOf (cfP me) y x=false):x=y:=by
 rw[ltP,ycf,ne_eq,zwz]at h1 h2;obtain⟨⟨x1,x2⟩,hx⟩:=x;obtain⟨⟨y1,y2⟩,hy⟩:=y;simp only[InR]at hx hy;dsimp only at h1 h2;have e1:x1=y1:=by omega
 have e2:x2=y2:=by omega
 subst e1 e2;rfl
theorem zCx:∀(l:List (Int×Int)) (j:Nat),(l.flatMap pcells)[j]?=(l[j / 2]?).bind fun p=>(pcells p)[j%2]?
 | [],j=>by simp
 |p::l,0=>rfl
 |p::l,1=>rfl
 |p::l,j+2=>by
  have ih:=zCx l j;rw[show(j+2) / 2=j / 2+1 by omega,show(j+2)%2=j%2 by omega,List.getElem?_cons_succ,<-ih];rfl
theorem zAe(S:Array PeR)(j:Nat)(hj:j<S.size*2):((S.toList.map Subtype.val).flatMap pcells)[j]?=some (flatK encP 2 S)[j]!:=by
 rw[get_flatK encP 2 S j hj,zCx];have h1:j / 2<S.size:=by omega
 rw[List.getElem?_map,ybi,ybl h1];simp only[Option.map_some,Option.bind_some];rw[getElem!_pos S (j / 2) h1];rcases Nat.mod_two_eq_zero_or_one j with h|h<;>rw[h]<;>rfl
theorem zNd:∀w,(isAgg 25).run Tryz.prog w=.ok true w:=fun w=>by kernel_rfl
theorem zK1:∀w,(Go.sizeOf 25).run Tryz.prog w=.ok 2 w:=fun w=>by kernel_rfl
theorem zJx:Go.Ab.Sorts Tryz.prog 265 25 266 where
 at0 a c fv w:=AnyF.slices_SortFunc_none Tryz.sort265 a c fv w
 atN me blk cap bx cur d w hbx hne hblk hle htake hpos hlen hin:=by
  obtain⟨D,hD⟩:∃D:List PeR,D.map Subtype.val=d:=⟨d.attach.map fun p=>⟨p.1,hin p.1 p.2⟩,by rw[List.map_map];exact List.attach_map_subtype_val d⟩
  subst hD;rw[yaK]at hle htake hpos hlen⊢
  have hbl:blk<w.heap.size:=by
   rcases Nat.lt_or_ge blk w.heap.size with h|h
   ·exact h
   ·rw[Array.getElem?_eq_none h]at hblk;cases hblk
  have hbx2:bx<w.heap.size:=World.block_lt_of_cell? _ _ hbx;have eg:∀args w,(callFunc 266 args).run Tryz.prog w=.ok (.enter 266 args) w:=enters_of Tryz.func266 (by kernel_rfl) rfl
  have hcmp:CmpLays Tryz.prog 266 #[.pointer (some ⟨bx,0,none⟩)] encP 2 (cfP me) blk 0 D.toArray.size w:=fun m os dk hdk x y=>by
   exact zMY me x.1 y.1 bx (sortWorldK encP 2 w blk 0 m dk os) ((cell?_sortWorldK_other encP 2 w blk 0 m dk os ⟨bx,0,none⟩ hne hbx2).trans hbx)
  have hH:HoldsK encP 2 w blk 0 D.toArray:=fun j hj=>by
   rw[size_flatK]at hj;have hj':j<D.length*2:=by simpa using hj
   rw[Nat.zero_add];refine⟨?_,?_⟩
   ·rw[cell_of_row w blk j cur 25 (0,0) hblk];have h1:(cur.toList.take (D.length*2))[j]?=cur[j]?:=by rw[List.getElem?_take,if_pos hj',ybi]
    rw[<-h1,htake];have:=zAe D.toArray j hj;rw[yct]at this;exact this
   ·simp[World.frozen?,hblk]
  have:=AnyQ.slices_SortFunc_total Tryz.sort265 2 zNd zK1 encP (fun _=>rfl) (fun x v hv=>by
   simp only[encP,pcells,List.mem_cons,List.not_mem_nil,or_false]at hv;rcases hv with rfl|rfl<;>rfl) (cfP me) (swoP me) 266 #[.pointer (some ⟨bx,0,none⟩)] blk 0 cap D.toArray w eg hcmp hH hbl (by simp;omega) (fun x y h1 h2=>oneP h1 h2)
  refine this.mono fun z w' ⟨hz,n,os,hw⟩=>⟨hz,?_⟩
  subst hw;obtain⟨S,hS⟩:∃S,(D.toArray.toList.mergeSort fun x y=>!(ltOf (cfP me)) y x).toArray=S:=⟨_,rfl⟩
  rw[hS];have hSl:S.size=D.length:=by rw[<-hS];simp[List.length_mergeSort]
  have hs:hopSort me (D.map Subtype.val)=S.toList.map Subtype.val:=by
   rw[<-hS,hopSort,yct,yct];exact(List.map_mergeSort (fun a _ b _=>by rw[ltP])).symm
  rw[hs];have hw2:(sortWorldK encP 2 w blk 0 n S os).heap=(w.heap.modify blk (onCells (putCells id 0 (flatK encP 2 S))))++os:=rfl;refine⟨rfl,rfl,rfl,?_,fun k hk=>?_⟩
  ·rw[hw2];simp
  ·rw[hw2,Array.getElem?_append_left (by simpa using hk)];by_cases hkb:k=blk
   ·subst hkb;rw[ycd,if_pos rfl,hblk,setRow_heap w k cur _ 25 (0,0) hblk];have hfl:((S.toList.map Subtype.val).flatMap pcells).length=D.length*2:=by rw[zyM,yaK,Array.length_toList,hSl]
    have hc:putCells id 0 (flatK encP 2 S) cur=((S.toList.map Subtype.val).flatMap pcells++cur.toList.drop (D.length*2)).toArray:=by
     refine Array.ext' (List.ext_getElem? fun j=>?_);rw[yct,ybi];unfold putCells;rw[Array.getElem?_mapIdx,size_flatK,hSl];by_cases hj:j<D.length*2
     ·rw[List.getElem?_append_left (by omega),zAe S j (by omega),ybl (by omega:j<cur.size)];simp[hj]
     ·rw[List.getElem?_append_right (by omega),hfl,List.getElem?_drop,ybi,show D.length*2+(j-D.length*2)=j by omega]
      cases cur[j]? with
      |none=>rfl
      |some u=>simp[hj]
    show some (onCells (putCells id 0 (flatK encP 2 S)) (.cells cur 25 (0,0)))=_;rw[<-hc];rfl
   ·rw[ycd,if_neg (Ne.symm hkb),setRow_other w blk k _ hkb]
end Go.Proofs
namespace Go.Proofs
open Go.RowKit Go.Shelf
open Go.AllReadyIn renaming cons->ybd,nil->ybv
open Go.Ground renaming data->ya5,phase->yay
open Go.Operand renaming tmp->yaI
open Go.World renaming block_lt_of_cell?->ybj,cell?_of_block->yba
open List renaming append_toArray->ycs,cons_append->ybQ,getElem?_append_left->yah,getElem?_eq_some_iff->yae,length_cons->yav,length_nil->ybw,length_range->ybS,nil_append->ya4,range->ybq,size_toArray->ybc
open Nat renaming le_refl->yag,le_trans->yaO
open _root_.Array renaming getElem?_eq_some_iff->ya2,replicate_succ->ycj,replicate_zero->yck
attribute [local go_sem] Oper.semAt_some
def zns(b off len k:Nat):Value:=.slice (some ⟨b,off+8*k*2,none⟩) (min 8 (len-8*k)) (min 8 (len-8*k))
structure Kpc(base Bs Bn:Nat)(W W':World):Prop where
 below:Below base W W'
 s:W'.heap[Bs]?=W.heap[Bs]?
 n:W'.heap[Bn]?=W.heap[Bn]?
theorem Kpc.refl(base Bs Bn:Nat)(W:World):Kpc base Bs Bn W W:=⟨Below.refl _ _,rfl,rfl⟩
theorem Kpc.trans{base Bs Bn:Nat}{A B C:World}(h:Kpc base Bs Bn A B)(k:Kpc base Bs Bn B C):Kpc base Bs Bn A C:=⟨h.below.trans k.below,k.s.trans h.s,k.n.trans h.n⟩
theorem Kpc.drew(base Bs Bn:Nat)(W:World):Kpc base Bs Bn W W.drew:=⟨⟨rfl,rfl,rfl,yag _,fun _ _=>rfl⟩,rfl,rfl⟩
def chN(len:Nat):Nat:=(len+7) / 8
set_option maxRecDepth 100000 in
set_option maxHeartbeats 2000000 in
theorem zIt(F:Fence)(n:Nat)(hf:F.fn 270)(hro:F.round=none)(hn:1<=n)(l Bs Bn base b off len cap:Nat)(hlc:len<=cap)(hreach:len<=1000000)(J Jx:List Nat->World->Prop)
    (hJd:∀s W,J s W->J s W.drew)
    (hY:∀k W,J (ybq k) W->k<chN len->YieldAt F (n-1) Tryz.prog l #[zns b off len k] W fun e W'=>
      (e=.returned (.bool true)/\J (ybq (k+1)) W'/\Kpc base Bs Bn W W')\/(e=.returned (.bool false)/\Jx (ybq (k+1)) W'))
    (W:World) (hBs:W.cell? ⟨Bs,0,none⟩=some (.slice (some ⟨b,off,none⟩) len cap)) (hBn:W.cell? ⟨Bn,0,none⟩=some (.int .i64 8)) (h0:J [] W):
    CallsIn F n Tryz.prog 270 #[.func (.yield l) #[] #[],.pointer (some ⟨Bs,0,none⟩),.pointer (some ⟨Bn,0,none⟩)] W fun e W'=>(∃v,e=.returned v)/\
      (J (ybq (chN len)) W'\/(∃k,k<=chN len/\Jx (ybq k) W')):=by
  refine callsIn_of_wp Tryz.func270 rfl hf ?_ hro
  simp only[Tryz.ntmps270,ybc,yav,ybw,Nat.reduceAdd,Nat.reduceSub,ycj,yck,List.push_toArray,ycs,ya4,ybQ]
  gi_wp2
  gi_loopw [4] (fun i wr=>∃k:Nat,k<=chN len/\i=.int .i64 ((8*k:Nat):Int)/\J (ybq k) wr/\Kpc base Bs Bn W wr)
    (fun i _=>len+8-(intOf i).toNat)
  case atStart=>exact⟨0,Nat.zero_le _,rfl,h0,Kpc.refl _ _ _ _⟩
  case round=>
    obtain⟨k,hk,rfl,hJs,hnx⟩:=hrel
    have hcs:wr.cell? ⟨Bs,0,none⟩=some (.slice (some ⟨b,off,none⟩) len cap):=(yba hnx.s).trans hBs
    have hcn:wr.cell? ⟨Bn,0,none⟩=some (.int .i64 8):=(yba hnx.n).trans hBn
    by_cases hlt:8*k<len
    · have hkc:k<chN len:=by unfold chN;omega
      obtain⟨fn,tmps,assign,body,hy,hR⟩:=hY k wr.drew (hJd _ _ hJs) hkc
      dsimp only[zns]at hy
      have hmx:Tryz.prog.follows .mixedOrders=true:=by kernel_rfl
      have hcs2:wr.drew.cell? ⟨Bs,0,none⟩=some (.slice (some ⟨b,off,none⟩) len cap):=hcs
      have hnx2:Kpc base Bs Bn W wr.drew:=hnx.trans (Kpc.drew _ _ _ _)
      gi_wp2
      gi_region_with_o (fail)
      all_goals rw[show(min 8 ((len-8*k:Nat):Int))=((min 8 (len-8*k):Nat):Int)by omega]
      all_goals obtain⟨e,he⟩:∃e,e=min 8 (len-8*k):=⟨_,rfl⟩
      all_goals rw[<-he]
      all_goals gi_wp2
      all_goals refine hR.mono ?_
      all_goals rintro e W3 (⟨rfl,hJ3,hk3⟩|⟨rfl,hJx3⟩)
      all_goals first
        |(have hcn3:W3.cell? ⟨Bn,0,none⟩=some (.int .i64 8):=(yba hk3.n).trans hcn
          gi_wp2
          go_roundw
          case rel=>exact⟨k+1,by omega,by simp;omega,hJ3,hnx2.trans hk3⟩
          case measure=>simp[intOf];omega)
        |(gi_wp2
          refine bodyPost_ret (results_none rfl _ _ _) rfl ?_
          exact⟨⟨_,rfl⟩,.inr ⟨k+1,by omega,hJx3⟩⟩)
    · obtain rfl:k=chN len:=by unfold chN at *;omega
      gi_wp2
      go_end0
      exact⟨⟨_,rfl⟩,.inl hJs⟩
attribute [local go_sem] Oper.semAt_some
set_option maxHeartbeats 1000000 in
theorem zDP(F:Fence)(n:Nat)(hf:F.fn 270)(hro:F.round=none)(l Bs Bn:Nat)(a:Option Addr)(cap:Nat)(J:List Nat->World->Prop)
  (W:World) (hBs:W.cell? ⟨Bs,0,none⟩=some (.slice a 0 cap)) (h0:J [] W):
  CallsIn F n Tryz.prog 270 #[.func (.yield l) #[] #[],.pointer (some ⟨Bs,0,none⟩),.pointer (some ⟨Bn,0,none⟩)] W fun e W'=>(∃v,e=.returned v)/\J [] W':=by
 refine callsIn_of_wp Tryz.func270 rfl hf ?_ hro
 simp only[Tryz.ntmps270,ybc,yav,ybw,Nat.reduceAdd,Nat.reduceSub,ycj,yck,List.push_toArray,ycs,ya4,ybQ]
 gi_wp2
 gi_loopw [4] (fun i wr=>i=.int .i64 0/\J [] wr/\wr=W) (fun _ _=>0)
 case atStart=>exact⟨rfl,h0,rfl⟩
 case round=>
  obtain⟨rfl,hJs,rfl⟩:=hrel
  gi_wp2
  go_end0
  exact⟨⟨_,rfl⟩,hJs⟩
set_option maxHeartbeats 1000000 in
theorem zJX(F:Fence)(n:Nat)(hf:F.fn 228)(hro:F.round=none)(a:Option Addr)(len cap:Nat)(w:World):
  CallsIn F n Tryz.prog 228 #[.slice a len cap,.int .i64 8] w fun e w'=>e=.returned (.func (.func 270) #[] #[.pointer (some ⟨w.heap.size,0,none⟩),.pointer (some ⟨w.heap.size+1,0,none⟩)])/\w'=(w.alloc (.cells #[.slice a len cap] 28)).alloc (.cells #[.int .i64 8] 3):=by
 refine callsIn_of_wp Tryz.func228 rfl hf ?_ hro
 simp only[Tryz.ntmps228,ybc,yav,ybw,Nat.reduceAdd,Nat.reduceSub,ycj,yck,List.push_toArray,ycs,ya4,ybQ]
 gi_wp2
 go_ret
 exact⟨rfl,rfl⟩
theorem zDQ(F:Fence)(n:Nat)(hf:F.fn 270)(hro:F.round=none)(hn:1<=n)(Bs Bn base b off len cap:Nat)(a:Option Addr)(hlc:len<=cap)(hreach:len<=1000000)(w:World)(h1:Bs<w.heap.size)(h2:Bn<w.heap.size)
  (ha:0<len->a=some ⟨b,off,none⟩) (hBs:w.cell? ⟨Bs,0,none⟩=some (.slice a len cap)) (hBn:w.cell? ⟨Bn,0,none⟩=some (.int .i64 8)):
  SeqStopsK F n Tryz.prog 270 #[.pointer (some ⟨Bs,0,none⟩),.pointer (some ⟨Bn,0,none⟩)] (fun k:Nat=>#[zns b off len k]) (Kpc base Bs Bn) (fun ys=>ys=ybq (chN len)) (fun _=>True) (chN len) w:=fun l J Jx W hW hA _ hY h0=>by
 have hc1:=(hW.cell (p:=⟨Bs,0,none⟩) h1).trans hBs;have hc2:=(hW.cell (p:=⟨Bn,0,none⟩) h2).trans hBn;by_cases h:len=0
 ·subst h;exact(zDP F n hf hro l Bs Bn a cap J W hc1 h0).mono fun e W' ⟨he,hj⟩=>⟨he,.inl ⟨[],rfl,hj⟩⟩
 ·rw[ha (by omega)]at hc1;refine(zIt F n hf hro hn l Bs Bn base b off len cap hlc hreach J (fun s W=>Jx s W) (fun s W' hh=>hA s W' W'.drew none hh ⟨rfl,rfl,rfl,yag _,fun _ _ _=>rfl⟩ (fun r e=>by cases e)) (fun k W1 hJ hk=>?_) W hc1 hc2 h0).mono fun e W' ⟨he,hj⟩=>⟨he,?_⟩
  ·have:=hY (ybq k) k W1 hJ (by rw[ybS];exact hk)
   rwa[<-List.range_succ]at this
  ·rcases hj with hj|⟨k,_,hj⟩
   ·exact .inl ⟨_,rfl,hj⟩
   ·exact .inr ⟨_,trivial,hj⟩
attribute [local go_sem] Oper.semAt_some
theorem zEG{F:Fence}{n:Nat}{P:Program}{w:World}{ops:Array Oper}{o:Oper}{a:Act}{K:Act->World->Prop}{Q:Exit->Act->World->Prop}{E:Prop}
  (hg:o.guard=none) (s x:Operand) (t:TypeId) (hop:o.op=Op.call {callee:=Callee.builtin Builtin.append,args:=#[s,x],argTypes:=#[t,t]})
  (base:Nat) (e:TypeId) (i:TypeInfo) (z:Value) (size bytes:Nat) (h1:P.underlying t=some (.slice e)) (h2:P.info? e=some i) (h3:i.zero=some z) (h4:i.size=size) (h5:i.bytes=bytes) (h6:z.cells.size=size) (h7:0<size)
  (v:Value) (k:Nat) (xs:List Value) (hs:a.eval s=v) (hown:w.ownsRow base e size v k xs) (ad:Addr) (m c:Nat) (news:List Value) (hx:a.eval x=.slice (some ad) m c) (hn:news.length=m*size)
  (hc:∀j u,news[j]?=some u->w.cell? (ad.add j)=some u) (h1c:∀u∈news,u.oneCell'=true) (b1:k+m<=maxLen) (b2:(k+m)*bytes<=140737488355328) (b3:base<=w.heap.size)
  (hK:∀v' w',w'.ownsRow base e size v' (k+m) (xs++news)->w.grownBy w' v.ownBlock->(v'=.slice none 0 0<->v=.slice none 0 0/\m=0)->K (a.put o.dst v') w'):
  if Region.wanted o (yielded ops a.tmps)=true then Oper.wpIn F n P o a w K Q else E:=by
 have hw:Region.wanted o (yielded ops a.tmps)=true:=by simp[Region.wanted,hg]
 rw[if_pos hw];obtain⟨v',w',hrun,r1,r2,r3⟩:=run_append_own (P:=P) w base t o.type e i z size bytes h1 h2 h3 h4 h5 h6 h7 v k xs hown ad m c news hn hc h1c b1 b2 b3;unfold Oper.wpIn;refine⟨?_,?_⟩
 ·simp[Oper.about,hop,resolve,Target.leads,Sem.run_pure]
 ·rw[Oper.semAt_plain F _ _ (by rw[hop];intro c hc';cases hc')];simp[execOp,hop,resolve,invoke,builtin,hs,hx,hrun,Result.andThen];exact hK v' w' r1 r2 r3
theorem zyZ{W:World}{base:Nat}{e:TypeId}{size:Nat}{v:Value}{k:Nat}{xs:List Value}{row:Option Nat}(h:W.ownsRow base e size v k xs)(hr:∀r,row=some r->∃o:Obj,W.heap[r]?=some o/\o.isCells=false):v.ownBlock=none\/v.ownBlock≠row:=by
 rcases h.2 with⟨rfl,_⟩|⟨g,cap,cur,rfl,_,hgb,_⟩
 ·exact .inl rfl
 ·refine .inr fun e'=>?_
  obtain⟨o,ho,hc⟩:=hr g e'.symm;rw[hgb]at ho;cases ho;cases hc
theorem zNB{W:World}{base base':Nat}{e e':TypeId}{size size':Nat}{v v':Value}{k k':Nat}{xs xs':List Value}(h:W.ownsRow base e size v k xs)(h':W.ownsRow base' e' size' v' k' xs')(hne:e≠e'):v.ownBlock=none\/v.ownBlock≠v'.ownBlock:=by
 rcases h.2 with⟨rfl,_⟩|⟨g,cap,cur,rfl,_,hgb,_⟩
 ·exact .inl rfl
 ·refine .inr fun e''=>?_
  rcases h'.2 with⟨rfl,_⟩|⟨g',cap',cur',rfl,_,hgb',_⟩
  ·cases e''
  ·have:g=g':=by simpa[Value.ownBlock]using e''
   subst this;rw[hgb]at hgb';cases hgb';exact hne rfl
theorem zzX{W:World}{base:Nat}{e:TypeId}{size:Nat}{v:Value}{k:Nat}{xs:List Value}{B:Nat}(h:W.ownsRow base e size v k xs)(hB:B<base):v.ownBlock=none\/v.ownBlock≠some B:=by
 rcases h.2 with⟨rfl,_⟩|⟨g,cap,cur,rfl,hg,_,_⟩
 ·exact .inl rfl
 ·refine .inr fun e''=>?_
  have:g=B:=by simpa[Value.ownBlock]using e''
  omega
theorem zDl{W:World}{base:Nat}{e:TypeId}{size:Nat}{v:Value}{k:Nat}{xs:List Value}{B:Nat}(h:W.ownsRow base e size v k xs)(hB:B<base):some B≠v.ownBlock:=by
 rcases zzX h hB with e'|e'
 ·rw[e'];simp
 ·exact fun e''=>e' e''.symm
theorem zAw{W W':World}{base m:Nat}{e:TypeId}{size:Nat}{v:Value}{k:Nat}{xs:List Value}(h:W.ownsRow base e size v k xs)(hb:Below m W W')(hm:W.heap.size<=m):W'.ownsRow base e size v k xs:=by
 refine⟨h.1,?_⟩;rcases h.2 with hn|⟨g,cap,cur,rfl,hg,hgb,rest⟩
 ·exact .inl hn
 ·exact .inr ⟨g,cap,cur,rfl,hg,(hb.block g (by have:=(ya2.1 hgb).1;omega)).trans hgb,rest⟩
theorem zxJ{W:World}{base base':Nat}{e:TypeId}{size:Nat}{v:Value}{k:Nat}{xs:List Value}(h:W.ownsRow base e size v k xs)(hb:base'<=base):W.ownsRow base' e size v k xs:=by
 refine⟨h.1,?_⟩;rcases h.2 with hn|⟨g,cap,cur,hv,hbg,rest⟩
 ·exact .inl hn
 ·exact .inr ⟨g,cap,cur,hv,yaO hb hbg,rest⟩
def chLen(len k:Nat):Nat:=min 8 (len-8*k)
structure ChI(B N0 len:Nat)(news:Nat->List Value)(pre:List Nat)(W:World):Prop where
 size:N0<=W.heap.size
 have_:∃v svs,Boxed W B 166 v/\svs.length=pre.length/\W.ownsRow N0 28 1 v svs.length svs/\∀(j k:Nat) (sv:Value),svs[j]?=some sv->pre[j]?=some k->W.ownsRow N0 76 2 sv (chLen len k) (news k)
theorem ChI.grown{B N0 len:Nat}{news:Nat->List Value}{pre:List Nat}{W W':World}{row:Option Nat}(h:ChI B N0 len news pre W)(hg:W.grownBy W' row)(hr:∀r,row=some r->∃o:Obj,W.heap[r]?=some o/\o.isCells=false):ChI B N0 len news pre W':=by
 obtain⟨hs,v,svs,hb,hl,hrow,heach⟩:=h;exact⟨yaO hs hg.size,v,svs,hb.kept hg (fun e=>by obtain⟨o,ho,hc⟩:=hr B e.symm;have hb':W.heap[B]?=_:=hb;rw[hb']at ho;cases ho;cases hc),hl,hrow.kept hg (zyZ hrow hr),fun j k sv h1 h2=>(heach j k sv h1 h2).kept hg (zyZ (heach j k sv h1 h2) hr)⟩
def pact(a:Option Addr)(len cap b off B S k:Nat):Act:={tmps:=#[.slice a len cap,undef,.slice none 0 0,.pointer (some ⟨B,0,none⟩),zns b off len k,.slice a len cap,.func (.func 270) #[] #[.pointer (some ⟨S,0,none⟩),.pointer (some ⟨S+1,0,none⟩)],zns b off len k,undef,undef,undef,undef,undef,undef],defers:=[]}
def pbody:Code:=(Code.block 1
    (Code.region 4
     #[{dst:=some 8,op:=Op.load 166 (yaI 3),type:=166,pos:= "store.go:84",after:=#[],guard:=none},
      {dst:=some 9,op:=Op.move (yaI 4),type:=28,pos:= "store.go:84",after:=#[],guard:=none},
      {dst:=some 10,op:=Op.call {callee:=Callee.value (Operand.func 45),args:=#[yaI 9],argTypes:=#[28]},type:=28,pos:= "store.go:84",after:=#[{on:=1,ground:=ya5}],guard:=none},
      {dst:=some 11,op:=Op.buildSlice 166 1 #[(0,yaI 10)],type:=166,pos:= "store.go:84",after:=#[{on:=2,ground:=ya5}],guard:=none},
      {dst:=some 12,op:=Op.call {callee:=Callee.builtin Builtin.append,args:=#[yaI 8,yaI 11],argTypes:=#[166,166]},type:=166,pos:= "store.go:84",after:=#[{on:=0,ground:=ya5},{on:=3,ground:=ya5},{on:=2,ground:=Ground.chain}],guard:=none},
      {dst:=none,op:=Op.store 166 (yaI 3) (yaI 12),type:=0,pos:= "store.go:84",after:=#[{on:=4,ground:=ya5},{on:=4,ground:=Ground.chain},{on:=0,ground:=yay},{on:=1,ground:=yay},{on:=2,ground:=yay},{on:=3,ground:=yay},{on:=4,ground:=yay}],guard:=none}]
     true))
theorem zPy:(Tryz.prog.info? 28).map (fun i=>(i.zero,i.size,i.bytes))=some (some (.slice none 0 0),1,24):=by kernel_rfl
set_option maxRecDepth 100000 in
set_option maxHeartbeats 4000000 in
theorem zKN(n:Nat)(l:Nat)(hn:1<=n)(a:Option Addr)(b off len cap B S k N0 base:Nat)(news:Nat->List Value)(pre:List Nat)(W:World)(Q:Exit->Act->World->Prop)
  (hI:ChI B N0 len news pre W) (hlen:len<=1000000) (hpre:pre.length<chN len) (hbB:base<=B) (hBN:B<N0) (hSN:S+1<N0) (hBS:B<S)
  (hcl:∀W',Below base W W'->Calls Tryz.prog 45 #[zns b off len k] W' fun e w'=>∃g cp,e=.returned (.slice (some ⟨g,0,none⟩) (chLen len k) cp)/\w'.ownsRow W'.heap.size 76 2 (.slice (some ⟨g,0,none⟩) (chLen len k) cp) (chLen len k) (news k)/\Below W'.heap.size W' w')
  (hQ:∀a' W',KeepsOthers W W'->Kpc base S (S+1) W W'->ChI B N0 len news (pre++[k]) W'->Q .normal a' W'):
  pbody.wpIn (Fence.wide.inRound l) n Tryz.prog Q (pact a len cap b off B S k) W:=by
 obtain⟨hs0,v,svs,hB,hl1,hrow,heach⟩:=hI
 have hl0:=hl1.symm
 clear hl1
 have hmx:Tryz.prog.follows .mixedOrders=true:=by kernel_rfl
 have hc1:W.drew.cell? ⟨B,0,none⟩=some v:=hB.cell
 have hbd:Below base W W.drew:=⟨rfl,rfl,rfl,yag _,fun _ _=>rfl⟩
 have hBlt:B<W.drew.heap.size:=hB.lt
 obtain⟨i0,hi,hz0,hz1,hz2⟩:=info_parts zPy
 have tail:∀(w':World) (g cp:Nat),w'.ownsRow W.drew.heap.size 76 2 (.slice (some ⟨g,0,none⟩) (chLen len k) cp) (chLen len k) (news k)->Below W.drew.heap.size W.drew w'->
   wpAnyIn (Fence.wide.inRound l) n Tryz.prog .any #[{dst:=some 8,op:=Op.load 166 (yaI 3),type:=166,pos:= "store.go:84",after:=#[],guard:=none},
      {dst:=some 9,op:=Op.move (yaI 4),type:=28,pos:= "store.go:84",after:=#[],guard:=none},
      {dst:=some 10,op:=Op.call {callee:=Callee.value (Operand.func 45),args:=#[yaI 9],argTypes:=#[28]},type:=28,pos:= "store.go:84",after:=#[{on:=1,ground:=ya5}],guard:=none},
      {dst:=some 11,op:=Op.buildSlice 166 1 #[(0,yaI 10)],type:=166,pos:= "store.go:84",after:=#[{on:=2,ground:=ya5}],guard:=none},
      {dst:=some 12,op:=Op.call {callee:=Callee.builtin Builtin.append,args:=#[yaI 8,yaI 11],argTypes:=#[166,166]},type:=166,pos:= "store.go:84",after:=#[{on:=0,ground:=ya5},{on:=3,ground:=ya5},{on:=2,ground:=Ground.chain}],guard:=none},
      {dst:=none,op:=Op.store 166 (yaI 3) (yaI 12),type:=0,pos:= "store.go:84",after:=#[{on:=4,ground:=ya5},{on:=4,ground:=Ground.chain},{on:=0,ground:=yay},{on:=1,ground:=yay},{on:=2,ground:=yay},{on:=3,ground:=yay},{on:=4,ground:=yay}],guard:=none}] (Exit.inBlock 1 Q) 2 #[true,true,true,true,false,false]
    {tmps:=#[.slice a len cap,undef,.slice none 0 0,.pointer (some ⟨B,0,none⟩),zns b off len k,.slice a len cap,.func (.func 270) #[] #[.pointer (some ⟨S,0,none⟩),.pointer (some ⟨S+1,0,none⟩)],zns b off len k,v,zns b off len k,.slice (some ⟨g,0,none⟩) (chLen len k) cp,.slice (some ⟨w'.heap.size,0,none⟩) 1 1,undef,undef],defers:=[]} (w'.alloc (.cells #[.slice (some ⟨g,0,none⟩) (chLen len k) cp] 28)):=by
  intro w' g cp hr' hb0
  have hb':Below W.heap.size W w':=⟨hb0.os,hb0.tape,hb0.output,hb0.size,hb0.block⟩
  have hB':Boxed w' B 166 v:=(hb'.block B hBlt).trans hB
  have hrow':(w'.alloc (.cells #[.slice (some ⟨g,0,none⟩) (chLen len k) cp] 28)).ownsRow N0 28 1 v svs.length svs:=(zAw hrow (W':=w') (m:=W.heap.size) hb' (yag _)).alloc _
  have hss:W.heap.size<=w'.heap.size:=hb'.size
  refine wpAnyIn_ready (rs:=[4]) (by kernel_rfl) (by simp) ?_
  refine ybd rfl (fun K hK=>?_) ybv
  refine zEG rfl _ _ 166 rfl N0 28 i0 (.slice none 0 0) 1 24 Tryz.underlying166 hi hz0 hz1 hz2 rfl (by omega) v svs.length svs rfl hrow' ⟨w'.heap.size,0,none⟩ 1 1 [.slice (some ⟨g,0,none⟩) (chLen len k) cp] rfl rfl (cell_one_new _ _ _) (by simp[Value.oneCell']) (by unfold chN at hpre;unfold maxLen;omega) (by unfold chN at hpre;omega) (by simp;omega) ?_
  intro v3 w3 hown3 hg3 _
  refine hK _ _ ?_;clear hK K
  have hB3:Boxed w3 B 166 v:=(hB'.alloc _).kept hg3 (zDl hrow' hBN)
  have hcb3:=hB3.cell
  have hfb3:=hB3.frozen
  obtain⟨g3,cap3,rfl⟩:∃g3 cap3,v3=.slice (some ⟨g3,0,none⟩) (svs.length+1) cap3:=by
   rcases hown3.2 with⟨_,h0⟩|⟨g3,cap3,_,h3,_⟩
   ·omega
   ·exact⟨g3,cap3,h3⟩
  refine wpAnyIn_ready (rs:=[5]) (by kernel_rfl) (by simp) ?_
  refine ybd rfl (fun K hK=>?_) ybv
  go_simp
  refine hK _ _ ?_;clear hK K
  refine wpAnyIn_done (by kernel_rfl) ?_ _
  obtain⟨w4,hw4⟩:∃w4,w3.setCell ⟨B,0,none⟩ (.slice (some ⟨g3,0,none⟩) (svs.length+1) cap3)=w4:=⟨_,rfl⟩
  rw[hw4]
  have hg4:w3.grownBy w4 (some B):=by rw[<-hw4];exact grownBy_setCell' _ _ _
  have hcell3:∀(j:Nat) (o:Obj),v.ownBlock=some j->(w'.alloc (.cells #[.slice (some ⟨g,0,none⟩) (chLen len k) cp] 28)).heap[j]?=some o->o.isCells=true:=by
   intro j o hj ho
   rcases hrow'.2 with⟨rfl,_⟩|⟨g',cap',cur',rfl,_,hgb,_⟩
   ·cases hj
   ·have:g'=j:=by simpa[Value.ownBlock]using hj
    subst this;rw[hgb]at ho;cases ho;rfl
  have kA:KeepsOthers W w':=⟨hss,fun j o hj ho=>(hb'.block j (ya2.1 hj).1).trans hj⟩
  refine hQ _ _ (((kA.trans (KeepsOthers.alloc _ _)).trans (KeepsOthers.of_grownBy hg3 hcell3)).trans (by rw[<-hw4];exact KeepsOthers.setCell _ _ _)) ?_ ?_
  ·
   have low:∀x,x<N0->x≠B->w4.heap[x]?=W.heap[x]?:=fun x hx hne=>by
    have e4:w4.heap[x]?=w3.heap[x]?:=hg4.block x (by have:=hg3.size;simp at this;omega) (fun e=>hne (by cases e;rfl))
    have e3:w3.heap[x]?=(w'.alloc (.cells #[.slice (some ⟨g,0,none⟩) (chLen len k) cp] 28)).heap[x]?:=hg3.block x (by simp;omega) (zDl hrow' hx)
    rw[e4,e3,Below.heap_alloc _ _ x (by omega)]
    exact hb'.block x (by show x<W.heap.size;omega)
   refine⟨⟨?_,?_,?_,?_,fun x hx=>low x (by omega) (by omega)⟩,low S (by omega) (by omega),low (S+1) (by omega) (by omega)⟩
   ·exact hg4.os.trans (hg3.os.trans hb'.os)
   ·exact hg4.tape.trans (hg3.tape.trans hb'.tape)
   ·exact hg4.output.trans (hg3.output.trans hb'.output)
   ·have h1:=hg4.size;have h2:=hg3.size;simp at h2;omega
  ·have hB4:Boxed w4 B 166 (.slice (some ⟨g3,0,none⟩) (svs.length+1) cap3):=by rw[<-hw4];exact hB3.set _
   have hown4:=hown3.kept hg4 (zzX hown3 hBN)
   refine⟨?_,_,svs++[.slice (some ⟨g,0,none⟩) (chLen len k) cp],hB4,by simp[<-hl0],by rw[List.length_append];exact hown4,?_⟩
   ·have h1:=hg4.size;have h2:=hg3.size;simp at h2;omega
   ·intro j k' sv hj hk'
    have fin:∀{sv:Value} {c:Nat} {ns:List Value},w'.ownsRow N0 76 2 sv c ns->w4.ownsRow N0 76 2 sv c ns:=fun h=>by
     have h1:(w'.alloc (.cells #[.slice (some ⟨g,0,none⟩) (chLen len k) cp] 28)).ownsRow N0 76 2 _ _ _:=h.alloc _
     have h2:=h1.kept hg3 (zNB h1 hrow' (by decide))
     exact h2.kept hg4 (zzX h2 hBN)
    by_cases hjl:j<svs.length
    ·rw[yah hjl]at hj
     rw[yah (by omega)]at hk'
     exact fin (zAw (heach j k' sv hj hk') hb' (yag _))
    ·rw[List.getElem?_append_right (by omega)]at hj hk'
     have hj0:j-svs.length=0:=by
      have:=(yae.1 hj).1;simp at this;omega
     have hj1:j-pre.length=0:=by omega
     rw[hj0]at hj;rw[hj1]at hk'
     simp at hj hk'
     subst hj;subst hk'
     exact fin (zxJ hr' hs0)
 unfold pbody pact
 gi_wp2
 refine wpIn_region_any hmx ?_
 change wpAnyIn _ _ _ _ _ _ _ _ _ (World.drew _)
 refine wpAnyIn_ready (rs:=[0,1]) (by kernel_rfl) (by simp) ?_
 refine ybd rfl (fun K hK=>?_) (ybd rfl (fun K hK=>?_) ybv)
 ·go_simp
  refine hK _ _ ?_;clear hK K
  refine wpAnyIn_ready (rs:=[1]) (by kernel_rfl) (by simp) ?_
  refine ybd rfl (fun K hK=>?_) ybv
  go_simp
  refine hK _ _ ?_;clear hK K
  refine wpAnyIn_ready (rs:=[2]) (by kernel_rfl) (by simp) ?_
  refine ybd rfl (fun K hK=>?_) ybv
  go_simp
  refine⟨trivial,?_⟩
  refine(CallsIn.inRound l (callsIn_wide.2 (hcl _ hbd))).mono ?_
  rintro e w' ⟨g,cp,rfl,hr',hb'⟩
  go_simp
  refine hK _ _ ?_;clear hK K
  refine wpAnyIn_ready (rs:=[3]) (by kernel_rfl) (by simp) ?_
  refine ybd rfl (fun K hK=>?_) ybv
  go_simp
  refine hK _ _ ?_;clear hK K
  exact tail w' g cp hr' hb'
 ·go_simp
  refine hK _ _ ?_;clear hK K
  refine wpAnyIn_ready (rs:=[0,2]) (by kernel_rfl) (by simp) ?_
  refine ybd rfl (fun K hK=>?_) (ybd rfl (fun K hK=>?_) ybv)
  ·go_simp
   refine hK _ _ ?_;clear hK K
   refine wpAnyIn_ready (rs:=[2]) (by kernel_rfl) (by simp) ?_
   refine ybd rfl (fun K hK=>?_) ybv
   go_simp
   refine⟨trivial,?_⟩
   refine(CallsIn.inRound l (callsIn_wide.2 (hcl _ hbd))).mono ?_
   rintro e w' ⟨g,cp,rfl,hr',hb'⟩
   go_simp
   refine hK _ _ ?_;clear hK K
   refine wpAnyIn_ready (rs:=[3]) (by kernel_rfl) (by simp) ?_
   refine ybd rfl (fun K hK=>?_) ybv
   go_simp
   refine hK _ _ ?_;clear hK K
   exact tail w' g cp hr' hb'
  ·go_simp
   refine⟨trivial,?_⟩
   refine(CallsIn.inRound l (callsIn_wide.2 (hcl _ hbd))).mono ?_
   rintro e w' ⟨g,cp,rfl,hr',hb'⟩
   have hc2:w'.cell? ⟨B,0,none⟩=some v:=(hb'.cell (p:=⟨B,0,none⟩) hBlt).trans hc1
   have hc3:(w'.alloc (.cells #[.slice (some ⟨g,0,none⟩) (chLen len k) cp] 28)).cell? ⟨B,0,none⟩=some v:=(World.cell?_alloc_lt _ _ _ (ybj _ _ hc2)).trans hc2
   go_simp
   refine hK _ _ ?_;clear hK K
   refine wpAnyIn_ready (rs:=[0,3]) (by kernel_rfl) (by simp) ?_
   refine ybd rfl (fun K hK=>?_) (ybd rfl (fun K hK=>?_) ybv)
   ·go_simp
    refine hK _ _ ?_;clear hK K
    refine wpAnyIn_ready (rs:=[3]) (by kernel_rfl) (by simp) ?_
    refine ybd rfl (fun K hK=>?_) ybv
    go_simp
    refine hK _ _ ?_;clear hK K
    exact tail w' g cp hr' hb'
   ·go_simp
    refine hK _ _ ?_;clear hK K
    refine wpAnyIn_ready (rs:=[0]) (by kernel_rfl) (by simp) ?_
    refine ybd rfl (fun K hK=>?_) ybv
    go_simp
    refine hK _ _ ?_;clear hK K
    exact tail w' g cp hr' hb'
attribute [local go_sem] Oper.semAt_some
theorem zPz:(Tryz.prog.info? 76).map (fun i=>(i.zero,i.size,i.bytes))=some (some (.agg #[.string ⟨#[]⟩,.string ⟨#[]⟩]),2,32):=by kernel_rfl
def znS(len:Nat)(vals:List Value)(k:Nat):List Value:=(vals.drop (16*k)).take (2*chLen len k)
theorem zIs{len k:Nat}{vals:List Value}(hl:vals.length=2*len):(znS len vals k).length=chLen len k*2:=by
 unfold znS chLen;rw[List.length_take,List.length_drop];omega
set_option maxHeartbeats 1000000 in
theorem zJ2{w:World}{b off len:Nat}{vals:List Value}(hlen:len<=1000000)(hl:vals.length=2*len)(hc:∀j u,vals[j]?=some u->w.cell? ⟨b,off+j,none⟩=some u)(h1:∀u∈vals,u.oneCell'=true)(k:Nat)(W':World)(hW:Below w.heap.size w W'):
  Calls Tryz.prog 45 #[zns b off len k] W' fun e w'=>∃g cp,e=.returned (.slice (some ⟨g,0,none⟩) (chLen len k) cp)/\w'.ownsRow W'.heap.size 76 2 (.slice (some ⟨g,0,none⟩) (chLen len k) cp) (chLen len k) (znS len vals k)/\Below W'.heap.size W' w':=by
 obtain⟨i0,hi,hz0,hz1,hz2⟩:=info_parts zPz
 have hk:chLen len k<=8:=by unfold chLen;omega
 have h:=AnyE.slices_Clone (ρ:=Tryz.clone45_ren) Tryz.clone45 i0 (.agg #[.string ⟨#[]⟩,.string ⟨#[]⟩]) 2 32 hi hz0 hz1 hz2 rfl (by omega) (fun w=>by kernel_rfl) b (off+8*k*2) (chLen len k) (chLen len k) (znS len vals k) W' (zIs hl) (by unfold maxLen;omega) (by omega)
  (fun j u hu=>by
   unfold znS at hu
   rw[List.getElem?_take]at hu
   split at hu
   ·rw[List.getElem?_drop]at hu
    have:=hc _ u hu
    have hlt:=ybj _ _ this
    rw[show off+8*k*2+j=off+(16*k+j)by omega]
    exact(hW.cell (p:=⟨b,off+(16*k+j),none⟩) hlt).trans this
   ·cases hu)
  (fun u hu=>h1 u (List.mem_of_mem_drop (List.mem_of_mem_take hu)))
 refine h.mono fun e w' ⟨v',he,hown,hne,hb'⟩=>?_
 rcases hown.2 with⟨hn,_⟩|⟨g,cap,cur,hv,_⟩
 ·exact absurd hn hne
 ·subst hv
  exact⟨g,cap,he,hown,hb'⟩
set_option maxRecDepth 100000 in
set_option maxHeartbeats 2000000 in
theorem zIu(b off len cap:Nat)(a:Option Addr)(vals:List Value)(hlc:len<=cap)(hlen:len<=1000000)(w:World)
  (ha:0<len->a=some ⟨b,off,none⟩) (hl:vals.length=2*len) (hc:∀j u,vals[j]?=some u->w.cell? ⟨b,off+j,none⟩=some u) (h1:∀u∈vals,u.oneCell'=true):
  Calls Tryz.prog 160 #[.slice a len cap] w fun e W'=>∃v svs,e=.returned v/\svs.length=chN len/\W'.ownsRow w.heap.size 28 1 v svs.length svs/\(∀(k:Nat) (sv:Value),svs[k]?=some sv->W'.ownsRow w.heap.size 76 2 sv (chLen len k) (znS len vals k))/\Below w.heap.size w W':=by
 refine(callsIn_wide (n:=4)).1 ?_
 have hro:Fence.wide.round=none:=rfl
 refine callsIn_of_wp_marks Tryz.func160 rfl trivial ?_ hro
 simp only[Tryz.ntmps160,ybc,yav,ybw,Nat.reduceAdd,Nat.reduceSub,ycj,yck,List.push_toArray,ycs,ya4,ybQ]
 gi_wp2_with (refine⟨trivial,?_⟩;gi_at_call 228;refine(zJX Fence.wide _ trivial hro _ _ _ _).mono ?_;rintro e w' ⟨rfl,rfl⟩)
 obtain⟨w1,hw1⟩:∃w1,((w.alloc (.cells #[.slice none 0 0] 166)).alloc (.cells #[.slice a len cap] 28)).alloc (.cells #[.int .i64 8] 3)=w1:=⟨_,rfl⟩
 have hs1:w1.heap.size=w.heap.size+3:=by rw[<-hw1];simp
 have hb1:Below w.heap.size w w1:=by
  rw[<-hw1]
  exact(((Below.refl _ w).alloc (yag _) _).alloc (by simp) _).alloc (by simp;omega) _
 have bB:Boxed w1 w.heap.size 166 (.slice none 0 0):=by rw[<-hw1];exact((Boxed.new w 166 (.slice none 0 0)).alloc _).alloc _
 have bS:Boxed w1 (w.heap.size+1) 28 (.slice a len cap):=by
  rw[<-hw1]
  have:=Boxed.new (w.alloc (.cells #[.slice none 0 0] 166)) 28 (.slice a len cap)
  rw[World.size_alloc]at this
  exact this.alloc _
 have bN:Boxed w1 (w.heap.size+1+1) 3 (.int .i64 8):=by
  rw[<-hw1]
  have:=Boxed.new ((w.alloc (.cells #[.slice none 0 0] 166)).alloc (.cells #[.slice a len cap] 28)) 3 (.int .i64 8)
  rw[World.size_alloc,World.size_alloc]at this
  exact this
 rw[hw1]
 clear hw1
 refine wpIn_rangeFunc_ownG hro (by omega) (gf:=270) (lb:=#[.pointer (some ⟨w.heap.size+1,0,none⟩),.pointer (some ⟨w.heap.size+1+1,0,none⟩)]) rfl trivial (enters_of Tryz.func270 (by kernel_rfl) rfl)
  (zDQ Fence.wide _ trivial hro (by omega) (w.heap.size+1) (w.heap.size+1+1) w.heap.size b off len cap a hlc hlen w1 (by omega) (by omega) ha bS.cell bN.cell)
  (fun h k=>h.trans k) (fun W l o o' hl' ho hnc _=>⟨(Below.refl _ W).grown (grownBy_putObj' _ _ _) (by have:=(ya2.1 ho).1;omega) (fun k e=>by cases e;omega),World.putObj_heap_other (by omega),World.putObj_heap_other (by omega)⟩) (Below.refl _ _) (fun _=>rfl)
  (fun pre W=>ChI w.heap.size (w.heap.size+3) len (znS len vals) pre W/\Below w.heap.size w W)
  (fun _ _ _=>False)
  (fun s A B row hs hg hr=>⟨hs.1.grown hg (fun r e=>(hr r e).2),hs.2.grown hg (by have:=hs.2.size;omega) (fun k e=>by have:=(hr k e).1;omega)⟩)
  (fun _ _ _ _ _ hs _ _=>hs)
  ⟨⟨by omega,_,[],bB,rfl,⟨rfl,.inl ⟨rfl,rfl⟩⟩,fun j k sv h=>by cases h⟩,hb1⟩
  (fun k=>pact a len cap b off w.heap.size (w.heap.size+1) k) ?assign ?body ?done ?stop
 case assign=>
  intro l x W K hK
  unfold pact at hK
  gi_wp2
  exact hK
 case body=>
  rintro l pre k W ⟨hI,hB⟩ hlt
  refine zKN _ l (by omega) a b off len cap w.heap.size (w.heap.size+1) k (w.heap.size+3) w.heap.size (znS len vals) pre W _ hI hlen hlt (yag _) (by omega) (by omega) (by omega) (fun W' hW'=>?_) (fun a' W' h2 h3 h4=>⟨h2.from _,h3,h4,hB.trans h3.below⟩)
  exact zJ2 hlen hl hc h1 k W' (hB.trans hW')
 case done=>
  rintro D ys W hD rfl ⟨hI,hB⟩ hK
  obtain⟨hs0,v,svs,hBx,hl0,hrow,heach⟩:=hI
  have hcb:=hBx.cell
  gi_wp2
  refine⟨by simp,.inl ⟨_,_,rfl,run_takeDeferred hK,?_⟩⟩
  have hno:∀r,some D=some r->∃o:Obj,W.heap[r]?=some o/\o.isCells=false:=fun r e=>by cases e;exact⟨_,hK,rfl⟩
  have hg:=grownBy_putObj' W D (.deferred none)
  refine⟨_,results_tmp rfl _ _ _,v,svs,rfl,by rw[hl0,ybS],zxJ (hrow.kept hg (zyZ hrow hno)) (by omega),fun k sv h=>?_,hB.grown hg (by omega) (fun k e=>by cases e;omega)⟩
  have hk:(ybq (chN len))[k]?=some k:=by
   have:=(yae.1 h).1
   rw[List.getElem?_range (by rw[hl0,ybS]at this;exact this)]
  have hr:=heach k k sv h hk
  exact zxJ (hr.kept hg (zyZ hr hno)) (by omega)
 case stop=>
  rintro D c pre W _ _ h _
  exact h.elim
theorem zDR:Go.Ab.Cuts Tryz.prog 160 76 28:=fun b off len cap a vals hlc hlen w ha hl hc h1=>
 (zIu b off len cap a vals hlc hlen w ha hl hc h1).mono fun _ _ ⟨v,svs,he,hn,hrow,heach,bel⟩=>⟨v,svs,he,hn,hrow,heach,bel⟩
theorem zDZ:Go.Ab.Cuts Tryz.prog 164 76 28:=fun b off len cap a vals _ hlen w ha hl hc h1=>
 (zCy b off len cap a vals hlen w ha hl hc h1).mono fun _ _ ⟨v,svs,he,hG,bel⟩=>⟨v,svs,he,hG.len,by rw[hG.len];exact hG.row,hG.each,bel⟩
end Go.Proofs
namespace Go.Proofs
end Go.Proofs
namespace Go.Ab.Tryz
open Go Go.Ab Go.Proofs
def pr:FuncId->Option Prim
 |43=>some (.clone 55 24)
 |44=>some (.clone 82 24)
 |45=>some (.clone 76 32)
 |46=>some (.clone 36 56)
 |47=>some (.clone 57 128)
 |48=>some (.clone 74 64)
 |94=>some .mv
 |116=>some (.insert 55 24)
 |117=>some .mv
 |118=>some .mv
 |119=>some .mv
 |120=>some .mv
 |121=>some .mv
 |122=>some .mv
 |123=>some .mv
 |132=>some .mv
 |133=>some .mv
 |135=>some .mv
 |141=>some .mv
 |160=>some (.look (chP 76 28))
 |164=>some (.look (chP 76 28))
 |173=>some .mv
 |174=>some .mv
 |175=>some .mv
 |176=>some .mv
 |177=>some .mv
 |178=>some .mv
 |179=>some .mv
 |199=>some .mv
 |200=>some .mv
 |201=>some .mv
 |202=>some .mv
 |203=>some .mv
 |205=>some .mv
 |206=>some .mv
 |208=>some .mv
 |209=>some .mv
 |219=>some .mv
 |220=>some (.clone 25 16)
 |238=>some .mv
 |239=>some .mv
 |240=>some .mv
 |242=>some .mv
 |258=>some .mv
 |259=>some .mv
 |262=>some .mv
 |265=>some (.sort 25 266)
 |276=>some (.insert 76 32)
 |282=>some (.insert 82 24)
 |304=>some (.look decP)
 |_=>none
theorem zP5:zbb Tryz.prog 25=some (.agg [.sc (.int .u64 0),.sc (.int .u16 0)]):=by kernel_rfl
theorem zMU:Tryz.prog.cellsOf 25=2:=by kernel_rfl
theorem zMQ:Tryz.prog.bytesOf 25=16:=by kernel_rfl
theorem zP6:zbb Tryz.prog 36=some (.agg [.sc (.int .u32 0),.sc (.int .i64 0),.sc (.int .i64 0),.sc (.int .i64 0),.sc (.int .u64 0),.sc (.int .u16 0),.sc (.int .i64 0)]):=by kernel_rfl
theorem zMV:Tryz.prog.cellsOf 36=7:=by kernel_rfl
theorem zMR:Tryz.prog.bytesOf 36=56:=by kernel_rfl
theorem zJH:zbb Tryz.prog 55=some (.agg [.sc (.int .u64 0),.sc (.int .u16 0),.sc (.int .i64 0)]):=by kernel_rfl
theorem zFL:Tryz.prog.cellsOf 55=3:=by kernel_rfl
theorem zFI:Tryz.prog.bytesOf 55=24:=by kernel_rfl
theorem zP7:zbb Tryz.prog 57=some (.agg [.sc (.int .i64 0),.sc (.int .i64 0),.sc (.int .i64 0),.sc (.string ⟨#[]⟩),.sc (.string ⟨#[]⟩),.sc (.int .u64 0),.sc (.int .u64 0),.sc (.int .u16 0),.sc (.int .u64 0),.sc (.int .u16 0),.sc (.bool false),.sc (.int .i64 0),.sc (.int .i64 0),.sc (.int .i64 0)]):=by kernel_rfl
theorem zMW:Tryz.prog.cellsOf 57=14:=by kernel_rfl
theorem zMS:Tryz.prog.bytesOf 57=128:=by kernel_rfl
theorem zP8:zbb Tryz.prog 74=some (.agg [.sc (.int .i64 0),.sc (.int .i64 0),.sc (.string ⟨#[]⟩),.sc (.string ⟨#[]⟩),.sc (.bool false),.sc (.int .i64 0)]):=by kernel_rfl
theorem zMX:Tryz.prog.cellsOf 74=6:=by kernel_rfl
theorem zMT:Tryz.prog.bytesOf 74=64:=by kernel_rfl
theorem zJI:zbb Tryz.prog 76=some (.agg [.sc (.string ⟨#[]⟩),.sc (.string ⟨#[]⟩)]):=by kernel_rfl
theorem zFM:Tryz.prog.cellsOf 76=2:=by kernel_rfl
theorem zFJ:Tryz.prog.bytesOf 76=32:=by kernel_rfl
theorem zJJ:zbb Tryz.prog 82=some (.agg [.sc (.int .i64 0),.sc (.int .u64 0),.sc (.int .u16 0)]):=by kernel_rfl
theorem zFN:Tryz.prog.cellsOf 82=3:=by kernel_rfl
theorem zFK:Tryz.prog.bytesOf 82=24:=by kernel_rfl
def tabs(base:Base):Prop:=Tryz.dec304_ren.g 3<base.n/\Tryz.dec304_ren.g 4<base.n/\Go.Lib.Utf8Tabs (Tryz.dec304_ren.g 3) (Tryz.dec304_ren.g 4) base.w0
theorem pr_ok:∀base,tabs base->∀f p,pr f=some p->ziN Tryz.prog base f p:=by
 intro base ht f p h;unfold pr at h;split at h
 ·cases h;have:=zll (base:=base) (P:=Tryz.prog) (ρ:=Tryz.clone43_ren) Tryz.clone43 zJH (by show 0<Tryz.prog.cellsOf 55;rw[zFL];omega);rw[show Tryz.prog.bytesOf (Tryz.clone43_ren.t 23)=24 from zFI]at this;exact this
 ·cases h;have:=zll (base:=base) (P:=Tryz.prog) (ρ:=Tryz.clone44_ren) Tryz.clone44 zJJ (by show 0<Tryz.prog.cellsOf 82;rw[zFN];omega);rw[show Tryz.prog.bytesOf (Tryz.clone44_ren.t 23)=24 from zFK]at this;exact this
 ·cases h;have:=zll (base:=base) (P:=Tryz.prog) (ρ:=Tryz.clone45_ren) Tryz.clone45 zJI (by show 0<Tryz.prog.cellsOf 76;rw[zFM];omega);rw[show Tryz.prog.bytesOf (Tryz.clone45_ren.t 23)=32 from zFJ]at this;exact this
 ·cases h;have:=zll (base:=base) (P:=Tryz.prog) (ρ:=Tryz.clone46_ren) Tryz.clone46 zP6 (by show 0<Tryz.prog.cellsOf 36;rw[zMV];omega);rw[show Tryz.prog.bytesOf (Tryz.clone46_ren.t 23)=56 from zMR]at this;exact this
 ·cases h;have:=zll (base:=base) (P:=Tryz.prog) (ρ:=Tryz.clone47_ren) Tryz.clone47 zP7 (by show 0<Tryz.prog.cellsOf 57;rw[zMW];omega);rw[show Tryz.prog.bytesOf (Tryz.clone47_ren.t 23)=128 from zMS]at this;exact this
 ·cases h;have:=zll (base:=base) (P:=Tryz.prog) (ρ:=Tryz.clone48_ren) Tryz.clone48 zP8 (by show 0<Tryz.prog.cellsOf 74;rw[zMX];omega);rw[show Tryz.prog.bytesOf (Tryz.clone48_ren.t 23)=64 from zMT]at this;exact this
 ·cases h;exact zbm Tryz.func94 (by kernel_rfl) (by decide)
 ·cases h;have:=zuZ (base:=base) (P:=Tryz.prog) (ρ:=Tryz.ins116_ren) {Tryz.ins116 with ov:=Tryz.over196} zJH (by show 0<Tryz.prog.cellsOf 55;rw[zFL];omega);rw[show Tryz.prog.bytesOf (Tryz.ins116_ren.t 9)=24 from zFI]at this;exact this
 ·cases h;exact zbm Tryz.func117 (by kernel_rfl) (by decide)
 ·cases h;exact zbm Tryz.func118 (by kernel_rfl) (by decide)
 ·cases h;exact zbm Tryz.func119 (by kernel_rfl) (by decide)
 ·cases h;exact zbm Tryz.func120 (by kernel_rfl) (by decide)
 ·cases h;exact zbm Tryz.func121 (by kernel_rfl) (by decide)
 ·cases h;exact zbm Tryz.func122 (by kernel_rfl) (by decide)
 ·cases h;exact zbm Tryz.func123 (by kernel_rfl) (by decide)
 ·cases h;exact zbm Tryz.func132 (by kernel_rfl) (by decide)
 ·cases h;exact zbm Tryz.func133 (by kernel_rfl) (by decide)
 ·cases h;exact zbm Tryz.func135 (by kernel_rfl) (by decide)
 ·cases h;exact zbm Tryz.func141 (by kernel_rfl) (by decide)
 ·cases h;exact zCg (by kernel_rfl) (by kernel_rfl) ⟨_,Tryz.func160,by kernel_rfl,by decide⟩ zDR
 ·cases h;exact zCg (by kernel_rfl) (by kernel_rfl) ⟨_,Tryz.func164,by kernel_rfl,by decide⟩ zDZ
 ·cases h;exact zbm Tryz.func173 (by kernel_rfl) (by decide)
 ·cases h;exact zbm Tryz.func174 (by kernel_rfl) (by decide)
 ·cases h;exact zbm Tryz.func175 (by kernel_rfl) (by decide)
 ·cases h;exact zbm Tryz.func176 (by kernel_rfl) (by decide)
 ·cases h;exact zbm Tryz.func177 (by kernel_rfl) (by decide)
 ·cases h;exact zbm Tryz.func178 (by kernel_rfl) (by decide)
 ·cases h;exact zbm Tryz.func179 (by kernel_rfl) (by decide)
 ·cases h;exact zbm Tryz.func199 (by kernel_rfl) (by decide)
 ·cases h;exact zbm Tryz.func200 (by kernel_rfl) (by decide)
 ·cases h;exact zbm Tryz.func201 (by kernel_rfl) (by decide)
 ·cases h;exact zbm Tryz.func202 (by kernel_rfl) (by decide)
 ·cases h;exact zbm Tryz.func203 (by kernel_rfl) (by decide)
 ·cases h;exact zbm Tryz.func205 (by kernel_rfl) (by decide)
 ·cases h;exact zbm Tryz.func206 (by kernel_rfl) (by decide)
 ·cases h;exact zbm Tryz.func208 (by kernel_rfl) (by decide)
 ·cases h;exact zbm Tryz.func209 (by kernel_rfl) (by decide)
 ·cases h;exact zbm Tryz.func219 (by kernel_rfl) (by decide)
 ·cases h;have:=zll (base:=base) (P:=Tryz.prog) (ρ:=Tryz.clone220_ren) Tryz.clone220 zP5 (by show 0<Tryz.prog.cellsOf 25;rw[zMU];omega);rw[show Tryz.prog.bytesOf (Tryz.clone220_ren.t 23)=16 from zMQ]at this;exact this
 ·cases h;exact zbm Tryz.func238 (by kernel_rfl) (by decide)
 ·cases h;exact zbm Tryz.func239 (by kernel_rfl) (by decide)
 ·cases h;exact zbm Tryz.func240 (by kernel_rfl) (by decide)
 ·cases h;exact zbm Tryz.func242 (by kernel_rfl) (by decide)
 ·cases h;exact zbm Tryz.func258 (by kernel_rfl) (by decide)
 ·cases h;exact zbm Tryz.func259 (by kernel_rfl) (by decide)
 ·cases h;exact zbm Tryz.func262 (by kernel_rfl) (by decide)
 ·cases h;exact zNE (by kernel_rfl) ⟨_,Tryz.func265,by kernel_rfl,by decide⟩ zJx
 ·cases h;have:=zuZ (base:=base) (P:=Tryz.prog) (ρ:=Tryz.ins276_ren) {Tryz.ins276 with ov:=Tryz.over289} zJI (by show 0<Tryz.prog.cellsOf 76;rw[zFM];omega);rw[show Tryz.prog.bytesOf (Tryz.ins276_ren.t 9)=32 from zFJ]at this;exact this
 ·cases h;have:=zuZ (base:=base) (P:=Tryz.prog) (ρ:=Tryz.ins282_ren) {Tryz.ins282 with ov:=Tryz.over292} zJJ (by show 0<Tryz.prog.cellsOf 82;rw[zFN];omega);rw[show Tryz.prog.bytesOf (Tryz.ins282_ren.t 9)=24 from zFK]at this;exact this
 ·cases h;exact zPs (ρ:=Tryz.dec304_ren) Tryz.dec304 Tryz.func304 (by kernel_rfl) (by decide) ht.1 ht.2.1 ht.2.2
 ·cases h
end Go.Ab.Tryz
namespace Go.Ab.Tryz
open Go Go.Ab Go.Proofs Go.Lib Go.Shelf
open Go.World renaming block_lt_of_cell?->ybj
def laidL:List (String×DataW Unit):=[("unicode/utf8.acceptRanges",Go.Proofs.YtdjoeakbjackbaaGreatDoor.Rows.laid_unicode_utf8_acceptRanges),("unicode/utf8.first",Go.Proofs.YtdjoeakbjackbaaGreatDoor.Rows.laid_unicode_utf8_first)]
theorem zNP:(Go.Proofs.YtdjoeakbjackbaaGreatDoor.Rows.laid_unicode_utf8_acceptRanges:DataW Unit)=acceptData:=by kernel_rfl
theorem zPu:Go.Proofs.YtdjoeakbjackbaaGreatDoor.Rows.laid_unicode_utf8_first=firstData:=Pinned.utf8First_eq
theorem u8t:U8Types Tryz.prog Tryz.dec304_ren:={Tryz.dec304 with}
theorem u8x:U8Extra Tryz.prog Tryz.dec304_ren:=⟨by kernel_rfl,by kernel_rfl,by kernel_rfl,by kernel_rfl,by kernel_rfl,by kernel_rfl,by kernel_rfl⟩
theorem tabs_of{W:World}(h:laidMetH Tryz.prog laidL W):tabs ⟨W.heap.size,W⟩:=by
 rw[MakeChecks.laidMetH_plain _ _ _ (by kernel_rfl)]at h;have T:=utf8Tabs_of_readsT u8t u8x (zPu▸Lib.laidMet.reads h (.tail _ (.head _))) (zNP▸Lib.laidMet.reads h (.head _));exact⟨ybj _ _ (T.1 0 (by omega)),ybj _ _ (T.2 0 (by omega)).1,T⟩
end Go.Ab.Tryz
