/- Our texts for this statement, merged: what its theorem leads to. -/
import Derived.Below
import Derived.Laws.AppendOwn
import Derived.Laws.MakeOwn
import Derived.Orders
import Derived.Laws.Entries
import Derived.Laws.Slices
import Derived.Laws.StructEq
import Derived.Lib.SliceRun
set_option linter.unusedVariables false
set_option linter.unusedSimpArgs false
noncomputable section
namespace Go.Ab
open Go
open Go.Region renaming before->yat
open Go.Utf8 renaming decode->yaH
open List renaming drop_eq_nil_of_le->yaL,flatMap_cons->ybm,getElem?_append_left->yah,getElem?_append_right->yax,getElem?_drop->ybu,getElem?_eq_none->yau,getElem?_set_ne->yas,getElem?_set_self->yaq,getElem?_take->yaM,map_cons->yaT,mem_append->yal,mem_cons->yaJ,mem_cons_of_mem->ya3,mem_cons_self->ybp,range->ybq,replicate->yaA,take_append_drop->ya1,take_of_length_le->yaN
open Nat renaming le_refl->yag,le_trans->yaO,lt_of_lt_of_le->yaW
open Option renaming bind_eq_some_iff->yb5,map_eq_some_iff->yap
open Option.some renaming injEq->ybh
inductive AV where
 |sc (v:Value)
 |agg (cs:List AV)
 |tup (vs:List AV)
 |lit (e:TypeId) (full:Bool) (xs:List AV)
 |sl (k g:Nat)
 |sub (k g:Nat) (lo hi:Int)
 |bptr (b off:Nat)
 |rptr (k g:Nat) (i:Int) (off:Nat)
 |lptr (e:TypeId) (xs:List AV) (i:Int) (off:Nat)
 |fn (f:FuncId) (caps:List AV)
 |bad
 deriving Inhabited
def AV.cells:AV->List AV
 | .agg cs=>cs
 |v=>[v]
def flat(xs:List AV):List AV:=xs.flatMap AV.cells
inductive Ent where
 |box (t:TypeId) (cs:List AV)
 |row (e:TypeId) (g:Nat) (ro:Bool) (xs:List AV)
 |it (s:ByteArray) (pos:Int)
 deriving Inhabited
abbrev Store:=List Ent
def plainSc:Value->Bool
 | .bool _| .int _ _| .string _| .nilFunc| .nilIface| .float _ _=>true
 | .pointer none=>true
 |_=>false
theorem zEf{v:Value}(h:plainSc v=true):v.oneCell'=true:=by cases v<;>simp_all[plainSc,Value.oneCell']
structure Env where
 P:Program
 w:World
 n:Nat
 gen:Nat->Option Nat
 top:Nat->Nat
 esz:Nat->Nat
 row:Nat->Value
 box:Nat->Nat
 own:Nat->Prop
inductive DL(P:Program)(w:World)(own:Nat->Prop):List AV->List Value->Prop
 |nil:DL P w own [] []
 |sc {v r rs} (h:plainSc v=true) (t:DL P w own r rs):DL P w own (.sc v::r) (v::rs)
 |agg {cs vs r rs} (h:DL P w own cs vs) (t:DL P w own r rs):DL P w own (.agg cs::r) (.agg vs.toArray::rs)
 |lit {e full xs a cap vals r rs} (hc:xs.length<=cap) (hm:cap<=maxLen) (hf:full=true->cap=xs.length) (hs:∀x,x∈xs->x.cells.length=P.cellsOf e) (h:DL P w own (flat xs) vals) (h1:∀u,u∈vals->u.oneCell'=true)
  (hr:∀j u,vals[j]?=some u->∃b o,a=some ⟨b,o,none⟩/\¬own b/\w.cell? ⟨b,o+j,none⟩=some u) (t:DL P w own r rs):DL P w own (.lit e full xs::r) (.slice a xs.length cap::rs)
theorem DL.ext{P:Program}{w w':World}{own own':Nat->Prop}(x:∀a v,¬own a.block->w.cell? a=some v->¬own' a.block/\w'.cell? a=some v){l:List AV}{vs:List Value}(h:DL P w own l vs):DL P w' own' l vs:=by
 induction h with
 |nil=>exact .nil
 |sc h _ it=>exact .sc h it
 |agg _ _ ih it=>exact .agg ih it
 |lit hc hm hf hs _ h1 hr _ ih it=>
  refine .lit hc hm hf hs ih h1 (fun j u hu=>?_) it;obtain⟨b,o,ha,hb,hcell⟩:=hr j u hu;have:=x _ _ hb hcell;exact⟨b,o,ha,this.1,this.2⟩
theorem DL.append{P:Program}{w:World}{own:Nat->Prop}{l l':List AV}{vs vs':List Value}(h:DL P w own l vs)(h':DL P w own l' vs'):DL P w own (l++l') (vs++vs'):=by
 induction h with
 |nil=>exact h'
 |sc h _ it=>exact .sc h it
 |agg h _ _ it=>exact .agg h it
 |lit hc hm hf hs h h1 hr _ _ it=>exact .lit hc hm hf hs h h1 hr it
theorem DL.length{P:Program}{w:World}{own:Nat->Prop}{l:List AV}{vs:List Value}(h:DL P w own l vs):vs.length=l.length:=by
 induction h<;>simp_all
theorem DL.split{P:Program}{w:World}{own:Nat->Prop}(l:List AV):∀{l':List AV} {vs:List Value},DL P w own (l++l') vs->∃us us',vs=us++us'/\DL P w own l us/\DL P w own l' us':=by
 induction l with
 |nil=>intro l' vs h;exact⟨[],vs,rfl,.nil,h⟩
 |cons x l ih=>
  intro l' vs h
  cases h with
  |sc hp t=>obtain⟨us,us',rfl,h1,h2⟩:=ih t;exact⟨_::us,us',rfl,.sc hp h1,h2⟩
  |agg hp t=>obtain⟨us,us',rfl,h1,h2⟩:=ih t;exact⟨_::us,us',rfl,.agg hp h1,h2⟩
  |lit hc hm hf hs hp h1 hr t=>obtain⟨us,us',rfl,h1',h2⟩:=ih t;exact⟨_::us,us',rfl,.lit hc hm hf hs hp h1 hr h1',h2⟩
def HeadAt(v:Value)(b:Nat):Prop:=∃n c,v=.slice (some ⟨b,0,none⟩) n c
inductive VL(E:Env):List AV->List Value->Prop
 |nil:VL E [] []
 |data {x v r rs} (h:DL E.P E.w E.own [x] [v]) (t:VL E r rs):VL E (x::r) (v::rs)
 |agg {cs vs r rs} (h:VL E cs vs) (t:VL E r rs):VL E (.agg cs::r) (.agg vs.toArray::rs)
 |tup {cs vs r rs} (h:VL E cs vs) (t:VL E r rs):VL E (.tup cs::r) (.tuple vs.toArray::rs)
 |sl {k g v r rs} (hk:k<E.n) (hg:g<=E.top k) (h1:v.oneCell'=true) (h:E.gen k=some g->v=E.row k) (t:VL E r rs):VL E (.sl k g::r) (v::rs)
 |sub {k g lo hi v r rs} (hk:k<E.n) (hg:g<=E.top k) (h1:v.oneCell'=true)
  (h:E.gen k=some g->0<=lo/\lo<=hi/\∃a cap,v=.slice a (hi-lo).toNat cap/\(hi-lo).toNat<=cap/\cap<=maxLen/\(lo<hi->∃b,HeadAt (E.row k) b/\a=some ⟨b,lo.toNat*E.esz k,none⟩)/\(lo=0->∃n,E.row k=.slice a n cap)) (t:VL E r rs):VL E (.sub k g lo hi::r) (v::rs)
 |bptr {b off r rs} (hk:b<E.n) (hg:E.gen b=none) (t:VL E r rs):VL E (.bptr b off::r) (.pointer (some ⟨E.box b,off,none⟩)::rs)
 |rptr {k g i off v r rs} (hk:k<E.n) (hg:g<=E.top k) (h1:v.oneCell'=true) (h:E.gen k=some g->∃b,HeadAt (E.row k) b/\v=.pointer (some ⟨b,i.toNat*E.esz k+off,none⟩)) (t:VL E r rs):VL E (.rptr k g i off::r) (v::rs)
 |lptr {e xs i off b o vals r rs} (hs:∀x,x∈xs->x.cells.length=E.P.cellsOf e) (h:DL E.P E.w E.own (flat xs) vals)
  (hr:∀j u,vals[j]?=some u->¬E.own b/\E.w.cell? ⟨b,o+j,none⟩=some u) (t:VL E r rs):VL E (.lptr e xs i off::r) (.pointer (some ⟨b,o+i.toNat*E.P.cellsOf e+off,none⟩)::rs)
 |fn {f caps vs r rs} (h:VL E caps vs) (t:VL E r rs):VL E (.fn f caps::r) (.func (.func f) #[] vs.toArray::rs)
 |bad {v r rs} (t:VL E r rs):VL E (.bad::r) (v::rs)
structure Ext(E E':Env):Prop where
 P:E'.P=E.P
 n:E.n<=E'.n
 top:∀k,k<E.n->E.top k<=E'.top k
 gen:∀k g,k<E.n->g<=E.top k->E'.gen k=some g->E.gen k=some g/\E'.row k=E.row k/\E'.esz k=E.esz k
 box:∀k,k<E.n->E.gen k=none->E'.gen k=none/\E'.box k=E.box k
 keep:∀a v,¬E.own a.block->E.w.cell? a=some v->¬E'.own a.block/\E'.w.cell? a=some v
theorem VL.ext{E E':Env}(x:Ext E E'){l:List AV}{vs:List Value}(h:VL E l vs):VL E' l vs:=by
 induction h with
 |nil=>exact .nil
 |data h _ it=>exact .data (by rw[x.P];exact h.ext x.keep) it
 |agg _ _ ih it=>exact .agg ih it
 |tup _ _ ih it=>exact .tup ih it
 |sl hk hg h1 h _ it=>exact .sl (yaW hk x.n) (yaO hg (x.top _ hk)) h1 (fun e=>by obtain⟨h1,h2,_⟩:=x.gen _ _ hk hg e;rw[h h1,h2]) it
 |sub hk hg h1 h _ it=>
  refine .sub (yaW hk x.n) (yaO hg (x.top _ hk)) h1 (fun e=>?_) it;obtain⟨h1,h2,h3⟩:=x.gen _ _ hk hg e
  rw[h2,h3];exact h h1
 |bptr hk hg _ it=>rw[<-(x.box _ hk hg).2];exact .bptr (yaW hk x.n) (x.box _ hk hg).1 it
 |rptr hk hg h1 h _ it=>
  refine .rptr (yaW hk x.n) (yaO hg (x.top _ hk)) h1 (fun e=>?_) it;obtain⟨h1,h2,h3⟩:=x.gen _ _ hk hg e
  rw[h2,h3];exact h h1
 | @lptr e xs i off b o vals r rs hs h hr _ it=>
  have:=VL.lptr (E:=E') (e:=e) (xs:=xs) (i:=i) (off:=off) (b:=b) (o:=o) (vals:=vals) (fun y hy=>by rw[x.P];exact hs y hy) (by rw[x.P];exact h.ext x.keep) (fun j u hu=>by
   obtain⟨hb,hc⟩:=hr j u hu
   exact x.keep _ _ hb hc) it
  rw[x.P]at this;exact this
 |fn _ _ ih it=>exact .fn ih it
 |bad _ it=>exact .bad it
theorem VL.length{E:Env}{l:List AV}{vs:List Value}(h:VL E l vs):vs.length=l.length:=by
 induction h<;>simp_all
theorem DL.vl{E:Env}{l:List AV}{vs:List Value}(h:DL E.P E.w E.own l vs):VL E l vs:=by
 generalize hw:E.w=w at h;generalize ho:E.own=o at h;generalize hp:E.P=p at h
 induction h with
 |nil=>exact .nil
 |sc h _ it=>exact .data (.sc h .nil) it
 |agg h _ _ it=>subst hw ho hp;exact .data (.agg h .nil) it
 |lit hc hm hf hs h h1 hr _ _ it=>subst hw ho hp;exact .data (.lit hc hm hf hs h h1 hr .nil) it
theorem VL.append{E:Env}{l l':List AV}{vs vs':List Value}(h:VL E l vs)(h':VL E l' vs'):VL E (l++l') (vs++vs'):=by
 induction h with
 |nil=>exact h'
 |data h _ it=>exact .data h it
 |agg h _ _ it=>exact .agg h it
 |tup h _ _ it=>exact .tup h it
 |sl hk hg h1 h _ it=>exact .sl hk hg h1 h it
 |sub hk hg h1 h _ it=>exact .sub hk hg h1 h it
 |bptr hk hg _ it=>exact .bptr hk hg it
 |rptr hk hg h1 h _ it=>exact .rptr hk hg h1 h it
 |lptr hs h hr _ it=>exact .lptr hs h hr it
 |fn h _ _ it=>exact .fn h it
 |bad _ it=>exact .bad it
theorem VL.cons{E:Env}{x:AV}{v:Value}{l:List AV}{vs:List Value}(h:VL E [x] [v])(t:VL E l vs):VL E (x::l) (v::vs):=h.append t
theorem VL.uncons{E:Env}{x:AV}{l:List AV}{vs:List Value}(h:VL E (x::l) vs):∃v us,vs=v::us/\VL E [x] [v]/\VL E l us:=by
 cases h with
 |data h t=>exact⟨_,_,rfl,.data h .nil,t⟩
 |agg h t=>exact⟨_,_,rfl,.agg h .nil,t⟩
 |tup h t=>exact⟨_,_,rfl,.tup h .nil,t⟩
 |sl hk hg h1 h t=>exact⟨_,_,rfl,.sl hk hg h1 h .nil,t⟩
 |sub hk hg h1 h t=>exact⟨_,_,rfl,.sub hk hg h1 h .nil,t⟩
 |bptr hk hg t=>exact⟨_,_,rfl,.bptr hk hg .nil,t⟩
 |rptr hk hg h1 h t=>exact⟨_,_,rfl,.rptr hk hg h1 h .nil,t⟩
 |lptr hs h hr t=>exact⟨_,_,rfl,.lptr hs h hr .nil,t⟩
 |fn h t=>exact⟨_,_,rfl,.fn h .nil,t⟩
 |bad t=>exact⟨_,_,rfl,.bad .nil,t⟩
theorem VL.get{E:Env}{l:List AV}{vs:List Value}(h:VL E l vs)(i:Nat)(hi:i<l.length):∃v,vs[i]?=some v/\VL E [l[i]] [v]:=by
 induction l generalizing vs i with
 |nil=>cases hi
 |cons x l ih=>
  obtain⟨v,us,rfl,h1,h2⟩:=h.uncons
  cases i with
  |zero=>exact⟨v,rfl,h1⟩
  |succ i=>obtain⟨u,hu,h3⟩:=ih h2 i (by simpa using hi);exact⟨u,by simpa using hu,h3⟩
theorem VL.set{E:Env}{l:List AV}{vs:List Value}(h:VL E l vs)(i:Nat){x:AV}{v:Value}(hx:VL E [x] [v]):VL E (l.set i x) (vs.set i v):=by
 induction l generalizing vs i with
 |nil=>cases h;exact .nil
 |cons y l ih=>
  obtain⟨u,us,rfl,h1,h2⟩:=h.uncons
  cases i with
  |zero=>exact hx.cons h2
  |succ i=>exact h1.cons (ih h2 i)
theorem VL.split{E:Env}(l:List AV):∀{l':List AV} {vs:List Value},VL E (l++l') vs->∃us us',vs=us++us'/\VL E l us/\VL E l' us':=by
 induction l with
 |nil=>intro l' vs h;exact⟨[],vs,rfl,.nil,h⟩
 |cons x l ih=>
  intro l' vs h;obtain⟨v,us,rfl,h1,h2⟩:=h.uncons;obtain⟨p,q,rfl,h3,h4⟩:=ih h2;exact⟨v::p,q,rfl,h1.cons h3,h4⟩
structure Ops where
 iadd:IntKind->Int->Int->Int
 isub:IntKind->Int->Int->Int
 imul:IntKind->Int->Int->Int
 iquo:IntKind->Int->Int->Int
 irem:Int->Int->Int
 ibit:BinOp->IntKind->Int->Int->Int
 ishl:IntKind->Int->Int->Int
 ishr:IntKind->Int->Int->Int
 iwrap:IntKind->Int->Int
 ieq:Int->Int->Bool
 ilt:Int->Int->Bool
 ile:Int->Int->Bool
 beq:Bool->Bool->Bool
 seq:ByteArray->ByteArray->Bool
 slt:ByteArray->ByteArray->Bool
 sapp:ByteArray->ByteArray->Option ByteArray
 slen:ByteArray->Int
 sget:ByteArray->Int->Option Int
 ssub:ByteArray->Int->Int->Option ByteArray
 llen:List AV->Int
 lget:List AV->Int->Option AV
 lset:List AV->Int->AV->List AV
 lapp:List AV->List AV->List AV
 lsub:List AV->Int->Int->Option (List AV)
 lput:List AV->Int->List AV->List AV
 lfil:List AV->Int->Int->AV->List AV
 room:Nat->List AV->List AV->Bool
 sdec:ByteArray->Int->Option (Int×Int)
 bofs:ByteArray->List AV
 sofb:List AV->Option ByteArray
 lcut:TypeId->List AV->Option (List AV)
 lsrt:Int->List AV->Option (List AV)
def bytesOf:List AV->Option (List Int)
 | []=>some []
 | .sc (.int .u8 n)::r=>match bytesOf r with|some l=>some (n::l)|none=>none
 |_=>none
def zsq(l:List Int):ByteArray:=⟨(l.map fun n=>UInt8.ofNat n.toNat).toArray⟩
def cut8{α:Type}(xs:List α):List (List α):=(ybq ((xs.length+7) / 8)).map fun k=>(xs.drop (8*k)).take 8
def zdD(p:Int×Int):AV:=.agg [.sc (.int .u64 p.1),.sc (.int .u16 p.2)]
def zx2:AV->Option (Int×Int)
 | .agg [.sc (.int .u64 i),.sc (.int .u16 a)]=>if 0<=i/\i<18446744073709551616 then some (i,a)else none
 |_=>none
def zmK:List AV->Option (List (Int×Int))
 | []=>some []
 |x::r=>match zx2 x,zmK r with
  |some p,some l=>some (p::l)
  |_,_=>none
def zqg(me:Int)(x y:Int×Int):Bool:=
 decide ((y.1-me)%18446744073709551616<(x.1-me)%18446744073709551616)||(decide ((x.1-me)%18446744073709551616=(y.1-me)%18446744073709551616)&&decide (x.2<y.2))
def hopSort(me:Int)(l:List (Int×Int)):List (Int×Int):=l.mergeSort fun x y=>!zqg me y x
def Ops.std:Ops where
 iadd k a b:=k.wrap (a+b)
 isub k a b:=k.wrap (a-b)
 imul k a b:=k.wrap (a*b)
 iquo k a b:=k.wrap (a.tdiv b)
 irem a b:=a.tmod b
 ibit op k a b:=Go.bits op k a b
 ishl k a n:=k.wrap (a*2^(min n.toNat k.bits))
 ishr k a n:=a.fdiv (2^(min n.toNat k.bits))
 iwrap k a:=k.wrap a
 ieq a b:=decide (a=b)
 ilt a b:=decide (a<b)
 ile a b:=decide (a<=b)
 beq a b:=a==b
 seq a b:=decide (a.data.toList=b.data.toList)
 slt a b:=Op.bytesLess a.data.toList b.data.toList
 sapp a b:=if a.size+b.size<=9223372036854775807 then some (a++b)else none
 slen a:=a.size
 sget a i:=if 0<=i then(a[i.toNat]?).map fun c=>(c.toNat:Int)else none
 ssub a lo hi:=if 0<=lo/\lo<=hi/\hi<=a.size then some (a.extract lo.toNat hi.toNat)else none
 llen xs:=xs.length
 lget xs i:=if 0<=i then xs[i.toNat]? else none
 lset xs i v:=xs.set i.toNat v
 lapp xs ys:=xs++ys
 lsub xs lo hi:=if 0<=lo/\lo<=hi/\hi<=xs.length then some ((xs.take hi.toNat).drop lo.toNat)else none
 lput xs i ys:=xs.take i.toNat++ys++xs.drop (i.toNat+ys.length)
 lfil xs lo hi z:=xs.take lo.toNat++yaA (hi.toNat-lo.toNat) z++xs.drop hi.toNat
 sdec s pos:=if 0<=pos/\pos.toNat<s.size then some (((yaH s pos.toNat).1:Int),pos+((yaH s pos.toNat).2:Int))else none
 bofs s:=s.data.toList.map fun b=>.sc (.int .u8 (b.toNat:Int))
 sofb xs:=(bytesOf xs).map zsq
 lsrt me xs:=match zmK xs with
  |some l=>if l.length<=1000000 then some ((hopSort me l).map zdD)else none
  |none=>none
 lcut e xs:=if xs.length<=1000000 then some ((cut8 xs).map (.lit e false))else none
 room bytes xs ys:=decide ((xs.length+ys.length)*bytes<=140737488355328)&&decide (xs.length+ys.length<=maxLen)
inductive Od where
 |t (n:Nat)
 |c (v:AV)
 deriving Inhabited
inductive Cls where
 |num|bool|str
 deriving DecidableEq,Inhabited
inductive Sh where
 |s
 |l (e:TypeId)
 |a (cs:List Sh)
 deriving Inhabited
mutual
def zkO:Sh->AV->AV
 | .l e,.lit e' _ xs=>if e=e' then .lit e false xs else match xs with| []=>.lit e false []|ys=>.lit e' false ys
 | .a shs,.agg cs=>.agg (ze0 shs cs)
 |_,v=>v
def ze0:List Sh->List AV->List AV
 |sh::shs,v::vs=>zkO sh v::ze0 shs vs
 |_,vs=>vs
end
inductive Ir where
 |mov (x:Od)
 |pick (c a b:Od)
 |box (t:TypeId) (n:Nat) (x:Od)
 |build (zero:List AV) (parts:List (Nat×Nat×Od))
 |bsl (e:TypeId) (size:Nat) (sh:Sh) (parts:List Od)
 |bslr (e:TypeId) (size:Nat) (sh:Sh) (parts:List Od)
 |bslf (e:TypeId) (size:Nat) (sh:Sh) (parts:List Od)
 |load (ag:Bool) (n:Nat) (p:Od)
 |store (n:Nat) (p x:Od)
 |bin (op:BinOp) (c:Cls) (x y:Od)
 |eqs (neg:Bool) (cs:List Cls) (x y:Od)
 |un (op:UnOp) (x:Od)
 |conv (k:IntKind) (x:Od)
 |str (x:Od)
 |fad (p:Od) (off:Nat)
 |fld (ag:Bool) (n off:Nat) (x:Od)
 |iadS (e:TypeId) (x i:Od)
 |sidx (x i:Od)
 |len (str:Bool) (x:Od)
 |ssl (x:Od) (lo hi:Option Od)
 |sls (e:TypeId) (x:Od) (lo hi:Option Od)
 |sls3 (x:Od) (lo:Option Od) (hi mx:Od)
 |clr (e:TypeId) (z:AV) (x:Od)
 |ext (x:Od) (i:Nat)
 |mkfn (f:FuncId) (caps:List Od)
 |call (f:FuncId) (shs:List Sh) (args:List Od)
 |callv (x:Od) (args:List Od)
 |callz (f:FuncId) (shs:List Sh) (ks:List TypeId) (args:List Od)
 |app (e:TypeId) (bytes:Nat) (x y:Od)
 |mx (big:Bool) (xs:List Od)
 |nil (e:TypeId)
 |rng (x:Od)
 |nxt (x:Od)
 |bofs (e:TypeId) (x:Od)
 |sofb (e:TypeId) (x:Od)
 |apps (e:TypeId) (bytes:Nat) (x y:Od)
 |nck (x:Od)
 |storz (e:TypeId) (p x:Od)
 |frz (e:TypeId) (x:Od)
 |isn (neg:Bool) (x:Od)
 |boxr (ty:TypeId) (n:Nat) (x:Od) (l:List (Nat×TypeId×Bool))
 |buildr (z:List AV) (ps:List (Nat×Nat×Od)) (l:List (Nat×TypeId×Bool))
 deriving Inhabited
structure Ip where
 d:Option Nat
 i:Ir
 g:Option (Nat×Bool)
 u:Nat
 hs:List Nat
 deriving Inhabited
inductive Cd where
 |skip
 |region (ops:List Ip)
 |seq (a b:Cd)
 |cond (c:Od) (a b:Cd)
 |block (id:Nat) (a:Cd)
 |loop (lv:List Nat) (a:Cd)
 |exit (id:Nat) (lv:List Nat)
 |ret (lv:List Nat)
 |seg (lv af:List Nat) (a:Cd)
 deriving Inhabited
inductive Rs where
 |t (n:Nat)
 |cell (a:Nat) (ag:Bool) (n:Nat)
 deriving Inhabited
inductive Md where
 |lit|keep|mv
 deriving DecidableEq,Inhabited
def Md.kp:Md->Bool
 | .keep=>true
 |_=>false
structure Fn where
 ntmps:Nat
 results:List Rs
 rsh:List Sh
 md:Md
 body:Cd
 deriving Inhabited
inductive X where
 |nor|brk (id:Nat)|ret
structure St where
 t:List AV
 h:Store
inductive Prim where
 |clone (e:TypeId) (bytes:Nat)
 |insert (e:TypeId) (bytes:Nat)
 |mv
 |sort (e:TypeId) (f:FuncId)
 |look (g:Ops->Store->List AV->Option AV)
 deriving Inhabited
structure Ifc where
 o:Ops
 call:FuncId->List AV->Store->Option (AV×Store)
 loop:List Nat->Nat->Cd->St->Option (X×St)
 prim:FuncId->Option Prim
 seg:List Nat->Cd->St->Option (X×St)
def od(t:List AV):Od->AV
 | .t n=>t.getD n .bad
 | .c v=>v
def put(t:List AV):Option Nat->AV->List AV
 |none,_=>t
 |some d,v=>t.set d v
def zyD(o:Ops)(op:BinOp)(k:IntKind)(a b:Int):Option Value:=
 match op with
 | .add=>some (.int k (o.iadd k a b))
 | .sub=>some (.int k (o.isub k a b))
 | .mul=>some (.int k (o.imul k a b))
 | .quo=>match o.ieq b 0 with|true=>none|false=>some (.int k (o.iquo k a b))
 | .rem=>match o.ieq b 0 with|true=>none|false=>some (.int k (o.irem a b))
 | .and=>some (.int k (o.ibit .and k a b))
 | .or=>some (.int k (o.ibit .or k a b))
 | .xor=>some (.int k (o.ibit .xor k a b))
 | .andNot=>some (.int k (o.ibit .andNot k a b))
 | .eql=>some (.bool (o.ieq a b))
 | .neq=>some (.bool (!(o.ieq a b)))
 | .lss=>some (.bool (o.ilt a b))
 | .leq=>some (.bool (o.ile a b))
 | .gtr=>some (.bool (o.ilt b a))
 | .geq=>some (.bool (o.ile b a))
 |_=>none
def zy6(o:Ops)(op:BinOp)(a b:ByteArray):Option Value:=
 match op with
 | .add=>match o.sapp a b with|some s=>some (.string s)|none=>none
 | .eql=>some (.bool (o.seq a b))
 | .neq=>some (.bool (!(o.seq a b)))
 | .lss=>some (.bool (o.slt a b))
 | .gtr=>some (.bool (o.slt b a))
 | .leq=>some (.bool (!(o.slt b a)))
 | .geq=>some (.bool (!(o.slt a b)))
 |_=>none
def zmn(o:Ops)(op:BinOp)(c:Cls)(x y:AV):Option AV:=
 match c,x,y with
 | .num,.sc (.int k a),.sc (.int k' b)=>
  match op with
  | .shl=>match o.ilt b 0 with|true=>none|false=>some (.sc (.int k (o.ishl k a b)))
  | .shr=>match o.ilt b 0 with|true=>none|false=>some (.sc (.int k (o.ishr k a b)))
  |op=>if k=k' then(match zyD o op k a b with|some v=>some (.sc v)|none=>none)else none
 | .str,.sc (.string a),.sc (.string b)=>match zy6 o op a b with|some v=>some (.sc v)|none=>none
 | .bool,.sc (.bool a),.sc (.bool b)=>
  match op with
  | .eql=>some (.sc (.bool (o.beq a b)))
  | .neq=>some (.sc (.bool (!(o.beq a b))))
  |_=>none
 |_,_,_=>none
def zbV(o:Ops):List Cls->List AV->List AV->Option Bool
 | [],[],[]=>some true
 |c::cs,x::xs,y::ys=>
  match zmn o .eql c x y with
  |some (.sc (.bool true))=>zbV o cs xs ys
  |some (.sc (.bool false))=>some false
  |_=>none
 |_,_,_=>none
def mkV(ag:Bool)(cs:List AV):Option AV:=
 match ag with
 |true=>some (.agg cs)
 |false=>match cs with| [v]=>some v|_=>none
def zaV(h:Store)(k g:Nat):Option (TypeId×Bool×List AV):=
 match h[k]? with
 |some (.row e g' ro xs)=>if g=g' then some (e,ro,xs)else none
 |_=>none
def cut(cs:List AV)(off n:Nat):Option (List AV):=if off+n<=cs.length then some ((cs.drop off).take n)else none
def loadAt(o:Ops)(h:Store)(ag:Bool)(n:Nat):AV->Option AV
 | .bptr b off=>
  match h[b]? with
  |some (.box _ cs)=>match cut cs off n with|some c=>mkV ag c|none=>none
  |_=>none
 | .rptr k g i off=>
  match zaV h k g with
  |some (_,_,xs)=>match o.lget xs i with
   |some x=>match cut x.cells off n with|some c=>mkV ag c|none=>none
   |none=>none
  |none=>none
 | .lptr _ xs i off=>
  match o.lget xs i with
  |some x=>match cut x.cells off n with|some c=>mkV ag c|none=>none
  |none=>none
 |_=>none
def AV.one:AV->Bool
 | .agg _| .tup _| .bad=>false
 |_=>true
def AV.data:AV->Bool
 | .sc _| .lit _ _ _=>true
 | .agg cs=>go cs
 |_=>false
where
 go:List AV->Bool
 | []=>true
 |c::cs=>match c.data with|true=>go cs|false=>false
def zeQ(cs:List AV)(off:Nat)(new:List AV):List AV:=cs.take off++new++cs.drop (off+new.length)
def zkH(x:AV)(off:Nat)(new:List AV):AV:=
 match x with
 | .agg cs=>.agg (zeQ cs off new)
 |x=>match new with| [v]=>v|_=>x
def zhh:AV->Option Int
 | .sc (.int .i64 i)=>some i
 |_=>none
def zuB:AV->Option Bool
 | .sc (.bool b)=>some b
 |_=>none
def zbc(o:Ops)(h:Store):AV->Option (List AV)
 | .lit _ _ xs=>some xs
 | .sl k g=>match zaV h k g with|some (_,_,xs)=>some xs|none=>none
 | .sub k g lo hi=>match zaV h k g with|some (_,_,xs)=>o.lsub xs lo hi|none=>none
 |_=>none
def zbU(o:Ops)(h:Store)(e:TypeId):AV->Option (List AV)
 | .lit e' _ xs=>if e=e' then some xs else match xs with| []=>some []|_=>none
 | .sl k g=>match zaV h k g with|some (e',_,xs)=>if e=e' then some xs else none|none=>none
 | .sub k g lo hi=>match zaV h k g with|some (e',_,xs)=>if e=e' then o.lsub xs lo hi else none|none=>none
 |_=>none
def reloc(f:Nat->Nat):AV->AV
 | .sl k g=>.sl (f k) g
 | .sub k g lo hi=>.sub (f k) g lo hi
 | .bptr b off=>.bptr (f b) off
 | .rptr k g i off=>.rptr (f k) g i off
 | .agg cs=>.agg (go f cs)
 | .tup cs=>.tup (go f cs)
 | .fn g cs=>.fn g (go f cs)
 |v=>v
where
 go (f:Nat->Nat):List AV->List AV
 | []=>[]
 |c::cs=>reloc f c::go f cs
def zea:List AV->List Nat->Option (List AV×List Nat)
 | [],ix=>some ([],ix)
 | .bptr b off::r,ix=>
  match ix.idxOf? b with
  |some j=>match zea r ix with|some (r',ix')=>some (.bptr j off::r',ix')|none=>none
  |none=>match zea r (ix++[b])with|some (r',ix')=>some (.bptr ix.length off::r',ix')|none=>none
 |_,_=>none
mutual
def zhl(o:Ops)(h:Store):AV->Option AV
 | .sl k g=>match zaV h k g with
  |some (e,_,xs)=>some (.lit e false xs)
  |none=>none
 | .sub k g lo hi=>match zaV h k g with
  |some (e,_,xs)=>match o.lsub xs lo hi with
   |some ys=>some (.lit e false ys)
   |none=>none
  |none=>none
 | .agg cs=>match zn0 o h cs with|some cs'=>some (.agg cs')|none=>none
 | .sc v=>some (.sc v)
 | .lit e f xs=>some (.lit e f xs)
 |_=>none
def zn0(o:Ops)(h:Store):List AV->Option (List AV)
 | []=>some []
 |x::r=>match zhl o h x with
  |some x'=>match zn0 o h r with|some r'=>some (x'::r')|none=>none
  |none=>none
end
mutual
def zeo:AV->List Nat
 | .sl k _=>[k]
 | .sub k _ _ _=>[k]
 | .agg cs=>refs cs
 |_=>[]
def refs:List AV->List Nat
 | []=>[]
 |x::r=>zeo x++refs r
end
mutual
def zkN(o:Ops)(h:Store)(ks:List TypeId):AV->Option AV
 | .sl k g=>match zaV h k g with
  |some (e,_,xs)=>match ks.contains e with|true=>some (.sl k g)|false=>some (.lit e false xs)
  |none=>none
 | .agg cs=>match zlX o h ks cs with|some cs'=>some (.agg cs')|none=>none
 | .tup cs=>match zlX o h ks cs with|some cs'=>some (.tup cs')|none=>none
 | .sc v=>some (.sc v)
 | .lit e f xs=>some (.lit e f xs)
 |_=>none
def zlX(o:Ops)(h:Store)(ks:List TypeId):List AV->Option (List AV)
 | []=>some []
 |x::r=>match zkN o h ks x with
  |some x'=>match zlX o h ks r with|some r'=>some (x'::r')|none=>none
  |none=>none
end
mutual
def zd2(h:Store)(ks:List TypeId):AV->List Nat
 | .sl k g=>match zaV h k g with
  |some (e,_,_)=>match ks.contains e with|true=>[]|false=>[k]
  |none=>[]
 | .agg cs=>zmk h ks cs
 | .tup cs=>zmk h ks cs
 |_=>[]
def zmk(h:Store)(ks:List TypeId):List AV->List Nat
 | []=>[]
 |x::r=>zd2 h ks x++zmk h ks r
end
def lend(o:Ops)(h:Store):List AV->List Nat->Option (List AV×List Nat)
 | [],ix=>some ([],ix)
 |x::r,ix=>
  match x with
  | .fn f caps=>match zea caps ix with
   |some (caps',ix1)=>match lend o h r ix1 with|some (r',ix')=>some (.fn f caps'::r',ix')|none=>none
   |none=>none
  | .bptr b off=>match zea [.bptr b off] ix with
   |some (x',ix1)=>match lend o h r ix1 with|some (r',ix')=>some (x'++r',ix')|none=>none
   |none=>none
  |x=>match zhl o h x with
   |some x'=>match lend o h r ix with|some (r',ix')=>some (x'::r',ix')|none=>none
   |none=>none
def isSc:AV->Bool
 | .sc _=>true
 |_=>false
def sole:AV->Bool
 | .sc _=>true
 | .tup vs=>vs.all isSc
 |_=>false
def zfU(h:Store):List Nat->Option Store
 | []=>some []
 |b::ix=>match h[b]? with
  |some (.box t cs)=>match cs.all isSc with
   |true=>match zfU h ix with|some s=>some (.box t cs::s)|none=>none
   |false=>none
  |_=>none
def zbQ:List Nat->Store->Store->Option (Store×Store)
 | [],h2,h=>some (h,h2)
 |b::ix,.box t cs::h2,h=>match cs.all isSc with
  |true=>zbQ ix h2 (h.set b (.box t cs))
  |false=>none
 |_,_,_=>none
def zdw(k:Nat)(h:Store):Store:=match h[k]? with|some (.row e g _ xs)=>h.set k (.row e g true xs)|_=>h
def shut:List Nat->Store->Store
 | [],h=>h
 |k::r,h=>shut r (zdw k h)
def zy3(size:Nat):List AV->Bool
 | []=>true
 |x::r=>decide (x.cells.length=size)&&x.cells.all AV.one&&zy3 size r
def storeAt(o:Ops)(h:Store)(n:Nat)(p x:AV):Option Store:=
 if x.cells.length=n/\x.cells.all AV.one=true then
  match p with
  | .bptr b off=>
   match h[b]? with
   |some (.box t cs)=>if off+n<=cs.length then some (h.set b (.box t (zeQ cs off x.cells)))else none
   |_=>none
  | .rptr k g i off=>
   match zhl o h x with
   |some x'=>match zy3 n [x']&&x'.data with
    |true=>match zaV (shut (zeo x) h) k g with
     |some (e,false,xs)=>match o.lget xs i with
      |some y=>if off+n<=y.cells.length then some ((shut (zeo x) h).set k (.row e g false (o.lset xs i (zkH y off x'.cells))))else none
      |none=>none
     |_=>none
    |false=>none
   |none=>none
  |_=>none
 else none
def zBQ:Ent->Bool
 | .row _ _ _ _=>true
 |_=>false
def zbt(ix:List Nat)(n i:Nat):Nat:=if i<ix.length then ix.getD i 0 else n+(i-ix.length)
def zkJ:List Nat->Nat
 | []=>0
 |_=>1
def zsJ:List Nat->Nat
 | []=>0
 |_=>2
def zoP:List Nat->Nat
 | []=>0
 |k::r=>2^k ||| zoP r
def zoH:List Nat->Nat
 | []=>0
 |k::r=>3+zoP (k::r)
def zoI:AV->Nat
 | .bptr b _=>3+2^b
 |_=>1
def AV.key:AV->Option Nat
 | .sl k _| .sub k _ _ _| .bptr k _| .rptr k _ _ _=>some k
 |_=>none
def Ir.main:Ir->Od
 | .load _ _ x| .len _ x| .iadS _ x _| .sls _ x _ _| .fad x _| .sls3 x _ _ _| .sofb _ x| .nck x=>x
 |_=>.c .bad
def ztI:List AV->List AV->Bool
 | [],[]=>true
 | .bptr a i::r,.bptr b j::r'=>match decide (a=b/\i=j)with|true=>ztI r r'|false=>false
 |_,_=>false
def zzY:Ent->Ent->Bool
 | .box t cs,.box t' cs'=>match decide (t=t')with|true=>ztI cs cs'|false=>false
 |_,_=>false
def zsc(ks:Nat):Nat->Store->Store->Bool
 |_,[],_=>true
 |n,e::h,e1::h1=>match ks.testBit n with
  |false=>zsc ks (n+1) h h1
  |true=>match zzY e e1 with|true=>zsc ks (n+1) h h1|false=>false
 |_,_::_,[]=>false
def okU(md:Nat)(ip:Ip)(m:Nat)(s:St)(h1:Store):Bool:=
 match ip.u with
 |0=>true
 |1=>match md with
  |0=>decide (m=0)
  |1=>decide (m<=1)
  |ks+2=>match decide (m<=1)||(decide (3<=m)&&decide ((m-3) &&& ks=0))with
   |true=>true
   |false=>zsc ks 0 s.h h1
 |_=>match md with
  |0=>true
  |1=>match(od s.t ip.i.main).key with
   |none=>true
   |some k=>match s.h[k]? with
    |some (.box _ _)=>true
    |_=>false
  |ks+2=>match(od s.t ip.i.main).key with
   |none=>true
   |some k=>match s.h[k]? with
    |some (.box _ _)=>ks.testBit k
    |_=>false
def zde(I:Ifc)(f:FuncId)(args:List AV)(h:Store):Option (AV×Store×Nat):=
 match lend I.o h args []with
 |none=>none
 |some (args',ix)=>
  match zfU h ix with
  |none=>none
  |some s=>
   match I.call f args' s with
   |none=>none
   |some (r,h2)=>
    match zbQ ix h2 h with
    |none=>none
    |some (h',new)=>
     match sole r with
     |true=>match new with
      | []=>some (r,h',zsJ ix)
      |_=>none
     |false=>match new.all zBQ with
      |true=>some (reloc (zbt ix h.length) r,shut (refs args) h'++new,max (zsJ ix) (zkJ (refs args)))
      |false=>none
def zcQ(o:Ops)(p:Prim)(args:List AV)(h:Store):Option (AV×Store×Nat):=
 match p with
 | .clone e bytes=>match args with
  | [x]=>match zbU o h e x with
   |some xs=>match o.room bytes [] xs with
    |true=>some (.sl h.length 0,h++[.row e 0 false xs],0)
    |false=>none
   |none=>none
  |_=>none
 | .insert e bytes=>match args with
  | [.sl k g,.sc (.int .i64 i),.lit e2 f ys]=>match zbU o h e (.lit e2 f ys)with
   |some [y]=>match zaV h k g with
    |some (e',false,xs)=>if e=e' then(match o.room bytes xs [y],o.lsub xs 0 i,o.lsub xs i (o.llen xs)with
     |true,some a,some b=>some (.sl k (g+1),h.set k (.row e (g+1) false (o.lapp a (o.lapp [y] b))),1)
     |_,_,_=>none)else none
    |_=>none
   |_=>none
  |_=>none
 | .mv=>none
 | .sort e f=>match args with
  | [.sl k g,.fn f' [.bptr b 0]]=>match zaV h k g,h[b]? with
   |some (e',false,xs),some (.box _ (.sc (.int .u64 me)::_))=>if e=e'/\f=f' then(match o.lsrt me xs with
    |some ys=>some (.tup [],h.set k (.row e g false ys),1)
    |none=>none)else none
   |_,_=>none
  |_=>none
 | .look g=>(g o h args).map fun v=>(v,h,0)
mutual
def rf1:AV->List Nat
 | .sl k _=>[k]
 | .sub k _ _ _=>[k]
 | .bptr k _=>[k]
 | .rptr k _ _ _=>[k]
 | .agg cs=>rfs cs
 | .tup cs=>rfs cs
 | .fn _ cs=>rfs cs
 |_=>[]
def rfs:List AV->List Nat
 | []=>[]
 |x::r=>rf1 x++rfs r
end
def zcE(h:Store):Nat->List Nat->List Nat->List Nat
 |0,_,seen=>seen
 |_+1,[],seen=>seen
 |n+1,k::r,seen=>match seen.contains k with
  |true=>zcE h n r seen
  |false=>match h[k]? with
   |some (.box _ cs)=>zcE h n (rfs cs++r) (seen++[k])
   |some (.row _ _ _ _)=>zcE h n r (seen++[k])
   |some (.it _ _)=>zcE h n r (seen++[k])
   |none=>zcE h n r seen
mutual
def relM(ix:List Nat):AV->Option AV
 | .sl k g=>match ix.idxOf? k with|some j=>some (.sl j g)|none=>none
 | .sub k g lo hi=>match ix.idxOf? k with|some j=>some (.sub j g lo hi)|none=>none
 | .bptr k off=>match ix.idxOf? k with|some j=>some (.bptr j off)|none=>none
 | .rptr k g i off=>match ix.idxOf? k with|some j=>some (.rptr j g i off)|none=>none
 | .agg cs=>match zj7 ix cs with|some l=>some (.agg l)|none=>none
 | .tup cs=>match zj7 ix cs with|some l=>some (.tup l)|none=>none
 | .fn f cs=>match zj7 ix cs with|some l=>some (.fn f l)|none=>none
 | .sc v=>some (.sc v)
 | .lit e f xs=>some (.lit e f xs)
 | .lptr e xs i off=>some (.lptr e xs i off)
 | .bad=>some .bad
def zj7(ix:List Nat):List AV->Option (List AV)
 | []=>some []
 |x::r=>match relM ix x with
  |some x'=>match zj7 ix r with|some r'=>some (x'::r')|none=>none
  |none=>none
end
def entM(ix:List Nat):Ent->Option Ent
 | .box t cs=>match zj7 ix cs with|some cs'=>some (.box t cs')|none=>none
 | .row e g ro xs=>some (.row e g ro xs)
 | .it s pos=>some (.it s pos)
def subM(ix:List Nat)(h:Store):List Nat->Option Store
 | []=>some []
 |k::r=>match h[k]? with
  |some e=>match entM ix e with
   |some e'=>match subM ix h r with|some s=>some (e'::s)|none=>none
   |none=>none
  |none=>none
def zu8:List Nat->Bool
 | []=>true
 |x::r=>match r.contains x with|true=>false|false=>zu8 r
def entR(f:Nat->Nat):Ent->Ent
 | .box t cs=>.box t (reloc.go f cs)
 | .row e g ro xs=>.row e g ro xs
 | .it s pos=>.it s pos
def zjL(f:Nat->Nat):List Nat->Store->Store->Option Store
 | [],h2,h=>some (h++h2.map (entR f))
 |k::ix,e::h2,h=>zjL f ix h2 (h.set k (entR f e))
 |_::_,[],_=>none
def zlD(I:Ifc)(f:FuncId)(args:List AV)(h:Store)(ix:List Nat):Option (AV×Store×Nat):=
 match zj7 ix args with
 |none=>none
 |some args'=>match subM ix h ix with
  |none=>none
  |some s=>match zu8 ix with
   |false=>none
   |true=>match I.call f args' s with
    |none=>none
    |some (r,h2)=>match zjL (zbt ix h.length) ix h2 h with
     |none=>none
     |some h'=>some (reloc (zbt ix h.length) r,h',zoH ix)
def zfg(I:Ifc)(f:FuncId)(args:List AV)(h:Store):Option (AV×Store×Nat):=zlD I f args h (zcE h 64 (rfs args) [])
def trim(o:Ops)(rs:List AV)(h:Store):Option (List AV×Store):=
 match rs with
 | [.sub k g lo hi]=>match o.ieq lo 0 with
  |true=>match zaV h k g with
   |some (e,false,xs)=>match o.lsub xs lo hi with
    |some ys=>some ([.sl k (g+1)],h.set k (.row e (g+1) false ys))
    |none=>none
   |_=>some (rs,h)
  |false=>some (rs,h)
 |_=>some (rs,h)
def zqj:Nat->Store->List Nat
 |n+1,.box _ cs::h=>rfs cs++zqj n h
 |n+1,.row _ _ _ _::h=>zqj n h
 |_,_=>[]
def zIH(rs:List AV)(h:Store)(ix:List Nat):Option (List AV×Store):=
 match zj7 ix rs with
 |none=>none
 |some rs'=>match subM ix h ix with
  |none=>none
  |some s=>match zu8 ix with
   |false=>none
   |true=>some (rs',s)
def zGz(n:Nat)(rs:List AV)(h:Store):Option (List AV×Store):=
 zIH rs h (ybq n++(zcE h 64 (rfs rs++zqj n h) (ybq n)).drop n)
def zb5(I:Ifc)(f:FuncId)(args:List AV)(h:Store):Option (AV×Store×Nat):=
 match I.prim f with
 |none=>zde I f args h
 |some .mv=>zfg I f args h
 |some p=>zcQ I.o p args h
def bnd(t:List AV)(d:Int):Option Od->Option Int
 |some l=>zhh (od t l)
 |none=>some d
def zsp(o:Ops)(h:Store)(t:List AV)(e:TypeId)(k g:Nat)(l0 h0:Int)(lo hi:Option Od):Option AV:=
 match zaV h k g with
 |some (e',_,xs)=>if e=e' then(match o.lsub xs l0 h0 with
  |some ys=>match bnd t 0 lo,bnd t (o.llen ys) hi with
   |some a,some b=>match o.ieq l0 0 with
    |true=>match o.lsub xs a b with
     |some _=>some (.sub k g a b)
     |none=>none
    |false=>match o.lsub ys a b with
     |some _=>some (.sub k g (o.iadd .i64 l0 a) (o.iadd .i64 l0 b))
     |none=>none
   |_,_=>none
  |none=>none)else none
 |none=>none
def zuA(o:Ops)(h:Store)(e:TypeId)(k g:Nat)(lo hi:Int)(ys:List AV):Option (AV×Store):=
 match zaV h k g with
 |some (e',false,xs)=>if e=e' then(match o.ieq lo 0 with
  |false=>none
  |true=>match o.ile (o.llen ys) (o.isub .i64 (o.llen xs) hi)with
   |false=>none
   |true=>match o.lsub xs lo hi with
    |none=>none
    |some _=>some (.sub k g lo (o.iadd .i64 hi (o.llen ys)),h.set k (.row e g false (o.lput xs hi ys))))else none
 |_=>none
def zlY(o:Ops)(big:Bool)(k:IntKind):Int->List AV->Option Int
 |a,[]=>some a
 |a,.sc (.int k' b)::r=>if k=k' then(match big with
  |true=>match o.ilt a b with|true=>zlY o big k b r|false=>zlY o big k a r
  |false=>match o.ilt b a with|true=>zlY o big k b r|false=>zlY o big k a r)else none
 |_,_=>none
def zks(t:List AV):List AV->List (Nat×Nat×Od)->Option (List AV)
 |cells,[]=>some cells
 |cells,(off,n,x)::rest=>if(od t x).cells.length=n/\(od t x).cells.all AV.one=true/\off+n<=cells.length then zks t (zeQ cells off (od t x).cells) rest else none
def zf9(t:List AV)(sh:Sh)(size:Nat):List Od->Option (List AV)
 | []=>some []
 |x::r=>match(od t x).data with
  |true=>if(od t x).cells.length=size/\(od t x).cells.all AV.one=true then(match zf9 t sh size r with|some l=>some (zkO sh (od t x)::l)|none=>none)else none
  |false=>none
def zs6:List (Nat×TypeId×Bool)->List AV->Store->Option (List AV×Store)
 | [],cs,h=>some (cs,h)
 |(off,e,own)::r,cs,h=>match cs[off]? with
  |some (.lit _ true [])=>match own with
   |true=>zs6 r (cs.set off (.sl h.length 0)) (h++[.row e 0 false []])
   |false=>zs6 r (cs.set off (.lit e false [])) h
  |_=>none
def zpn(b:Nat):List (Nat×TypeId×Bool)->Store->Option Store
 | [],h=>some h
 |(off,e,own)::r,h=>match h[b]? with
  |some (.box t cs)=>match cs[off]? with
   |some (.lit _ true [])=>match own with
    |true=>zpn b r (h.set b (.box t (cs.set off (.sl h.length 0)))++[.row e 0 false []])
    |false=>zpn b r (h.set b (.box t (cs.set off (.lit e false []))))
   |_=>none
  |_=>none
def Ir.ods:Ir->List Od
 | .mov x| .box _ _ x| .load _ _ x| .un _ x| .conv _ x| .str x| .fad x _| .fld _ _ _ x| .len _ x| .ext x _| .clr _ _ x=>[x]
 | .pick c a b=>[c,a,b]
 | .build _ ps=>ps.map (·.2.2)
 | .buildr _ ps _=>ps.map (·.2.2)
 | .bsl _ _ _ xs| .bslr _ _ _ xs| .bslf _ _ _ xs| .mkfn _ xs| .mx _ xs=>xs
 | .call _ _ xs| .callz _ _ _ xs=>xs
 | .store _ p x| .storz _ p x| .bin _ _ p x| .eqs _ _ p x| .iadS _ p x| .sidx p x| .app _ _ p x=>[p,x]
 | .ssl x lo hi| .sls _ x lo hi=>x::(lo.toList++hi.toList)
 | .sls3 x lo b c=>x::b::c::lo.toList
 | .callv x xs=>x::xs
 | .nil _=>[]
 | .nck x| .isn _ x| .boxr _ _ x _| .frz _ x=>[x]
 | .rng x| .nxt x| .bofs _ x| .sofb _ x=>[x]
 | .apps _ _ x y=>[x,y]
def okH(ip:Ip)(m:Nat)(s:St):Bool:=ip.hs.all fun d=>match s.t.getD d .bad with
 | .bptr p _=>!((rfs (ip.i.ods.map (od s.t))).contains p)&&(decide (m<=2)|| !((m-3).testBit p))
 |_=>false
def okA(md:Nat)(ip:Ip)(m:Nat)(s:St)(h1:Store):Bool:=okU md ip m s h1&&okH ip m s
def evOp(I:Ifc)(i:Ir)(t:List AV)(h:Store):Option (AV×Store×Nat):=
 match i with
 | .mov x=>some (od t x,h,0)
 | .pick c a b=>match zuB (od t c)with
  |some true=>some (od t a,h,0)
  |some false=>some (od t b,h,0)
  |none=>none
 | .box ty n x=>if(od t x).cells.length=n/\(od t x).cells.all AV.one=true then some (.bptr h.length 0,h++[.box ty (od t x).cells],0)else none
 | .build zero parts=>match zks t zero parts with|some cs=>some (.agg cs,h,0)|none=>none
 | .bsl e size sh parts=>match zf9 t sh size parts with|some xs=>some (.lit e true xs,h,0)|none=>none
 | .bslf e size sh parts=>match zf9 t sh size parts with|some xs=>some (.lit e false xs,h,0)|none=>none
 | .bslr e size sh parts=>match zf9 t sh size parts with|some xs=>some (.sl h.length 0,h++[.row e 0 false xs],0)|none=>none
 | .load ag n p=>match loadAt I.o h ag n (od t p)with|some v=>some (v,h,0)|none=>none
 | .store n p x=>match storeAt I.o h n (od t p) (od t x)with|some h'=>some (.bad,h',zoI (od t p))|none=>none
 | .bin op c x y=>match zmn I.o op c (od t x) (od t y)with|some v=>some (v,h,0)|none=>none
 | .eqs neg cs x y=>match od t x,od t y with
  | .agg a,.agg b=>if a.length=cs.length/\b.length=cs.length then(match zbV I.o cs a b with
   |some r=>some (.sc (.bool (match neg with|true=>!r|false=>r)),h,0)
   |none=>none)else none
  |_,_=>none
 | .un op x=>match op,od t x with
  | .not,.sc (.bool b)=>some (.sc (.bool (!b)),h,0)
  | .neg,.sc (.int k a)=>some (.sc (.int k (I.o.isub k 0 a)),h,0)
  |_,_=>none
 | .conv k x=>match od t x with
  | .sc (.int _ a)=>some (.sc (.int k (I.o.iwrap k a)),h,0)
  |_=>none
 | .str x=>match od t x with
  | .sc (.string s)=>some (.sc (.string s),h,0)
  |_=>none
 | .fad p off=>match od t p with
  | .bptr b o=>some (.bptr b (o+off),h,0)
  | .rptr k g j o=>match zaV h k g with|some _=>some (.rptr k g j (o+off),h,0)|none=>none
  | .lptr e xs j o=>some (.lptr e xs j (o+off),h,0)
  |_=>none
 | .fld ag n off x=>match od t x with
  | .agg cs=>match cut cs off n with
   |some c=>match mkV ag c with|some v=>some (v,h,0)|none=>none
   |none=>none
  |_=>none
 | .iadS e x i=>match zhh (od t i)with
  |some j=>match od t x with
   | .lit e' _ xs=>if e=e' then(match I.o.lget xs j with|some _=>some (.lptr e xs j 0,h,0)|none=>none)else none
   | .sl k g=>match zaV h k g with
    |some (e',_,xs)=>if e=e' then(match I.o.lget xs j with|some _=>some (.rptr k g j 0,h,0)|none=>none)else none
    |none=>none
   |_=>none
  |none=>none
 | .sidx x i=>match od t x,zhh (od t i)with
  | .sc (.string s),some j=>match I.o.sget s j with|some c=>some (.sc (.int .u8 c),h,0)|none=>none
  |_,_=>none
 | .len str x=>match str with
  |true=>match od t x with
   | .sc (.string s)=>some (.sc (.int .i64 (I.o.slen s)),h,0)
   |_=>none
  |false=>match zbc I.o h (od t x)with|some xs=>some (.sc (.int .i64 (I.o.llen xs)),h,0)|none=>none
 | .ssl x lo hi=>match od t x with
  | .sc (.string s)=>
   match bnd t 0 lo,bnd t (I.o.slen s) hi with
   |some a,some b=>match I.o.ssub s a b with|some r=>some (.sc (.string r),h,0)|none=>none
   |_,_=>none
  |_=>none
 | .sls e x lo hi=>
  match od t x with
  | .sub k g l0 h0=>match zsp I.o h t e k g l0 h0 lo hi with
   |some v=>some (v,h,0)
   |none=>none
  |_=>match zbc I.o h (od t x)with
  |some xs=>
   match bnd t 0 lo,bnd t (I.o.llen xs) hi with
   |some a,some b=>match I.o.lsub xs a b with
    |some ys=>match od t x with
     | .lit e' _ zs=>if e=e' then some (.lit e false ys,h,0)else match zs with| []=>some (.lit e false [],h,0)|_=>none
     | .sl k g=>match zaV h k g with
      |some (e',_,_)=>if e=e' then some (.sub k g a b,h,0)else none
      |none=>none
     |_=>none
    |none=>none
   |_,_=>none
  |none=>none
 | .sls3 x lo hi mx=>
  match zbc I.o h (od t x)with
  |some xs=>match bnd t 0 lo,zhh (od t hi),zhh (od t mx)with
   |some a,some b,some c=>match I.o.lsub xs a b,I.o.lsub xs b c with
    |some _,some _=>some (.bad,h,0)
    |_,_=>none
   |_,_,_=>none
  |none=>none
 | .clr e z x=>match od t x with
  | .sub k g lo hi=>match zaV h k g with
   |some (e',false,xs)=>if e=e' then(match I.o.lsub xs lo hi with
    |some _=>some (.tup [],h.set k (.row e g false (I.o.lfil xs lo hi z)),1)
    |none=>none)else none
   |_=>none
  |_=>none
 | .ext x i=>match od t x with
  | .tup vs=>match vs[i]? with|some v=>some (v,h,0)|none=>none
  |_=>none
 | .mkfn f caps=>some (.fn f (caps.map (od t)),h,0)
 | .call f shs args=>zb5 I f (ze0 shs (args.map (od t))) h
 | .callz f shs ks args=>match zb5 I f (ze0 shs (args.map (od t))) h with
  |some (v,h1,m)=>match zkN I.o h1 ks v with
   |some v'=>some (v',shut (zd2 h1 ks v) h1,max m (zkJ ((zd2 h1 ks v).filter fun k=>decide (k<h.length))))
   |none=>none
  |none=>none
 | .callv x args=>match od t x with
  | .fn f caps=>zb5 I f (args.map (od t)++caps) h
  |_=>none
 | .app e bytes x y=>
  match zbU I.o h e (od t y)with
  |some ys=>
   match od t x with
   | .lit _ true []=>match I.o.room bytes [] ys with
    |true=>some (.sl h.length 0,h++[.row e 0 false ys],0)
    |false=>none
   | .lit e' true xs=>if e=e' then(match I.o.room bytes xs ys with
    |true=>some (.lit e false (I.o.lapp xs ys),h,0)
    |false=>none)else none
   | .sl k g=>match zaV h k g with
    |some (e',false,xs)=>if e=e' then(match I.o.room bytes xs ys with
     |true=>some (.sl k (g+1),h.set k (.row e (g+1) false (I.o.lapp xs ys)),1)
     |false=>none)else none
    |_=>none
   | .sub k g lo hi=>match zuA I.o h e k g lo hi ys with
    |some (v,h')=>some (v,h',1)
    |none=>none
   |_=>none
  |none=>none
 | .mx big xs=>match xs.map (od t)with
  | .sc (.int k a)::r=>match zlY I.o big k a r with|some b=>some (.sc (.int k b),h,0)|none=>none
  |_=>none
 | .nil e=>some (.sl h.length 0,h++[.row e 0 false []],0)
 | .nck x=>match od t x with
  | .bptr b o=>some (.bptr b o,h,0)
  | .rptr k g i o=>if zaV h k g≠none then some (.rptr k g i o,h,0)else none
  | .lptr e xs i o=>some (.lptr e xs i o,h,0)
  |_=>none
 | .storz e p x=>match od t p with
  | .bptr b off=>match storeAt I.o h 1 (.bptr b off) (od t x)with
   |some h'=>match zpn b [(off,e,false)] h' with
    |some h2=>some (.bad,h2,zoI (.bptr b off))
    |none=>none
   |none=>none
  |_=>none
 | .frz e x=>match zhl I.o h (od t x)with
  |some v=>some (zkO (.l e) v,shut (zeo (od t x)) h,zkJ (zeo (od t x)))
  |none=>none
 | .isn neg x=>match od t x with
  | .bptr _ _=>some (.sc (.bool neg),h,0)
  | .sc (.pointer none)=>some (.sc (.bool (!neg)),h,0)
  |_=>none
 | .buildr z ps l=>match zks t z ps with
  |some cs=>match zs6 l cs h with
   |some (cs',h')=>some (.agg cs',h',0)
   |none=>none
  |none=>none
 | .boxr ty n x l=>if(od t x).cells.length=n/\(od t x).cells.all AV.one=true then(match zpn h.length l (h++[.box ty (od t x).cells])with|some h'=>some (.bptr h.length 0,h',2)|none=>none)else none
 | .rng x=>match od t x with
  | .sc (.string s)=>some (.bptr h.length 0,h++[.it s 0],0)
  |_=>none
 | .nxt x=>match od t x with
  | .bptr b 0=>match h[b]? with
   |some (.it s pos)=>match I.o.sdec s pos with
    |some (c,next)=>some (.tup [.sc (.bool true),.sc (.int .i64 pos),.sc (.int .i32 c)],h.set b (.it s next),2)
    |none=>some (.tup [.sc (.bool false)],h,2)
   |_=>none
  |_=>none
 | .bofs e x=>match od t x with
  | .sc (.string s)=>match I.o.room 1 [] (I.o.bofs s)with
   |true=>some (.lit e false (I.o.bofs s),h,0)
   |false=>none
  |_=>none
 | .sofb e x=>match zbU I.o h e (od t x)with
  |some xs=>match I.o.sofb xs with
   |some s=>some (.sc (.string s),h,0)
   |none=>none
  |none=>none
 | .apps e bytes x y=>match od t y with
  | .sc (.string s)=>match od t x with
   | .lit _ true []=>match I.o.room bytes [] (I.o.bofs s)with
    |true=>some (.sl h.length 0,h++[.row e 0 false (I.o.bofs s)],0)
    |false=>none
   | .sl k g=>match zaV h k g with
    |some (e',false,xs)=>if e=e' then(match I.o.room bytes xs (I.o.bofs s)with
     |true=>some (.sl k (g+1),h.set k (.row e (g+1) false (I.o.lapp xs (I.o.bofs s))),1)
     |false=>none)else none
    |_=>none
   |_=>none
  |_=>none
def gdOk(v:AV)(want:Bool):Option Bool:=
 match v with
 | .sc (.bool b)=>match b with|true=>some want|false=>some (!want)
 | .tup []=>some false
 |_=>none
def zbl(I:Ifc)(md:Nat):List Ip->St->Option St
 | [],s=>some s
 |ip::r,s=>
  match ip.g with
  |some (j,want)=>match gdOk (s.t.getD j .bad) want with
   |some true=>match evOp I ip.i s.t s.h with
    |some (v,h,m)=>match okA md ip m s h with|false=>none|true=>zbl I md r ⟨put s.t ip.d v,h⟩
    |none=>none
   |some false=>zbl I md r ⟨put s.t ip.d (.tup []),s.h⟩
   |none=>none
  |none=>match evOp I ip.i s.t s.h with
   |some (v,h,m)=>match okA md ip m s h with|false=>none|true=>zbl I md r ⟨put s.t ip.d v,h⟩
   |none=>none
def znm(I:Ifc)(ops:List Ip)(s:St):List Nat->Option St
 | []=>none
 |md::r=>match zbl I md ops s with
  |some s'=>some s'
  |none=>znm I ops s r
def zGI:List Nat:=[0,1,3,4,6,10,18,34,16777216,16777215,16777213,16777209,16777201,16777185,16777153,16777089,16776961,16776705,66,130,258,514,1026,2050]
def zhi(lv:List Nat):Nat->List AV->List AV
 |_,[]=>[]
 |i,v::r=>(match lv.contains i with|true=>v|false=>.bad)::zhi lv (i+1) r
mutual
def hi:AV->Nat
 | .sl k _=>k+1
 | .sub k _ _ _=>k+1
 | .bptr k _=>k+1
 | .rptr k _ _ _=>k+1
 | .agg cs=>his cs
 | .tup cs=>his cs
 | .fn _ cs=>his cs
 |_=>0
def his:List AV->Nat
 | []=>0
 |x::r=>max (hi x) (his r)
end
def hiS:Store->Nat
 | []=>0
 | .box _ cs::r=>max (his cs) (hiS r)
 | .row _ _ _ _::r=>hiS r
 | .it _ _::r=>hiS r
def tidy(lv:List Nat)(m:Nat)(s:St):St:=⟨zhi lv 0 s.t,s.h.take (max m (max (his (zhi lv 0 s.t)) (hiS s.h)))⟩
def exec(I:Ifc):Cd->St->Option (X×St)
 | .skip,s=>some (.nor,s)
 | .region ops,s=>match znm I ops s zGI with
  |some s'=>some (.nor,s')
  |none=>none
 | .seq a b,s=>match exec I a s with
  |some (.nor,s')=>exec I b s'
  |r=>r
 | .cond c a b,s=>match zuB (od s.t c)with
  |some true=>exec I a s
  |some false=>exec I b s
  |none=>none
 | .block id a,s=>match exec I a s with
  |some (.brk j,s')=>if j=id then some (.nor,s')else some (.brk j,s')
  |r=>r
 | .loop lv a,s=>I.loop lv s.h.length a ⟨zhi lv 0 s.t,s.h⟩
 | .exit id lv,s=>some (.brk id,⟨zhi lv 0 s.t,s.h⟩)
 | .ret lv,s=>some (.ret,⟨zhi lv 0 s.t,s.h⟩)
 | .seg lv af a,s=>I.seg af a ⟨zhi lv 0 s.t,s.h⟩
def snip(m:Nat)(s:St):St:=⟨s.t,s.h.take (max m (max (his s.t) (hiS s.h)))⟩
def Ifc.apart(I:Ifc)(af:List Nat)(d:Cd)(s:St):Option (X×St):=
 match exec I d s with
 |some (.nor,s')=>some (.nor,snip s.h.length ⟨zhi af 0 s'.t,s'.h⟩)
 |some (.brk id,s')=>some (.brk id,snip s.h.length s')
 |some (.ret,s')=>some (.ret,snip s.h.length s')
 |none=>none
def Ifc.round(I:Ifc)(lv:List Nat)(m:Nat)(d:Cd)(s:St):Option (X×St):=
 match exec I d s with
 |some (.nor,s')=>I.loop lv m d (tidy lv m s')
 |some (.brk id,s')=>some (.brk id,snip m s')
 |some (.ret,s')=>some (.ret,snip m s')
 |none=>none
def results(o:Ops)(s:St):List Rs->Option (List AV)
 | []=>some []
 | .t n::r=>match results o s r with|some l=>some (s.t.getD n .bad::l)|none=>none
 | .cell a ag n::r=>match loadAt o s.h ag n (s.t.getD a .bad),results o s r with
  |some v,some l=>some (v::l)
  |_,_=>none
def zCG(_o:Ops)(n:Nat)(h:Store)(keep:Bool)(ks:List Nat)(k g:Nat):Option (AV×List Nat):=
 match zaV h k g with
 |some (e,ro,xs)=>match keep&& !ro&&decide (n<=k)&& !ks.contains k with
  |true=>some (.sl (n+ks.length) 0,ks++[k])
  |false=>match keep with
   |true=>none
   |false=>some (.lit e false xs,ks)
 |none=>none
def zCH(o:Ops)(h:Store)(keep:Bool)(ks:List Nat)(k g:Nat)(lo hi:Int):Option (AV×List Nat):=
 match zaV h k g with
 |some (e,_,xs)=>match keep with
  |true=>none
  |false=>match o.lsub xs lo hi with
   |some ys=>some (.lit e false ys,ks)
   |none=>none
 |none=>none
mutual
def lay1(o:Ops)(n:Nat)(h:Store)(keep:Bool):AV->List Nat->Option (AV×List Nat)
 | .sl k g,ks=>zCG o n h keep ks k g
 | .sub k g lo hi,ks=>zCH o h keep ks k g lo hi
 | .agg cs,ks=>match lay o n h keep cs ks with|some (cs',ks')=>some (.agg cs',ks')|none=>none
 | .tup cs,ks=>match lay o n h keep cs ks with|some (cs',ks')=>some (.tup cs',ks')|none=>none
 | .sc v,ks=>some (.sc v,ks)
 | .lit e f xs,ks=>some (.lit e f xs,ks)
 |_,_=>none
def lay(o:Ops)(n:Nat)(h:Store)(keep:Bool):List AV->List Nat->Option (List AV×List Nat)
 | [],ks=>some ([],ks)
 |x::r,ks=>match lay1 o n h keep x ks with
  |some (x',ks1)=>match lay o n h keep r ks1 with|some (r',ks')=>some (x'::r',ks')|none=>none
  |none=>none
end
def kept(h:Store):List Nat->Option Store
 | []=>some []
 |k::ks=>match h[k]?,kept h ks with
  |some (.row e _ false xs),some s=>some (.row e 0 false xs::s)
  |_,_=>none
def zlZ:Nat->Store->Option Store
 |0,_=>some []
 |n+1,.box t cs::h=>match cs.all isSc with
  |true=>match zlZ n h with|some s=>some (.box t cs::s)|none=>none
  |false=>none
 |_,_=>none
def zak(I:Ifc)(fn:Fn)(args:List AV)(s:Store):Option (AV×Store):=
 match exec I fn.body ⟨args++yaA (fn.ntmps-args.length) .bad,s⟩with
 |some (.brk _,_)=>none
 |none=>none
 |some (_,st)=>
  match results I.o st fn.results with
  |none=>none
  |some rs=>
   match fn.md with
   | .mv=>match trim I.o (ze0 fn.rsh rs) st.h with
    |none=>none
    |some (rs1,h1)=>match zGz s.length rs1 h1 with
     |none=>none
     |some (rs',s')=>some (match rs' with| [v]=>v|l=>.tup l,s')
   |md=>
    match lay I.o s.length st.h md.kp (ze0 fn.rsh rs) []with
    |none=>none
    |some (rs',ks)=>
     match zlZ s.length st.h,kept st.h ks with
     |some a,some b=>some (match rs' with| [v]=>v|l=>.tup l,a++b)
     |_,_=>none
def ifc(o:Ops)(F:FuncId->Option Fn)(pr:FuncId->Option Prim):Nat->Ifc
 |0=>{o,call:=fun _ _ _=>none,loop:=fun _ _ _ _=>none,prim:=pr,seg:=fun _ _ _=>none}
 |n+1=>{o,call:=fun f args s=>match F f with|some fn=>zak (ifc o F pr n) fn args s|none=>none,loop:=fun lv m c s=>(ifc o F pr n).round lv m c s,prim:=pr,seg:=fun af d s=>(ifc o F pr n).apart af d s}
def znT(v:Value):Option AV:=
 match v with
 | .slice none 0 0=>some (.lit 0 true [])
 |v=>if plainSc v=true then some (.sc v)else none
def zlF:List Value->Option (List AV)
 | []=>some []
 |v::r=>match znT v,zlF r with|some a,some l=>some (a::l)|_,_=>none
def zaH:Operand->Option Od
 | .tmp t=>some (.t t)
 | .const v=>(znT v).map .c
 | .func f=>some (.c (.fn f []))
 | .global _=>none
def zhy:List Operand->Option (List Od)
 | []=>some []
 |x::r=>match zaH x,zhy r with|some a,some l=>some (a::l)|_,_=>none
def zga:Option Operand->Option (Option Od)
 |some l=>(zaH l).map some
 |none=>some none
def zeK(P:Program)(t:TypeId):Option Bool:=
 match P.underlying t with
 |some (.struct _)|some (.array _ _)=>some true
 |some _=>some false
 |none=>none
def zbb(P:Program)(t:TypeId):Option AV:=
 match P.info? t with
 |some i=>match i.zero with
  |some z=>if z.cells.size=i.size then
   (match z with
   | .agg cs=>(zlF cs.toList).map .agg
   |z=>znT z)else none
  |none=>none
 |none=>none
def zlH(P:Program)(s:TypeId)(f:Nat):Option Field:=
 match P.underlying s with
 |some (.struct fs)=>fs[f]?
 |_=>none
def zmO(P:Program)(t:TypeId):List (Nat×Operand)->Option (List (Nat×Nat×Od))
 | []=>some []
 |(i,x)::r=>match zlH P t i,zaH x,zmO P t r with
  |some f,some a,some l=>if(P.info? f.type).isSome then some ((f.offset,P.cellsOf f.type,a)::l)else none
  |_,_,_=>none
def zgb:Nat->List (Nat×Operand)->Option (List Od)
 |_,[]=>some []
 |n,(i,x)::r=>if i=n then(match zaH x,zgb (n+1) r with|some a,some l=>some (a::l)|_,_=>none)else none
def zkK(P:Program)(t:TypeId):Option Cls:=
 match P.underlying t with
 |some (.int _)=>some .num
 |some .string=>some .str
 |some .bool=>some .bool
 |_=>none
def zr5(P:Program):Nat->List Field->Option (List Cls)
 |_,[]=>some []
 |n,f::r=>match zkK P f.type,zr5 P (n+1) r with
  |some c,some l=>if f.offset=n/\f.name≠ "_" /\P.cellsOf f.type=1 then some (c::l)else none
  |_,_=>none
def zg6(P:Program):Nat->List Field->Option (List Cls)
 |_,[]=>some []
 |n,f::r=>match zkK P f.type with
  |some c=>match zg6 P (n+1) r with
   |some l=>if f.offset=n/\f.name≠ "_" /\P.cellsOf f.type=1 then some (c::l)else none
   |none=>none
  |none=>match P.underlying f.type with
   |some (.struct fs)=>match zr5 P 0 fs.toList with
    |some cs=>match zg6 P (n+cs.length) r with
     |some l=>if f.offset=n/\f.name≠ "_" /\P.cellsOf f.type=cs.length/\P.stoodInHeld f.type=false/\(P.info? f.type).isSome=true then some (cs++l)else none
     |none=>none
    |none=>none
   |_=>none
def shOf(P:Program):Nat->TypeId->List Sh
 |0,_=>[.s]
 |n+1,t=>match P.underlying t with
  |some (.slice e)=>[.l e]
  |some (.struct fs)=>fs.toList.flatMap fun f=>shOf P n f.type
  |_=>[.s]
def shV(P:Program)(t:TypeId):Sh:=
 match P.underlying t with
 |some (.slice e)=>.l e
 |some (.struct _)=>.a (shOf P 6 t)
 |_=>.s
def zMG(P:Program)(ts:Array TypeId):List Sh:=ts.toList.map (shV P)
def zkL(P:Program)(o:Oper):Option Ir:=
 match o.op with
 | .move x| .assign x=>(zaH x).map .mov
 | .pick c a b=>match zaH c,zaH a,zaH b with|some c,some a,some b=>some (.pick c a b)|_,_,_=>none
 | .alloc e=>match zbb P e with|some z=>some (.box e (P.cellsOf e) (.c z))|none=>none
 | .box e x=>(zaH x).map (.box e (P.cellsOf e))
 | .build t ps=>match P.underlying t,zbb P t,zmO P t ps.toList with
  |some (.struct fs),some (.agg z),some l=>if fs.toList.all (fun f=>(P.info? f.type).isSome)=true then some (.build z l)else none
  |_,_,_=>none
 | .buildSlice t len ps=>match P.underlying t,zgb 0 ps.toList with
  |some (.slice e),some l=>match zbb P e with
   |some _=>if l.length=len/\0<P.cellsOf e/\len*P.cellsOf e<=2^24 then some (.bsl e (P.cellsOf e) (shV P e) l)else none
   |none=>none
  |_,_=>none
 | .load t p=>match zeK P t,zaH p with|some ag,some p=>if(P.info? t).isSome then some (.load ag (P.cellsOf t) p)else none|_,_=>none
 | .store t p x=>match zaH p,zaH x with|some p,some x=>if(P.info? t).isSome then some (.store (P.cellsOf t) p x)else none|_,_=>none
 | .binOp op t x y _=>match zaH x,zaH y with
  |some x,some y=>match zkK P t with
   |some c=>some (.bin op c x y)
   |none=>match op,P.underlying t with
    | .eql,some (.struct fs)=>if P.stoodInHeld t=false/\P.eqGuardType P.depth t=false then(zg6 P 0 fs.toList).map fun cs=>.eqs false cs x y else none
    | .neq,some (.struct fs)=>if P.stoodInHeld t=false/\P.eqGuardType P.depth t=false then(zg6 P 0 fs.toList).map fun cs=>.eqs true cs x y else none
    | .eql,some (.pointer _)=>match y with| .c (.sc (.pointer none))=>some (.isn false x)|_=>none
    | .neq,some (.pointer _)=>match y with| .c (.sc (.pointer none))=>some (.isn true x)|_=>none
    |_,_=>none
  |_,_=>none
 | .nilCheck x=>(zaH x).map .nck
 | .unOp op _ x=>match op with
  | .not| .neg=>(zaH x).map (.un op)
  |_=>none
 | .convert s d x=>match P.underlying s,P.underlying d,zaH x with
  |some (.int _),some (.int k),some x=>some (.conv k x)
  |some .string,some .string,some x=>some (.str x)
  |some .string,some (.slice e),some x=>match P.underlying e with
   |some (.int .u8)=>if P.cellsOf e=1 then some (.bofs e x)else none
   |_=>none
  |some (.slice e),some .string,some x=>match P.underlying e with
   |some (.int .u8)=>if P.cellsOf e=1 then some (.sofb e x)else none
   |_=>none
  |_,_,_=>none
 | .range t x=>match P.underlying t,zaH x with
  |some .string,some x=>some (.rng x)
  |_,_=>none
 | .next x true=>(zaH x).map .nxt
 | .makeFunc (.func f) first caps=>if first.size=0 then(zhy caps.toList).map (.mkfn f)else none
 | .slice t x lo hi none=>
  match P.underlying t,zaH x,zga lo,zga hi with
  |some .string,some x,some lo,some hi=>some (.ssl x lo hi)
  |some (.slice e),some x,some lo,some hi=>if(P.info? e).isSome/\0<P.cellsOf e then some (.sls e x lo hi)else none
  |_,_,_,_=>none
 | .slice t x lo (some hi) (some mx)=>
  match P.underlying t,zaH x,zga lo,zaH hi,zaH mx with
  |some (.slice e),some x,some lo,some hi,some mx=>if(P.info? e).isSome then some (.sls3 x lo hi mx)else none
  |_,_,_,_,_=>none
 | .fieldAddr s x f=>match zlH P s f,zaH x with
  |some f,some x=>if(P.info? f.type).isSome/\P.cellsOf f.type≠0 then some (.fad x f.offset)else none
  |_,_=>none
 | .field s x f=>match zlH P s f,zaH x with
  |some f,some x=>match zeK P f.type with
   |some ag=>if(P.info? f.type).isSome then some (.fld ag (P.cellsOf f.type) f.offset x)else none
   |none=>none
  |_,_=>none
 | .indexAddr t x i=>match P.underlying t,zaH x,zaH i with
  |some (.slice e),some x,some i=>if(P.info? e).isSome/\0<P.cellsOf e then some (.iadS e x i)else none
  |_,_,_=>none
 | .index t x i=>match P.underlying t,zaH x,zaH i with
  |some .string,some x,some i=>some (.sidx x i)
  |_,_,_=>none
 | .extract x i=>(zaH x).map (.ext · i)
 | .call {callee:=.builtin .len,args,argTypes}=>match args.toList,argTypes.toList with
  | [x],[t]=>match P.underlying t,zaH x with
   |some .string,some x=>some (.len true x)
   |some (.slice _),some x=>some (.len false x)
   |_,_=>none
  |_,_=>none
 | .call {callee:=.builtin .append,args,argTypes}=>match args.toList,argTypes.toList with
  | [x,y],[t,t']=>match P.underlying t,zaH x,zaH y with
   |some (.slice e),some x,some y=>match zbb P e with
    |some _=>if t=t'/\0<P.cellsOf e then some (.app e (P.bytesOf e) x y)else
     (match P.underlying t',P.underlying e with
     |some .string,some (.int .u8)=>if P.cellsOf e=1 then some (.apps e (P.bytesOf e) x y)else none
     |_,_=>none)
    |none=>none
   |_,_,_=>none
  |_,_=>none
 | .call {callee:=.builtin .clear,args,argTypes}=>match args.toList,argTypes.toList with
  | [x],[t]=>match P.underlying t,zaH x with
   |some (.slice e),some x=>match zbb P e with
    |some z=>if 0<P.cellsOf e then some (.clr e z x)else none
    |none=>none
   |_,_=>none
  |_,_=>none
 | .call {callee:=.builtin .max,args,..}=>(zhy args.toList).map (.mx true)
 | .call {callee:=.builtin .min,args,..}=>(zhy args.toList).map (.mx false)
 | .call {callee:=.value (.func f),args,..}=>match P.funcs[f]? with
  |some fn=>if fn.body.isSome/\fn.name≠ "runtime.NumGoroutine" then(zhy args.toList).map (.call f (zMG P fn.params))else none
  |none=>none
 | .call {callee:=.value (.tmp x),args,..}=>(zhy args.toList).map (.callv (.t x))
 |_=>none
def zmN(ops:Array Oper):Option (Nat×Bool)->Option (Option (Nat×Bool))
 |none=>some none
 |some (j,want)=>match(ops[j]?).bind (·.dst)with
  |some d=>some (some (d,want))
  |none=>none
inductive Kind3 where
 |pure|reads|acts
 deriving DecidableEq
def kindOf:Ir->Kind3
 | .box .. | .store .. | .call .. | .callv .. | .app .. | .callz .. | .clr .. | .nil .. | .rng .. | .nxt .. | .apps .. | .boxr .. | .buildr .. | .bslr .. | .frz .. | .storz ..=>.acts
 | .load .. | .len false _| .iadS .. | .sls .. | .fad .. | .sls3 .. | .sofb .. | .nck ..=>.reads
 |_=>.pure
def Od.tmps:Od->List Nat
 | .t n=>[n]
 | .c _=>[]
def Ip.sees(ip:Ip):List Nat:=ip.i.ods.flatMap Od.tmps++(match ip.g with|some (j,_)=>[j]|none=>[])
def zF0(n:Nat):List Nat->Option TypeId
 | []=>none
 |c::r=>if 1000000000<=c/\c<40000000000000/\(c-1000000000) / 100000=n then some ((c-1000000000)%100000)else zF0 n r
def zFT(n:Nat):List Nat->Option TypeId
 | []=>none
 |c::r=>if 80000000000000<=c/\c<90000000000000/\(c-80000000000000) / 100000=n then some ((c-80000000000000)%100000)else zFT n r
def zuV(n:Nat)(fz:List Nat)(x:Od):Ir:=match zFT n fz with|some e=>.frz e x|none=>.mov x
def zDs(n:Nat):List Nat->Option TypeId
 | []=>none
 |c::r=>if 90000000000000<=c/\c<100000000000000/\(c-90000000000000) / 100000=n then some ((c-90000000000000)%100000)else zDs n r
def zsH(n:Nat):List Nat->List (Nat×TypeId×Bool)
 | []=>[]
 |c::r=>match decide (100000000000000<=c)&&decide ((c-100000000000000) / 20000000=n)with
  |true=>((c-100000000000000) / 200000%100,(c-100000000000000) / 2%100000,(c-100000000000000)%2==1)::zsH n r
  |false=>zsH n r
def znZ(n:Nat):List Nat->List TypeId
 | []=>[]
 |c::r=>match decide (40000000000000<=c)&&decide (c<50000000000000)&&decide ((c-40000000000000) / 100000=n)with
  |true=>(c-40000000000000)%100000::znZ n r
  |false=>znZ n r
def fzIr(fz:List Nat)(d:Option Nat)(i:Ir):Ir:=
 match i with
 | .call f shs args=>match d with
  |some n=>match fz.contains n with
   |true=>.callz f shs (znZ n fz) args
   |false=>match fz.contains (n+50000000000000)with|true=>.call f [] args|false=>.call f shs args
  |none=>.call f shs args
 | .mov (.c (.lit e0 true []))=>match d with
  |some n=>match zF0 n fz with|some e=>.nil e|none=>zuV n fz (.c (.lit e0 true []))
  |none=>.mov (.c (.lit e0 true []))
 | .mov x=>match d with|some n=>zuV n fz x|none=>.mov x
 | .box ty n x=>match d with
  |some d=>match zsH d fz with| []=>.box ty n x|l=>.boxr ty n x l
  |none=>.box ty n x
 | .store 1 (.t p) (.c (.lit e0 true []))=>match zDs p fz with|some e=>.storz e (.t p) (.c (.lit e0 true []))|none=>.store 1 (.t p) (.c (.lit e0 true []))
 | .bsl e n sh ps=>match d with
  |some d=>match fz.contains (d+70000000000000)with|true=>.bslr e n sh ps|false=>match fz.contains (d+60000000000000)with|true=>.bslf e n sh ps|false=>.bsl e n sh ps
  |none=>.bsl e n sh ps
 | .build z ps=>match d with
  |some d=>match zsH d fz with| []=>.build z ps|l=>.buildr z ps l
  |none=>.build z ps
 |i=>i
def zuN(P:Program)(fz:List Nat)(ops:Array Oper):List Oper->Option (List Ip)
 | []=>some []
 |o::r=>match zkL P o,zmN ops o.guard,zuN P fz ops r with
  |some i,some g,some l=>some (⟨o.dst,fzIr fz o.dst i,g,0,[]⟩::l)
  |_,_,_=>none
def apartIp(x y:Ip):Bool:=
 (match x.d with|some d=>!(y.sees.contains d)&&y.d != some d|none=>true)&&(match y.d with|some d=>!(x.sees.contains d)|none=>true)
def Ir.mainOk(i:Ir):Bool:=
 match i.main with
 | .t _=>true
 | .c v=>v.key.isNone
def zuO(b:Array Nat)(ips:List Ip):Bool:=
 ips.zipIdx.all fun(y,j)=>decide (b.getD j 0<2^j)&&y.i.mainOk&&ips.zipIdx.all fun(x,i)=>!decide (i<j)||
  ((x.d.isNone||x.d != y.d)&&((b.getD j 0).testBit i||(apartIp x y&& !(decide (kindOf x.i=.acts)&&decide (kindOf y.i=.acts)))))
def zij(b:Array Nat)(i j:Nat):Bool:=decide (i≠j)&& !(b.getD j 0).testBit i&& !(b.getD i 0).testBit j
def zfZ(b:Array Nat)(ips:List Ip):List Ip:=
 ips.zipIdx.map fun(x,i)=>{x with u:=(match kindOf x.i with
  | .acts=>if ips.zipIdx.any (fun(y,j)=>decide (kindOf y.i=.reads)&&zij b i j)then 1 else 0
  | .reads=>if ips.zipIdx.any (fun(y,j)=>decide (kindOf y.i=.acts)&&zij b i j)then 2 else 0
  | .pure=>0)}
def zhB(b:Array Nat)(ip:Ip)(j:Nat):Option Nat:=
 match ip.i,ip.d,ip.g with
 | .box _ _ (.c c),some d,none=>if b.getD j 0=0/\(AV.agg c.cells).data=true then some d else none
 |_,_,_=>none
def znW(b:Array Nat)(ips:List Ip):List Ip:=(ips.zipIdx.filter fun(x,j)=>(zhB b x j).isSome).map (·.1)
def zmq(b:Array Nat)(ips:List Ip):List Ip:=
 ips.zipIdx.map fun(x,j)=>match zhB b x j with|some d=>{x with i:=.mov (.t d)}|none=>x
def zu6(b:Array Nat)(ips:List Ip)(j:Nat):List Nat:=
 ips.zipIdx.filterMap fun(y,i)=>match zhB b y i with|some d=>if(b.getD j 0).testBit i then none else some d|none=>none
def znv(b:Array Nat)(ips l:List Ip):List Ip:=
 l.zipIdx.map fun(x,j)=>match kindOf x.i with| .pure=>x|_=>{x with hs:=zu6 b ips j}
def frOk:Ir->Bool
 | .call .. | .callz .. | .callv .. | .store .. | .app .. | .box .. | .bslr ..=>true
 |_=>false
def zzw(l:List Ip):Bool:=l.all fun x=>x.hs.isEmpty|| !decide (kindOf x.i=.acts)||frOk x.i
def ins(x:Nat)(l:List Nat):List Nat:=match l.contains x with|true=>l|false=>x::l
def zku:List Nat->List Nat->List Nat
 | [],l=>l
 |x::r,l=>ins x (zku r l)
def del:Option Nat->List Nat->List Nat
 |some n,l=>l.filter fun x=>x != n
 |none,l=>l
def zFX:List Ip->List Nat->List Nat
 | [],af=>af
 |ip::r,af=>zku ip.sees (del ip.d (zFX r af))
def live:Cd->List Nat->List Nat
 | .skip,af=>af
 | .region ops,af=>zFX ops af
 | .seq a b,af=>live a (live b af)
 | .cond c a b,af=>zku c.tmps (zku (live a af) (live b af))
 | .block _ a,af=>live a af
 | .loop lv _,_=>lv
 | .seg lv _ _,_=>lv
 | .exit _ lv,_=>lv
 | .ret lv,_=>lv
def exLv:List (Nat×List Nat)->Nat->List Nat
 | [],_=>[]
 |(j,l)::r,id=>if j=id then l else exLv r id
def Ip.forks(ip:Ip):Nat:=match ip.i with
 | .pick ..=>1
 | .mx _ xs=>xs.length-1
 |_=>0
def ways:Cd->Nat
 | .skip=>1
 | .region ops=>1+(ops.map Ip.forks).sum
 | .seq a b=>ways a*ways b
 | .cond _ a b=>ways a+ways b
 | .block _ a=>ways a+1
 | .loop _ _=>0
 | .exit _ _=>0
 | .ret _=>0
 | .seg _ _ _=>1
def bulk:Cd->Nat
 | .region ops=>ops.length
 | .seq a b=>bulk a+bulk b
 | .cond _ a b=>3+bulk a+bulk b
 | .block _ a=>bulk a
 | .loop _ _=>8
 | .seg _ _ _=>4
 |_=>1
def zF7:List Nat->Option Nat
 | []=>none
 |c::r=>if 1000000<=c/\c<1000000000 then some (c-1000000)else zF7 r
def zMB(fz:List Nat)(a b:Cd)(lv af:List Nat):Cd:=
 match zF7 fz with
 |some n=>if 2<=ways a/\n<=bulk b then .seg lv af b else b
 |none=>b
def cmp(P:Program)(fz:List Nat)(rt:List Nat):List (Nat×List Nat)->List Nat->Code->Option Cd
 |_,_,.skip=>some .skip
 |_,_,.region _ ops draw=>match zuN P fz ops ops.toList with
  |some l=>match draw with
   |false=>some (.region l)
   |true=>match zuO (yat ops) l&&Region.noSelect ops with
    |true=>some (.region (zfZ (yat ops) l))
    |false=>match zuO (yat ops) (zmq (yat ops) l)&&Region.noSelect ops&&zzw (znv (yat ops) l (zfZ (yat ops) (zmq (yat ops) l)))with
     |true=>some (.seq (.region (znW (yat ops) l)) (.region (znv (yat ops) l (zfZ (yat ops) (zmq (yat ops) l)))))
     |false=>none
  |none=>none
 |ex,af,.seq a b=>match cmp P fz rt ex af b with
  |some b'=>match cmp P fz rt ex (live b' af) a with|some a'=>some (.seq a' (zMB fz a' b' (live b' af) af))|none=>none
  |none=>none
 |ex,af,.cond c a b=>match zaH c,cmp P fz rt ex af a,cmp P fz rt ex af b with|some c,some a,some b=>some (.cond c a b)|_,_,_=>none
 |ex,af,.block id a=>(cmp P fz rt ((id,af)::ex) af a).map (.block id)
 |ex,_,.loop a=>match cmp P fz rt ex [] a with
  |some a1=>match cmp P fz rt ex (live a1 []) a with|some a2=>some (.loop (live a1 []) a2)|none=>none
  |none=>none
 |ex,_,.exit id=>some (.exit id (exLv ex id))
 |_,_,.ret=>some (.ret rt)
 |_,_,_=>none
def zy0:List Rs->List Nat
 | []=>[]
 | .t n::r=>n::zy0 r
 | .cell a _ _::r=>a::zy0 r
def zsM(P:Program):List ResultVar->Option (List Rs)
 | []=>some []
 | .tmp t::r=>(zsM P r).map (.t t:: ·)
 | .cell a t::r=>match zeK P t,zsM P r with
  |some ag,some l=>if(P.info? t).isSome then some (.cell a ag (P.cellsOf t)::l)else none
  |_,_=>none
def zae(P:Program)(md:Md)(fz:List Nat)(f:FuncId):Option Fn:=
 match P.funcs[f]? with
 |some fn=>match fn.body with
  |some c=>match zsM P fn.results.toList with
   |some rs=>match cmp P fz (zy0 rs) [] (zy0 rs) c with
    |some b=>if fn.name≠ "runtime.NumGoroutine" then some ⟨fn.ntmps,rs,zMG P fn.resultTypes,md,b⟩else none
    |none=>none
   |none=>none
  |none=>none
 |none=>none
structure Base where
 n:Nat
 w0:World
instance :CoeOut Base Nat:=⟨Base.n⟩
def RowAt(base:Base)(w:World)(e:TypeId)(size:Nat)(v:Value)(n:Nat)(vals:List Value):Prop:=
  vals.length=n*size/\
  ((n=0/\∃a,v=.slice a 0 0)\/
   ∃g cap cur,0<cap/\v=.slice (some ⟨g,0,none⟩) n cap/\base<=g/\w.heap[g]?=some (.cells cur e (0,0))/\n<=cap/\cap<=maxLen/\cur.size=cap*size/\cur.toList.take (n*size)=vals)
def zaP:Value->Option Nat
 | .slice (some a) _ (_+1)=>some a.block
 |_=>none
def zbF(E:Env)(k:Nat):Ent->Option Nat
 | .box _ _=>some (E.box k)
 | .row _ _ false _=>zaP (E.row k)
 | .row _ _ true _=>none
 | .it _ _=>some (E.box k)
def blkOf(E:Env)(h:Store)(k:Nat):Option Nat:=(h[k]?).bind (zbF E k)
def EntOk(base:Base)(E:Env)(k:Nat):Ent->Prop
 | .box t cs=>E.gen k=none/\E.top k=0/\base<=E.box k/\(∀c,c∈cs->c.one=true)/\∃vals,E.w.heap[E.box k]?=some (.cells vals.toArray t (0,0))/\VL E cs vals
 | .row e g false xs=>E.gen k=some g/\E.top k=g/\E.esz k=E.P.cellsOf e/\(∀x,x∈xs->x.cells.length=E.P.cellsOf e)/\
   ∃vals,RowAt base E.w e (E.P.cellsOf e) (E.row k) xs.length vals/\DL E.P E.w E.own (flat xs) vals/\∀u,u∈vals->u.oneCell'=true
 | .row e g true xs=>E.gen k=some g/\E.top k=g/\E.esz k=E.P.cellsOf e/\DL E.P E.w E.own [.lit e false xs] [E.row k]/\(xs≠[]->∃b,HeadAt (E.row k) b)
 | .it s pos=>E.gen k=none/\E.top k=0/\base<=E.box k/\0<=pos/\E.w.heap[E.box k]?=some (.stringIter s pos.toNat)
structure Lo(base:Base)(w:World):Prop where
 le:base<=w.heap.size
 low:∀b:Nat,b<base.n->w.heap[b]?=base.w0.heap[b]?
structure Rel(base:Base)(h:Store)(E:Env):Prop where
 n:E.n=h.length
 lo:Lo base E.w
 ent:∀k e,h[k]?=some e->EntOk base E k e
 nogen:∀k,h.length<=k->E.gen k=none
 own:∀k b,blkOf E h k=some b->E.own b
 inj:∀k j b,blkOf E h k=some b->blkOf E h j=some b->k=j
 lt:∀b,E.own b->b<E.w.heap.size
theorem Rel.le{base:Base}{h:Store}{E:Env}(R:Rel base h E):base<=E.w.heap.size:=R.lo.le
structure Step(h:Store)(E:Env)(h':Store)(E':Env):Prop where
 ext:Ext E E'
 os:E'.w.os=E.w.os
 tape:E'.w.tape=E.w.tape
 output:E'.w.output=E.w.output
 size:E.w.heap.size<=E'.w.heap.size
 heap:∀b,b<E.w.heap.size->(∀k,blkOf E h k≠some b)->E'.w.heap[b]?=E.w.heap[b]?
 fresh:∀b,E'.own b->E.own b\/E.w.heap.size<=b
 held:∀b,E.own b->(∀k,blkOf E h k≠some b)->E'.own b
 blk:∀k b,blkOf E' h' k=some b->(∃j,blkOf E h j=some b)\/E.w.heap.size<=b
theorem zNT{base:Base}{h:Store}{E:Env}(R:Rel base h E){k b:Nat}(hb:blkOf E h k=some b):base<=b:=by
 unfold blkOf at hb;obtain⟨e,he,hbe⟩:=yb5.1 hb;have ho:=R.ent k e he
 cases e with
 |box t cs=>cases hbe;exact ho.2.2.1
 |it s pos=>cases hbe;exact ho.2.2.1
 |row e g ro xs=>
  cases ro with
  |true=>cases hbe
  |false=>
   obtain⟨_,_,_,_,vals,hrow,_⟩:=ho;rcases hrow.2 with⟨_,a,ha⟩|⟨b0,cap,cur,hc,ha,hbb,_⟩
   ·rw[zbF,ha]at hbe;cases a<;>cases hbe
   ·rw[zbF,ha]at hbe
    cases cap with
    |zero=>omega
    |succ c=>cases hbe;exact hbb
theorem Rel.step_lo{base:Base}{h h':Store}{E E':Env}(R:Rel base h E)(S:Step h E h' E'):Lo base E'.w:=
 ⟨yaO R.le S.size,fun b hb=>by
  rw[S.heap b (yaW hb R.le) (fun k hk=>by have:=zNT R hk;omega)]
  exact R.lo.low b hb⟩
theorem Ext.refl(E:Env):Ext E E:=⟨rfl,yag _,fun _ _=>yag _,fun _ _ _ _ h=>⟨h,rfl,rfl⟩,fun _ _ h=>⟨h,rfl⟩,fun _ _ h h'=>⟨h,h'⟩⟩
theorem Ext.trans{A B C:Env}(x:Ext A B)(y:Ext B C):Ext A C where
 P:=y.P.trans x.P
 n:=yaO x.n y.n
 top k hk:=yaO (x.top k hk) (y.top k (yaW hk x.n))
 gen k g hk hg hc:=by
  obtain⟨h1,h2,h3⟩:=y.gen k g (yaW hk x.n) (yaO hg (x.top k hk)) hc;obtain⟨h4,h5,h6⟩:=x.gen k g hk hg h1;exact⟨h4,h2.trans h5,h3.trans h6⟩
 box k hk hg:=by
  obtain⟨h1,h2⟩:=x.box k hk hg;obtain⟨h3,h4⟩:=y.box k (yaW hk x.n) h1;exact⟨h3,h4.trans h2⟩
 keep a v h h':=by
  obtain⟨h1,h2⟩:=x.keep a v h h';exact y.keep a v h1 h2
theorem Step.refl(h:Store)(E:Env):Step h E h E:=⟨Ext.refl E,rfl,rfl,rfl,yag _,fun _ _ _=>rfl,fun _ h=>.inl h,fun _ h _=>h,fun k _ h=>.inl ⟨k,h⟩⟩
theorem Step.trans{h h' h'':Store}{A B C:Env}(x:Step h A h' B)(y:Step h' B h'' C)(hlt:∀b,A.own b->b<A.w.heap.size):Step h A h'' C where
 ext:=x.ext.trans y.ext
 os:=y.os.trans x.os
 tape:=y.tape.trans x.tape
 output:=y.output.trans x.output
 size:=yaO x.size y.size
 heap b hb hn:=by
  rw[y.heap b (yaW hb x.size) (fun k hk=>?_),x.heap b hb hn];rcases x.blk k b hk with⟨j,hj⟩|hj
  ·exact hn j hj
  ·omega
 fresh b hb:=by
  rcases y.fresh b hb with h1|h1
  ·exact x.fresh b h1
  ·exact .inr (yaO x.size h1)
 held b hb hn:=by
  refine y.held b (x.held b hb hn) (fun k hk=>?_);rcases x.blk k b hk with⟨j,hj⟩|hj
  ·exact hn j hj
  ·have:=hlt b hb;omega
 blk k b hk:=by
  rcases y.blk k b hk with⟨j,hj⟩|hj
  ·exact x.blk j b hj
  ·exact .inr (yaO x.size hj)
theorem zwD{base:Base}{h:Store}{E E':Env}(R:Rel base h E)(heap:∀b,b<E.w.heap.size->(∀k,blkOf E h k≠some b)->E'.w.heap[b]?=E.w.heap[b]?)
  (fresh:∀b,E'.own b->E.own b\/E.w.heap.size<=b) (a:Addr) (v:Value) (ho:¬E.own a.block) (hc:E.w.cell? a=some v):¬E'.own a.block/\E'.w.cell? a=some v:=by
 have hlt:=block_lt_of_cell hc;refine⟨fun h=>?_,?_⟩
 ·rcases fresh _ h with h1|h1
  ·exact ho h1
  ·omega
 ·exact(World.cell?_of_block (heap _ hlt (fun k hk=>ho (R.own k _ hk)))).trans hc
theorem DL.step{E E':Env}(x:Ext E E'){l:List AV}{vs:List Value}(h:DL E.P E.w E.own l vs):DL E'.P E'.w E'.own l vs:=by
 rw[x.P];exact h.ext x.keep
theorem RowAt.step{base:Base}{w w':World}{e:TypeId}{size:Nat}{v:Value}{n:Nat}{vals:List Value}(h:RowAt base w e size v n vals)(hb:∀b,zaP v=some b->w'.heap[b]?=w.heap[b]?):RowAt base w' e size v n vals:=by
 refine⟨h.1,?_⟩;rcases h.2 with h1|⟨g,cap,cur,h0,rfl,h2,h3,h4⟩
 ·exact .inl h1
 ·refine .inr ⟨g,cap,cur,h0,rfl,h2,?_,h4⟩;rw[hb g (by cases cap with|zero=>omega |succ c=>rfl)];exact h3
theorem EntOk.step{base:Base}{E E':Env}{k:Nat}{e:Ent}(x:Ext E E')(h:EntOk base E k e)
  (env:E'.gen k=E.gen k/\E'.top k=E.top k/\E'.esz k=E.esz k/\E'.row k=E.row k/\E'.box k=E.box k)
  (heap:∀b,zbF E k e=some b->E'.w.heap[b]?=E.w.heap[b]?):EntOk base E' k e:=by
 obtain⟨e1,e2,e3,e4,e5⟩:=env
 cases e with
 |box t cs=>
  obtain⟨h1,h0,h2,h3,vals,h4,h5⟩:=h;refine⟨by rw[e1];exact h1,by rw[e2];exact h0,by rw[e5];exact h2,h3,vals,?_,h5.ext x⟩
  rw[e5,heap _ rfl];exact h4
 |row e g ro xs=>
  cases ro with
  |false=>
   obtain⟨h1,h2,h3,h4,vals,h5,h6,h7⟩:=h;refine⟨by rw[e1];exact h1,by rw[e2];exact h2,by rw[e3,x.P];exact h3,fun y hy=>by rw[x.P];exact h4 y hy,vals,?_,h6.step x,h7⟩
   rw[e4,x.P];exact h5.step (fun b hb=>heap b hb)
  |true=>
   obtain⟨h1,h2,h3,h4,h5⟩:=h
   exact⟨by rw[e1];exact h1,by rw[e2];exact h2,by rw[e3,x.P];exact h3,by rw[e4];exact h4.step x,by rw[e4];exact h5⟩
 |it s pos=>
  obtain⟨h1,h2,h3,h4,h5⟩:=h;exact⟨by rw[e1];exact h1,by rw[e2];exact h2,by rw[e5];exact h3,h4,by rw[e5,heap _ rfl];exact h5⟩
theorem zdo{E:Env}{h:Store}{k b:Nat}(hb:blkOf E h k=some b):∃e,h[k]?=some e/\zbF E k e=some b:=by
 unfold blkOf at hb;exact yb5.1 hb
theorem zaN{E:Env}{h:Store}{k:Nat}{e:Ent}(he:h[k]?=some e):blkOf E h k=zbF E k e:=by
 unfold blkOf;rw[he];rfl
theorem zbA{E E':Env}{k:Nat}(h4:E'.row k=E.row k)(h5:E'.box k=E.box k)(e:Ent):zbF E' k e=zbF E k e:=by
 cases e with
 |box=>simp only[zbF,h5]
 |row _ _ ro _=>cases ro<;>simp only[zbF,h4]
 |it=>simp only[zbF,h5]
theorem Rel.upd{base:Base}{h h':Store}{E E':Env}(k:Nat)(e':Ent)(R:Rel base h E)(S:Step h E h' E')(hlen:E'.n=h'.length)(hle:h.length<=h'.length)(hk:h'[k]?=some e')
  (others:∀j,j≠k->h'[j]?=h[j]?)
  (env:∀j,j≠k->E'.gen j=E.gen j/\E'.top j=E.top j/\E'.esz j=E.esz j/\E'.row j=E.row j/\E'.box j=E.box j)
  (heap:∀j,j≠k->∀b,blkOf E h j=some b->E'.w.heap[b]?=E.w.heap[b]? /\E'.own b) (ok:EntOk base E' k e')
  (kown:∀b,blkOf E' h' k=some b->E'.own b/\∀j,j≠k->blkOf E h j≠some b) (lt:∀b,E'.own b->b<E'.w.heap.size):Rel base h' E':=by
 have same:∀j,j≠k->blkOf E' h' j=blkOf E h j:=fun j hj=>by
  obtain⟨_,_,_,e4,e5⟩:=env j hj;unfold blkOf;rw[others j hj]
  cases h[j]? with
  |none=>rfl
  |some e=>exact zbA e4 e5 e
 refine⟨hlen,R.step_lo S,fun j e hj=>?_,fun j hj=>?_,fun j b hj=>?_,fun i j b hi hj=>?_,lt⟩
 ·by_cases e0:j=k
  ·subst e0;rw[hk]at hj;cases hj;exact ok
  ·have hj0:=hj;rw[others j e0]at hj;exact(R.ent j e hj).step S.ext (env j e0) (fun b hb=>(heap j e0 b (by rw[zaN hj];exact hb)).1)
 ·have e0:j≠k:=fun e0=>by
   subst e0;rw[yau hj]at hk;cases hk
  rw[(env j e0).1];exact R.nogen j (yaO hle hj)
 ·by_cases e0:j=k
  ·subst e0;exact(kown b hj).1
  ·rw[same j e0]at hj;exact(heap j e0 b hj).2
 ·by_cases e1:i=k
  ·by_cases e2:j=k
   ·rw[e1,e2]
   ·subst e1;rw[same j e2]at hj;exact absurd hj ((kown b hi).2 j e2)
  ·by_cases e2:j=k
   ·subst e2;rw[same i e1]at hi;exact absurd hi ((kown b hj).2 i e1)
   ·rw[same i e1]at hi;rw[same j e2]at hj;exact R.inj i j b hi hj
theorem VL.one_inv{E:Env}{x:AV}{us:List Value}(h:VL E [x] us):∃u,us=[u]/\VL E [x] [u]:=by
 obtain⟨v,us',rfl,h1,h2⟩:=h.uncons;cases h2;exact⟨v,rfl,h1⟩
theorem DL.sc_inv{P:Program}{w:World}{own:Nat->Prop}{v u:Value}(h:DL P w own [.sc v] [u]):u=v/\plainSc v=true:=by cases h with|sc h t=>exact⟨rfl,h⟩
theorem VL.sc_inv{E:Env}{v u:Value}(h:VL E [.sc v] [u]):u=v/\plainSc v=true:=by cases h with|data h t=>exact h.sc_inv
theorem VL.agg_inv{E:Env}{cs:List AV}{u:Value}(h:VL E [.agg cs] [u]):∃vs,u=.agg vs.toArray/\VL E cs vs:=by
 cases h with
 |data h t=>cases h with|agg h t=>exact⟨_,rfl,h.vl⟩
 |agg h t=>exact⟨_,rfl,h⟩
theorem VL.tup_inv{E:Env}{cs:List AV}{u:Value}(h:VL E [.tup cs] [u]):∃vs,u=.tuple vs.toArray/\VL E cs vs:=by
 cases h with
 |data h t=>cases h
 |tup h t=>exact⟨_,rfl,h⟩
theorem VL.fn_inv{E:Env}{f:FuncId}{cs:List AV}{u:Value}(h:VL E [.fn f cs] [u]):∃vs,u=.func (.func f) #[] vs.toArray/\VL E cs vs:=by
 cases h with
 |data h t=>cases h
 |fn h t=>exact⟨_,rfl,h⟩
theorem VL.lit_inv{E:Env}{e:TypeId}{f:Bool}{xs:List AV}{u:Value}(h:VL E [.lit e f xs] [u]):DL E.P E.w E.own [.lit e f xs] [u]:=by
 cases h with|data h t=>exact h
theorem VL.sl_inv{E:Env}{k g:Nat}{u:Value}(h:VL E [.sl k g] [u]):k<E.n/\g<=E.top k/\u.oneCell'=true/\(E.gen k=some g->u=E.row k):=by
 cases h with
 |data h t=>cases h
 |sl hk hg h1 h t=>exact⟨hk,hg,h1,h⟩
theorem VL.sub_inv{E:Env}{k g:Nat}{lo hi:Int}{u:Value}(h:VL E [.sub k g lo hi] [u]):k<E.n/\g<=E.top k/\u.oneCell'=true/\
  (E.gen k=some g->0<=lo/\lo<=hi/\∃a cap,u=.slice a (hi-lo).toNat cap/\(hi-lo).toNat<=cap/\cap<=maxLen/\(lo<hi->∃b,HeadAt (E.row k) b/\a=some ⟨b,lo.toNat*E.esz k,none⟩)/\(lo=0->∃n,E.row k=.slice a n cap)):=by
 cases h with
 |data h t=>cases h
 |sub hk hg h1 h t=>exact⟨hk,hg,h1,h⟩
theorem VL.bptr_inv{E:Env}{b off:Nat}{u:Value}(h:VL E [.bptr b off] [u]):b<E.n/\u=.pointer (some ⟨E.box b,off,none⟩):=by
 cases h with
 |data h t=>cases h
 |bptr hk hg t=>exact⟨hk,rfl⟩
theorem VL.bptr_gen{E:Env}{b off:Nat}{u:Value}(h:VL E [.bptr b off] [u]):E.gen b=none:=by
 cases h with
 |data h t=>cases h
 |bptr hk hg t=>exact hg
theorem VL.rptr_inv{E:Env}{k g:Nat}{i:Int}{off:Nat}{u:Value}(h:VL E [.rptr k g i off] [u]):k<E.n/\g<=E.top k/\(E.gen k=some g->∃b,HeadAt (E.row k) b/\u=.pointer (some ⟨b,i.toNat*E.esz k+off,none⟩)):=by
 cases h with
 |data h t=>cases h
 |rptr hk hg h1 h t=>exact⟨hk,hg,h⟩
theorem VL.lptr_inv{E:Env}{e:TypeId}{xs:List AV}{i:Int}{off:Nat}{u:Value}(h:VL E [.lptr e xs i off] [u]):∃b o vals,(∀x,x∈xs->x.cells.length=E.P.cellsOf e)/\DL E.P E.w E.own (flat xs) vals/\
  (∀j u,vals[j]?=some u->¬E.own b/\E.w.cell? ⟨b,o+j,none⟩=some u)/\u=.pointer (some ⟨b,o+i.toNat*E.P.cellsOf e+off,none⟩):=by
 cases h with
 |data h t=>cases h
 |lptr hs h hr t=>exact⟨_,_,_,hs,h,hr,rfl⟩
theorem DL.lit_inv{P:Program}{w:World}{own:Nat->Prop}{e:TypeId}{f:Bool}{xs:List AV}{u:Value}(h:DL P w own [.lit e f xs] [u]):∃a cap vals,u=.slice a xs.length cap/\xs.length<=cap/\cap<=maxLen/\(f=true->cap=xs.length)/\
  (∀x,x∈xs->x.cells.length=P.cellsOf e)/\DL P w own (flat xs) vals/\(∀u,u∈vals->u.oneCell'=true)/\(∀j u,vals[j]?=some u->∃b o,a=some ⟨b,o,none⟩/\¬own b/\w.cell? ⟨b,o+j,none⟩=some u):=by
 cases h with|lit hc hm hf hs h h1 hr t=>exact⟨_,_,_,rfl,hc,hm,hf,hs,h,h1,hr⟩
theorem VL.one_cells{E:Env}{cs:List AV}{vs:List Value}(h:VL E cs vs)(h1:∀c,c∈cs->c.one=true):∀u,u∈vs->u.oneCell'=true:=by
 induction cs generalizing vs with
 |nil=>cases h;intro u hu;cases hu
 |cons c cs ih=>
  obtain⟨v,us,rfl,h2,h3⟩:=h.uncons;intro u hu;rcases yaJ.1 hu with rfl|hu
  ·have hc:=h1 c (ybp ..)
   cases c with
   |sc v=>obtain⟨rfl,hp⟩:=h2.sc_inv;exact zEf hp
   |agg=>simp[AV.one]at hc
   |tup=>simp[AV.one]at hc
   |lit=>obtain⟨_,_,_,rfl,_⟩:=h2.lit_inv.lit_inv;rfl
   |sl=>exact h2.sl_inv.2.2.1
   |sub=>exact h2.sub_inv.2.2.1
   |bptr=>obtain⟨_,rfl⟩:=h2.bptr_inv;rfl
   |rptr=>cases h2 with
    |data h t=>cases h
    |rptr _ _ h1 _ _=>exact h1
   |lptr=>obtain⟨_,_,_,_,_,_,rfl⟩:=h2.lptr_inv;rfl
   |fn=>obtain⟨_,rfl,_⟩:=h2.fn_inv;rfl
   |bad=>simp[AV.one]at hc
  ·exact ih h3 (fun c hc=>h1 c (ya3 _ hc)) u hu
theorem zp6{E:Env}{v:Value}{a:AV}(h:znT v=some a):DL E.P E.w E.own [a] [v]:=by
 unfold znT at h;split at h
 ·cases h;exact DL.lit (a:=none) (cap:=0) (vals:=[]) (xs:=[]) (yag _) (by simp[maxLen]) (fun _=>rfl) (fun x hx=>by cases hx) .nil (fun u hu=>by cases hu) (fun j u hu=>by cases hu) .nil
 ·split at h
  ·cases h;exact .sc (by assumption) .nil
  ·cases h
theorem zyv{E:Env}{vs:List Value}:∀{l:List AV},zlF vs=some l->DL E.P E.w E.own l vs:=by
 induction vs with
 |nil=>intro l h;simp[zlF]at h;subst h;exact .nil
 |cons v vs ih=>
  intro l h;simp only[zlF]at h;split at h
  ·cases h;rename_i a l' h1 h2;exact DL.append (zp6 h1) (ih h2)
  ·cases h
theorem VL.of_getD{E:Env}{t:List AV}{tmps:Array Value}(h:VL E t tmps.toList)(n:Nat):VL E [t.getD n .bad] [tmps.getD n undef]:=by
 have hl:=h.length;by_cases hn:n<t.length
 ·obtain⟨v,hv,h1⟩:=h.get n hn;have e1:t.getD n .bad=t[n]:=by simp[List.getD,hn]
  have e2:tmps.getD n undef=v:=by
   have:tmps[n]?=some v:=by simpa using hv
   simp[this]
  rw[e1,e2];exact h1
 ·have e1:t.getD n .bad=.bad:=by simp[List.getD,hn]
  rw[e1];exact .bad .nil
theorem zaS{E:Env}{t:List AV}{a:Act}(h:VL E t a.tmps.toList){x:Operand}{y:Od}(hx:zaH x=some y):VL E [od t y] [a.eval x]:=by
 cases x with
 |tmp n=>simp only[zaH]at hx;cases hx;exact h.of_getD n
 |const v=>
  simp only[zaH,yap]at hx;obtain⟨b,hb,rfl⟩:=hx
  exact .data (zp6 hb) .nil
 |global g=>cases hx
 |func f=>simp only[zaH]at hx;cases hx;exact .fn .nil .nil
theorem zva{E:Env}{t:List AV}{a:Act}(h:VL E t a.tmps.toList){xs:List Operand}:∀{ys:List Od},zhy xs=some ys->VL E (ys.map (od t)) (xs.map a.eval):=by
 induction xs with
 |nil=>intro ys h;simp[zhy]at h;subst h;exact .nil
 |cons x xs ih=>
  intro ys hy;simp only[zhy]at hy;split at hy
  ·cases hy;rename_i a' l' h1 h2;exact(zaS h h1).cons (ih h2)
  ·cases hy
theorem zzu{xs:List AV}{s:Nat}(hs:∀x,x∈xs->x.cells.length=s):∀(i:Nat) (x:AV),xs[i]?=some x->((flat xs).drop (i*s)).take s=x.cells:=by
 induction xs with
 |nil=>intro i x h;cases h
 |cons y ys ih=>
  intro i x h;have hy:=hs y (ybp ..)
  cases i with
  |zero=>
   simp at h;subst h;simp only[flat,ybm,Nat.zero_mul,List.drop_zero]
   rw[<-hy];exact List.take_left ..
  |succ i=>
   have:=ih (fun x hx=>hs x (ya3 _ hx)) i x (by simpa using h);simp only[flat,ybm]at this⊢;rw[Nat.add_mul,Nat.one_mul,List.drop_append,yaL (by omega),List.nil_append,show i*s+s-y.cells.length=i*s by omega];exact this
theorem DL.drop{P:Program}{w:World}{own:Nat->Prop}{l:List AV}{vs:List Value}(h:DL P w own l vs)(n:Nat):DL P w own (l.drop n) (vs.drop n):=by
 by_cases hn:n<=l.length
 ·obtain⟨us,us',rfl,h1,h2⟩:=DL.split (l.take n) (by rw[ya1];exact h);have:us.length=n:=by rw[h1.length];simp[hn]
  rw[List.drop_left' this];exact h2
 ·have:=h.length;rw[yaL (by omega),yaL (by omega)];exact .nil
theorem DL.take{P:Program}{w:World}{own:Nat->Prop}{l:List AV}{vs:List Value}(h:DL P w own l vs)(n:Nat):DL P w own (l.take n) (vs.take n):=by
 by_cases hn:n<=l.length
 ·obtain⟨us,us',rfl,h1,h2⟩:=DL.split (l.take n) (by rw[ya1];exact h);have:us.length=n:=by rw[h1.length];simp[hn]
  rw[List.take_left' this];exact h1
 ·have:=h.length;rw[yaN (by omega),yaN (by omega)];exact h
theorem VL.drop{E:Env}{l:List AV}{vs:List Value}(h:VL E l vs)(n:Nat):VL E (l.drop n) (vs.drop n):=by
 by_cases hn:n<=l.length
 ·obtain⟨us,us',rfl,h1,h2⟩:=VL.split (l.take n) (by rw[ya1];exact h);have:us.length=n:=by rw[h1.length];simp[hn]
  rw[List.drop_left' this];exact h2
 ·have:=h.length;rw[yaL (by omega),yaL (by omega)];exact .nil
theorem VL.take{E:Env}{l:List AV}{vs:List Value}(h:VL E l vs)(n:Nat):VL E (l.take n) (vs.take n):=by
 by_cases hn:n<=l.length
 ·obtain⟨us,us',rfl,h1,h2⟩:=VL.split (l.take n) (by rw[ya1];exact h);have:us.length=n:=by rw[h1.length];simp[hn]
  rw[List.take_left' this];exact h1
 ·have:=h.length;rw[yaN (by omega),yaN (by omega)];exact h
theorem zcm(b o j:Nat):(⟨b,o,none⟩:Addr).add j=⟨b,o+j,none⟩:=by unfold Addr.add;split<;>simp_all
theorem zjq{P:Program}{w:World}{t:TypeId}{ag:Bool}(h:zeK P t=some ag):(isAgg t).run P w=.ok ag w:=by
 unfold zeK at h;unfold isAgg
 cases hu:P.underlying t with
 |none=>rw[hu]at h;cases h
 |some d=>
  rw[hu]at h;simp only[Sem.run_bind,run_underlying hu,Result.andThen_ok];cases d<;>simp_all
theorem zCf{P:Program}{t:TypeId}(h:(P.info? t).isSome=true):∃i,P.info? t=some i/\P.cellsOf t=i.size/\P.bytesOf t=i.bytes:=by
 cases hi:P.info? t with
 |none=>rw[hi]at h;cases h
 |some i=>exact⟨i,rfl,by simp[Program.cellsOf,hi],by simp[Program.bytesOf,hi]⟩
theorem zbw{P:Program}{w:World}{t:TypeId}(h:(P.info? t).isSome=true):(sizeOf t).run P w=.ok (P.cellsOf t) w:=by
 obtain⟨i,h1,h2,_⟩:=zCf h;simp[sizeOf,typeInfo,h1,h2]
theorem zEE{P:Program}{w:World}{t:TypeId}{ag:Bool}(hag:zeK P t=some ag)(hi:(P.info? t).isSome=true)(A:Addr)(us:List Value)(hlen:us.length=P.cellsOf t)
  (hc:∀j u,us[j]?=some u->w.cell? (A.add j)=some u):(ag=true->(loadVar t A).run P w=.ok (.agg us.toArray) w)/\(ag=false->∀u,us=[u]->(loadVar t A).run P w=.ok u w):=by
 refine⟨fun h=>?_,fun h u hu=>?_⟩
 ·subst h;have h1:=run_loadCells_list (P:=P) w A us hc;rw[hlen]at h1;simp[loadVar,zjq hag,zbw hi,h1]
 ·subst h hu;have h1:=hc 0 u rfl;have h2:A.add 0=A:=by simp[Addr.add]
  rw[h2]at h1;simp[loadVar,zjq hag,h1]
theorem zs4{P:Program}{E:Env}{t:TypeId}{ag:Bool}(hag:zeK P t=some ag)(hi:(P.info? t).isSome=true)(A:Addr){c:List AV}{us:List Value}(h:VL E c us)(hlen:c.length=P.cellsOf t)
  (hc:∀j u,us[j]?=some u->E.w.cell? (A.add j)=some u) {v:AV} (hv:mkV ag c=some v):∃v',(loadVar t A).run P E.w=.ok v' E.w/\VL E [v] [v']:=by
 obtain⟨h1,h2⟩:=zEE (P:=P) (w:=E.w) hag hi A us (by rw[h.length,hlen]) hc
 cases ag with
 |true=>simp only[mkV]at hv;cases hv;exact⟨_,h1 rfl,.agg h .nil⟩
 |false=>
  simp only[mkV]at hv;split at hv
  ·cases hv;obtain⟨u,rfl,h3⟩:=h.one_inv;exact⟨u,h2 rfl u rfl,h3⟩
  ·cases hv
theorem zsN{cs c:List AV}{off n:Nat}(h:cut cs off n=some c):off+n<=cs.length/\c=(cs.drop off).take n:=by
 unfold cut at h;split at h
 ·cases h;exact⟨by assumption,rfl⟩
 ·cases h
theorem za2{h:Store}{k g:Nat}{e:TypeId}{ro:Bool}{xs:List AV}(hr:zaV h k g=some (e,ro,xs)):h[k]?=some (.row e g ro xs):=by
 unfold zaV at hr;split at hr
 ·split at hr
  ·cases hr;subst_vars;assumption
  ·cases hr
 ·cases hr
theorem zbk{base:Base}{h:Store}{E:Env}(R:Rel base h E){k g:Nat}{e:TypeId}{ro:Bool}{xs:List AV}(hr:zaV h k g=some (e,ro,xs)):
  E.gen k=some g/\E.esz k=E.P.cellsOf e/\(∀x,x∈xs->x.cells.length=E.P.cellsOf e)/\∃a cap vals,E.row k=.slice a xs.length cap/\xs.length<=cap/\cap<=maxLen/\DL E.P E.w E.own (flat xs) vals/\(∀u,u∈vals->u.oneCell'=true)/\
   (∀j u,vals[j]?=some u->∃b,a=some ⟨b,0,none⟩/\E.w.cell? ⟨b,j,none⟩=some u):=by
 have hk:=za2 hr;have ho:=R.ent k _ hk
 cases ro with
 |false=>
  obtain⟨h1,_,h3,h4,vals,h5,h6,h7⟩:=ho;obtain⟨hl,h8⟩:=h5;rcases h8 with⟨hn,a,ha⟩|⟨b,cap,cur,h0,hv,hb,hh,hn,hm,hsz,htk⟩
  ·refine⟨h1,h3,h4,a,0,vals,by rw[ha,hn],by omega,by simp[maxLen],h6,h7,fun j u hu=>?_⟩;rw[hn,Nat.zero_mul]at hl;have:vals=[]:=List.eq_nil_of_length_eq_zero hl;rw[this]at hu;cases hu
  ·refine⟨h1,h3,h4,_,cap,vals,hv,hn,hm,h6,h7,fun j u hu=>⟨b,rfl,?_⟩⟩;rw[cell_of_row E.w b j cur e (0,0) hh];rw[<-htk,yaM]at hu;split at hu
   ·simpa using hu
   ·cases hu
 |true=>
  obtain⟨h1,_,h3,h4,hd⟩:=ho;obtain⟨a,cap,vals,ha,hc,hm,_,hs,hdl,h7,hrd⟩:=h4.lit_inv;refine⟨h1,h3,hs,a,cap,vals,ha,hc,hm,hdl,h7,fun j u hu=>?_⟩;obtain⟨b,o,hab,hno,hcell⟩:=hrd j u hu
  have hne:xs≠[]:=by
   rintro rfl;have hl:=hdl.length;simp[flat]at hl;rw[hl]at hu;cases hu
  obtain⟨b',n',c',hv'⟩:=hd hne;rw[ha,hab]at hv';injection hv' with hv' _ _;injection hv' with hv';injection hv' with hb' ho' _;subst ho';exact⟨b,hab,by rw[Nat.zero_add]at hcell;exact hcell⟩
theorem zfj{α:Type}{l:List α}{p n j:Nat}{u:α}(h:((l.drop p).take n)[j]?=some u):l[p+j]?=some u:=by
 rw[yaM]at h;split at h
 ·rw[ybu]at h;exact h
 ·cases h
theorem zn1{xs:List AV}{i:Int}{x:AV}(h:Ops.std.lget xs i=some x):0<=i/\xs[i.toNat]?=some x:=by
 simp only[Ops.std]at h;split at h
 ·exact⟨by assumption,h⟩
 ·cases h
theorem zyJ{P:Program}{base:Base}{h:Store}{E:Env}(R:Rel base h E)(hP:E.P=P){t:TypeId}{ag:Bool}(hag:zeK P t=some ag)(hi:(P.info? t).isSome=true){p v:AV}{pv:Value}(hp:VL E [p] [pv])
  (hl:loadAt Ops.std h ag (P.cellsOf t) p=some v):∃v',(Instr.loadAt t pv).run P E.w=.ok v' E.w/\VL E [v] [v']:=by
 have sure:∀A:Addr,(Instr.loadAt t (.pointer (some A))).run P E.w=(loadVar t A).run P E.w:=fun A=>by simp[Instr.loadAt,Instr.sureAddr]
 subst hP
 cases p with
 |bptr b off=>
  simp only[loadAt]at hl;obtain⟨hb,rfl⟩:=hp.bptr_inv;split at hl
  ·rename_i t' cs hcs;split at hl
   ·rename_i c hc;obtain⟨hle,rfl⟩:=zsN hc;obtain⟨_,_,_,_,vals,hh,hvl⟩:=R.ent b _ hcs;rw[sure];refine zs4 hag hi _ ((hvl.drop off).take _) (by simp;omega) (fun j u hu=>?_) hl;rw[zcm,cell_of_row E.w (E.box b) (off+j) _ _ _ hh];simpa using zfj hu
   ·cases hl
  ·cases hl
 |rptr k g i off=>
  simp only[loadAt]at hl;obtain⟨hk,hg,hv⟩:=hp.rptr_inv;split at hl
  ·rename_i e ro xs hr;obtain⟨hgen,hesz,hs,a,cap,vals,hrow,hc,hm,hdl,_,hrd⟩:=zbk R hr;obtain⟨b,hb,rfl⟩:=hv hgen;split at hl
   ·rename_i x hx;obtain⟨hi0,hxi⟩:=zn1 hx;split at hl
    ·rename_i c hcut;obtain⟨hle,rfl⟩:=zsN hcut;have hx1:x∈xs:=List.mem_of_getElem? hxi;have hfl:=zzu hs i.toNat x hxi
     have hd:DL E.P E.w E.own x.cells ((vals.drop (i.toNat*E.P.cellsOf e)).take (E.P.cellsOf e)):=by
      rw[<-hfl];exact(hdl.drop _).take _
     rw[sure];refine zs4 hag hi _ ((hd.vl.drop off).take _) (by simp;omega) (fun j u hu=>?_) hl;have hu1:=zfj hu;rw[yaM]at hu1;split at hu1
     ·rw[ybu]at hu1;obtain⟨b',hab,hcell⟩:=hrd _ u hu1;obtain⟨n',c',hrow'⟩:=hb;rw[hrow,hab]at hrow';injection hrow' with hab' _ _;injection hab' with hab';injection hab' with hbb _ _;subst hbb;rw[zcm,hesz,Nat.add_assoc];exact hcell
     ·cases hu1
    ·cases hl
   ·cases hl
  ·cases hl
 |lptr e xs i off=>
  simp only[loadAt]at hl;obtain⟨b,o,vals,hs,hdl,hrd,rfl⟩:=hp.lptr_inv;split at hl
  ·rename_i x hx;obtain⟨hi0,hxi⟩:=zn1 hx;split at hl
   ·rename_i c hcut;obtain⟨hle,rfl⟩:=zsN hcut;have hfl:=zzu hs i.toNat x hxi
    have hd:DL E.P E.w E.own x.cells ((vals.drop (i.toNat*E.P.cellsOf e)).take (E.P.cellsOf e)):=by
     rw[<-hfl];exact(hdl.drop _).take _
    rw[sure];refine zs4 hag hi _ ((hd.vl.drop off).take _) (by simp;omega) (fun j u hu=>?_) hl;have hu1:=zfj hu;rw[yaM]at hu1;split at hu1
    ·rw[ybu]at hu1;have:=(hrd _ u hu1).2;rw[zcm];rw[show o+i.toNat*E.P.cellsOf e+off+j=o+(i.toNat*E.P.cellsOf e+(off+j))by omega];exact this
    ·cases hu1
   ·cases hl
  ·cases hl
 |_=>simp[loadAt]at hl
def hole:Ent:=.row 0 0 true []
structure Hol(X:Nat->Prop)(h h':Store):Prop where
 len:h'.length=h.length
 out:∀k,¬X k->h'[k]?=h[k]?
 ins:∀k,X k->h'[k]?=some hole
def Bx(X:Nat->Prop)(h:Store):Prop:=∀k,X k->∃t cs,h[k]?=some (Ent.box t cs)
variable {X:Nat->Prop} {h h':Store}
theorem Bx.lt(B:Bx X h){k:Nat}(hk:X k):k<h.length:=by
 obtain⟨t,cs,e⟩:=B k hk;exact(List.getElem?_eq_some_iff.1 e).1
theorem Bx.keep(B:Bx X h){h1:Store}(hk:∀k,X k->h1[k]?=h[k]?):Bx X h1:=fun k hx=>by
 obtain⟨t,cs,e⟩:=B k hx;exact⟨t,cs,by rw[hk k hx];exact e⟩
theorem zKT{h:Store}{k g:Nat}{r:TypeId×Bool×List AV}(hr:zaV h k g=some r):h[k]?=some (.row r.1 g r.2.1 r.2.2):=by
 unfold zaV at hr;split at hr
 ·rename_i hk;split at hr
  ·rename_i e;cases hr;rw[hk,e]
  ·cases hr
 ·cases hr
theorem Bx.row(B:Bx X h){k g:Nat}{r:TypeId×Bool×List AV}(hr:zaV h k g=some r):¬X k:=fun hx=>by
 obtain⟨t,cs,e⟩:=B k hx;rw[zKT hr]at e;cases e
theorem zEA{k g:Nat}(he:h'[k]?=h[k]?):zaV h' k g=zaV h k g:=by unfold zaV;rw[he]
theorem zes(B:Bx X h)(H:Hol X h h'){k g:Nat}{r:TypeId×Bool×List AV}(hr:zaV h k g=some r):zaV h' k g=some r:=by
 rw[zEA (H.out k (B.row hr))];exact hr
theorem Hol.set(B:Bx X h)(H:Hol X h h'){k:Nat}(hk:¬X k)(e:Ent):Hol X (h.set k e) (h'.set k e)/\∀j,X j->(h.set k e)[j]?=h[j]?:=by
 refine⟨⟨by simp[H.len],fun j hj=>?_,fun j hj=>?_⟩,fun j hj=>?_⟩
 ·by_cases hjk:k=j
  ·subst hjk;by_cases hl:k<h.length
   ·rw[yaq hl,yaq (by rw[H.len];exact hl)]
   ·have hle:=H.len;rw[yau (by simp;omega),yau (by simp;omega)]
  ·rw[yas hjk,yas hjk];exact H.out j hj
 ·rw[yas (fun e=>by subst e;exact hk hj)];exact H.ins j hj
 ·exact yas (fun e=>by subst e;exact hk hj)
theorem Hol.append(B:Bx X h)(H:Hol X h h')(n:Store):Hol X (h++n) (h'++n)/\∀j,X j->(h++n)[j]?=h[j]?:=by
 refine⟨⟨by simp[H.len],fun j hj=>?_,fun j hj=>?_⟩,fun j hj=>yah (B.lt hj)⟩
 ·by_cases hl:j<h.length
  ·rw[yah hl,yah (by rw[H.len];exact hl)];exact H.out j hj
  ·have hle:=H.len;rw[yax (by omega),yax (by omega),hle]
 ·rw[yah (by rw[H.len];exact B.lt hj)];exact H.ins j hj
theorem znt{o:Ops}{e:TypeId}(B:Bx X h)(H:Hol X h h'){x:AV}{xs:List AV}(hx:zbU o h e x=some xs):zbU o h' e x=some xs:=by
 unfold zbU at hx⊢;split at hx
 ·exact hx
 ·split at hx
  ·rename_i hr;simp only[zes B H hr];exact hx
  ·cases hx
 ·split at hx
  ·rename_i hr;simp only[zes B H hr];exact hx
  ·cases hx
 ·cases hx
mutual
theorem zAm{o:Ops}{ks:List TypeId}(B:Bx X h)(H:Hol X h h'):∀(x:AV) {x':AV},zkN o h ks x=some x'->zkN o h' ks x=some x'/\zd2 h' ks x=zd2 h ks x:=by
 intro x x' hx
 cases x<;>simp only[zkN,zd2]at hx⊢
 case sl k g=>
  split at hx
  ·rename_i hr;simp only[zes B H hr,hr];exact⟨hx,trivial⟩
  ·cases hx
 case agg cs=>
  split at hx
  ·rename_i hr
   obtain⟨h1,h2⟩:=zs2 B H cs hr
   simp only[h1,h2];exact⟨hx,trivial⟩
  ·cases hx
 case tup cs=>
  split at hx
  ·rename_i hr
   obtain⟨h1,h2⟩:=zs2 B H cs hr
   simp only[h1,h2];exact⟨hx,trivial⟩
  ·cases hx
 case sc=>exact⟨hx,trivial⟩
 case lit=>exact⟨hx,trivial⟩
 all_goals cases hx
theorem zs2{o:Ops}{ks:List TypeId}(B:Bx X h)(H:Hol X h h'):∀(l:List AV) {l':List AV},zlX o h ks l=some l'->zlX o h' ks l=some l'/\zmk h' ks l=zmk h ks l:=by
 intro l l' hl
 cases l with
 |nil=>exact⟨hl,rfl⟩
 |cons x r=>
  simp only[zlX,zmk]at hl⊢
  split at hl
  ·rename_i hx
   obtain⟨h1,h2⟩:=zAm B H x hx
   simp only[h1,h2]
   split at hl
   ·rename_i hr
    obtain⟨h3,h4⟩:=zs2 B H r hr
    simp only[h3,h4];exact⟨hl,trivial⟩
   ·cases hl
  ·cases hl
end
mutual
theorem zu5{o:Ops}(B:Bx X h)(H:Hol X h h'):∀(x:AV) {x':AV},zhl o h x=some x'->zhl o h' x=some x':=by
 intro x x' hx
 cases x<;>simp only[zhl]at hx⊢
 case sl k g=>
  split at hx
  ·rename_i hr;simp only[zes B H hr];exact hx
  ·cases hx
 case sub k g lo hi=>
  split at hx
  ·rename_i hr;simp only[zes B H hr];exact hx
  ·cases hx
 case agg cs=>
  split at hx
  ·rename_i hr;simp only[zyI B H cs hr];exact hx
  ·cases hx
 case sc=>exact hx
 case lit=>exact hx
 all_goals cases hx
theorem zyI{o:Ops}(B:Bx X h)(H:Hol X h h'):∀(l:List AV) {l':List AV},zn0 o h l=some l'->zn0 o h' l=some l':=by
 intro l l' hl
 cases l with
 |nil=>exact hl
 |cons x r=>
  simp only[zn0]at hl⊢
  split at hl
  ·rename_i hx
   simp only[zu5 B H x hx]
   split at hl
   ·rename_i hr;simp only[zyI B H r hr];exact hl
   ·cases hl
  ·cases hl
end
theorem zu3:∀(caps:List AV) {ix ix':List Nat} {c':List AV},zea caps ix=some (c',ix')->∀k,k∈ix'->k∈ix\/k∈rfs caps:=by
 intro caps
 induction caps with
 |nil=>intro ix ix' c' hl k hk;simp only[zea]at hl;cases hl;exact .inl hk
 |cons c caps ih=>
  intro ix ix' c' hl k hk
  cases c with
  |bptr b off=>
   simp only[zea]at hl;split at hl
   ·split at hl
    ·rename_i hr;cases hl;exact(ih hr k hk).imp id fun h1=>by simp only[rfs,yal];exact .inr h1
    ·cases hl
   ·split at hl
    ·rename_i hr;cases hl;rcases ih hr k hk with h1|h1
     ·rcases yal.1 h1 with h2|h2
      ·exact .inl h2
      ·exact .inr (by simp only[rfs,rf1,yal];exact .inl h2)
     ·exact .inr (by simp only[rfs,yal];exact .inr h1)
    ·cases hl
  |_=>simp[zea]at hl
theorem zKx{o:Ops}(B:Bx X h)(H:Hol X h h'):∀(args:List AV) {ix ix':List Nat} {args':List AV},lend o h args ix=some (args',ix')->lend o h' args ix=some (args',ix')/\∀k,k∈ix'->k∈ix\/k∈rfs args:=by
 intro args
 induction args with
 |nil=>intro ix ix' args' hl;simp only[lend]at hl⊢;cases hl;exact⟨rfl,fun k hk=>.inl hk⟩
 |cons x r ih=>
  intro ix ix' args' hl
  have step:∀{ix1:List Nat} {r':List AV},lend o h r ix1=some (r',ix')->(∀k,k∈ix1->k∈ix\/k∈rf1 x)->lend o h' r ix1=some (r',ix')/\∀k,k∈ix'->k∈ix\/k∈rfs (x::r):=by
   intro ix1 r' hr hm;obtain⟨h1,h2⟩:=ih hr;refine⟨h1,fun k hk=>?_⟩;rcases h2 k hk with h3|h3
   ·exact(hm k h3).imp id fun h4=>by simp only[rfs,yal];exact .inl h4
   ·exact .inr (by simp only[rfs,yal];exact .inr h3)
  unfold lend at hl⊢;split at hl
  ·split at hl
   ·rename_i hc;split at hl
    ·rename_i hr;cases hl
     obtain⟨h1,h2⟩:=step hr (fun k hk=>by
      rcases zu3 _ hc k hk with h1|h1
      ·exact .inl h1
      ·exact .inr (by simp only[rf1];exact h1))
     simp only[hc,h1];exact⟨trivial,h2⟩
    ·cases hl
   ·cases hl
  ·split at hl
   ·rename_i hc;split at hl
    ·rename_i hr;cases hl
     obtain⟨h1,h2⟩:=step hr (fun k hk=>by
      rcases zu3 _ hc k hk with h1|h1
      ·exact .inl h1
      ·exact .inr (by simpa[rfs]using h1))
     simp only[hc,h1];exact⟨trivial,h2⟩
    ·cases hl
   ·cases hl
  ·split at hl
   ·rename_i hx;split at hl
    ·rename_i hr;cases hl;obtain⟨h1,h2⟩:=step hr (fun k hk=>.inl hk);have hv:=zu5 B H _ hx;simp only[hv,h1];exact⟨trivial,h2⟩
    ·cases hl
   ·cases hl
theorem zDv(H:Hol X h h'):∀(ix:List Nat) {s:Store},zfU h ix=some s->(∀k,k∈ix->¬X k)->zfU h' ix=some s:=by
 intro ix
 induction ix with
 |nil=>intro s hs _;exact hs
 |cons b ix ih=>
  intro s hs hn;unfold zfU at hs⊢;rw[H.out b (hn b (by simp))];split at hs
  ·split at hs
   ·split at hs
    ·rename_i hr;simp only[ih hr fun k hk=>hn k (by simp[hk])];rename_i hb;exact hs
    ·cases hs
   ·cases hs
  ·cases hs
theorem zBq:∀(ix:List Nat) {h h' h2 h1 new:Store},Bx X h->Hol X h h'->zbQ ix h2 h=some (h1,new)->(∀k,k∈ix->¬X k)->∃h1',zbQ ix h2 h'=some (h1',new)/\Hol X h1 h1'/\∀k,X k->h1[k]?=h[k]?:=by
 intro ix
 induction ix with
 |nil=>intro h h' h2 h1 new B H hw _;simp only[zbQ]at hw⊢;cases hw;exact⟨h',rfl,H,fun _ _=>rfl⟩
 |cons b ix ih=>
  intro h h' h2 h1 new B H hw hn
  cases h2 with
  |nil=>simp[zbQ]at hw
  |cons e h2=>
   cases e with
   |box t cs=>
    simp only[zbQ]at hw⊢;split at hw
    ·rename_i hc;obtain⟨H1,e1⟩:=Hol.set B H (hn b (by simp)) (.box t cs);obtain⟨h1',h3,h4,h5⟩:=ih (B.keep e1) H1 hw fun k hk=>hn k (by simp[hk])
     exact⟨h1',by simp only[h3],h4,fun k hk=>(h5 k hk).trans (e1 k hk)⟩
    ·cases hw
   |row=>simp[zbQ]at hw
   |it=>simp[zbQ]at hw
theorem zJv(B:Bx X h)(H:Hol X h h')(k:Nat):Hol X (zdw k h) (zdw k h')/\∀j,X j->(zdw k h)[j]?=h[j]?:=by
 by_cases hx:X k
 ·obtain⟨t,cs,e⟩:=B k hx;have e1:zdw k h=h:=by simp only[zdw,e]
  have e2:zdw k h'=h':=by
   simp only[zdw,H.ins k hx,hole];refine List.ext_getElem? fun j=>?_
   by_cases hj:k=j
   ·subst hj;rw[yaq (by rw[H.len];exact B.lt hx),H.ins k hx];rfl
   ·rw[yas hj]
  rw[e1,e2];exact⟨H,fun _ _=>rfl⟩
 ·unfold zdw;rw[H.out k hx];split
  ·exact Hol.set B H hx _
  ·exact⟨H,fun _ _=>rfl⟩
theorem zxP:∀(ks:List Nat) {h h':Store},Bx X h->Hol X h h'->Hol X (shut ks h) (shut ks h')/\∀j,X j->(shut ks h)[j]?=h[j]?:=by
 intro ks
 induction ks with
 |nil=>intro h h' B H;exact⟨H,fun _ _=>rfl⟩
 |cons k ks ih=>
  intro h h' B H;obtain⟨H1,e1⟩:=zJv B H k;obtain⟨H2,e2⟩:=ih (B.keep e1) H1;exact⟨H2,fun j hj=>(e2 j hj).trans (e1 j hj)⟩
theorem zGj{I:Ifc}{f:FuncId}{args:List AV}{h1:Store}{v:AV}{m:Nat}(B:Bx X h)(H:Hol X h h')(hn:∀k,k∈rfs args->¬X k)(he:zde I f args h=some (v,h1,m)):
  ∃h1',zde I f args h'=some (v,h1',m)/\Hol X h1 h1'/\∀k,X k->h1[k]?=h[k]?:=by
 unfold zde at he⊢;split at he
 ·cases he
 rename_i args' ix hl;obtain⟨l1,l2⟩:=zKx B H args hl;have hix:∀k,k∈ix->¬X k:=fun k hk=>hn k ((l2 k hk).resolve_left (by simp))
 split at he
 ·cases he
 rename_i s hs;split at he
 ·cases he
 rename_i r h2 hc;split at he
 ·cases he
 rename_i h3 new hw;obtain⟨h3',w1,w2,w3⟩:=zBq ix B H hw hix;have B3:=B.keep w3;simp only[l1,zDv H ix hs hix,hc,w1];split at he
 ·rename_i hsole;split at he
  ·cases he;exact⟨h3',rfl,w2,w3⟩
  ·cases he
 ·rename_i hsole;split at he
  ·rename_i hrow;cases he;obtain⟨s1,s2⟩:=zxP (refs args) B3 w2;obtain⟨a1,a2⟩:=Hol.append (B3.keep s2) s1 new;rw[H.len]
   try simp only[hrow]
   exact⟨_,rfl,a1,fun k hk=>(a2 k hk).trans ((s2 k hk).trans (w3 k hk))⟩
  ·cases he
theorem zJl{h:Store}:∀(n:Nat) (l seen:List Nat) (k:Nat),k∈seen->k∈zcE h n l seen:=by
 intro n
 induction n with
 |zero=>intro l seen k hk;exact hk
 |succ n ih=>
  intro l seen k hk
  cases l with
  |nil=>exact hk
  |cons x r=>
   unfold zcE;split
   ·exact ih _ _ _ hk
   ·split
    ·exact ih _ _ _ (by simp[hk])
    ·exact ih _ _ _ (by simp[hk])
    ·exact ih _ _ _ (by simp[hk])
    ·exact ih _ _ _ hk
theorem zJk(B:Bx X h)(H:Hol X h h'):∀(n:Nat) (l seen:List Nat),(∀k,k∈zcE h n l seen->¬X k)->zcE h' n l seen=zcE h n l seen:=by
 intro n
 induction n with
 |zero=>intro l seen _;rfl
 |succ n ih=>
  intro l seen hn
  cases l with
  |nil=>rfl
  |cons x r=>
   unfold zcE at hn⊢;split
   ·rename_i hc;simp only[hc]at hn;exact ih _ _ hn
   ·rename_i hc;simp only[hc]at hn
    have hx:¬X x:=fun hx=>by
     obtain⟨t,cs,e⟩:=B x hx;simp only[e]at hn;exact hn x (zJl _ _ _ _ (by simp)) hx
    rw[H.out x hx];split
    ·rename_i e;simp only[e]at hn;exact ih _ _ hn
    ·rename_i e;simp only[e]at hn;exact ih _ _ hn
    ·rename_i e;simp only[e]at hn;exact ih _ _ hn
    ·rename_i e;simp only[e]at hn;exact ih _ _ hn
theorem zK3(H:Hol X h h'){jx:List Nat}:∀(ix:List Nat) {s:Store},subM jx h ix=some s->(∀k,k∈ix->¬X k)->subM jx h' ix=some s:=by
 intro ix
 induction ix with
 |nil=>intro s hs _;exact hs
 |cons b ix ih=>
  intro s hs hn;unfold subM at hs⊢;rw[H.out b (hn b (by simp))];split at hs
  ·split at hs
   ·rename_i he;split at hs
    ·rename_i hr;simp only[he,ih hr fun k hk=>hn k (by simp[hk])];exact hs
    ·cases hs
   ·cases hs
  ·cases hs
theorem zIj{f:Nat->Nat}:∀(ix:List Nat) {h h' h2 h1:Store},Bx X h->Hol X h h'->zjL f ix h2 h=some h1->(∀k,k∈ix->¬X k)->∃h1',zjL f ix h2 h'=some h1'/\Hol X h1 h1'/\∀k,X k->h1[k]?=h[k]?:=by
 intro ix
 induction ix with
 |nil=>
  intro h h' h2 h1 B H hb _;simp only[zjL]at hb⊢;cases hb;obtain⟨a1,a2⟩:=Hol.append B H (h2.map (entR f))
  exact⟨_,rfl,a1,a2⟩
 |cons b ix ih=>
  intro h h' h2 h1 B H hb hn
  cases h2 with
  |nil=>simp[zjL]at hb
  |cons e h2=>
   simp only[zjL]at hb⊢;obtain⟨H1,e1⟩:=Hol.set B H (hn b (by simp)) (entR f e);obtain⟨h1',h3,h4,h5⟩:=ih (B.keep e1) H1 hb fun k hk=>hn k (by simp[hk])
   exact⟨h1',h3,h4,fun k hk=>(h5 k hk).trans (e1 k hk)⟩
theorem zNa{k:Nat}:∀{l:List Nat},k∈l->(zoP l).testBit k=true:=by
 intro l
 induction l with
 |nil=>intro h;cases h
 |cons x r ih=>
  intro h;simp only[zoP,Nat.testBit_or,Bool.or_eq_true];rcases yaJ.1 h with rfl|h
  ·exact .inl (by simp[Nat.testBit_two_pow])
  ·exact .inr (ih h)
theorem zGk{I:Ifc}{f:FuncId}{args:List AV}{h1:Store}{v:AV}{m:Nat}(B:Bx X h)(H:Hol X h h')(hm:∀k,X k->m<=2\/(m-3).testBit k=false)(he:zfg I f args h=some (v,h1,m)):
  ∃h1',zfg I f args h'=some (v,h1',m)/\Hol X h1 h1'/\∀k,X k->h1[k]?=h[k]?:=by
 unfold zfg at he⊢
 have hmm:m=zoH (zcE h 64 (rfs args) []):=by
  unfold zlD at he
  (repeat' split at he)<;>first|(cases he;done)|(cases he;rfl)
 have hix:∀k,k∈zcE h 64 (rfs args) []->¬X k:=fun k hk hx=>by
  rcases hm k hx with h2|h2
  ·rw[hmm]at h2
   cases hl:zcE h 64 (rfs args) []with
   |nil=>rw[hl]at hk;cases hk
   |cons x r=>rw[hl]at h2;simp only[zoH]at h2;omega
  ·rw[hmm]at h2
   cases hl:zcE h 64 (rfs args) []with
   |nil=>rw[hl]at hk;cases hk
   |cons x r=>
    rw[hl]at h2 hk;have e3:zoH (x::r)-3=zoP (x::r):=by simp[zoH]
    rw[e3,zNa hk]at h2;cases h2
 rw[zJk B H _ _ _ hix];generalize zcE h 64 (rfs args) []=ix at he hix;unfold zlD at he⊢;split at he
 ·cases he
 rename_i args' ha;split at he
 ·cases he
 rename_i s hs;split at he
 ·cases he
 rename_i hnd;split at he
 ·cases he
 rename_i r h2 hc;split at he
 ·cases he
 rename_i h3 hb;obtain⟨h3',b1,b2,b3⟩:=zIj ix B H hb hix;cases he;rw[H.len];simp only[zK3 H ix hs hix,hnd,hc,b1];exact⟨h3',rfl,b2,b3⟩
def zxZ:Prim->Prop
 | .look g=>∀(X:Nat->Prop) (o:Ops) (h h':Store) (args:List AV) (v:AV),Bx X h->Hol X h h'->g o h args=some v->g o h' args=some v
 |_=>True
theorem zGR{o:Ops}{p:Prim}{args:List AV}{h1:Store}{v:AV}{m:Nat}(hp:zxZ p)(B:Bx X h)(H:Hol X h h')(hn:∀k,k∈rfs args->¬X k)(he:zcQ o p args h=some (v,h1,m)):
  ∃h1',zcQ o p args h'=some (v,h1',m)/\Hol X h1 h1'/\∀k,X k->h1[k]?=h[k]?:=by
 cases p with
 |clone e bytes=>
  simp only[zcQ]at he⊢;split at he
  ·split at he
   ·rename_i hx;simp only[znt B H hx];split at he
    ·rename_i hr;cases he;obtain⟨a1,a2⟩:=Hol.append B H [.row e 0 false _]
     try simp only[hr]
     rw[H.len];exact⟨_,rfl,a1,a2⟩
    ·cases he
   ·cases he
  ·cases he
 |insert e bytes=>
  simp only[zcQ]at he⊢;split at he
  ·split at he
   ·rename_i hx;simp only[znt B H hx];split at he
    ·rename_i hr;have hk:=B.row hr;simp only[zes B H hr];split at he
     ·rename_i hee;rw[if_pos hee];split at he
      ·rename_i e1 e2 e3;cases he;obtain⟨a1,a2⟩:=Hol.set B H hk (.row e (_+1) false _)
       try simp only[e1,e2,e3]
       exact⟨_,rfl,a1,a2⟩
      ·cases he
     ·cases he
    ·cases he
   ·cases he
  ·cases he
 |mv=>simp[zcQ]at he
 |sort e f=>
  simp only[zcQ]at he⊢;split at he
  ·rename_i k g f' b;split at he
   ·rename_i hr hb;have hk:=B.row hr;have hxb:¬X b:=hn b (by simp[rfs,rf1]);simp only[zes B H hr,H.out b hxb,hb];split at he
    ·rename_i hee;rw[if_pos hee];split at he
     ·rename_i e1;cases he;obtain⟨a1,a2⟩:=Hol.set B H hk (.row e g false _)
      try simp only[e1]
      exact⟨_,rfl,a1,a2⟩
     ·cases he
    ·cases he
   ·cases he
  ·cases he
 |look g=>
  simp only[zcQ,yap]at he⊢;obtain⟨v',hg,hx⟩:=he;cases hx;exact⟨h',⟨v,hp X o h h' args v B H hg,rfl⟩,H,fun _ _=>rfl⟩
def zv8(I:Ifc):Prop:=∀f p,I.prim f=some p->zxZ p
theorem zsK{I:Ifc}(hL:zv8 I){f:FuncId}{args:List AV}{h1:Store}{v:AV}{m:Nat}(B:Bx X h)(H:Hol X h h')(hn:∀k,k∈rfs args->¬X k)(hm:∀k,X k->m<=2\/(m-3).testBit k=false)(he:zb5 I f args h=some (v,h1,m)):
  ∃h1',zb5 I f args h'=some (v,h1',m)/\Hol X h1 h1'/\∀k,X k->h1[k]?=h[k]?:=by
 unfold zb5 at he⊢;split at he
 ·exact zGj B H hn he
 ·exact zGk B H hm he
 ·rename_i p _ hp;have hl:=hL f p hp;exact zGR hl B H hn he
mutual
theorem zKR:∀(sh:Sh) (v:AV),rf1 (zkO sh v)=rf1 v:=by
 intro sh v
 unfold zkO
 split
 ·split
  ·rfl
  ·split<;>rfl
 ·rename_i shs cs;simp only[rf1];exact ztG shs cs
 ·rfl
theorem ztG:∀(shs:List Sh) (l:List AV),rfs (ze0 shs l)=rfs l:=by
 intro shs l
 unfold ze0
 split
 ·rename_i sh shs v vs;simp only[rfs];rw[zKR sh v,ztG shs vs]
 ·rfl
end
theorem zHo:∀(a b:List AV),rfs (a++b)=rfs a++rfs b:=by
 intro a b
 induction a with
 |nil=>rfl
 |cons x a ih=>simp only[List.cons_append,rfs,ih,List.append_assoc]
theorem zEH{o:Ops}{n:Nat}{p x:AV}{h1:Store}(B:Bx X h)(H:Hol X h h')(hn:∀k,k∈rf1 p->¬X k)(he:storeAt o h n p x=some h1):∃h1',storeAt o h' n p x=some h1'/\Hol X h1 h1'/\∀k,X k->h1[k]?=h[k]?:=by
 unfold storeAt at he⊢;split at he
 ·rename_i hc;rw[if_pos hc];split at he
  ·rename_i b off;have hb:=hn b (by simp[rf1]);rw[H.out b hb];split at he
   ·rename_i t cs hbx;split at he
    ·rename_i hle;cases he
     try simp only[hbx]
     rw[if_pos hle];obtain⟨a1,a2⟩:=Hol.set B H hb (.box t (zeQ cs off x.cells));exact⟨_,rfl,a1,a2⟩
    ·cases he
   ·cases he
  ·rename_i k g i off;split at he
   ·rename_i x' hx;simp only[zu5 B H x hx];obtain⟨s1,s2⟩:=zxP (zeo x) B H;split at he
    ·rename_i hd
     try simp only[hd]
     split at he
     ·rename_i e xs hr;have hk:=(B.keep s2).row hr;simp only[zes (B.keep s2) s1 hr];split at he
      ·rename_i y hy
       try simp only[hy]
       split at he
       ·rename_i hle;cases he;rw[if_pos hle];obtain⟨a1,a2⟩:=Hol.set (B.keep s2) s1 hk (.row e g false (o.lset xs i (zkH y off x'.cells)));exact⟨_,rfl,a1,fun j hj=>(a2 j hj).trans (s2 j hj)⟩
       ·cases he
      ·cases he
     ·cases he
    ·cases he
   ·cases he
  ·cases he
 ·cases he
theorem zKe{I:Ifc}(hL:zv8 I){i:Ir}{t:List AV}{h1:Store}{v:AV}{m:Nat}(hf:frOk i=true)(B:Bx X h)(H:Hol X h h')(hn:∀k,k∈rfs (i.ods.map (od t))->¬X k)(hm:∀k,X k->m<=2\/(m-3).testBit k=false)(he:evOp I i t h=some (v,h1,m)):
  ∃h1',evOp I i t h'=some (v,h1',m)/\Hol X h1 h1'/\∀k,X k->h1[k]?=h[k]?:=by
 cases i
 case call f shs args=>
  simp only[evOp]at he⊢;exact zsK hL B H (fun k hk=>hn k (by rw[ztG]at hk;exact hk)) hm he
 case callz f shs kz args=>
  simp only[evOp]at he⊢;split at he
  ·rename_i v0 h0 m0 hc;split at he
   ·rename_i v' hv;simp only[ybh,Prod.mk.injEq]at he;obtain⟨rfl,rfl,rfl⟩:=he
    obtain⟨h0',c1,c2,c3⟩:=zsK hL B H (fun k hk=>hn k (by rw[ztG]at hk;exact hk)) (fun k hk=>(hm k hk).imp (fun h2=>by omega) (fun h2=>by
     have hb:zkJ ((zd2 h0 kz v0).filter fun k=>decide (k<h.length))<=1:=by cases (zd2 h0 kz v0).filter fun k=>decide (k<h.length)<;>simp[zkJ]
     by_cases hm0:m0<=1
     ·have:max m0 (zkJ ((zd2 h0 kz v0).filter fun k=>decide (k<h.length)))-3=m0-3:=by omega
      rw[this]at h2;exact h2
     ·have:max m0 (zkJ ((zd2 h0 kz v0).filter fun k=>decide (k<h.length)))=m0:=by omega
      rw[this]at h2;exact h2)) hc
    obtain⟨s1,s2⟩:=zxP (zd2 h0 kz v0) (B.keep c3) c2;obtain⟨k1,k2⟩:=zAm (B.keep c3) c2 v0 hv;simp only[c1,k1,k2,H.len];exact⟨_,rfl,s1,fun k hk=>(s2 k hk).trans (c3 k hk)⟩
   ·cases he
  ·cases he
 case callv x args=>
  simp only[evOp]at he⊢;split at he
  ·rename_i f caps hx
   try simp only[hx]
   refine zsK hL B H (fun k hk=>hn k ?_) hm he;simp only[Ir.ods,yaT,rfs,hx,rf1,yal];rw[zHo,yal]at hk;exact hk.symm
  ·cases he
 case store n p x=>
  simp only[evOp]at he⊢;split at he
  ·rename_i hst;cases he;obtain⟨h1',c1,c2,c3⟩:=zEH B H (fun k hk=>hn k (by simp only[Ir.ods,yaT,rfs,yal];exact .inl hk)) hst;simp only[c1];exact⟨_,rfl,c2,c3⟩
  ·cases he
 case box ty n x=>
  simp only[evOp]at he⊢;split at he
  ·rename_i hc;cases he;rw[if_pos hc,H.len];obtain⟨a1,a2⟩:=Hol.append B H [.box ty (od t x).cells];exact⟨_,rfl,a1,a2⟩
  ·cases he
 case bslr e n sh ps=>
  simp only[evOp]at he⊢;split at he
  ·cases he;rw[H.len];obtain⟨a1,a2⟩:=Hol.append B H [.row e 0 false _];exact⟨_,rfl,a1,a2⟩
  ·cases he
 case app e b x y=>
  simp only[evOp]at he⊢;split at he
  ·rename_i ys hy;simp only[znt B H hy];split at he
   ·rename_i hx;split at he
    ·rename_i hr;cases he
     try simp only[hx,hr]
     rw[H.len];obtain⟨a1,a2⟩:=Hol.append B H [.row e 0 false ys];exact⟨_,rfl,a1,a2⟩
    ·cases he
   ·rename_i hne hx;split at he
    ·rename_i hee;split at he
     ·rename_i hr;cases he;refine⟨h',?_,H,fun _ _=>rfl⟩
      first|rfl|(try rw[if_pos hee])
     ·cases he
    ·cases he
   ·rename_i k g hx;split at he
    ·rename_i hr;have hk:=B.row hr;split at he
     ·rename_i hee;split at he
      ·rename_i hrm;cases he;simp only[hx,zes B H hr];rw[if_pos hee]
       try simp only[hrm]
       obtain⟨a1,a2⟩:=Hol.set B H hk (.row e (g+1) false _);exact⟨_,rfl,a1,a2⟩
      ·cases he
     ·cases he
    ·cases he
   ·rename_i k g lo hi hx;split at he
    ·rename_i hs;cases he
     try simp only[hx]
     unfold zuA at hs⊢;split at hs
     ·rename_i hr;have hk:=B.row hr;simp only[zes B H hr];split at hs
      ·rename_i hee;rw[if_pos hee];split at hs
       ·cases hs
       ·rename_i e0
        try simp only[e0]
        split at hs
        ·cases hs
        ·rename_i e1
         try simp only[e1]
         split at hs
         ·cases hs
         ·rename_i e2;cases hs
          try simp only[e2]
          obtain⟨a1,a2⟩:=Hol.set B H hk (.row e g false _);exact⟨_,rfl,a1,a2⟩
      ·cases hs
     ·cases hs
    ·cases he
   ·cases he
  ·cases he
 all_goals cases hf
end Go.Ab
namespace Go.Ab
open Go
open Bool renaming eq_iff_iff->ybB,false_eq_true->ycc
open Go.Builtin renaming append_->yaV,firstCells->ybo,lenOf->ycg,zeroCells->yaX
open Go.Instr renaming fill->ych,sliceBounds->ybb
open Go.IntKind renaming i64->ybD,wrap_i64->ybP
open Go.Op renaming bytesLess->ybX,eqFields->yb4,equalIn->ycw
open Go.Program renaming cellsOf->ybF
open Go.Result renaming andThen_ok->yaj
open Go.Sem renaming run_bind->yaw,run_pure->ybf
open Go.Value renaming bool->ycy,cells->ybG,oneCell'->ycp
open Go.World renaming cell?_of_block->yba
open List renaming all_eq_true->yaS,append_assoc->yao,append_nil->ybe,cons_append->ybQ,drop_append->ycq,drop_drop->ybL,drop_eq_getElem_cons->yaF,drop_eq_nil_of_le->yaL,eq_nil_of_length_eq_zero->yai,flatMap_cons->ybm,getElem?_append_left->yah,getElem?_drop->ybu,getElem?_eq_getElem->yad,getElem?_eq_none->yau,getElem?_eq_some_iff->yae,getElem?_set_ne->yas,getElem?_set_self->yaq,getElem?_take->yaM,length_append->yaf,length_cons->yav,length_drop->yar,length_map->yaK,length_range->ybS,length_set->ybU,length_take->yan,map_cons->yaT,mem_append->yal,mem_cons->yaJ,mem_cons_of_mem->ya3,mem_cons_self->ybp,mem_of_mem_drop->yaG,mem_of_mem_take->yaz,nil_append->ya4,replicate->yaA,size_toArray->ybc,take_append_drop->ya1,take_left->ya9,take_of_length_le->yaN,take_take->yco
open Nat renaming add_assoc->yaU,add_mul->yaE,add_zero->yce,le_refl->yag,lt_of_lt_of_le->yaW,mul_le_mul_right->yaD,one_mul->ybR,zero_add->yaQ,zero_le->yaP
open Ne renaming symm->ycb
open Option renaming map_some->yb0
open UInt8 renaming lt_iff_toNat_lt->ybY
open _root_.Array renaming eq_empty_of_size_eq_zero->ybt,ext'->ybO,foldl_toList->ybV,length_toList->ya8,toList_append->yb2,toList_map->yb6
def Cd.cnt:Cd->Nat
 | .seq a b=>a.cnt+b.cnt
 | .cond _ a b=>a.cnt+b.cnt
 | .block _ a=>a.cnt
 | .loop _ a=>a.cnt+1
 | .seg _ _ a=>a.cnt+1
 |_=>0
def Cd.cutAt(cs:List Cd):Nat->Cd->Cd
 |n,.seq a b=>.seq (a.cutAt cs n) (b.cutAt cs (n+a.cnt))
 |n,.cond c a b=>.cond c (a.cutAt cs n) (b.cutAt cs (n+a.cnt))
 |n,.block i a=>.block i (a.cutAt cs n)
 |n,.loop lv a=>.loop lv (cs.getD (n+a.cnt) .skip)
 |n,.seg lv af a=>.seg lv af (cs.getD (n+a.cnt) .skip)
 |_,c=>c
def Cd.nth:Nat->Cd->Cd
 |k,.seq a b=>match Nat.blt k a.cnt with|true=>a.nth k|false=>b.nth (k-a.cnt)
 |k,.cond _ a b=>match Nat.blt k a.cnt with|true=>a.nth k|false=>b.nth (k-a.cnt)
 |k,.block _ a=>a.nth k
 |k,.loop _ a=>match Nat.blt k a.cnt with|true=>a.nth k|false=>a
 |k,.seg _ _ a=>match Nat.blt k a.cnt with|true=>a.nth k|false=>a
 |_,c=>c
def fnF(o:Option Fn)(cs:List Cd):Fn:=match o with|some g=>⟨g.ntmps,g.results,g.rsh,g.md,g.body.cutAt cs 0⟩|none=>⟨0,[],[],.lit,.skip⟩
def bdF(o:Option Fn)(k:Nat)(cs:List Cd):Cd:=match o with|some g=>(g.body.nth k).cutAt cs (k-(g.body.nth k).cnt)|none=>.skip
structure Lit{α:Type}(x:α) where
 v:α
 h:x=v
def lit{α:Type}(x:α)(l:Lit x:=by exact⟨_,by cbv⟩):α:=l.v
theorem zz2(s:ByteArray)(n:Nat):∀(i:Nat) (r:List UInt8),s.size-i=n->ByteArray.toList.loop s i r=r.reverse++s.data.toList.drop i:=by
 induction n with
 |zero=>
  intro i r h;unfold ByteArray.toList.loop;have hs:s.size=s.data.toList.length:=(ya8 (xs:=s.data)).symm
  rw[if_neg (by omega),yaL (by omega)];simp
 |succ n ih=>
  intro i r h;unfold ByteArray.toList.loop;have hs:s.size=s.data.toList.length:=(ya8 (xs:=s.data)).symm;rw[if_pos (by omega),ih (i+1) _ (by omega)];have hi:i<s.data.toList.length:=by omega
  have:s.data.toList.drop i=s.data.toList[i]::s.data.toList.drop (i+1):=yaF hi;rw[this,List.reverse_cons,yao];congr 1
  have hg:s.get! i=s.data.toList[i]:=by
   simp only[ByteArray.get!];rw[getElem!_pos s.data i (show i<s.size by omega)];simp
  rw[hg];rfl
theorem zkI(s:ByteArray):s.toList=s.data.toList:=by
 unfold ByteArray.toList;rw[zz2 s (s.size-0) 0 [] rfl];simp
section
variable {P:Program} {w:World}
theorem zNc{op:BinOp}{t:TypeId}{k:IntKind}{a b:Int}{v:Value}(h1:op≠ .shl)(h2:op≠ .shr)(h:zyD Ops.std op k a b=some v):(binOp op t (.int k a) (.int k b)).run P w=.ok v w/\plainSc v=true:=by
 cases op<;>simp only[zyD,Ops.std,ne_eq,not_true_eq_false]at h h1 h2
 case quo=>
  split at h
  ·cases h
  ·rename_i hb;have hb':b≠0:=by simpa using hb
   cases h;simp[binOp,Op.intDiv,hb',plainSc]
 case rem=>
  split at h
  ·cases h
  ·rename_i hb;have hb':b≠0:=by simpa using hb
   cases h;simp[binOp,Op.intDiv,hb',plainSc]
 all_goals first
  |(cases h;done)
  |(cases h;simp[binOp,Op.intArith,Op.intBits,Op.intCmp,plainSc,Go.bits];done)
  |(cases h;simp[binOp,Op.intArith,Op.intBits,Op.intCmp,plainSc,Go.bits];rw[ybB];simp;done)
  |(exact absurd rfl h1)
  |(exact absurd rfl h2)
theorem zPZ(a b:List UInt8):(ybX a b||a==b)=!Op.bytesLess b a:=by
 induction a generalizing b with
 |nil=>cases b<;>simp[ybX]
 |cons x a ih=>
  cases b with
  |nil=>simp[ybX]
  |cons y b=>
   simp only[ybX];have:=ih b;rcases Nat.lt_trichotomy x.toNat y.toNat with h|h|h
   ·have h1:x<y:=ybY.2 h;have h2:¬y<x:=fun h'=>by have:=ybY.1 h';omega
    have h3:(y==x)=false:=by rw[beq_eq_false_iff_ne];rintro rfl;omega
    simp[h1,h2,h3]
   ·have:x=y:=UInt8.toNat_inj.1 h;subst this;have h2:¬x<x:=fun h'=>by have:=ybY.1 h';omega
    simp only[h2,decide_false,Bool.false_or,beq_self_eq_true,Bool.true_and,List.cons_beq_cons];exact ih b
   ·have h1:y<x:=ybY.2 h;have h2:¬x<y:=fun h'=>by have:=ybY.1 h';omega
    have h3:(x==y)=false:=by rw[beq_eq_false_iff_ne];rintro rfl;omega
    simp[h1,h2,h3]
theorem zNF{op:BinOp}{t:TypeId}{a b:ByteArray}{v:Value}(h:zy6 Ops.std op a b=some v):(binOp op t (.string a) (.string b)).run P w=.ok v w/\plainSc v=true:=by
 have e1:(a.toList==b.toList)=decide (a.data.toList=b.data.toList):=by rw[zkI,zkI,ybB];simp
 have e2:=zPZ a.data.toList b.data.toList;cases op<;>simp only[zy6,Ops.std]at h
 case add=>
  split at h
  ·rename_i s hs;cases h;split at hs
   ·rename_i hle;cases hs;have:¬(((a.size+b.size:Nat):Int)>ybD.max):=by simp[IntKind.max,IntKind.signed,IntKind.bits];omega
    simp only[binOp,Op.stringOp,this,if_false];simp[plainSc]
   ·cases hs
  ·cases h
 all_goals first
  |(cases h;done)
  |(cases h;simp[binOp,Op.stringOp,plainSc,zkI];done)
  |(cases h;simp[binOp,Op.stringOp,plainSc,zkI];rw[ybB];simp;done)
  |(cases h;simp only[binOp,Op.stringOp,plainSc,zkI,e2];simp)
theorem zJu{t:TypeId}{k k':IntKind}{a b:Int}(hb:Ops.std.ilt b 0=false):
  (binOp .shl t (.int k a) (.int k' b)).run P w=.ok (.int k (Ops.std.ishl k a b)) w/\(binOp .shr t (.int k a) (.int k' b)).run P w=.ok (.int k (Ops.std.ishr k a b)) w:=by
 have hb':¬b<0:=by simpa[Ops.std]using hb
 simp[binOp,Op.shift,hb',Ops.std]
theorem zxs{op:BinOp}{t:TypeId}{x y:Operand}{a b:Value}(ha:plainSc a=true)(hn:a≠ .nilIface):(eqGuard op t x y a b).run P w=.ok () w:=by
 unfold eqGuard;cases op<;>first|rfl|(cases a<;>first|(simp[plainSc]at ha;done)|rfl|exact absurd rfl hn)
theorem zuQ(d:Nat){t:TypeId}{a b:Bool}(ht:P.underlying t=some .bool):(ycw (d+1) t (.bool a) (.bool b)).run P w=.ok (a==b) w:=by
 simp[ycw,run_underlying ht]
theorem zMO{t:TypeId}{a b:Bool}(ht:P.underlying t=some .bool):(binOp .eql t (.bool a) (.bool b)).run P w=.ok (.bool (a==b)) w/\(binOp .neq t (.bool a) (.bool b)).run P w=.ok (.bool (!(a==b))) w:=by
 have h:(Op.equal t (.bool a) (.bool b)).run P w=.ok (a==b) w:=zuQ 9999 ht;constructor
 ·show(do pure (ycy (<-Op.equal t (.bool a) (.bool b))):Sem Value).run P w=_;simp only[yaw,h,yaj,ybf]
 ·show(do pure (ycy (!(<-Op.equal t (.bool a) (.bool b)))):Sem Value).run P w=_;simp only[yaw,h,yaj,ybf]
theorem zJY{t:TypeId}(h:zkK P t=some .bool):P.underlying t=some .bool:=by
 unfold zkK at h;split at h<;>first|(cases h;done)|assumption
theorem zJq{op:BinOp}{c:Cls}{t:TypeId}(hc:zkK P t=some c){x y:AV}{xv yv:Value}{v:AV}(hx:x=.sc xv)(hy:y=.sc yv)(px:plainSc xv=true)(h:zmn Ops.std op c x y=some v)(X Y:Operand):
  ∃v',v=.sc v'/\plainSc v'=true/\(do eqGuard op t X Y xv yv;binOp op t xv yv:Sem Value).run P w=.ok v' w:=by
 subst hx hy;unfold zmn at h;split at h
 ·rename_i k a k' b e1 e2;cases e1;cases e2;have hg:=zxs (P:=P) (w:=w) (op:=op) (t:=t) (x:=X) (y:=Y) (a:=.int k a) (b:=.int k' b) px (by intro h;cases h);split at h
  ·split at h
   ·cases h
   ·cases h;rename_i hb;exact⟨_,rfl,rfl,by simp only[yaw,hg,yaj];exact(zJu hb).1⟩
  ·split at h
   ·cases h
   ·cases h;rename_i hb;exact⟨_,rfl,rfl,by simp only[yaw,hg,yaj];exact(zJu hb).2⟩
  ·split at h
   ·rename_i hk;subst hk;split at h
    ·cases h;rename_i n1 n2 _ v' hv;obtain⟨h1,h2⟩:=zNc (P:=P) (w:=w) (t:=t) n1 n2 hv;exact⟨_,rfl,h2,by simp only[yaw,hg,yaj];exact h1⟩
    ·cases h
   ·cases h
 ·rename_i a b e1 e2;cases e1;cases e2;have hg:=zxs (P:=P) (w:=w) (op:=op) (t:=t) (x:=X) (y:=Y) (a:=.string a) (b:=.string b) px (by intro h;cases h);split at h
  ·cases h;rename_i v' hv;obtain⟨h1,h2⟩:=zNF (P:=P) (w:=w) (t:=t) hv;exact⟨_,rfl,h2,by simp only[yaw,hg,yaj];exact h1⟩
  ·cases h
 ·rename_i a b e1 e2;cases e1;cases e2;have hg:=zxs (P:=P) (w:=w) (op:=op) (t:=t) (x:=X) (y:=Y) (a:=.bool a) (b:=.bool b) px (by intro h;cases h);have hb:=zMO (P:=P) (w:=w) (a:=a) (b:=b) (zJY hc);split at h
  ·cases h;exact⟨_,rfl,rfl,by simp only[yaw,hg,yaj];exact hb.1⟩
  ·cases h;exact⟨_,rfl,rfl,by simp only[yaw,hg,yaj];exact hb.2⟩
  ·cases h
 ·cases h
theorem zoV{o:Ops}{op:BinOp}{c:Cls}{x y v:AV}(h:zmn o op c x y=some v):∃a b,x=.sc a/\y=.sc b:=by
 unfold zmn at h;split at h
 ·exact⟨_,_,rfl,rfl⟩
 ·exact⟨_,_,rfl,rfl⟩
 ·exact⟨_,_,rfl,rfl⟩
 ·cases h
theorem zEF{E:Env}{op:BinOp}{c:Cls}{t:TypeId}(hc:zkK P t=some c){x y v:AV}{xv yv:Value}(hx:VL E [x] [xv])(hy:VL E [y] [yv])(h:zmn Ops.std op c x y=some v)(X Y:Operand):
  ∃v',v=.sc v'/\(do eqGuard op t X Y xv yv;binOp op t xv yv:Sem Value).run P w=.ok v' w/\VL E [v] [v']:=by
 obtain⟨a,b,rfl,rfl⟩:=zoV h;obtain⟨rfl,hp⟩:=hx.sc_inv;obtain⟨rfl,_⟩:=hy.sc_inv;obtain⟨v',rfl,h1,h2⟩:=zJq hc rfl rfl hp h X Y;exact⟨v',rfl,h2,.data (.sc h1 .nil) .nil⟩
theorem zIm(a b:ByteArray):(a==b)=decide (a.data.toList=b.data.toList):=by
 cases a with|mk a=>cases b with|mk b=>
 show(a==b)=_;rw[ybB];simp
theorem zsP(d:Nat){c:Cls}{t:TypeId}(hc:zkK P t=some c){x y:AV}{xv yv:Value}{r:Bool}(hx:x=.sc xv)(hy:y=.sc yv)(h:zmn Ops.std .eql c x y=some (.sc (.bool r))):
  (ycw (d+1) t xv yv).run P w=.ok r w:=by
 subst hx hy;unfold zkK at hc;unfold zmn at h;split at h
 ·rename_i k a k' b e1 e2;cases e1;cases e2;split at hc<;>cases hc;rename_i k2 hu;simp only[zyD,Ops.std]at h;split at h
  ·cases h;subst_vars;simp[ycw,run_underlying hu];rw[ybB];simp
  ·cases h
 ·rename_i a b e1 e2;cases e1;cases e2;split at hc<;>cases hc;rename_i hu;simp only[zy6,Ops.std]at h;cases h;simp[ycw,run_underlying hu];rw[zIm];simp
 ·rename_i a b e1 e2;cases e1;cases e2;split at hc<;>cases hc;rename_i hu;simp only[Ops.std]at h;cases h;exact zuQ d hu
 ·cases h
end
def Comes1(P:Program)(base:Base)(o:Oper)(a:Act)(h:Store)(E:Env)(v:AV)(h':Store):Prop:=
 ∃v' E',((execOp a.eval o).run P E.w=.ok (.value v') E'.w\/((execOp a.eval o).run P E.w=.ok .skip E'.w/\v'=undef))/\Rel base h' E'/\Step h E h' E'/\VL E' [v] [v']
theorem Comes1.same{P:Program}{base:Base}{o:Oper}{a:Act}{h:Store}{E:Env}{v:AV}(R:Rel base h E){v':Value}(hr:(execOp a.eval o).run P E.w=.ok (.value v') E.w)(hv:VL E [v] [v']):Comes1 P base o a h E v h:=
 ⟨v',E,.inl hr,R,Step.refl h E,hv⟩
theorem zbJ{α β:Type}{f:α->β}{x:Option α}{b:β}(h:x.map f=some b):∃a,x=some a/\f a=b:=by simpa using h
theorem zuU(new:List Value):∀(cs:Array Value) (off j:Nat),off+j+new.length<=cs.size->
  ((new.zipIdx j).foldl (fun cs (c,j)=>cs.setIfInBounds (off+j) c) cs).toList=cs.toList.take (off+j)++new++cs.toList.drop (off+j+new.length):=by
 induction new with
 |nil=>intro cs off j h;simp
 |cons c new ih=>
  intro cs off j h;simp only[yav]at h;rw[List.zipIdx_cons,List.foldl_cons,ih _ _ _ (by simp;omega)];simp only[Array.toList_setIfInBounds];have hlt:off+j<cs.toList.length:=by simp;omega
  have hl:(cs.toList.take (off+j)).length=off+j:=by simp;omega
  generalize hp:off+j=p at *
  rw[show off+(j+1)=p+1 by omega]
  rw[show(cs.toList.set p c).take (p+1)=cs.toList.take p++[c]by
   rw[List.take_add_one,List.take_set_of_le (yag _),yaq hlt];rfl]
  rw[List.drop_set_of_lt (by omega)];simp only[yav,yao,ybQ,ya4];congr 3;congr 1;omega
theorem zCr(place:Nat->Option (Nat×Nat))(cells:Array Value)(i off size:Nat)(v:Value)(rest:List (Nat×Value))(hp:place i=some (off,size))(hs:v.cells.size=size)(hle:off+size<=cells.size):
  ∃cells',cells'.size=cells.size/\cells'.toList=cells.toList.take off++v.cells.toList++cells.toList.drop (off+v.cells.toList.length)/\ych place cells ((i,v)::rest)=ych place cells' rest:=by
 refine⟨v.cells.zipIdx.foldl (fun cs (c,j)=>cs.setIfInBounds (off+j) c) cells,?_,?_,?_⟩
 ·rw[<-ya8,<-ybV,Array.toList_zipIdx,zuU v.cells.toList cells off 0 (by simp;omega)];simp;omega
 ·rw[<-ybV,Array.toList_zipIdx,zuU v.cells.toList cells off 0 (by simp;omega)];simp
 ·simp[ych,hp,hs];omega
theorem zmL{E:Env}{x:AV}{v:Value}(h:VL E [x] [v])(h1:x.cells.all AV.one=true):VL E x.cells v.cells.toList:=by
  cases x with
  |agg cs=>obtain⟨vs,rfl,h1⟩:=h.agg_inv;simpa[AV.cells,ybG]using h1
  |tup=>simp[AV.cells,AV.one]at h1
  |bad=>simp[AV.cells,AV.one]at h1
  |sc v=>
            obtain⟨rfl,hp⟩:=h.sc_inv;have:(v.cells)=#[v]:=by cases v<;>simp_all[plainSc,ybG]
            simpa[AV.cells,this]using h
  |lit=>obtain⟨_,_,_,rfl,_⟩:=h.lit_inv.lit_inv;simpa[AV.cells,ybG]using h
  |sl=>
          have h1:=h.sl_inv.2.2.1;have:v.cells=#[v]:=by cases v<;>simp_all[ycp,ybG]
          simpa[AV.cells,this]using h
  |sub=>
           have h1:=h.sub_inv.2.2.1;have:v.cells=#[v]:=by cases v<;>simp_all[ycp,ybG]
           simpa[AV.cells,this]using h
  |bptr=>obtain⟨_,rfl⟩:=h.bptr_inv;simpa[AV.cells,ybG]using h
  |rptr=>
            have h1:v.oneCell'=true:=by cases h with
              |data h t=>cases h
              |rptr _ _ h1 _ _=>exact h1
            have:v.cells=#[v]:=by cases v<;>simp_all[ycp,ybG]
            simpa[AV.cells,this]using h
  |lptr=>obtain⟨_,_,_,_,_,_,rfl⟩:=h.lptr_inv;simpa[AV.cells,ybG]using h
  |fn=>obtain⟨_,rfl,_⟩:=h.fn_inv;simpa[AV.cells,ybG]using h
theorem zAA{E:Env}{cs new:List AV}{us news:List Value}(h:VL E cs us)(h':VL E new news)(off:Nat):VL E (zeQ cs off new) (us.take off++news++us.drop (off+news.length)):=by
 rw[h'.length];exact((h.take off).append h').append (h.drop _)
theorem zBj{cs new:List AV}{off:Nat}(h:off+new.length<=cs.length):(zeQ cs off new).length=cs.length:=by
 simp[zeQ];omega
theorem zHq{P:Program}{w:World}(fs:List Field):(∀f,f∈fs->(P.info? f.type).isSome=true)->
  (fs.mapM (fun f=>(do pure (f.offset,<-sizeOf f.type):Sem (Nat×Nat)))).run P w=.ok (fs.map fun f=>(f.offset,P.cellsOf f.type)) w:=by
 induction fs with
 |nil=>intro _;rfl
 |cons f fs ih=>
  intro h;rw[List.mapM_cons];simp only[yaw,zbw (h f (ybp ..)),yaj,ybf,ih (fun g hg=>h g (ya3 _ hg)),yaT]
theorem za7{P:Program}{E:Env}{t:TypeId}{z:AV}(h:zbb P t=some z):∃i zv,P.info? t=some i/\i.zero=some zv/\zv.cells.size=P.cellsOf t/\VL E z.cells zv.cells.toList/\VL E [z] [zv]:=by
 unfold zbb at h;split at h
 ·rename_i i hi;split at h
  ·rename_i zv hz;split at h
   ·rename_i hsz;have hc:P.cellsOf t=i.size:=by simp[ybF,hi]
    split at h
    ·rename_i cs;obtain⟨l,hl,rfl⟩:=zbJ h;have:=(zyv (E:=E) hl).vl;exact⟨i,_,hi,hz,by rw[hc];exact hsz,by simpa[AV.cells,ybG]using this,by simpa using VL.agg this .nil⟩
    ·rename_i hne;have hd:=zp6 (E:=E) h;have hv:VL E [z] [zv]:=.data hd .nil
     have h1:z.cells.all AV.one=true:=by
      unfold znT at h;split at h
      ·cases h;rfl
      ·split at h
       ·cases h;rfl
       ·cases h
     exact⟨i,zv,hi,hz,by rw[hc];exact hsz,zmL hv h1,hv⟩
   ·cases h
  ·cases h
 ·cases h
theorem zGq{P:Program}{E:Env}{t:List AV}{a:Act}(ht:VL E t a.tmps.toList){s:TypeId}{fs:Array Field}(hs:P.underlying s=some (.struct fs))(parts:List (Nat×Operand)):
  ∀{l:List (Nat×Nat×Od)} {cells:List AV} {us:Array Value} {cs:List AV},zmO P s parts=some l->VL E cells us.toList->zks t cells l=some cs->
   ∃us',ych (fun i=>(fs.map fun f=>(f.offset,P.cellsOf f.type))[i]?) us (parts.map fun(i,x)=>(i,a.eval x))=some us'/\VL E cs us'.toList:=by
 induction parts with
 |nil=>
  intro l cells us cs hl hv hf;simp only[zmO]at hl;cases hl;simp only[zks]at hf;cases hf
  exact⟨us,rfl,hv⟩
 |cons p parts ih=>
  intro l cells us cs hl hv hf;obtain⟨i,x⟩:=p;simp only[zmO]at hl;split at hl
  ·rename_i f y l' hfo hy hl';split at hl
   ·cases hl;simp only[zks]at hf;split at hf
    ·rename_i hc;obtain⟨h1,h2,h3⟩:=hc;have hx:=zaS ht hy;have hcv:=zmL hx h2;have hfi:fs[i]?=some f:=by simpa[zlH,hs]using hfo
     have hsz:(a.eval x).cells.size=P.cellsOf f.type:=by rw[<-h1,<-hcv.length];simp
     have hus:us.size=cells.length:=by rw[<-hv.length];simp
     obtain⟨us1,e1,e2,e3⟩:=zCr (fun i=>(fs.map fun f=>(f.offset,P.cellsOf f.type))[i]?) us i f.offset (P.cellsOf f.type) (a.eval x) (parts.map fun(i,x)=>(i,a.eval x)) (by simp[hfi]) hsz (by omega);have hv1:VL E (zeQ cells f.offset (od t y).cells) us1.toList:=by rw[e2];exact zAA hv hcv _
     obtain⟨us',e4,e5⟩:=ih hl' hv1 hf;exact⟨us',by rw[yaT,e3];exact e4,e5⟩
    ·cases hf
   ·cases hl
  ·cases hl
theorem zsC{base:Base}{h:Store}{E:Env}(R:Rel base h E)(o:Obj):Rel base h {E with w:=E.w.alloc o}/\Step h E h {E with w:=E.w.alloc o}:=by
 have hx:Ext E {E with w:=E.w.alloc o}:=⟨rfl,yag _,fun _ _=>yag _,fun _ _ _ _ h=>⟨h,rfl,rfl⟩,fun _ _ h=>⟨h,rfl⟩,fun a v ho hc=>⟨ho,by
  rw[<-hc];exact yba (heap_alloc_old E.w o _ (block_lt_of_cell hc))⟩⟩
 have hs:Step h E h {E with w:=E.w.alloc o}:=⟨hx,rfl,rfl,rfl,by simp,fun b hb _=>heap_alloc_old E.w o b hb,fun _ h=>.inl h,fun _ h _=>h,fun k _ h=>.inl ⟨k,h⟩⟩
 refine⟨⟨R.n,R.step_lo hs,fun k e he=>?_,R.nogen,R.own,R.inj,fun b hb=>by simp;exact Nat.lt_succ_of_lt (R.lt b hb)⟩,hs⟩;exact(R.ent k e he).step hx ⟨rfl,rfl,rfl,rfl,rfl⟩ (fun b hb=>heap_alloc_old E.w o b (R.lt b (R.own k b (by rw[zaN he];exact hb))))
section
variable {P:Program} {base:Base} {h:Store} {E:Env} {t:List AV} {a:Act}
theorem zqM{x:AV}{b:Bool}(hx:zuB x=some b):x=.sc (.bool b):=by
 unfold zuB at hx;split at hx
 ·cases hx;rfl
 ·cases hx
theorem zsE{x:AV}{b:Int}(hx:zhh x=some b):x=.sc (.int .i64 b):=by
 unfold zhh at hx;split at hx
 ·cases hx;rfl
 ·cases hx
theorem zF4(R:Rel base h E)(ht:VL E t a.tmps.toList){o:Oper}{c x y:Operand}(ho:o.op=.pick c x y){c' x' y':Od}(hc:zaH c=some c')(hx:zaH x=some x')(hy:zaH y=some y'){b:Bool}(hb:zuB (od t c')=some b):
  Comes1 P base o a h E (if b then od t x' else od t y') h:=by
 have h1:=zaS ht hc;rw[zqM hb]at h1;have h2:=h1.sc_inv.1;refine Comes1.same R (v':=if b then a.eval x else a.eval y) ?_ (by cases b;exact zaS ht hy;exact zaS ht hx);simp only[execOp,ho,h2];cases b<;>rfl
theorem zKI(R:Rel base h E)(hP:E.P=P)(ht:VL E t a.tmps.toList){o:Oper}{ty:TypeId}{ps:Array (Nat×Operand)}(ho:o.op=.build ty ps){fs:Array Field}(hs:P.underlying ty=some (.struct fs))(hfs:fs.toList.all (fun f=>(P.info? f.type).isSome)=true)
  {z:List AV} (hz:zbb P ty=some (.agg z)) {l:List (Nat×Nat×Od)} (hl:zmO P ty ps.toList=some l) {cs:List AV} (hf:zks t z l=some cs):Comes1 P base o a h E (.agg cs) h:=by
 obtain⟨i,zv,hi,hzv,_,hvl,_⟩:=za7 (E:=E) hz;have hvl:VL E z zv.cells.toList:=hvl;obtain⟨us,h1,h2⟩:=zGq ht hs ps.toList hl hvl hf;refine Comes1.same R (v':=.agg us) ?_ (by simpa using VL.agg h2 .nil);have hp:=zHq (P:=P) (w:=E.w) fs.toList (fun f hf=>by simpa using yaS.1 hfs f hf)
 have hm:(fs.mapM (fun f=>(do pure (f.offset,<-sizeOf f.type):Sem (Nat×Nat)))).run P E.w=.ok (fs.map fun f=>(f.offset,P.cellsOf f.type)) E.w:=by
  rw[Array.mapM_eq_mapM_toList];simp only[Sem.run_map,hp,yaj];congr 1;apply ybO;simp
 have hz0:(zeroValue ty).run P E.w=.ok zv E.w:=by simp[zeroValue,typeInfo,hi,hzv]
 have h1':ych (fun i=>(fs.map fun f=>(f.offset,P.cellsOf f.type))[i]?) zv.cells (ps.map fun(i,x)=>(i,a.eval x)).toList=some us:=by
  rw[yb6];exact h1
 simp only[execOp,ho,Instr.build,yaw,hz0,yaj,run_underlying hs,hm];rw[h1'];rfl
theorem zPH(R:Rel base h E)(ht:VL E t a.tmps.toList){o:Oper}{op:BinOp}{ty yt:TypeId}{x y:Operand}(ho:o.op=.binOp op ty x y yt){x' y':Od}(hx:zaH x=some x')(hy:zaH y=some y'){c:Cls}(hc:zkK P ty=some c){v:AV}
  (hv:zmn Ops.std op c (od t x') (od t y')=some v):Comes1 P base o a h E v h:=by
 obtain⟨v',rfl,h1,h2⟩:=zEF (w:=E.w) hc (zaS ht hx) (zaS ht hy) hv x y;refine Comes1.same R (v':=v') ?_ h2;simp only[yaw]at h1;simp only[execOp,ho,yaw,h1,yaj,ybf]
theorem zME(R:Rel base h E)(ht:VL E t a.tmps.toList){o:Oper}{ty:TypeId}{x:Operand}{x':Od}(hx:zaH x=some x'):
  (o.op=.unOp .not ty x->∀b,od t x'=.sc (.bool b)->Comes1 P base o a h E (.sc (.bool (!b))) h)/\(o.op=.unOp .neg ty x->∀k n,od t x'=.sc (.int k n)->Comes1 P base o a h E (.sc (.int k (k.wrap (0-n)))) h):=by
 have h1:=zaS ht hx;refine⟨fun ho b hb=>?_,fun ho k n hn=>?_⟩
 ·rw[hb]at h1;refine Comes1.same R (v':=.bool (!b)) ?_ (.data (.sc rfl .nil) .nil);simp[execOp,ho,h1.sc_inv.1,Op.unary]
 ·rw[hn]at h1;refine Comes1.same R (v':=.int k (k.wrap (0-n))) ?_ (.data (.sc rfl .nil) .nil);simp[execOp,ho,h1.sc_inv.1,Op.unary,Op.intArith]
theorem zNq(R:Rel base h E)(ht:VL E t a.tmps.toList){o:Oper}{s d:TypeId}{x:Operand}(ho:o.op=.convert s d x){k0 k k1:IntKind}(hs:P.underlying s=some (.int k0))(hd:P.underlying d=some (.int k)){x':Od}(hx:zaH x=some x'){n:Int}(hn:od t x'=.sc (.int k1 n)):
  Comes1 P base o a h E (.sc (.int k (k.wrap n))) h:=by
 have h1:=zaS ht hx;rw[hn]at h1;refine Comes1.same R (v':=.int k (k.wrap n)) ?_ (.data (.sc rfl .nil) .nil);simp[execOp,ho,h1.sc_inv.1,convert,run_underlying hs,run_underlying hd,Conv.intToInt]
theorem zPM(R:Rel base h E)(ht:VL E t a.tmps.toList){o:Oper}{s:TypeId}{x:Operand}{i:Nat}(ho:o.op=.fieldAddr s x i){f:Field}(hf:zlH P s i=some f)(hi:(P.info? f.type).isSome=true)(h0:P.cellsOf f.type≠0){x':Od}(hx:zaH x=some x'):
  (∀b off,od t x'=.bptr b off->Comes1 P base o a h E (.bptr b (off+f.offset)) h)/\(∀k g j off,od t x'=.rptr k g j off->zaV h k g≠none->Comes1 P base o a h E (.rptr k g j (off+f.offset)) h)/\
   (∀e xs j off,od t x'=.lptr e xs j off->Comes1 P base o a h E (.lptr e xs j (off+f.offset)) h):=by
 have h1:=zaS ht hx
 have hst:∃fs,P.underlying s=some (.struct fs)/\fs[i]?=some f:=by
  unfold zlH at hf;split at hf
  ·exact⟨_,by assumption,hf⟩
  ·cases hf
 obtain⟨fs,hs,hfi⟩:=hst
 have run:∀b o',a.eval x=.pointer (some ⟨b,o',none⟩)->(execOp a.eval o).run P E.w=.ok (.value (.pointer (some ⟨b,o'+f.offset,none⟩))) E.w:=fun b o' he=>by
  simp only[execOp,ho,he,Instr.fieldAt,yaw,run_underlying hs,yaj,hfi];simp[Instr.sureAddr,fieldPlace,zbw hi,h0,zcm]
 refine⟨fun b off e=>?_,fun k g j off e hne=>?_,fun e' xs j off e=>?_⟩
 ·rw[e]at h1;obtain⟨hb,he⟩:=h1.bptr_inv;exact Comes1.same R (run _ _ he) (.bptr hb h1.bptr_gen .nil)
 ·rw[e]at h1;obtain⟨hk,hg,hv⟩:=h1.rptr_inv
  cases hr:zaV h k g with
  |none=>exact absurd hr hne
  |some r=>
   obtain⟨e',ro,xs⟩:=r;obtain⟨b,hb,he⟩:=hv (zbk R hr).1;exact Comes1.same R (run _ _ he) (.rptr hk hg rfl (fun _=>⟨b,hb,by rw[yaU]⟩) .nil)
 ·rw[e]at h1;obtain⟨b,o',vals,hs',hd,hr,he⟩:=h1.lptr_inv;refine Comes1.same R (run _ _ he) ?_;have:=VL.lptr (E:=E) (e:=e') (xs:=xs) (i:=j) (off:=off+f.offset) (b:=b) (o:=o') (vals:=vals) hs' hd hr .nil;rw[yaU];exact this
theorem zxL{w:World}{ty:TypeId}{ag:Bool}(hag:zeK P ty=some ag)(hi:(P.info? ty).isSome=true){cs:List AV}{us:List Value}(hv:VL E cs us){off:Nat}{c:List AV}(hc:cut cs off (P.cellsOf ty)=some c){v:AV}(hm:mkV ag c=some v):
  ∃v',(part ty us.toArray off).run P w=.ok v' w/\VL E [v] [v']:=by
 obtain⟨hle,rfl⟩:=zsN hc;have hd:=(hv.drop off).take (P.cellsOf ty);have hl:=hv.length;unfold part;simp only[yaw,zjq hag,yaj]
 cases ag with
 |true=>
  simp only[mkV]at hm;cases hm;refine⟨.agg ((us.drop off).take (P.cellsOf ty)).toArray,?_,.agg hd .nil⟩
  simp[zbw hi,List.extract_eq_take_drop]
 |false=>
  simp only[mkV]at hm;split at hm
  ·cases hm;rename_i v hcs;rw[hcs]at hd;obtain⟨u,hu,h1⟩:=hd.one_inv;refine⟨u,?_,h1⟩;have:us[off]?=some u:=by simpa using zfj (l:=us) (p:=off) (n:=P.cellsOf ty) (j:=0) (u:=u) (by rw[hu];rfl)
   simp[this]
  ·cases hm
theorem zPN(R:Rel base h E)(ht:VL E t a.tmps.toList){o:Oper}{s:TypeId}{x:Operand}{i:Nat}(ho:o.op=.field s x i){f:Field}(hf:zlH P s i=some f)(hi:(P.info? f.type).isSome=true){ag:Bool}(hag:zeK P f.type=some ag){x':Od}(hx:zaH x=some x')
  {cs c:List AV} (he:od t x'=.agg cs) (hc:cut cs f.offset (P.cellsOf f.type)=some c) {v:AV} (hm:mkV ag c=some v):Comes1 P base o a h E v h:=by
 have h1:=zaS ht hx;rw[he]at h1;obtain⟨vs,hv,h2⟩:=h1.agg_inv;obtain⟨v',hr,hv'⟩:=zxL (w:=E.w) hag hi h2 hc hm
 have hst:∃fs,P.underlying s=some (.struct fs)/\fs[i]?=some f:=by
  unfold zlH at hf;split at hf
  ·exact⟨_,by assumption,hf⟩
  ·cases hf
 obtain⟨fs,hs,hfi⟩:=hst;refine Comes1.same R (v':=v') ?_ hv';simp only[execOp,ho,hv,Instr.field,yaw,run_underlying hs,yaj,hfi];simp[asAgg,hr]
theorem zuX{v:Value}{a:Option Addr}{b n cap:Nat}(hv:v=.slice a n cap)(ha:a=some ⟨b,0,none⟩):HeadAt v b:=⟨n,cap,by rw[hv,ha]⟩
theorem zbB{xs:List AV}{s:Nat}(hs:∀x,x∈xs->x.cells.length=s):(flat xs).length=xs.length*s:=by
 induction xs with
 |nil=>simp[flat]
 |cons x xs ih=>
  have:=ih (fun y hy=>hs y (ya3 _ hy));have hx:=hs x (ybp ..);simp only[flat,ybm,yaf,yav]at this⊢;rw[this,hx,yaE,ybR];omega
theorem zlI{xs:List AV}{s:Nat}(hs:∀x,x∈xs->x.cells.length=s):∀n,flat (xs.take n)=(flat xs).take (n*s):=by
 induction xs with
 |nil=>intro n;simp[flat]
 |cons x xs ih=>
  intro n;have hx:=hs x (ybp ..)
  cases n with
  |zero=>simp[flat]
  |succ n=>
   have:=ih (fun y hy=>hs y (ya3 _ hy)) n;simp only[flat,List.take_succ_cons,ybm]at this⊢;rw[this,yaE,ybR,List.take_append,yaN (l:=x.cells) (by omega)];congr 2;omega
theorem znV{xs:List AV}{s:Nat}(hs:∀x,x∈xs->x.cells.length=s):∀n,flat (xs.drop n)=(flat xs).drop (n*s):=by
 induction xs with
 |nil=>intro n;simp[flat]
 |cons x xs ih=>
  intro n;have hx:=hs x (ybp ..)
  cases n with
  |zero=>simp[flat]
  |succ n=>
   have:=ih (fun y hy=>hs y (ya3 _ hy)) n;simp only[flat,List.drop_succ_cons,ybm]at this⊢;rw[this,yaE,ybR,ycq,yaL (as:=x.cells) (by omega),ya4];congr 1;omega
theorem zlG{xs:List AV}{s:Nat}(hs:∀x,x∈xs->x.cells.length=s)(h0:0<s){vals:List Value}(hl:vals.length=(flat xs).length){i:Nat}(hi:i<xs.length):∃u,vals[i*s]?=some u:=by
 have h1:=zbB hs;have:i*s<xs.length*s:=Nat.mul_lt_mul_of_pos_right hi h0;exact⟨vals[i*s],yad (by omega)⟩
theorem zNr(R:Rel base h E)(hP:E.P=P)(ht:VL E t a.tmps.toList){o:Oper}{ty e:TypeId}{x i:Operand}(ho:o.op=.indexAddr ty x i)(hs:P.underlying ty=some (.slice e))(hi:(P.info? e).isSome=true)(hz:0<P.cellsOf e){x' i':Od}(hx:zaH x=some x')(hic:zaH i=some i'){j:Int}(hj:zhh (od t i')=some j):
  (∀f xs y,od t x'=.lit e f xs->Ops.std.lget xs j=some y->Comes1 P base o a h E (.lptr e xs j 0) h)/\
  (∀k g ro xs y,od t x'=.sl k g->zaV h k g=some (e,ro,xs)->Ops.std.lget xs j=some y->Comes1 P base o a h E (.rptr k g j 0) h):=by
 have h1:=zaS ht hx;have h2:=zaS ht hic;rw[zsE hj]at h2;have hiv:=h2.sc_inv.1
 have run:∀b o' len cap,a.eval x=.slice (some ⟨b,o',none⟩) len cap->0<=j->j<len->(execOp a.eval o).run P E.w=.ok (.value (.pointer (some ⟨b,o'+j.toNat*P.cellsOf e,none⟩))) E.w:=fun b o' len cap he h0 hl=>by
  simp only[execOp,ho,he,hiv,Instr.indexAt,asIntOf,yaw,run_underlying hs,yaj,ybf];simp[h0,hl,zbw hi,zcm]
 subst hP;refine⟨fun f xs y hl hy=>?_,fun k g ro xs y hl hr hy=>?_⟩
 ·rw[hl]at h1;obtain⟨ad,cap,vals,hv,hc,hm,hf,hs',hd,hone,hrd⟩:=h1.lit_inv.lit_inv;obtain⟨h0,hy⟩:=zn1 hy;have hlt:j.toNat<xs.length:=(yae.1 hy).1;obtain⟨u,hu⟩:=zlG hs' hz hd.length hlt;obtain⟨b,o',rfl,_⟩:=hrd _ u hu;refine Comes1.same R (run b o' _ _ hv h0 (by omega)) ?_
  have:=VL.lptr (E:=E) (e:=e) (xs:=xs) (i:=j) (off:=0) (b:=b) (o:=o') (vals:=vals) hs' hd (fun j' u' hu'=>by
   obtain⟨b2,o2,hab,hno,hcell⟩:=hrd j' u' hu';injection hab with hab;injection hab with hb ho2 _;subst hb ho2
   exact⟨hno,hcell⟩) .nil
  simpa using this
 ·rw[hl]at h1;obtain⟨hk,hg,h3,hrow⟩:=h1.sl_inv;obtain⟨hgen,hesz,hs',ad,cap,vals,hv,hc,hm,hd,hone,hrd⟩:=zbk R hr;obtain⟨h0,hy⟩:=zn1 hy;have hlt:j.toNat<xs.length:=(yae.1 hy).1;obtain⟨u,hu⟩:=zlG hs' hz hd.length hlt;obtain⟨b,rfl,_⟩:=hrd _ u hu;refine Comes1.same R (run b 0 _ _ ((hrow hgen).trans hv) h0 (by omega)) ?_;exact .rptr hk hg rfl (fun _=>⟨b,zuX hv rfl,by rw[hesz];simp⟩) .nil
theorem zNu(R:Rel base h E)(ht:VL E t a.tmps.toList){o:Oper}{ty:TypeId}{x i:Operand}(ho:o.op=.index ty x i)(hs:P.underlying ty=some .string){x' i':Od}(hx:zaH x=some x')(hic:zaH i=some i'){j:Int}(hj:zhh (od t i')=some j)
  {s:ByteArray} (hsx:od t x'=.sc (.string s)) {c:Int} (hc:Ops.std.sget s j=some c):Comes1 P base o a h E (.sc (.int .u8 c)) h:=by
 have h1:=zaS ht hx;have h2:=zaS ht hic;rw[zsE hj]at h2;rw[hsx]at h1;simp only[Ops.std]at hc;split at hc
 ·rename_i h0;obtain⟨b,hb,rfl⟩:=zbJ hc;refine Comes1.same R (v':=.int .u8 b.toNat) ?_ (.data (.sc rfl .nil) .nil);simp only[execOp,ho,h1.sc_inv.1,h2.sc_inv.1,Instr.index,asIntOf,yaw,run_underlying hs,yaj,ybf];simp[h0,hb]
 ·cases hc
theorem zeJ(R:Rel base h E){x:AV}{xv:Value}(hx:VL E [x] [xv]){xs:List AV}(he:zbc Ops.std h x=some xs):∃ad cap vals,xv=.slice ad xs.length cap/\xs.length<=cap/\cap<=maxLen/\DL E.P E.w E.own (flat xs) vals/\(∀u,u∈vals->u.oneCell'=true)/\
  (∃e,∀x,x∈xs->x.cells.length=E.P.cellsOf e)/\(∀j u,vals[j]?=some u->∃b o,ad=some ⟨b,o,none⟩/\E.w.cell? ⟨b,o+j,none⟩=some u):=by
 cases x with
 |lit e f ys=>
  simp only[zbc]at he;cases he;obtain⟨ad,cap,vals,hv,hc,hm,hf,hs',hd,hone,hrd⟩:=hx.lit_inv.lit_inv
  exact⟨ad,cap,vals,hv,hc,hm,hd,hone,⟨e,hs'⟩,fun j u hu=>by obtain⟨b,o',h1,_,h2⟩:=hrd j u hu;exact⟨b,o',h1,h2⟩⟩
 |sl k g=>
  simp only[zbc]at he;split at he
  ·cases he;rename_i e ro hr;obtain⟨hk,hg,h3,hrow⟩:=hx.sl_inv;obtain⟨hgen,hesz,hs',ad,cap,vals,hv,hc,hm,hd,hone,hrd⟩:=zbk R hr;exact⟨ad,cap,vals,(hrow hgen).trans hv,hc,hm,hd,hone,⟨e,hs'⟩,fun j u hu=>by obtain⟨b,h1,h2⟩:=hrd j u hu;exact⟨b,0,h1,by rw[yaQ];exact h2⟩⟩
  ·cases he
 |sub k g lo hi=>
  simp only[zbc]at he;split at he
  ·rename_i e ro ys hr;obtain⟨hk,hg,h3,hrow⟩:=hx.sub_inv;obtain⟨hgen,hesz,hs',ad,cap,vals,hv,hc,hm,hd,hone,hrd⟩:=zbk R hr;obtain⟨h0,h01,ad2,cap2,hv2,hc2,hm2,hb2,_⟩:=hrow hgen;simp only[Ops.std]at he;split at he
   ·cases he;rename_i hb;have hlen:((ys.take hi.toNat).drop lo.toNat).length=(hi-lo).toNat:=by simp;omega
    have hfl:flat ((ys.take hi.toNat).drop lo.toNat)=((flat ys).take (hi.toNat*E.P.cellsOf e)).drop (lo.toNat*E.P.cellsOf e):=by
     rw[znV (fun x hx=>hs' x (yaz hx)),zlI hs']
    refine⟨ad2,cap2,(vals.take (hi.toNat*E.P.cellsOf e)).drop (lo.toNat*E.P.cellsOf e),by rw[hlen];exact hv2,by rw[hlen];exact hc2,hm2,by rw[hfl];exact(hd.take _).drop _,
     fun u hu=>hone u (yaz (yaG hu)),⟨e,fun x hx=>hs' x (yaz (yaG hx))⟩,fun j u hu=>?_⟩
    rw[ybu,yaM]at hu;split at hu
    ·rename_i hlt;obtain⟨b,h1,h2⟩:=hrd _ u hu
     have hlh:lo<hi:=by
      rcases Int.lt_or_eq_of_le h01 with h|h
      ·exact h
      ·subst h;omega
     obtain⟨b',hh,hab⟩:=hb2 hlh;obtain⟨n',c',hrow'⟩:=hh;rw[hv,h1]at hrow';injection hrow' with hab' _ _;injection hab' with hab';injection hab' with hbb _ _;subst hbb;exact⟨b,_,hab,by rw[hesz];exact h2⟩
    ·cases hu
   ·cases he
  ·cases he
 |_=>simp[zbc]at he
theorem zI2(R:Rel base h E)(ht:VL E t a.tmps.toList){o:Oper}{x:Operand}{ty:TypeId}{args:Array Operand}{tys:Array TypeId}(ho:o.op=.call {callee:=.builtin .len,args,argTypes:=tys})(hargs:args.toList=[x])(htys:tys.toList=[ty]){x':Od}(hx:zaH x=some x'):
  (P.underlying ty=some .string->∀s,od t x'=.sc (.string s)->Comes1 P base o a h E (.sc (.int .i64 (Ops.std.slen s))) h)/\
  (∀e,P.underlying ty=some (.slice e)->∀xs,zbc Ops.std h (od t x')=some xs->Comes1 P base o a h E (.sc (.int .i64 (Ops.std.llen xs))) h):=by
 have h1:=zaS ht hx;have ea:args=#[x]:=ybO hargs;have et:tys=#[ty]:=ybO htys;subst ea et;refine⟨fun hs s e=>?_,fun e hs xs hxs=>?_⟩
 ·rw[e]at h1;refine Comes1.same R (v':=.int .i64 s.size) ?_ (.data (.sc rfl .nil) .nil);simp[execOp,ho,resolve,invoke,builtin,Builtin.len_,run_underlying hs,h1.sc_inv.1,goInt]
 ·obtain⟨ad,cap,vals,hv,_⟩:=zeJ R h1 hxs;refine Comes1.same R (v':=.int .i64 xs.length) ?_ (.data (.sc rfl .nil) .nil);simp[execOp,ho,resolve,invoke,builtin,Builtin.len_,run_underlying hs,hv,goInt]
theorem zPL(R:Rel base h E)(ht:VL E t a.tmps.toList){o:Oper}{x:Operand}{i:Nat}(ho:o.op=.extract x i){x':Od}(hx:zaH x=some x'){vs:List AV}(hvs:od t x'=.tup vs){v:AV}(hv:vs[i]?=some v):Comes1 P base o a h E v h:=by
 have h1:=zaS ht hx;rw[hvs]at h1;obtain⟨us,he,h2⟩:=h1.tup_inv;obtain⟨hlt,rfl⟩:=yae.1 hv;obtain⟨u,hu,h3⟩:=h2.get i hlt;refine Comes1.same R (v':=u) ?_ h3;simp[execOp,ho,he,Instr.extract,hu]
theorem zNt(R:Rel base h E)(ht:VL E t a.tmps.toList){o:Oper}{f:FuncId}{first caps:Array Operand}(ho:o.op=.makeFunc (.func f) first caps)(hf:first.size=0){l:List Od}(hl:zhy caps.toList=some l):Comes1 P base o a h E (.fn f (l.map (od t))) h:=by
 have hv:=zva ht hl;have e0:first=#[]:=ybt hf
 subst e0;refine Comes1.same R (v':=.func (.func f) #[] (caps.toList.map a.eval).toArray) ?_ (.fn hv .nil);have e1:caps.map a.eval=(caps.toList.map a.eval).toArray:=by apply ybO;simp
 simp only[execOp,ho,Instr.makeFunc,yaw,ybf,yaj,e1];simp
theorem zNs(R:Rel base h E)(hP:E.P=P)(ht:VL E t a.tmps.toList){o:Oper}{ty:TypeId}{p:Operand}(ho:o.op=.load ty p){ag:Bool}(hag:zeK P ty=some ag)(hi:(P.info? ty).isSome=true){p':Od}(hp:zaH p=some p'){v:AV}(hv:loadAt Ops.std h ag (P.cellsOf ty) (od t p')=some v):Comes1 P base o a h E v h:=by
 obtain⟨v',h1,h2⟩:=zyJ R hP hag hi (zaS ht hp) hv;exact Comes1.same R (v':=v') (by simp only[execOp,ho,yaw,h1,yaj,ybf]) h2
theorem zbq{w:World}{k:IntKind}{i:Int}{y:Nat}{code:BoundsCode}(h0:0<=i)(h1:i<=y):(Instr.sliceBound (.int k i) y code).run P w=.ok i.toNat w:=by
 simp[Instr.sliceBound,asIntOf,h0,h1]
theorem zlk(ht:VL E t a.tmps.toList){lo:Option Operand}{lo':Option Od}(hl:zga lo=some lo'){d i:Int}(hi:bnd t d lo'=some i):
  (lo=none/\i=d)\/∃x,lo=some x/\a.eval x=.int .i64 i:=by
 cases lo with
 |none=>simp only[zga]at hl;cases hl;simp only[bnd]at hi;cases hi;exact .inl ⟨rfl,rfl⟩
 |some x=>
  simp only[zga]at hl;obtain⟨y,hy,rfl⟩:=zbJ hl;simp only[bnd]at hi;have h1:=zaS ht hy;rw[zsE hi]at h1;exact .inr ⟨x,rfl,h1.sc_inv.1⟩
theorem zy1{w:World}{isSlice:Bool}{len cap:Nat}{lo hi:Option Value}{i j:Int}(hlo:(lo=none/\i=0)\/lo=some (.int .i64 i))(hhi:(hi=none/\j=len)\/hi=some (.int .i64 j))(h0:0<=i)(h1:i<=j)(h2:j<=len)(h3:len<=cap):
  (ybb isSlice len cap lo hi none).run P w=.ok (i.toNat,j.toNat,cap) w:=by
 rcases hlo with⟨rfl,rfl⟩|rfl
 ·rcases hhi with⟨rfl,rfl⟩|rfl
  ·simp[ybb]
  ·have e1:=fun code=>zbq (P:=P) (w:=w) (k:=.i64) (i:=j) (y:=cap) (code:=code) (by omega) (by omega)
   simp[ybb,e1]
 ·rcases hhi with⟨rfl,rfl⟩|rfl
  ·have e2:=fun code=>zbq (P:=P) (w:=w) (k:=.i64) (i:=i) (y:=len) (code:=code) h0 (by omega)
   simp[ybb,e2]
  ·have e1:=fun code=>zbq (P:=P) (w:=w) (k:=.i64) (i:=j) (y:=cap) (code:=code) (by omega) (by omega)
   have e2:=fun code=>zbq (P:=P) (w:=w) (k:=.i64) (i:=i) (y:=j.toNat) (code:=code) h0 (by omega)
   simp[ybb,e1,e2]
theorem zPR(R:Rel base h E)(ht:VL E t a.tmps.toList){o:Oper}{ty:TypeId}{x:Operand}{lo hi:Option Operand}(ho:o.op=.slice ty x lo hi none)(hs:P.underlying ty=some .string){x':Od}(hx:zaH x=some x'){lo' hi':Option Od}
  (hl:zga lo=some lo') (hh:zga hi=some hi') {s r:ByteArray} (hsx:od t x'=.sc (.string s)) {i j:Int}
  (hi1:bnd t 0 lo'=some i) (hj1:bnd t (Ops.std.slen s) hi'=some j) (hr:Ops.std.ssub s i j=some r):Comes1 P base o a h E (.sc (.string r)) h:=by
 have h1:=zaS ht hx;rw[hsx]at h1;have hv:=h1.sc_inv.1;simp only[Ops.std]at hr;split at hr
 ·cases hr;rename_i hb;have hlo:=zlk ht hl hi1;have hhi:=zlk ht hh hj1;refine Comes1.same R (v':=.string (s.extract i.toNat j.toNat)) ?_ (.data (.sc rfl .nil) .nil)
  have hb':=zy1 (P:=P) (w:=E.w) (isSlice:=false) (len:=s.size) (cap:=s.size) (lo:=lo.map a.eval) (hi:=hi.map a.eval) (i:=i) (j:=j) (by rcases hlo with⟨rfl,rfl⟩|⟨y,rfl,hy⟩;exact .inl ⟨rfl,rfl⟩;exact .inr (by simp[hy]))
   (by rcases hhi with⟨rfl,rfl⟩|⟨y,rfl,hy⟩;exact .inl ⟨rfl,rfl⟩;exact .inr (by simp[hy])) hb.1 hb.2.1 hb.2.2 (yag _)
  simp only[execOp,ho,hv,Instr.sliceAt,yaw,run_underlying hs,yaj,Instr.slice,Option.map_none];simp[hb']
 ·cases hr
theorem zPQ(R:Rel base h E)(hP:E.P=P){e0:TypeId}(hz:0<P.cellsOf e0)(ht:VL E t a.tmps.toList){o:Oper}{ty:TypeId}{x:Operand}{lo hi:Option Operand}(ho:o.op=.slice ty x lo hi none)(hs:P.underlying ty=some (.slice e0))(hinfo:(P.info? e0).isSome=true){x':Od}(hx:zaH x=some x'){lo' hi':Option Od}
  (hl:zga lo=some lo') (hh:zga hi=some hi') {xs ys:List AV} (hxs:zbc Ops.std h (od t x')=some xs) {i j:Int}
  (hi1:bnd t 0 lo'=some i) (hj1:bnd t (Ops.std.llen xs) hi'=some j) (hr:Ops.std.lsub xs i j=some ys):
  (∀f zs,od t x'=.lit e0 f zs->Comes1 P base o a h E (.lit e0 false ys) h)/\(∀f e,od t x'=.lit e f []->Comes1 P base o a h E (.lit e0 false []) h)/\(∀k g ro,od t x'=.sl k g->zaV h k g=some (e0,ro,xs)->Comes1 P base o a h E (.sub k g i j) h):=by
 have h1:=zaS ht hx;obtain⟨ad,cap,vals,hv,hc,hm,hd,hone,_,hrd⟩:=zeJ R h1 hxs;simp only[Ops.std]at hr;split at hr
 ·cases hr;rename_i hb;have hlo:=zlk ht hl hi1;have hhi:=zlk ht hh hj1
  have hb':=zy1 (P:=P) (w:=E.w) (isSlice:=true) (len:=xs.length) (cap:=cap) (lo:=lo.map a.eval) (hi:=hi.map a.eval) (i:=i) (j:=j) (by rcases hlo with⟨rfl,rfl⟩|⟨y,rfl,hy⟩;exact .inl ⟨rfl,rfl⟩;exact .inr (by simp[hy]))
   (by rcases hhi with⟨rfl,rfl⟩|⟨y,rfl,hy⟩;exact .inl ⟨rfl,rfl⟩;exact .inr (by simp[hy])) hb.1 hb.2.1 hb.2.2 hc
  have run:(execOp a.eval o).run P E.w=.ok (.value (.slice (if cap=i.toNat then ad else ad.map (·.add (i.toNat*P.cellsOf e0))) (j.toNat-i.toNat) (cap-i.toNat))) E.w:=by
   simp only[execOp,ho,hv,Instr.sliceAt,yaw,run_underlying hs,yaj,Instr.slice,Option.map_none];simp[hb',zbw hinfo]
  subst hP;have hlen:((xs.take j.toNat).drop i.toNat).length=j.toNat-i.toNat:=by simp;omega
  refine⟨fun f zs hl=>?_,fun f e hl=>?_,fun k g ro hk hr=>?_⟩
  ·have hz:zs=xs:=by rw[hl]at hxs;simp only[zbc]at hxs;cases hxs;rfl
   subst hz;rw[hl]at h1;obtain⟨ad2,cap2,vals2,hv2,_,_,_,hs2,hd2,hone2,hrd2⟩:=h1.lit_inv.lit_inv;rw[hv]at hv2;injection hv2 with e1 _ e3;subst e1 e3;refine Comes1.same R run (.data ?_ .nil);rw[<-hlen]
   refine .lit (by rw[hlen];omega) (by omega) (by intro h;cases h) (fun x hx=>hs2 x (yaz (yaG hx)))
    (vals:=(vals2.take (j.toNat*E.P.cellsOf e0)).drop (i.toNat*E.P.cellsOf e0)) (by rw[znV (fun x hx=>hs2 x (yaz hx)),zlI hs2];exact(hd2.take _).drop _)
    (fun u hu=>hone2 u (yaz (yaG hu))) (fun j' u hu=>?_) .nil
   rw[ybu,yaM]at hu;split at hu
   ·rename_i hlt;obtain⟨b,o',hab,hno,hcell⟩:=hrd2 _ u hu
    have hne:cap≠i.toNat:=by
     intro hce;have h3:=(yae.1 hu).1;rw[hd2.length,zbB hs2]at h3;have:(j.toNat)*E.P.cellsOf e0<=i.toNat*E.P.cellsOf e0:=yaD _ (by omega);omega
    refine⟨b,o'+i.toNat*E.P.cellsOf e0,by rw[if_neg hne,hab];simp[zcm],hno,by rw[yaU];exact hcell⟩
   ·cases hu
  ·have hz:xs=[]:=by rw[hl]at hxs;simp only[zbc]at hxs;cases hxs;rfl
   subst hz;simp at hlen;have:j.toNat-i.toNat=0:=by simp at hb;omega
   rw[this]at run;exact Comes1.same R run (.data (.lit (xs:=[]) (yaP _) (by omega) (by intro h;cases h) (fun x hx=>by cases hx) (vals:=[]) .nil (fun u hu=>by cases hu) (fun j u hu=>by cases hu) .nil) .nil)
  ·rw[hk]at h1;obtain⟨hkn,hg,h3,hrow⟩:=h1.sl_inv;obtain⟨hgen,hesz,hs',ad2,cap2,vals2,hv2,hc2,hm2,hd2,hone2,hrd2⟩:=zbk R hr;have hvr:=hrow hgen;rw[hv,hv2]at hvr;injection hvr with e1 _ e3;subst e1 e3;refine Comes1.same R run (.sub hkn hg rfl (fun _=>⟨hb.1,hb.2.1,_,_,by rw[show(j-i).toNat=j.toNat-i.toNat by omega],by omega,by omega,fun hij=>?_,fun hi0=>⟨xs.length,?_⟩⟩) .nil)
   ·have hne:cap≠i.toNat:=by omega
    obtain⟨u,hu⟩:=zlG hs' hz hd2.length (i:=0) (by omega);obtain⟨b,hab,_⟩:=hrd2 _ u hu;exact⟨b,zuX hv2 hab,by rw[if_neg hne,hab,hesz];simp[zcm]⟩
   ·subst hi0;rw[hv2];by_cases hce:cap=0
    ·subst hce;simp
    ·rw[if_neg (by simpa using hce)]
     cases ad with
     |none=>simp
     |some A=>simp[Addr.add]
 ·cases hr
end
section
variable {P:Program} {base:Base} {h:Store} {E:Env} {t:List AV} {a:Act}
theorem zww{ty:TypeId}{c:Cls}(hc:zkK P ty=some c):zeK P ty=some false:=by
 unfold zkK at hc;unfold zeK;split at hc<;>first|(cases hc;done)|(rename_i hu;rw[hu])
theorem zCn{w:World}{xs ys:List AV}{us vs:List Value}(hx:VL E xs us)(hy:VL E ys vs)(d:Nat)(fs:List Field):
  ∀(n:Nat) {cs:List Cls} {r:Bool},zr5 P n fs=some cs->zbV Ops.std cs (xs.drop n) (ys.drop n)=some r->(yb4 (d+1) us.toArray vs.toArray fs).run P w=.ok r w:=by
 induction fs with
 |nil=>
  intro n cs r hc he;simp only[zr5]at hc;cases hc;unfold zbV at he
  split at he<;>first|(cases he;simp[yb4];done)|(cases he;done)|simp_all
 |cons f fs ih=>
  intro n cs r hc he;simp only[zr5]at hc;split at hc
  ·rename_i c l hcf hl;split at hc
   ·cases hc;rename_i hcond;obtain⟨hoff,hname,hsz⟩:=hcond;unfold zbV at he;split at he
    ·rename_i e1 _ _;cases e1
    ·rename_i c' cs' x xr y yr e1 e2 e3;cases e1
     have hxn:xs[n]?=some x:=by
      have:(xs.drop n)[0]?=some x:=by rw[e2];rfl
      simpa using this
     have hyn:ys[n]?=some y:=by
      have:(ys.drop n)[0]?=some y:=by rw[e3];rfl
      simpa using this
     obtain⟨hlx,rfl⟩:=yae.1 hxn;obtain⟨hly,rfl⟩:=yae.1 hyn;obtain⟨u,hu,hux⟩:=hx.get n hlx;obtain⟨v,hv,hvy⟩:=hy.get n hly
     have part1:(part f.type us.toArray f.offset).run P w=.ok u w:=by
      unfold part;simp[zjq (zww hcf),hoff,hu]
     have part2:(part f.type vs.toArray f.offset).run P w=.ok v w:=by
      unfold part;simp[zjq (zww hcf),hoff,hv]
     have hxr:xs.drop (n+1)=xr:=by rw[<-ybL,e2];rfl
     have hyr:ys.drop (n+1)=yr:=by rw[<-ybL,e3];rfl
     have eqv:∀b,zmn Ops.std .eql c xs[n] ys[n]=some (.sc (.bool b))->(ycw (d+1) f.type u v).run P w=.ok b w:=fun b hb=>by
      obtain⟨xv,yv,e1,e2⟩:=zoV hb;rw[e1]at hux;rw[e2]at hvy;rw[hux.sc_inv.1,hvy.sc_inv.1];exact zsP d hcf e1 e2 hb
     split at he
     ·rename_i hb;simp only[yb4,hname,ne_eq,not_false_eq_true,if_true,yaw,part1,part2,yaj,eqv _ hb];simp only[Bool.not_true,ycc,if_false];exact ih (n+1) hl (by rw[hxr,hyr];exact he)
     ·rename_i hb;cases he;simp only[yb4,hname,ne_eq,not_false_eq_true,if_true,yaw,part1,part2,yaj,eqv _ hb];simp
     ·cases he
    ·cases he
   ·cases hc
  ·cases hc
theorem zr7{o:Ops}:∀(cs l:List Cls) (xs ys xr yr:List AV) {r:Bool},xs.length=cs.length->ys.length=cs.length->zbV o (cs++l) (xs++xr) (ys++yr)=some r->
  (zbV o cs xs ys=some true/\zbV o l xr yr=some r)\/(zbV o cs xs ys=some false/\r=false):=by
 intro cs
 induction cs with
 |nil=>
  intro l xs ys xr yr r hx hy h;rw[yai hx,yai hy]at h⊢
  exact .inl ⟨rfl,h⟩
 |cons c cs ih=>
  intro l xs ys xr yr r hx hy h
  match xs,ys,hx,hy with
  |x::xs,y::ys,hx,hy=>
   simp only[ybQ,zbV]at h⊢;split at h
   ·rename_i hb
    try rw[hb]
    exact ih l xs ys xr yr (by simpa using hx) (by simpa using hy) h
   ·rename_i hb
    try rw[hb]
    cases h;exact .inr ⟨rfl,rfl⟩
   ·cases h
theorem zFP{xs:List AV}{n k:Nat}(h:n+k<=xs.length):cut xs n k=some ((xs.drop n).take k):=by unfold cut;rw[if_pos h]
theorem zzq{w:World}{xs ys:List AV}{us vs:List Value}(hx:VL E xs us)(hy:VL E ys vs)(d:Nat)(fs:List Field):
  ∀(n:Nat) {cs:List Cls} {r:Bool},zg6 P n fs=some cs->n+cs.length=xs.length->n+cs.length=ys.length->zbV Ops.std cs (xs.drop n) (ys.drop n)=some r->(yb4 (d+2) us.toArray vs.toArray fs).run P w=.ok r w:=by
 induction fs with
 |nil=>
  intro n cs r hc _ _ he;simp only[zg6]at hc;cases hc;unfold zbV at he
  split at he<;>first|(cases he;simp[yb4];done)|(cases he;done)|simp_all
 |cons f fs ih=>
  intro n cs r hc hlx hly he;simp only[zg6]at hc;split at hc
  ·rename_i c hcf;split at hc
   ·rename_i l hl;split at hc
    ·cases hc;rename_i hcond;obtain⟨hoff,hname,hsz⟩:=hcond
     have one:zbV Ops.std [c] (((xs.drop n).take 1)) ((ys.drop n).take 1)=some true/\zbV Ops.std l (xs.drop (n+1)) (ys.drop (n+1))=some r\/zbV Ops.std [c] ((xs.drop n).take 1) ((ys.drop n).take 1)=some false/\r=false:=by
      refine zr7 [c] l _ _ _ _ ?_ ?_ ?_
      ·simp only[yav]at hlx;simp;omega
      ·simp only[yav]at hly;simp;omega
      ·rw[<-ybL,<-ybL,ya1,ya1];exact he
     have fl:∀b,zbV Ops.std [c] ((xs.drop n).take 1) ((ys.drop n).take 1)=some b->∃u v,(part f.type us.toArray f.offset).run P w=.ok u w/\(part f.type vs.toArray f.offset).run P w=.ok v w/\(ycw (d+2) f.type u v).run P w=.ok b w:=fun b hb=>by
      simp only[yav]at hlx hly;have hlx':n<xs.length:=by omega
      have hly':n<ys.length:=by omega
      obtain⟨u,hu,hux⟩:=hx.get n hlx';obtain⟨v,hv,hvy⟩:=hy.get n hly';refine⟨u,v,by unfold part;simp[zjq (zww hcf),hoff,hu],by unfold part;simp[zjq (zww hcf),hoff,hv],?_⟩;rw[yaF hlx',yaF hly']at hb;simp only[List.take_succ_cons,List.take_zero,zbV]at hb;split at hb
      ·rename_i hb2;cases hb;obtain⟨xv,yv,e1,e2⟩:=zoV hb2;rw[e1]at hux;rw[e2]at hvy;rw[hux.sc_inv.1,hvy.sc_inv.1];exact zsP (d+1) hcf e1 e2 hb2
      ·rename_i hb2;cases hb;obtain⟨xv,yv,e1,e2⟩:=zoV hb2;rw[e1]at hux;rw[e2]at hvy;rw[hux.sc_inv.1,hvy.sc_inv.1];exact zsP (d+1) hcf e1 e2 hb2
      ·cases hb
     rcases one with⟨h1,h2⟩|⟨h1,rfl⟩
     ·obtain⟨u,v,p1,p2,p3⟩:=fl _ h1;simp only[yb4,hname,ne_eq,not_false_eq_true,if_true,yaw,p1,p2,yaj,p3];simp only[Bool.not_true,ycc,if_false];exact ih (n+1) hl (by simp only[yav]at hlx;omega) (by simp only[yav]at hly;omega) h2
     ·obtain⟨u,v,p1,p2,p3⟩:=fl _ h1;simp only[yb4,hname,ne_eq,not_false_eq_true,if_true,yaw,p1,p2,yaj,p3];simp
    ·cases hc
   ·cases hc
  ·split at hc
   ·rename_i gs hgs;split at hc
    ·rename_i cs1 hcs1;split at hc
     ·rename_i l hl;split at hc
      ·cases hc;rename_i hcond;obtain⟨hoff,hname,hsz,hst,hinf⟩:=hcond;simp only[yaf]at hlx hly;have hag:zeK P f.type=some true:=by unfold zeK;rw[hgs]
       have sp:=zr7 cs1 l ((xs.drop n).take cs1.length) ((ys.drop n).take cs1.length) (xs.drop (n+cs1.length)) (ys.drop (n+cs1.length)) (r:=r) (by simp;omega) (by simp;omega) (by
        rw[<-ybL,<-ybL,ya1,ya1];exact he)
       obtain⟨u,p1,hu⟩:=zxL (w:=w) hag hinf hx (off:=f.offset) (c:=(xs.drop n).take cs1.length) (v:=.agg ((xs.drop n).take cs1.length)) (by rw[hoff,hsz];exact zFP (by omega)) rfl;obtain⟨v,p2,hv⟩:=zxL (w:=w) hag hinf hy (off:=f.offset) (c:=(ys.drop n).take cs1.length) (v:=.agg ((ys.drop n).take cs1.length)) (by rw[hoff,hsz];exact zFP (by omega)) rfl;obtain⟨us',rfl,hus⟩:=hu.agg_inv;obtain⟨vs',rfl,hvs⟩:=hv.agg_inv
       have inner:∀b,zbV Ops.std cs1 ((xs.drop n).take cs1.length) ((ys.drop n).take cs1.length)=some b->(ycw (d+2) f.type (.agg us'.toArray) (.agg vs'.toArray)).run P w=.ok b w:=fun b hb=>by
        have hf:P.fieldsOf f.type=gs:=by simp[Program.fieldsOf,hgs]
        rw[run_equalIn_struct w (d+1) f.type us'.toArray vs'.toArray (by rw[hf];exact hgs) hst,hf];exact zCn (P:=P) (w:=w) hus hvs d gs.toList 0 hcs1 (by simpa using hb)
       rcases sp with⟨h1,h2⟩|⟨h1,rfl⟩
       ·simp only[yb4,hname,ne_eq,not_false_eq_true,if_true,yaw,p1,p2,yaj,inner _ h1];simp only[Bool.not_true,ycc,if_false];exact ih (n+cs1.length) hl (by omega) (by omega) h2
       ·simp only[yb4,hname,ne_eq,not_false_eq_true,if_true,yaw,p1,p2,yaj,inner _ h1];simp
      ·cases hc
     ·cases hc
    ·cases hc
   ·cases hc
theorem zI1(R:Rel base h E)(ht:VL E t a.tmps.toList){o:Oper}{ty yt:TypeId}{x y:Operand}{fs:Array Field}(hs:P.underlying ty=some (.struct fs))(hst:P.stoodInHeld ty=false)(hgt:P.eqGuardType P.depth ty=false){cs:List Cls}(hcs:zg6 P 0 fs.toList=some cs)
  {x' y':Od} (hx:zaH x=some x') (hy:zaH y=some y') {p q:List AV} (hp:od t x'=.agg p) (hq:od t y'=.agg q) {r:Bool} (hlp:p.length=cs.length) (hlq:q.length=cs.length) (hr:zbV Ops.std cs p q=some r):
  (o.op=.binOp .eql ty x y yt->Comes1 P base o a h E (.sc (.bool r)) h)/\(o.op=.binOp .neq ty x y yt->Comes1 P base o a h E (.sc (.bool (!r))) h):=by
 have h1:=zaS ht hx;have h2:=zaS ht hy;rw[hp]at h1;rw[hq]at h2;obtain⟨us,hu,hul⟩:=h1.agg_inv;obtain⟨vs,hv,hvl⟩:=h2.agg_inv;have hf:P.fieldsOf ty=fs:=by simp[Program.fieldsOf,hs]
 have he:=zzq (P:=P) (w:=E.w) hul hvl 9997 fs.toList 0 hcs (by omega) (by omega) (by simpa using hr)
 have hein:(ycw 10000 ty (.agg us.toArray) (.agg vs.toArray)).run P E.w=.ok r E.w:=by
  rw[show(10000:Nat)=9999+1 from rfl,run_equalIn_struct E.w 9999 ty us.toArray vs.toArray (by rw[hf];exact hs) hst,hf];exact he
 refine⟨fun ho=>?_,fun ho=>?_⟩
 ·refine Comes1.same R (v':=.bool r) ?_ (.data (.sc rfl .nil) .nil);simp only[execOp,ho,hu,hv,yaw,run_eqGuard_agg E.w .eql ty x y us.toArray vs.toArray hgt,run_eql_struct,hein,yaj,ybf]
 ·refine Comes1.same R (v':=.bool (!r)) ?_ (.data (.sc rfl .nil) .nil);simp only[execOp,ho,hu,hv,yaw,run_eqGuard_agg E.w .neq ty x y us.toArray vs.toArray hgt,run_neq_struct,hein,yaj,ybf]
theorem zKB{w:World}{big:Bool}{k:IntKind}{r:List AV}:∀{n m:Int} {us:List Value},VL E r us->zlY Ops.std big k n r=some m->
  (us.foldlM (if big then Builtin.max2 else Builtin.min2) (Value.int k n)).run P w=.ok (.int k m) w:=by
 induction r with
 |nil=>intro n m us hu hm;cases hu;simp only[zlY]at hm;cases hm;rfl
 |cons x r ih=>
  intro n m us hu hm;obtain⟨u,us',rfl,h1,h2⟩:=hu.uncons;unfold zlY at hm;split at hm
  ·rename_i e1;cases e1
  ·rename_i a' k' b r' e1;cases e1;have hb:=h1.sc_inv.1;subst hb;split at hm
   ·rename_i hk;subst hk;rw[List.foldlM_cons]
    cases big with
    |true=>
     simp only at hm;split at hm
     ·rename_i hlt;have h3:=ih h2 hm;simp only[Ops.std,decide_eq_true_eq]at hlt;simp[Builtin.max2,hlt];exact h3
     ·rename_i hlt;have h3:=ih h2 hm;simp only[Ops.std,decide_eq_false_iff_not]at hlt
      simp[Builtin.max2,hlt];exact h3
    |false=>
     simp only at hm;split at hm
     ·rename_i hlt;have h3:=ih h2 hm;simp only[Ops.std,decide_eq_true_eq]at hlt;simp[Builtin.min2,hlt];exact h3
     ·rename_i hlt;have h3:=ih h2 hm;simp only[Ops.std,decide_eq_false_iff_not]at hlt;simp[Builtin.min2,hlt];exact h3
   ·cases hm
  ·cases hm
theorem zMD(R:Rel base h E)(ht:VL E t a.tmps.toList){o:Oper}{big:Bool}{args:Array Operand}{tys:Array TypeId}(ho:o.op=.call {callee:=.builtin (if big then .max else .min),args,argTypes:=tys}){l:List Od}(hl:zhy args.toList=some l)
  {k:IntKind} {n m:Int} {r:List AV} (hr:l.map (od t)=.sc (.int k n)::r) (hm:zlY Ops.std big k n r=some m):Comes1 P base o a h E (.sc (.int k m)) h:=by
 have hv:=zva ht hl;rw[hr]at hv;obtain⟨u,us,hus,h1,h2⟩:=hv.uncons;have h3:=zKB (P:=P) (w:=E.w) h2 hm;have h4:=h1.sc_inv.1;subst h4;have ha:(args.map a.eval).toList=.int k n::us:=by rw[yb6];exact hus
 refine Comes1.same R (v':=.int k m) ?_ (.data (.sc rfl .nil) .nil)
 cases big with
 |true=>
  simp only[if_true]at ho h3
  simp only[execOp,ho,resolve,invoke,builtin,Builtin.max_,ha,yaw,ybf,yaj,h3]
 |false=>
  simp only[ycc,if_false]at ho h3;simp only[execOp,ho,resolve,invoke,builtin,Builtin.min_,ha,yaw,ybf,yaj,h3]
theorem zFQ{x:AV}{v:Value}(hx:VL E [x] [v])(hd:x.data=true):DL E.P E.w E.own [x] [v]:=by
 suffices H:∀(x:AV),(∀v,VL E [x] [v]->x.data=true->DL E.P E.w E.own [x] [v])from H x v hx hd
 intro x;refine AV.rec (motive_1:=fun x=>∀v,VL E [x] [v]->x.data=true->DL E.P E.w E.own [x] [v]) (motive_2:=fun l=>∀vs,VL E l vs->AV.data.go l=true->DL E.P E.w E.own l vs) ?_ ?_ ?_ ?_ ?_ ?_ ?_ ?_ ?_ ?_ ?_ ?_ ?_ x
 ·intro v u hu _;obtain⟨rfl,hp⟩:=hu.sc_inv;exact .sc hp .nil
 ·intro cs ih u hu hd;obtain⟨vs,rfl,h2⟩:=hu.agg_inv;exact .agg (ih vs h2 (by simpa[AV.data]using hd)) .nil
 ·intro cs _ u _ hd;simp[AV.data]at hd
 ·intro e f xs _ u hu _;exact hu.lit_inv
 ·intro k g u _ hd;simp[AV.data]at hd
 ·intro k g lo hi u _ hd;simp[AV.data]at hd
 ·intro k g u _ hd;simp[AV.data]at hd
 ·intro k g i o u _ hd;simp[AV.data]at hd
 ·intro e xs i o _ u _ hd;simp[AV.data]at hd
 ·intro f cs _ u _ hd;simp[AV.data]at hd
 ·intro u _ hd;simp[AV.data]at hd
 ·intro vs h _;cases h;exact .nil
 ·intro x l ihx ihl vs h hd;obtain⟨u,us,rfl,h1,h2⟩:=h.uncons;unfold AV.data.go at hd;split at hd
  ·rename_i hx;exact DL.append (ihx u h1 hx) (ihl us h2 hd)
  ·cases hd
theorem zoJ{x:AV}{v:Value}(hx:DL E.P E.w E.own [x] [v]):DL E.P E.w E.own x.cells v.cells.toList:=by
 cases hx with
 |sc h t=>
       have:v.cells=#[v]:=by cases v<;>simp_all[plainSc,ybG]
       simpa[AV.cells,this]using DL.sc h .nil
 |agg h t=>simpa[AV.cells,ybG]using h
 |lit hc hm hf hs h h1 hr t=>simpa[AV.cells,ybG]using DL.lit hc hm hf hs h h1 hr .nil
mutual
theorem zF2{P:Program}{w:World}{own:Nat->Prop}:∀(sh:Sh) (v:AV) {u:Value},DL P w own [v] [u]->DL P w own [zkO sh v] [u]:=by
 intro sh v u h
 unfold zkO
 split
 ·obtain⟨ad,cap,vals,rfl,hc,hm,_,hs,hd,h1,hr⟩:=h.lit_inv
  split
  ·rename_i hee;subst hee
   exact .lit hc hm (by simp) hs hd h1 hr .nil
  ·split
   ·exact .lit hc hm (by simp) (fun x hx=>by cases hx) hd h1 hr .nil
   ·exact .lit hc hm (by simp) hs hd h1 hr .nil
 ·rename_i shs cs
  cases h with
  |agg h1 t=>exact .agg (zCN shs cs h1) t
 ·exact h
theorem zCN{P:Program}{w:World}{own:Nat->Prop}:∀(shs:List Sh) (l:List AV) {us:List Value},DL P w own l us->DL P w own (ze0 shs l) us:=by
 intro shs l us h
 unfold ze0
 split
 ·rename_i sh shs v vs
  obtain⟨a,b,rfl,h1,h2⟩:=DL.split [v] h
  have hl:=h1.length
  match a,hl with
  | [u],_=>exact(zF2 sh v h1).append (zCN shs vs h2)
 ·exact h
end
theorem zI0:∀(shs:List Sh) (l:List AV),(ze0 shs l).length=l.length:=by
 intro shs
 induction shs with
 |nil=>intro l;simp[ze0]
 |cons sh shs ih=>
  intro l
  cases l with
  |nil=>simp[ze0]
  |cons v vs=>simp[ze0,ih]
theorem zKD(sh:Sh)(v:AV):(zkO sh v).cells.length=v.cells.length:=by
 unfold zkO;split
 ·split
  ·rfl
  ·split<;>rfl
 ·simp[AV.cells,zI0]
 ·rfl
theorem zKh{size:Nat}{sh:Sh}(ht:VL E t a.tmps.toList)(ps:List (Nat×Operand)):∀{n:Nat} {l:List Od} {xs:List AV} {cells:Array Value} {pre:List Value},zgb n ps=some l->zf9 t sh size l=some xs->cells.size=(n+ps.length)*size->cells.toList.take (n*size)=pre->
  ∃us vals,ych (fun i=>some (i*size,size)) cells (ps.map fun(i,x)=>(i,a.eval x))=some us/\us.toList=pre++vals/\DL E.P E.w E.own (flat xs) vals/\(∀u,u∈vals->u.oneCell'=true)/\xs.length=ps.length/\∀x,x∈xs->x.cells.length=size:=by
 induction ps with
 |nil=>
  intro n l xs cells pre hl hx hsz hpre;simp only[zgb]at hl;cases hl;simp only[zf9]at hx;cases hx;refine⟨cells,[],rfl,?_,.nil,(fun u hu=>by cases hu),rfl,(fun x hx=>by cases hx)⟩;rw[ybe,<-hpre,yaN]
  simp at hsz⊢;omega
 |cons p ps ih=>
  intro n l xs cells pre hl hx hsz hpre;obtain⟨i,x⟩:=p;simp only[zgb]at hl;split at hl
  ·rename_i hin;subst hin;split at hl
   ·cases hl;rename_i y l' hy hl';unfold zf9 at hx;split at hx
    ·rename_i hd;split at hx
     ·rename_i hc;obtain⟨hc1,hc2⟩:=hc;split at hx
      ·cases hx;rename_i xs' hxs';have hv:=zaS ht hy;have hdl:=zFQ hv hd;have hcl:=zoJ hdl;have hcn:=zoJ (zF2 sh _ hdl);have hlen:(a.eval x).cells.toList.length=size:=by rw[hcl.length,hc1]
       simp only[yav]at hsz
       have hle:i*size+size<=cells.size:=by
        rw[hsz,<-Nat.succ_mul];exact yaD _ (by omega)
       obtain⟨cells',e1,e2,e3⟩:=zCr (fun i=>some (i*size,size)) cells i (i*size) size (a.eval x) (ps.map fun(i,x)=>(i,a.eval x)) rfl (by rw[<-ya8];exact hlen) hle;have hpl:pre.length=i*size:=by rw[<-hpre,yan];simp;omega
       obtain⟨us,vals,h1,h2,h3,h4,h5,h6⟩:=ih (n:=i+1) (cells:=cells') (pre:=pre++(a.eval x).cells.toList) hl' hxs' (by rw[e1,hsz];congr 1;omega) (by
        rw[e2,hpre,List.take_append,yaN (by rw[yaf,hpl,hlen,yaE,ybR];exact yag _)]
        rw[yaf,hpl,hlen,yaE,ybR,Nat.sub_self];simp)
       refine⟨us,(a.eval x).cells.toList++vals,by rw[yaT,e3];exact h1,by rw[h2,yao],?_,?_,by simp[h5],?_⟩
       ·simp only[flat,ybm];exact hcn.append h3
       ·intro u hu;rcases yal.1 hu with hu|hu
        ·exact(hcl.vl).one_cells (fun c hc=>by simpa using yaS.1 hc2 c hc) u hu
        ·exact h4 u hu
       ·intro z hz;rcases yaJ.1 hz with rfl|hz
        ·rw[zKD];exact hc1
        ·exact h6 z hz
      ·cases hx
     ·cases hx
    ·cases hx
   ·cases hl
  ·cases hl
theorem zFH(R:Rel base h E)(hP:E.P=P)(ht:VL E t a.tmps.toList){o:Oper}{ty e:TypeId}{len:Nat}{ps:Array (Nat×Operand)}(ho:o.op=.buildSlice ty len ps)(hs:P.underlying ty=some (.slice e)){z:AV}(hz:zbb P e=some z)(h0:0<P.cellsOf e)(hm:len*P.cellsOf e<=2^24)
  {l:List Od} {sh:Sh} (hl:zgb 0 ps.toList=some l) (hlen:l.length=len) {xs:List AV} (hx:zf9 t sh (P.cellsOf e) l=some xs):∃us vals,(execOp a.eval o).run E.P E.w=.ok (.value (.slice (some ⟨E.w.heap.size,0,none⟩) len len)) (E.w.alloc (.cells us e))/\
   us.toList=vals/\DL E.P E.w E.own (flat xs) vals/\(∀u,u∈vals->u.oneCell'=true)/\xs.length=len/\(∀x,x∈xs->x.cells.length=E.P.cellsOf e)/\us.size=len*E.P.cellsOf e:=by
 obtain⟨i,zv,hi,hzv,hzs,_,_⟩:=za7 (E:=E) hz;subst hP
 have hpl:ps.toList.length=len:=by
  have:∀(ps:List (Nat×Operand)) n l,zgb n ps=some l->l.length=ps.length:=fun ps=>by
   induction ps with
   |nil=>intro n l h;simp only[zgb]at h;cases h;rfl
   |cons p ps ih=>
    intro n l h;obtain⟨i,x⟩:=p;simp only[zgb]at h;split at h
    ·split at h
     ·cases h;rename_i h2;simp[ih _ _ h2]
     ·cases h
    ·cases h
  rw[<-this _ _ _ hl,hlen]
 obtain⟨us,vals,h1,h2,h3,h4,h5,h6⟩:=zKh ht ps.toList (cells:=madeCells zv.cells (len*E.P.cellsOf e)) (pre:=[]) hl hx (by rw[size_madeCells,hpl];simp) (by simp);have hisz:(sizeOf e).run E.P E.w=.ok (E.P.cellsOf e) E.w:=zbw (by rw[hi];rfl);have hz0:(zeroValue e).run E.P E.w=.ok zv E.w:=by simp[zeroValue,typeInfo,hi,hzv]
 have hxl:xs.length=len:=by rw[h5,hpl]
 have hfill:ych (fun i=>some (i*E.P.cellsOf e,E.P.cellsOf e)) ((Array.range (len*E.P.cellsOf e)).map (zv.cells[· %zv.cells.size]!)) (ps.map fun(i,x)=>(i,a.eval x)).toList=some us:=by
  rw[yb6];exact h1
 have run:(execOp a.eval o).run E.P E.w=.ok (.value (.slice (some ⟨E.w.heap.size,0,none⟩) len len)) (E.w.alloc (.cells us e)):=by
  by_cases hn:len*E.P.cellsOf e=0
  ·have hl0:len=0:=by rcases Nat.mul_eq_zero.1 hn with h|h;exact h;omega
   subst hl0;have hps:ps.toList=[]:=yai hpl;have hpe:ps=#[]:=ybO hps;subst hpe
   have:us=#[]:=by
    have:ych (fun i=>some (i*E.P.cellsOf e,E.P.cellsOf e)) (madeCells zv.cells (0*E.P.cellsOf e)) []=some us:=h1;simp only[ych,Nat.zero_mul]at this;injection this with this;rw[<-this];apply ybt;rw[size_madeCells]
   subst this;simp[execOp,ho,Instr.buildSlice,run_underlying hs,hisz,ych,newRow];congr 2;apply ybt;simp
  ·have hgt:¬len*E.P.cellsOf e>2^24:=by omega
   simp only[execOp,ho,Instr.buildSlice,yaw,run_underlying hs,hisz,yaj,hgt,if_false,hn,hz0,ybf];rw[hfill];simp[newRow]
 refine⟨us,vals,run,by simpa using h2,h3,h4,hxl,h6,?_⟩;rw[<-ya8,h2,ya4,h3.length,zbB h6,hxl]
theorem zPJ(R:Rel base h E)(hP:E.P=P)(ht:VL E t a.tmps.toList){o:Oper}{ty e:TypeId}{len:Nat}{ps:Array (Nat×Operand)}(ho:o.op=.buildSlice ty len ps)(hs:P.underlying ty=some (.slice e)){z:AV}(hz:zbb P e=some z)(h0:0<P.cellsOf e)(hm:len*P.cellsOf e<=2^24)
  {l:List Od} {sh:Sh} (hl:zgb 0 ps.toList=some l) (hlen:l.length=len) {xs:List AV} (hx:zf9 t sh (P.cellsOf e) l=some xs):Comes1 P base o a h E (.lit e true xs) h:=by
 obtain⟨us,vals,run,h2,h3,h4,hxl,h6,_⟩:=zFH R hP ht ho hs hz h0 hm hl hlen hx;subst hP;obtain⟨R',S'⟩:=zsC R (.cells us e);refine⟨_,_,.inl run,R',S',.data ?_ .nil⟩;have hd:=h3.step (E:=E) (E':={E with w:=E.w.alloc (.cells us e)}) S'.ext
 have:=DL.lit (P:=E.P) (w:=E.w.alloc (.cells us e)) (own:=E.own) (e:=e) (full:=true) (xs:=xs) (a:=some ⟨E.w.heap.size,0,none⟩) (cap:=len) (vals:=vals) (r:=[]) (rs:=[]) (by omega) (by
  have:len<=len*E.P.cellsOf e:=Nat.le_mul_of_pos_right _ h0
  simp only[maxLen];omega) (fun _=>hxl.symm) h6 hd h4 (fun j u hu=>⟨E.w.heap.size,0,rfl,fun ho=>by have:=R.lt _ ho;omega,by
   rw[yaQ];have hus:us[j]?=some u:=by rw[<-Array.getElem?_toList,h2];exact hu
   simpa using hus⟩) .nil
 rw[hxl]at this;exact this
end
section
variable {P:Program} {base:Base} {h:Store} {E:Env} {t:List AV} {a:Act}
theorem zee(R:Rel base h E){k b:Nat}(hb:blkOf E h k=some b):b<E.w.heap.size:=R.lt b (R.own k b hb)
theorem zB3{k b:Nat}(hb:blkOf E h k=some b):k<h.length:=by
 obtain⟨e,he,_⟩:=zdo hb;exact(yae.1 he).1
theorem zqb(R:Rel base h E){k g:Nat}(hb:blkOf E h k=some g)(cs':Array Value):Ext E {E with w:=E.w.setRow g cs'}:=
 ⟨rfl,yag _,fun _ _=>yag _,fun _ _ _ _ h=>⟨h,rfl,rfl⟩,fun _ _ h=>⟨h,rfl⟩,fun a v ho hc=>⟨ho,by
  have hne:a.block≠g:=fun e=>ho (by rw[e];exact R.own k g hb)
  rw[<-hc];exact yba (setRow_other E.w g a.block cs' hne)⟩⟩
theorem zvH(R:Rel base h E){k g:Nat}(hb:blkOf E h k=some g)(cs':Array Value)(e':Ent)(hbk:zbF E k e'=some g)(ok:EntOk base {E with w:=E.w.setRow g cs'} k e'):
  Rel base (h.set k e') {E with w:=E.w.setRow g cs'}/\Step h E (h.set k e') {E with w:=E.w.setRow g cs'}:=by
 have hk:=zB3 hb
 have hbo:∀j,j≠k->blkOf {E with w:=E.w.setRow g cs'} (h.set k e') j=blkOf E h j:=fun j hj=>by
  unfold blkOf;rw[yas (ycb hj)]
  cases h[j]? with
  |none=>rfl
  |some e=>exact zbA rfl rfl e
 have hbk':blkOf {E with w:=E.w.setRow g cs'} (h.set k e') k=some g:=by
  rw[zaN (yaq hk)];exact(zbA rfl rfl e').trans hbk
 have S:Step h E (h.set k e') {E with w:=E.w.setRow g cs'}:=⟨zqb R hb cs',rfl,rfl,rfl,by simp,fun b _ hn=>setRow_other E.w g b cs' (fun e=>hn k (by rw[e];exact hb)),fun _ h=>.inl h,fun _ h _=>h,fun j b hj=>.inl (by
  by_cases e:j=k
  ·subst e;rw[hbk']at hj;cases hj;exact⟨j,hb⟩
  ·rw[hbo j e]at hj;exact⟨j,hj⟩)⟩
 refine⟨Rel.upd k e' R S (by simp;exact R.n) (by simp) (yaq hk) (fun j hj=>yas (ycb hj)) (fun _ _=>⟨rfl,rfl,rfl,rfl,rfl⟩) (fun j hj b hjb=>⟨setRow_other E.w g b cs' (fun e=>hj (R.inj j k g (by rw[<-e];exact hjb) hb)),R.own j b hjb⟩) ok
  (fun b hkb=>?_) (fun b hb=>by simp;exact R.lt b hb),S⟩
 rw[hbk']at hkb;cases hkb;exact⟨R.own k g hb,fun j hj hjb=>hj (R.inj j k g hjb hb)⟩
theorem zFZ(R:Rel base h E){cs:List AV}{vals:List Value}(hv:VL E cs vals)(h1:∀c,c∈cs->c.one=true)(ty:TypeId):
  ∃E',E'.w=E.w.alloc (.cells vals.toArray ty)/\Rel base (h++[.box ty cs]) E'/\Step h E (h++[.box ty cs]) E'/\VL E' [.bptr h.length 0] [.pointer (some ⟨E.w.heap.size,0,none⟩)]:=by
 let E':Env:={E with w:=E.w.alloc (.cells vals.toArray ty),n:=E.n+1,top:=fun k=>if k=h.length then 0 else E.top k,box:=fun k=>if k=h.length then E.w.heap.size else E.box k,own:=fun b=>E.own b\/b=E.w.heap.size}
 have hx:Ext E E':=⟨rfl,Nat.le_succ _,fun k hk=>by
   show E.top k<=if k=h.length then 0 else E.top k
   rw[if_neg (by rw[R.n]at hk;omega)];exact yag _,fun _ _ _ _ h=>⟨h,rfl,rfl⟩,fun k hk hg=>⟨hg,by
   show(if k=h.length then _ else _)=_
   rw[if_neg (by rw[R.n]at hk;omega)]⟩,fun a v ho hc=>by
   have hlt:=block_lt_of_cell hc
   exact⟨fun h=>by rcases h with h|h;exact ho h;omega,by rw[<-hc];exact yba (heap_alloc_old E.w _ _ hlt)⟩⟩
 have hbo:∀j,j≠h.length->blkOf E' (h++[.box ty cs]) j=blkOf E h j:=fun j hj=>by
  unfold blkOf;by_cases hlt:j<h.length
  ·rw[yah hlt]
   cases h[j]? with
   |none=>rfl
   |some e=>exact zbA (E:=E) (E':=E') (k:=j) rfl (if_neg hj) e
  ·rw[yau (by simp;omega),yau (by omega)];rfl
 have hnew:blkOf E' (h++[.box ty cs]) h.length=some E.w.heap.size:=by
  rw[zaN (e:=.box ty cs) (by simp)];show some (if h.length=h.length then _ else _)=_;rw[if_pos rfl]
 have S:Step h E (h++[.box ty cs]) E':=⟨hx,rfl,rfl,rfl,by simp[E'],fun b hb _=>heap_alloc_old E.w _ b hb,fun b hb=>by
   rcases hb with hb|hb
   ·exact .inl hb
   ·exact .inr (by omega),fun b hb _=>.inl hb,fun j b hj=>by
   by_cases e:j=h.length
   ·subst e;rw[hnew]at hj;cases hj;exact .inr (yag _)
   ·rw[hbo j e]at hj;exact .inl ⟨j,hj⟩⟩
 refine⟨E',rfl,Rel.upd h.length (.box ty cs) R S (by simp[E',R.n]) (by simp) (by simp) (fun j hj=>?_) (fun j hj=>⟨rfl,if_neg hj,rfl,rfl,?_⟩) (fun j hj b hjb=>⟨heap_alloc_old E.w _ b (zee R hjb),.inl (R.own j b hjb)⟩) ?_ (fun b hb=>?_) (fun b hb=>?_),S,?_⟩
 ·by_cases hlt:j<h.length
  ·exact yah hlt
  ·rw[yau (by simp;omega),yau (by omega)]
 ·show(if j=h.length then _ else _)=_;rw[if_neg hj]
 ·have hb0:E'.box h.length=E.w.heap.size:=if_pos rfl;refine⟨R.nogen _ (yag _),if_pos rfl,by rw[hb0];exact R.le,h1,vals,?_,hv.ext hx⟩;rw[hb0];exact heap_alloc_new E.w _
 ·rw[hnew]at hb;cases hb;exact⟨.inr rfl,fun j hj hjb=>by have:=zee R hjb;omega⟩
 ·rcases hb with hb|hb
  ·have:=R.lt b hb;simp[E'];omega
  ·simp[E',hb]
 ·have:(⟨E.w.heap.size,0,none⟩:Addr)=⟨E'.box h.length,0,none⟩:=by
   have hb0:E'.box h.length=E.w.heap.size:=if_pos rfl;rw[hb0]
  rw[this];exact .bptr (by show h.length<E.n+1;rw[R.n];omega) (R.nogen _ (yag _)) .nil
theorem zPI(R:Rel base h E)(ht:VL E t a.tmps.toList){o:Oper}{ty:TypeId}{x:Operand}(ho:o.op=.box ty x){x':Od}(hx:zaH x=some x')(h1:(od t x').cells.all AV.one=true):Comes1 P base o a h E (.bptr h.length 0) (h++[.box ty (od t x').cells]):=by
 have hv:=zmL (zaS ht hx) h1;obtain⟨E',hw,R',S,V⟩:=zFZ R hv (fun c hc=>by simpa using yaS.1 h1 c hc) ty;refine⟨_,E',.inl ?_,R',S,V⟩;rw[hw];simp[execOp,ho,Instr.box,newVar,newRow]
theorem zKF(R:Rel base h E){o:Oper}{ty:TypeId}(ho:o.op=.alloc ty){z:AV}(hz:zbb P ty=some z)(h1:z.cells.all AV.one=true):Comes1 P base o a h E (.bptr h.length 0) (h++[.box ty z.cells]):=by
 obtain⟨i,zv,hi,hzv,_,hvl,_⟩:=za7 (E:=E) hz;obtain⟨E',hw,R',S,V⟩:=zFZ R hvl (fun c hc=>by simpa using yaS.1 h1 c hc) ty;refine⟨_,E',.inl ?_,R',S,V⟩;rw[hw];simp[execOp,ho,Instr.alloc,zeroValue,typeInfo,hi,hzv,newVar,newRow]
theorem zvL{w:World}{ty:TypeId}(hi:(P.info? ty).isSome=true){b o:Nat}{T:TypeId}{cur:Array Value}(hg:w.heap[b]?=some (.cells cur T (0,0))){v:Value}(hs:v.cells.size=P.cellsOf ty)(hle:o+v.cells.size<=cur.size)(h1:∀u,u∈v.cells.toList->u.oneCell'=true):
  (storeVar ty ⟨b,o,none⟩ v).run P w=.ok () (w.setRow b (cur.toList.take o++v.cells.toList++cur.toList.drop (o+v.cells.toList.length)).toArray):=by
 have:=run_storeCells_at (P:=P) b o T v.cells.toList 0 cur w hg (by simpa using hle) h1;simp only[yce]at this;simp only[storeVar,yaw,zbw hi,yaj,hs,ne_eq,not_true_eq_false,if_false,this]
theorem zI4(R:Rel base h E)(ht:VL E t a.tmps.toList){o:Oper}{ty:TypeId}{p x:Operand}(ho:o.op=.store ty p x)(hi:(P.info? ty).isSome=true){p' x':Od}(hp:zaH p=some p')(hx:zaH x=some x')
  (hn:(od t x').cells.length=P.cellsOf ty) (h1:(od t x').cells.all AV.one=true) {b off:Nat} (hb:od t p'=.bptr b off) {T:TypeId} {cs:List AV} (hcs:h[b]?=some (.box T cs)) (hle:off+P.cellsOf ty<=cs.length):
  Comes1 P base o a h E .bad (h.set b (.box T (zeQ cs off (od t x').cells))):=by
 have hpv:=zaS ht hp;rw[hb]at hpv;obtain⟨hbn,hpe⟩:=hpv.bptr_inv;have hcv:=zmL (zaS ht hx) h1;have ho1:=hcv.one_cells (fun c hc=>by simpa using yaS.1 h1 c hc);obtain⟨hg,htop,hbase,hone,vals,hh,hvl⟩:=R.ent b _ hcs;have hsz:(a.eval x).cells.size=P.cellsOf ty:=by rw[<-hn,<-hcv.length];simp
 have hbl:blkOf E h b=some (E.box b):=zaN hcs;have hlv:=hvl.length;have run:=zvL (P:=P) (w:=E.w) (ty:=ty) hi (b:=E.box b) (o:=off) hh (v:=a.eval x) hsz (by simp;omega) ho1
 obtain⟨R',S'⟩:=zvH R hbl (vals.toArray.toList.take off++(a.eval x).cells.toList++vals.toArray.toList.drop (off+(a.eval x).cells.toList.length)).toArray (.box T (zeQ cs off (od t x').cells)) rfl (by
  refine⟨hg,htop,hbase,fun c hc=>?_,_,setRow_heap E.w (E.box b) _ _ T (0,0) hh,?_⟩
  ·simp only[zeQ,yal]at hc;rcases hc with(hc|hc)|hc
   ·exact hone c (yaz hc)
   ·simpa using yaS.1 h1 c hc
   ·exact hone c (yaG hc)
  ·exact(zAA hvl hcv off).ext (zqb R hbl _))
 refine⟨undef,_,.inr ⟨?_,rfl⟩,R',S',.bad .nil⟩;simp only[execOp,ho,hpe,Instr.storeAt,Instr.sureAddr,yaw,ybf,yaj,run]
end
section
variable {P:Program} {w:World}
theorem zft{ty rt e:TypeId}(ht:P.underlying ty=some (.slice e))(hi:(P.info? e).isSome=true)(bd ad:Option Addr)(n cap c:Nat)(hc:n<=cap):
  (yaV #[ty,ty] rt #[.slice bd n cap,.slice ad 0 c]).run P w=.ok (.slice bd n cap) w:=by
 have h1:=zbw (P:=P) (w:=w) hi
 have hf:∀size,(ybo size 0 (.slice ad 0 c)).run P w=.ok #[] w:=fun size=>by
  cases ad with
  |none=>simp[ybo]
  |some b=>simp[ybo,loadCells,loadCellsFrom]
 cases bd with
 |none=>simp[yaV,run_underlying ht,h1,ycg,hc,hf]
 |some b=>simp[yaV,run_underlying ht,h1,ycg,hc,hf,storeCells]
theorem zlr{ty rt e:TypeId}(ht:P.underlying ty=some (.slice e)){z:AV}(hz:zbb P e=some z)(hsz:0<P.cellsOf e){bd ad:Option Addr}{n cap m c:Nat}(hnone:bd=none->cap=0/\n=0){olds news:List Value}(hol:olds.length=n*P.cellsOf e)(hnl:news.length=m*P.cellsOf e)
  (ho:∀j u,olds[j]?=some u->∃b o,bd=some ⟨b,o,none⟩/\w.cell? ⟨b,o+j,none⟩=some u) (hn:∀j u,news[j]?=some u->∃b o,ad=some ⟨b,o,none⟩/\w.cell? ⟨b,o+j,none⟩=some u) (hm:0<m) (hg:cap<n+m)
  (hb:(n+m)*P.bytesOf e<=140737488355328) (hl:n+m<=maxLen):
  ∃C cap',(yaV #[ty,ty] rt #[.slice bd n cap,.slice ad m c]).run P w=.ok (.slice (some ⟨w.heap.size,0,none⟩) (n+m) cap') (w.drew.alloc (.cells C e))/\n+m<=cap'/\cap'<=maxLen/\C.size=cap'*P.cellsOf e/\C.toList.take ((n+m)*P.cellsOf e)=olds++news:=by
 obtain⟨i,zv,hi,hzv,hzs,_,_⟩:=za7 (E:=(⟨P,w,0,fun _=>none,fun _=>0,fun _=>0,fun _=>undef,fun _=>0,fun _=>False⟩:Env)) hz;have his:P.cellsOf e=i.size:=by simp[ybF,hi]
 have hib:P.bytesOf e=i.bytes:=by simp[Program.bytesOf,hi]
 rw[his]at hsz hol hnl hzs⊢;rw[hib]at hb;have hm63:((n+m:Nat):Int)<=9223372036854775807:=by simp only[maxLen]at hl;omega
 have hfit:Builtin.nextslicecap (n+m) cap*i.bytes<=281474976710656:=growslice_fits hg hb;have hne:∃u,news[0]?=some u:=⟨news[0]'(by rw[hnl];exact Nat.mul_pos hm hsz),yad _⟩
 obtain⟨u,hu⟩:=hne;obtain⟨b,o,rfl,_⟩:=hn 0 u hu
 have hnews:∀j v,news[j]?=some v->w.cell? ((⟨b,o,none⟩:Addr).add j)=some v:=fun j v hj=>by
  obtain⟨b',o',hab,hc⟩:=hn j v hj;injection hab with hab;injection hab with e1 e2 _;subst e1 e2;rw[zcm];exact hc
 have hge:=grownCap_ge w (n+m) cap e;have hle:=grownCap_le_maxLen w (n+m) cap e hl
 cases bd with
 |none=>
  obtain⟨rfl,rfl⟩:=hnone rfl;have hol0:olds=[]:=yai (by simpa using hol);subst hol0;simp only[yaQ]at hm63 hfit hge hle hb hl⊢;have hr:=run_append_nil (P:=P) w ty rt e i zv ht hi hzv ⟨b,o,none⟩ m c news hnl hnews hm hm63 (by omega);refine⟨_,_,hr,hge,hle,?_,?_⟩
  ·simp only[Array.size_append,ybc,size_zeroCells,hzs,hnl,<-yaE];congr 1;omega
  ·simp only[yb2,ya4]
   rw[<-hnl];exact ya9
 |some bA=>
  have holds:∀j v,olds[j]?=some v->w.cell? (bA.add j)=some v:=fun j v hj=>by
   obtain⟨b',o',hab,hc⟩:=ho j v hj;injection hab with hab;subst hab;rw[zcm];exact hc
  have hr:=run_append_grow (P:=P) w ty rt e i zv ht hi hzv bA n cap olds hol holds ⟨b,o,none⟩ m c news hnl hnews hg hm63 hfit;refine⟨_,_,hr,hge,hle,?_,?_⟩
  ·simp only[Array.size_append,ybc,size_zeroCells,hzs,hnl,hol,<-yaE];congr 1;omega
  ·simp only[yb2];have hlen:(olds++news).length=(n+m)*i.size:=by rw[yaf,hol,hnl,yaE]
   rw[<-hlen];exact ya9
end
section
variable {P:Program} {base:Base} {h:Store} {E:Env} {t:List AV} {a:Act}
theorem zjp{bytes:Nat}{xs ys:List AV}(h:Ops.std.room bytes xs ys=true):(xs.length+ys.length)*bytes<=140737488355328/\xs.length+ys.length<=maxLen:=by
 simpa[Ops.std]using h
theorem zp8(R:Rel base h E):Rel base h {E with w:=E.w.drew}/\Step h E h {E with w:=E.w.drew}:=by
 have hx:Ext E {E with w:=E.w.drew}:=⟨rfl,yag _,fun _ _=>yag _,fun _ _ _ _ h=>⟨h,rfl,rfl⟩,fun _ _ h=>⟨h,rfl⟩,fun a v ho hc=>⟨ho,hc⟩⟩
 refine⟨⟨R.n,⟨R.lo.le,R.lo.low⟩,fun k e he=>(R.ent k e he).step hx ⟨rfl,rfl,rfl,rfl,rfl⟩ (fun b hb=>rfl),R.nogen,R.own,R.inj,R.lt⟩,⟨hx,rfl,rfl,rfl,yag _,fun _ _ _=>rfl,fun _ h=>.inl h,fun _ h _=>h,fun k _ h=>.inl ⟨k,h⟩⟩⟩
theorem zj9(R:Rel base h E){k g:Nat}{e:TypeId}{xs:List AV}(hk:h[k]?=some (.row e g false xs)){w':World}{v':Value}{xs':List AV}{vals':List Value}(hos:w'.os=E.w.os)(htape:w'.tape=E.w.tape)(hout:w'.output=E.w.output)(hsz:E.w.heap.size<=w'.heap.size)
  (hheap:∀b,b<E.w.heap.size->zaP (E.row k)≠some b->w'.heap[b]?=E.w.heap[b]?) (hblk:∀b,zaP v'=some b->(zaP (E.row k)=some b\/E.w.heap.size<=b)/\b<w'.heap.size)
  (hrow:RowAt base w' e (E.P.cellsOf e) v' xs'.length vals') (h1:v'.oneCell'=true) (hs:∀x,x∈xs'->x.cells.length=E.P.cellsOf e) (hone:∀u,u∈vals'->u.oneCell'=true) (hdl:DL E.P E.w E.own (flat xs') vals'):
  ∃E',E'.w=w'/\Rel base (h.set k (.row e (g+1) false xs')) E'/\Step h E (h.set k (.row e (g+1) false xs')) E'/\VL E' [.sl k (g+1)] [v']:=by
 have hkl:k<h.length:=(yae.1 hk).1;obtain⟨hgen,htop,hesz,_⟩:=R.ent k _ hk
 let E':Env:={E with w:=w',gen:=fun j=>if j=k then some (g+1)else E.gen j,top:=fun j=>if j=k then g+1 else E.top j,row:=fun j=>if j=k then v' else E.row j,own:=fun b=>(E.own b/\zaP (E.row k)≠some b)\/zaP v'=some b}
 have hbk:blkOf E h k=zaP (E.row k):=zaN hk;have hheap':∀b,b<E.w.heap.size->(∀j,blkOf E h j≠some b)->w'.heap[b]?=E.w.heap[b]?:=fun b hb hn=>hheap b hb (by rw[<-hbk];exact hn k)
 have hfresh:∀b,E'.own b->E.own b\/E.w.heap.size<=b:=fun b hb=>by
  rcases hb with⟨h,_⟩|h
  ·exact .inl h
  ·rcases(hblk b h).1 with h|h
   ·exact .inl (R.own k b (by rw[hbk];exact h))
   ·exact .inr h
 have hx:Ext E E':=⟨rfl,yag _,fun j hj=>by
   show E.top j<=if j=k then g+1 else E.top j
   split
   ·rename_i e;subst e;rw[htop];omega
   ·exact yag _,fun j g' hj hg' hc=>by
   have hc':(if j=k then some (g+1)else E.gen j)=some g':=hc;show E.gen j=some g'/\(if j=k then v' else E.row j)=E.row j/\E.esz j=E.esz j;by_cases e:j=k
   ·subst e;rw[if_pos rfl]at hc';cases hc';rw[htop]at hg';omega
   ·rw[if_neg e]at hc'
    exact⟨hc',if_neg e,rfl⟩,fun j hj hg=>⟨by
   show(if j=k then some (g+1)else E.gen j)=none
   rw[if_neg (fun e=>by subst e;have:=(R.ent _ _ hk).1;rw[this]at hg;cases hg)];exact hg,rfl⟩,zwD R hheap' hfresh⟩
 have hrk:E'.row k=v':=if_pos rfl;have hro:∀j,j≠k->E'.row j=E.row j:=fun j hj=>if_neg hj
 have hbo:∀j,j≠k->blkOf E' (h.set k (.row e (g+1) false xs')) j=blkOf E h j:=fun j hj=>by
  unfold blkOf;rw[yas (ycb hj)]
  cases h[j]? with
  |none=>rfl
  |some e'=>exact zbA (E:=E) (E':=E') (k:=j) (hro j hj) rfl e'
 have hbk':blkOf E' (h.set k (.row e (g+1) false xs')) k=zaP v':=by
  rw[zaN (yaq hkl)];show zaP (E'.row k)=_;rw[hrk]
 have S:Step h E (h.set k (.row e (g+1) false xs')) E':=⟨hx,hos,htape,hout,hsz,hheap',hfresh,fun b hb hn=>.inl ⟨hb,by rw[<-hbk];exact hn k⟩,fun j b hj=>by
   by_cases ej:j=k
   ·subst ej;rw[hbk']at hj;rcases(hblk b hj).1 with h|h
    ·exact .inl ⟨j,by rw[hbk];exact h⟩
    ·exact .inr h
   ·rw[hbo j ej]at hj;exact .inl ⟨j,hj⟩⟩
 refine⟨E',rfl,Rel.upd k (.row e (g+1) false xs') R S (by simp;exact R.n) (by simp) (yaq hkl) (fun j hj=>yas (ycb hj)) (fun j hj=>⟨if_neg hj,if_neg hj,rfl,hro j hj,rfl⟩) (fun j hj b hjb=>?_) ?_ (fun b hb=>?_) (fun b hb=>?_),S,?_⟩
 ·have hne:zaP (E.row k)≠some b:=fun hc=>hj (R.inj j k b hjb (by rw[hbk];exact hc))
  exact⟨hheap b (zee R hjb) hne,.inl ⟨R.own j b hjb,hne⟩⟩
 ·exact⟨if_pos rfl,if_pos rfl,hesz,hs,vals',by rw[hrk];exact hrow,hdl.step hx,hone⟩
 ·rw[hbk']at hb;refine⟨.inr hb,fun j hj hjb=>?_⟩;rcases(hblk b hb).1 with h|h
  ·exact hj (R.inj j k b hjb (by rw[hbk];exact h))
  ·have:=zee R hjb;omega
 ·rcases hb with⟨hb,_⟩|hb
  ·exact yaW (R.lt b hb) hsz
  ·exact(hblk b hb).2
 ·refine .sl (by show k<E.n;rw[R.n];exact hkl) ?_ h1 (fun _=>hrk.symm) .nil;show g+1<=if k=k then g+1 else E.top k
  rw[if_pos rfl];exact yag _
theorem zc2(R:Rel base h E){e:TypeId}{w':World}{v':Value}{xs':List AV}{vals':List Value}(hos:w'.os=E.w.os)(htape:w'.tape=E.w.tape)(hout:w'.output=E.w.output)(hsz:E.w.heap.size<=w'.heap.size)
  (hheap:∀b,b<E.w.heap.size->w'.heap[b]?=E.w.heap[b]?) (hblk:∀b,zaP v'=some b->E.w.heap.size<=b/\b<w'.heap.size)
  (hrow:RowAt base w' e (E.P.cellsOf e) v' xs'.length vals') (h1:v'.oneCell'=true) (hs:∀x,x∈xs'->x.cells.length=E.P.cellsOf e) (hone:∀u,u∈vals'->u.oneCell'=true) (hdl:DL E.P E.w E.own (flat xs') vals'):
  ∃E',E'.w=w'/\Rel base (h++[.row e 0 false xs']) E'/\Step h E (h++[.row e 0 false xs']) E'/\VL E' [.sl h.length 0] [v']:=by
 let E':Env:={E with w:=w',n:=E.n+1,gen:=fun j=>if j=h.length then some 0 else E.gen j,top:=fun j=>if j=h.length then 0 else E.top j,esz:=fun j=>if j=h.length then E.P.cellsOf e else E.esz j,row:=fun j=>if j=h.length then v' else E.row j,own:=fun b=>E.own b\/zaP v'=some b}
 have hheap':∀b,b<E.w.heap.size->(∀j,blkOf E h j≠some b)->w'.heap[b]?=E.w.heap[b]?:=fun b hb _=>hheap b hb
 have hfresh:∀b,E'.own b->E.own b\/E.w.heap.size<=b:=fun b hb=>by
  rcases hb with h|h
  ·exact .inl h
  ·exact .inr (hblk b h).1
 have hx:Ext E E':=⟨rfl,Nat.le_succ _,fun j hj=>by
   show E.top j<=if j=h.length then 0 else E.top j
   rw[if_neg (by rw[R.n]at hj;omega)];exact yag _,fun j g' hj hg' hc=>by
   have hne:j≠h.length:=by rw[R.n]at hj;omega
   have hc':(if j=h.length then some 0 else E.gen j)=some g':=hc;rw[if_neg hne]at hc'
   exact⟨hc',if_neg hne,if_neg hne⟩,fun j hj hg=>⟨by
   show(if j=h.length then some 0 else E.gen j)=none
   rw[if_neg (by rw[R.n]at hj;omega)];exact hg,rfl⟩,zwD R hheap' hfresh⟩
 have hrk:E'.row h.length=v':=if_pos rfl;have hro:∀j,j≠h.length->E'.row j=E.row j:=fun j hj=>if_neg hj
 have hbo:∀j,j≠h.length->blkOf E' (h++[.row e 0 false xs']) j=blkOf E h j:=fun j hj=>by
  unfold blkOf;by_cases hlt:j<h.length
  ·rw[yah hlt]
   cases h[j]? with
   |none=>rfl
   |some e'=>exact zbA (E:=E) (E':=E') (k:=j) (hro j hj) rfl e'
  ·rw[yau (by simp;omega),yau (by omega)];rfl
 have hnew:blkOf E' (h++[.row e 0 false xs']) h.length=zaP v':=by
  rw[zaN (e:=.row e 0 false xs') (by simp)];show zaP (E'.row h.length)=_;rw[hrk]
 have S:Step h E (h++[.row e 0 false xs']) E':=⟨hx,hos,htape,hout,hsz,hheap',hfresh,fun b hb _=>.inl hb,fun j b hj=>by
   by_cases ej:j=h.length
   ·subst ej;rw[hnew]at hj;exact .inr (hblk b hj).1
   ·rw[hbo j ej]at hj;exact .inl ⟨j,hj⟩⟩
 refine⟨E',rfl,Rel.upd h.length (.row e 0 false xs') R S (by simp[E',R.n]) (by simp) (by simp) (fun j hj=>?_) (fun j hj=>⟨if_neg hj,if_neg hj,if_neg hj,hro j hj,rfl⟩) (fun j hj b hjb=>⟨hheap b (zee R hjb),.inl (R.own j b hjb)⟩) ?_ (fun b hb=>?_) (fun b hb=>?_),S,?_⟩
 ·by_cases hlt:j<h.length
  ·exact yah hlt
  ·rw[yau (by simp;omega),yau (by omega)]
 ·exact⟨if_pos rfl,if_pos rfl,if_pos rfl,hs,vals',by rw[hrk];exact hrow,hdl.step hx,hone⟩
 ·rw[hnew]at hb;exact⟨.inr hb,fun j hj hjb=>by have:=zee R hjb;have:=(hblk b hb).1;omega⟩
 ·rcases hb with hb|hb
  ·exact yaW (R.lt b hb) hsz
  ·exact(hblk b hb).2
 ·refine .sl (by show h.length<E.n+1;rw[R.n];omega) ?_ h1 (fun _=>hrk.symm) .nil;show 0<=_;exact yaP _
theorem zep(xs ys:List AV):flat (xs++ys)=flat xs++flat ys:=by simp[flat]
theorem zp0{base:Base}{w:World}{C:Array Value}{e:TypeId}{size n cap:Nat}{vals:List Value}(hb:base<=w.heap.size)(h0:0<n)(hn:n<=cap)(hm:cap<=maxLen)(hsz:C.size=cap*size)(ht:C.toList.take (n*size)=vals)(hl:vals.length=n*size):
  RowAt base (w.drew.alloc (.cells C e)) e size (.slice (some ⟨w.heap.size,0,none⟩) n cap) n vals:=
 ⟨hl,.inr ⟨w.heap.size,cap,C,by omega,rfl,hb,heap_alloc_new w.drew _,hn,hm,hsz,ht⟩⟩
section
variable {o:Oper} {ty e:TypeId} {x y:Operand} {args:Array Operand} {tys:Array TypeId} {x' y':Od} {z:AV} {ys:List AV}
theorem zih(ho:o.op=.call {callee:=.builtin .append,args,argTypes:=tys})(hargs:args.toList=[x,y])(htys:tys.toList=[ty,ty]){v:Value}{w w':World}(hr:(yaV #[ty,ty] o.type #[a.eval x,a.eval y]).run P w=.ok v w'):(execOp a.eval o).run P w=.ok (.value v) w':=by
 have ea:args=#[x,y]:=ybO hargs;have et:tys=#[ty,ty]:=ybO htys;subst ea et;simp[execOp,ho,resolve,invoke,builtin,hr]
theorem zNl(R:Rel base h E)(hP:E.P=P)(ht:VL E t a.tmps.toList)(ho:o.op=.call {callee:=.builtin .append,args,argTypes:=tys})(hargs:args.toList=[x,y])(htys:tys.toList=[ty,ty])(hs:P.underlying ty=some (.slice e))(hz:zbb P e=some z)(h0:0<P.cellsOf e)
  (hx:zaH x=some x') (hy:zaH y=some y') (hys:zbc Ops.std h (od t y')=some ys) (hsize:∀x,x∈ys->x.cells.length=P.cellsOf e) {e':TypeId} (hlit:od t x'=.lit e' true []) (hroom:Ops.std.room (P.bytesOf e) [] ys=true):
  Comes1 P base o a h E (.sl h.length 0) (h++[.row e 0 false ys]):=by
 have hxv:=zaS ht hx;rw[hlit]at hxv;obtain⟨bd,cap,_,hv,_,_,hf,_⟩:=hxv.lit_inv.lit_inv;have hcap:cap=0:=hf rfl;subst hcap;obtain⟨ad,c,news,hyv,hc,hm,hd,hone,_,hrd⟩:=zeJ R (zaS ht hy) hys;obtain⟨hb,hl⟩:=zjp hroom;have hinfo:(P.info? e).isSome=true:=by obtain⟨i,_,hi,_⟩:=za7 (E:=E) hz;rw[hi];rfl
 subst hP;have hnl:news.length=ys.length*E.P.cellsOf e:=by rw[hd.length,zbB hsize]
 simp only[List.length_nil,yaQ]at hb hl;by_cases hm0:ys.length=0
 ·have hyn:ys=[]:=yai hm0;subst hyn;have hr:=zft (w:=E.w) (rt:=o.type) hs hinfo bd ad 0 0 c (yag _)
  obtain⟨E',hw,R',S,V⟩:=zc2 (base:=base) R (e:=e) (w':=E.w) (v':=.slice bd 0 0) (xs':=[]) (vals':=[]) rfl rfl rfl (yag _) (fun _ _=>rfl) (fun b hb=>by cases bd<;>simp[zaP]at hb)
   ⟨by simp,.inl ⟨rfl,bd,rfl⟩⟩ rfl (fun x hx=>by cases hx) (fun u hu=>by cases hu) .nil
  refine⟨_,E',.inl ?_,R',S,V⟩;rw[hw];exact zih ho hargs htys (by rw[hv,hyv];exact hr)
 ·obtain⟨C,cap',hr,hge,hle,hcs,htk⟩:=zlr (w:=E.w) (ty:=ty) (rt:=o.type) hs hz h0 (bd:=bd) (ad:=ad) (n:=0) (cap:=0) (m:=ys.length) (c:=c) (fun _=>⟨rfl,rfl⟩) (olds:=[]) (news:=news) (by simp) hnl (fun j u hu=>by cases hu) hrd (by omega) (by omega) (by simpa using hb) (by simpa using hl);simp only[yaQ]at hr hge htk
  obtain⟨E',hw,R',S,V⟩:=zc2 (base:=base) R (e:=e) (w':=E.w.drew.alloc (.cells C e)) (v':=.slice (some ⟨E.w.heap.size,0,none⟩) ys.length cap') (xs':=ys) (vals':=news) rfl rfl rfl (by simp) (fun b hb=>heap_alloc_old E.w.drew _ b hb)
   (fun b hb=>by
    cases cap' with
    |zero=>simp[zaP]at hb
    |succ c'=>simp[zaP]at hb;subst hb;simp)
   (zp0 R.le (by omega) hge hle hcs (by simpa using htk) hnl) rfl hsize hone hd
  refine⟨_,E',.inl ?_,R',S,V⟩;rw[hw];exact zih ho hargs htys (by rw[hv,hyv];exact hr)
theorem zNm(R:Rel base h E)(hP:E.P=P)(ht:VL E t a.tmps.toList)(ho:o.op=.call {callee:=.builtin .append,args,argTypes:=tys})(hargs:args.toList=[x,y])(htys:tys.toList=[ty,ty])(hs:P.underlying ty=some (.slice e))(hz:zbb P e=some z)(h0:0<P.cellsOf e)
  (hx:zaH x=some x') (hy:zaH y=some y') (hys:zbc Ops.std h (od t y')=some ys) (hsize:∀x,x∈ys->x.cells.length=P.cellsOf e) {xs:List AV} (hlit:od t x'=.lit e true xs) (hroom:Ops.std.room (P.bytesOf e) xs ys=true):
  Comes1 P base o a h E (.lit e false (xs++ys)) h:=by
 have hxv:=zaS ht hx;rw[hlit]at hxv;have hlv:=hxv.lit_inv;obtain⟨bd,cap,olds,hv,hcx,hmx,hf,hsx,hdx,honex,hrdx⟩:=hlv.lit_inv;have hcap:cap=xs.length:=hf rfl;subst hcap;obtain⟨ad,c,news,hyv,hc,hm,hd,hone,_,hrd⟩:=zeJ R (zaS ht hy) hys;obtain⟨hb,hl⟩:=zjp hroom;have hinfo:(P.info? e).isSome=true:=by obtain⟨i,_,hi,_⟩:=za7 (E:=E) hz;rw[hi];rfl
 subst hP;have hnl:news.length=ys.length*E.P.cellsOf e:=by rw[hd.length,zbB hsize]
 have hol:olds.length=xs.length*E.P.cellsOf e:=by rw[hdx.length,zbB hsx]
 by_cases hm0:ys.length=0
 ·have hyn:ys=[]:=yai hm0;subst hyn;have hr:=zft (w:=E.w) (rt:=o.type) hs hinfo bd ad xs.length xs.length c (yag _);refine Comes1.same R (v':=.slice bd xs.length xs.length) (zih ho hargs htys (by rw[hv,hyv];exact hr)) (.data ?_ .nil);rw[ybe];exact .lit (yag _) hmx (fun _=>rfl) hsx hdx honex hrdx .nil
 ·have hnone:bd=none->xs.length=0/\xs.length=0:=fun hbn=>by
   have:xs.length=0:=by
    rcases Nat.eq_zero_or_pos xs.length with h|h
    ·exact h
    ·obtain⟨u,hu⟩:=zlG hsx h0 hdx.length h;obtain⟨_,_,hb,_⟩:=hrdx _ u hu;rw[hbn]at hb;cases hb
   exact⟨this,this⟩
  obtain⟨C,cap',hr,hge,hle,hcs,htk⟩:=zlr (w:=E.w) (ty:=ty) (rt:=o.type) hs hz h0 (bd:=bd) (ad:=ad) (n:=xs.length) (cap:=xs.length) (m:=ys.length) (c:=c) hnone hol hnl (fun j u hu=>by obtain⟨b,o',h1,_,h2⟩:=hrdx j u hu;exact⟨b,o',h1,h2⟩) hrd (by omega) (by omega) hb hl;obtain⟨R1,S1⟩:=zp8 R;obtain⟨R2,S2⟩:=zsC R1 (.cells C e);have S:=S1.trans S2 R.lt;refine⟨_,_,.inl (zih ho hargs htys (by rw[hv,hyv];exact hr)),R2,S,.data ?_ .nil⟩;rw[<-yaf]
  refine .lit (by rw[yaf];exact hge) hle (by intro h;cases h) (fun x hx=>by
   rcases yal.1 hx with hx|hx
   ·exact hsx x hx
   ·exact hsize x hx) (vals:=olds++news) (by rw[zep];exact(hdx.step S.ext).append (hd.step S.ext)) (fun u hu=>by
   rcases yal.1 hu with hu|hu
   ·exact honex u hu
   ·exact hone u hu) (fun j u hu=>⟨E.w.heap.size,0,rfl,fun ho=>by have:=R.lt _ ho;omega,?_⟩) .nil
  rw[<-htk,yaM]at hu;split at hu
  ·rw[yaQ];have:(E.w.drew.alloc (.cells C e)).cell? ⟨E.w.heap.size,j,none⟩=C[j]?:=cell_of_row _ _ j C e (0,0) (heap_alloc_new E.w.drew _);exact this.trans (by simpa using hu)
  ·cases hu
theorem zF3(R:Rel base h E)(hP:E.P=P)(ht:VL E t a.tmps.toList)(ho:o.op=.call {callee:=.builtin .append,args,argTypes:=tys})(hargs:args.toList=[x,y])(htys:tys.toList=[ty,ty])(hs:P.underlying ty=some (.slice e))(hz:zbb P e=some z)(h0:0<P.cellsOf e)
  (hx:zaH x=some x') (hy:zaH y=some y') (hys:zbc Ops.std h (od t y')=some ys) (hsize:∀x,x∈ys->x.cells.length=P.cellsOf e) {k g:Nat} {xs:List AV} (hsl:od t x'=.sl k g) (hr:zaV h k g=some (e,false,xs)) (hroom:Ops.std.room (P.bytesOf e) xs ys=true):
  Comes1 P base o a h E (.sl k (g+1)) (h.set k (.row e (g+1) false (xs++ys))):=by
 have hxv:=zaS ht hx;rw[hsl]at hxv;have hk:=za2 hr;obtain⟨hgen,htop,hesz,hsx,olds,hrow,hdx,honex⟩:=R.ent k _ hk;have hv:=hxv.sl_inv.2.2.2 hgen;obtain⟨ad,c,news,hyv,hc,hm,hd,hone,_,hrd⟩:=zeJ R (zaS ht hy) hys;obtain⟨hb,hl⟩:=zjp hroom;have hinfo:(P.info? e).isSome=true:=by obtain⟨i,_,hi,_⟩:=za7 (E:=E) hz;rw[hi];rfl
 subst hP;have hnl:news.length=ys.length*E.P.cellsOf e:=by rw[hd.length,zbB hsize]
 have hol:=hrow.1
 have hsize':∀x,x∈xs++ys->x.cells.length=E.P.cellsOf e:=fun x hx=>by
  rcases yal.1 hx with hx|hx
  ·exact hsx x hx
  ·exact hsize x hx
 have hone':∀u,u∈olds++news->u.oneCell'=true:=fun u hu=>by
  rcases yal.1 hu with hu|hu
  ·exact honex u hu
  ·exact hone u hu
 have hdl':DL E.P E.w E.own (flat (xs++ys)) (olds++news):=by rw[zep];exact hdx.append hd
 have grow:∀bd cap,E.row k=.slice bd xs.length cap->xs.length<=cap->(bd=none->cap=0/\xs.length=0)->(∀j u,olds[j]?=some u->∃b o,bd=some ⟨b,o,none⟩/\E.w.cell? ⟨b,o+j,none⟩=some u)->0<ys.length->cap<xs.length+ys.length->
   Comes1 E.P base o a h E (.sl k (g+1)) (h.set k (.row e (g+1) false (xs++ys))):=fun bd cap he hcap hnone hro hy0 hgt=>by
  obtain⟨C,cap',hr,hge,hle,hcs,htk⟩:=zlr (w:=E.w) (ty:=ty) (rt:=o.type) hs hz h0 (bd:=bd) (ad:=ad) (n:=xs.length) (cap:=cap) (m:=ys.length) (c:=c) hnone hol hnl hro hrd hy0 hgt hb hl
  obtain⟨E',hw,R',S,V⟩:=zj9 (base:=base) R hk (w':=E.w.drew.alloc (.cells C e)) (v':=.slice (some ⟨E.w.heap.size,0,none⟩) (xs.length+ys.length) cap') (xs':=xs++ys) (vals':=olds++news) rfl rfl rfl (by simp) (fun b hb _=>heap_alloc_old E.w.drew _ b hb)
   (fun b hb=>by
    cases cap' with
    |zero=>simp[zaP]at hb
    |succ c'=>simp[zaP]at hb;subst hb;exact⟨.inr (yag _),by simp⟩)
   (by rw[yaf];exact zp0 R.le (by omega) hge hle hcs htk (by rw[yaf,hol,hnl,yaE])) rfl hsize' hone' hdl'
  refine⟨_,E',.inl ?_,R',S,V⟩;rw[hw];exact zih ho hargs htys (by rw[hv,he,hyv];exact hr)
 by_cases hm0:ys.length=0
 ·have hyn:ys=[]:=yai hm0;subst hyn;have hne:news=[]:=yai (by rw[hnl];simp);subst hne
  have hrv:∃bd cap,E.row k=.slice bd xs.length cap/\xs.length<=cap:=by
   rcases hrow.2 with⟨hn,a',ha⟩|⟨g',cap,cur,_,ha,_,_,hle,_⟩
   ·exact⟨a',0,by rw[ha,hn],by omega⟩
   ·exact⟨_,cap,ha,hle⟩
  obtain⟨bd,cap,he,hle⟩:=hrv;have hr0:=zft (w:=E.w) (rt:=o.type) hs hinfo bd ad xs.length cap c hle
  obtain⟨E',hw,R',S,V⟩:=zj9 (base:=base) R hk (w':=E.w) (v':=E.row k) (xs':=xs++[]) (vals':=olds++[]) rfl rfl rfl (yag _) (fun _ _ _=>rfl) (fun b hb=>⟨.inl hb,zee R (k:=k) (by rw[zaN hk];exact hb)⟩)
   (by rw[ybe,ybe];exact hrow) (by rw[he];rfl) hsize' hone' hdl'
  refine⟨_,E',.inl ?_,R',S,V⟩;rw[hw];refine zih ho hargs htys ?_;rw[hv,hyv,he];exact hr0
 ·rcases hrow.2 with⟨hn,a',ha⟩|⟨b0,cap,cur,hc0,ha,hbb,hh,hle,hmx,hcs,htk⟩
  ·refine grow a' 0 (by rw[ha,hn]) (by omega) (fun _=>⟨rfl,hn⟩) (fun j u hu=>?_) (by omega) (by omega);rw[hn,Nat.zero_mul]at hol;rw[yai hol]at hu;cases hu
  ·by_cases hroomy:xs.length+ys.length<=cap
   ·obtain⟨i,zv,hi,hzv,hzs,_,_⟩:=za7 (E:=E) hz;have his:E.P.cellsOf e=i.size:=by simp[ybF,hi]
    have hne:∃u,news[0]?=some u:=⟨news[0]'(by rw[hnl];exact Nat.mul_pos (by omega) h0),yad _⟩
    obtain⟨u0,hu0⟩:=hne;obtain⟨b1,o1,rfl,_⟩:=hrd 0 u0 hu0
    have hnews:∀j v,news[j]?=some v->E.w.cell? ((⟨b1,o1,none⟩:Addr).add j)=some v:=fun j v hj=>by
     obtain⟨b',o',hab,hc'⟩:=hrd j v hj;injection hab with hab;injection hab with e1 e2 _;subst e1 e2;rw[zcm];exact hc'
    have hfit:xs.length*i.size+news.length<=cur.size:=by
     rw[hcs,hnl,<-his,<-yaE];exact yaD _ hroomy
    have hra:=run_append_room (P:=E.P) E.w ty o.type e i hs hi b0 xs.length cap cur hh ⟨b1,o1,none⟩ ys.length c news (by rw[hnl,his]) hnews hone hroomy hfit
    have hblk0:zaP (E.row k)=some b0:=by
     rw[ha]
     cases cap with
     |zero=>omega
     |succ c'=>rfl
    have hbk:blkOf E h k=some b0:=(zaN hk).trans hblk0
    have hrv':zaP (.slice (some ⟨b0,0,none⟩) (xs.length+ys.length) cap)=some b0:=by
     cases cap with
     |zero=>omega
     |succ c'=>rfl
    obtain⟨E',hw,R',S,V⟩:=zj9 (base:=base) R hk (w':=E.w.setRow b0 (cur.toList.take (xs.length*i.size)++news++cur.toList.drop (xs.length*i.size+news.length)).toArray) (v':=.slice (some ⟨b0,0,none⟩) (xs.length+ys.length) cap) (xs':=xs++ys) (vals':=olds++news) rfl rfl rfl (by simp)
     (fun b _ hne=>setRow_other E.w b0 b _ (fun e=>hne (by rw[hblk0,e])))
     (fun b hb=>by rw[hrv']at hb;cases hb;exact⟨.inl hblk0,by simp;exact zee R hbk⟩)
     (by
      refine⟨by rw[yaf,yaf,hol,hnl,yaE],.inr ⟨b0,cap,_,hc0,by rw[yaf],hbb,setRow_heap E.w b0 cur _ e (0,0) hh,by rw[yaf];exact hroomy,hmx,?_,?_⟩⟩
      ·have hc3:cur.toList.length=cap*E.P.cellsOf e:=by simpa using hcs
       simp only[ybc,yaf,yan,yar,hc3];rw[<-his]at hfit⊢;rw[hcs]at hfit;omega
      ·have hl1:(cur.toList.take (xs.length*i.size))=olds:=by rw[<-his];exact htk
       simp only[yao];rw[hl1,yaf,<-yao];have hlen:(olds++news).length=(xs.length+ys.length)*E.P.cellsOf e:=by rw[yaf,hol,hnl,yaE]
       rw[<-hlen];exact ya9) rfl hsize' hone' hdl'
    refine⟨_,E',.inl ?_,R',S,V⟩;rw[hw];refine zih ho hargs htys ?_;rw[hv,hyv,ha];exact hra
   ·refine grow _ cap ha hle (fun h=>by cases h) (fun j u hu=>⟨b0,0,rfl,?_⟩) (by omega) (by omega);rw[yaQ,cell_of_row E.w b0 j cur e (0,0) hh];rw[<-htk,yaM]at hu;split at hu
    ·simpa using hu
    ·cases hu
end
end
section
variable {P:Program} {base:Base} {h:Store} {E:Env} {t:List AV} {a:Act}
theorem zgd(R:Rel base h E){x:AV}{xv:Value}(hx:VL E [x] [xv]){e:TypeId}{xs:List AV}(he:zbU Ops.std h e x=some xs):zbc Ops.std h x=some xs/\∀y,y∈xs->y.cells.length=E.P.cellsOf e:=by
 cases x with
 |lit e' f ys=>
  obtain⟨_,_,_,_,_,_,_,hs,_⟩:=hx.lit_inv.lit_inv;simp only[zbU]at he;split at he
  ·rename_i hee;subst hee;cases he;exact⟨rfl,hs⟩
  ·split at he
   ·cases he;exact⟨rfl,fun y hy=>by cases hy⟩
   ·cases he
 |sl k g=>
  simp only[zbU]at he;split at he
  ·rename_i e' ro ys hr;split at he
   ·rename_i hee;subst hee;cases he;exact⟨by simp only[zbc,hr],(zbk R hr).2.2.1⟩
   ·cases he
  ·cases he
 |sub k g lo hi=>
  simp only[zbU]at he;split at he
  ·rename_i e' ro ys hr;split at he
   ·rename_i hee;subst hee;refine⟨by simp only[zbc,hr];exact he,fun y hy=>?_⟩;simp only[Ops.std]at he;split at he
    ·cases he;exact(zbk R hr).2.2.1 y (yaz (yaG hy))
    ·cases he
   ·cases he
  ·cases he
 |_=>simp[zbU]at he
theorem zKj{xs:List AV}{s:Nat}(hs:∀x,x∈xs->x.cells.length=s):∀(i:Nat) (y:AV),i<xs.length->y.cells.length=s->flat (xs.set i y)=(flat xs).take (i*s)++y.cells++(flat xs).drop (i*s+s):=by
 induction xs with
 |nil=>intro i y hi;cases hi
 |cons x xs ih=>
  intro i y hi hy;have hx:=hs x (ybp ..)
  cases i with
  |zero=>
   simp only[List.set_cons_zero,flat,ybm,Nat.zero_mul,List.take_zero,ya4,yaQ]
   rw[ycq,yaL (by omega),ya4,show s-x.cells.length=0 by omega];rfl
  |succ i=>
   have:=ih (fun z hz=>hs z (ya3 _ hz)) i y (by simpa using hi) hy;simp only[flat,List.set_cons_succ,ybm]at this⊢;rw[this,yaE,ybR,List.take_append,yaN (l:=x.cells) (by omega),show i*s+s-x.cells.length=i*s by omega];rw[ycq,yaL (as:=x.cells) (by omega),ya4,show i*s+s+s-x.cells.length=i*s+s by omega];simp[yao]
theorem zuM{v:AV}(h:v.one=true):v.cells=[v]:=by cases v<;>first|rfl|(simp[AV.one]at h)
theorem zvG{y x:AV}{off n:Nat}(hn:x.cells.length=n)(h1:x.cells.all AV.one=true)(hle:off+n<=y.cells.length):(zkH y off x.cells).cells=zeQ y.cells off x.cells:=by
 cases y with
 |agg cs=>rfl
 |_=>
  simp only[AV.cells,List.length_singleton]at hle;unfold zkH;split
  ·rename_i hx;cases hx
  ·rename_i hne
   match hc:x.cells,hn with
   | [],hn=>simp[zeQ,AV.cells]
   | [v],hn=>
    have hv:v.one=true:=by have:=yaS.1 h1 v (by rw[hc];simp);exact this
    have:off=0:=by simp at hn;omega
    subst this;show v.cells=zeQ _ 0 [v]
    rw[zuM hv];rfl
   |_::_::_,hn=>simp at hn;omega
theorem zz1{α:Type}(M:List α){k s:Nat}(h:k<=s):(M.take s).drop k++M.drop s=M.drop k:=by
 have h1:M.drop k=((M.take s)++M.drop s).drop k:=by rw[ya1]
 rw[h1,ycq];by_cases hs:s<=M.length
 ·rw[show k-(M.take s).length=0 by rw[yan];omega];rfl
 ·rw[yaL (as:=M) (by omega)];simp
theorem zJy{α:Type}(L:List α)(p s off n:Nat)(new:List α)(h:off+n<=s):L.take p++(((L.drop p).take s).take off++new++((L.drop p).take s).drop (off+n))++L.drop (p+s)=L.take (p+off)++new++L.drop (p+off+n):=by
 have e1:L.drop (p+s)=(L.drop p).drop s:=by rw[ybL]
 have e2:L.drop (p+off+n)=(L.drop p).drop (off+n):=by rw[ybL,yaU]
 rw[yco,Nat.min_eq_left (by omega),List.take_add,e1,e2,<-zz1 (L.drop p) h];simp only[yao]
theorem zw8{α:Type}(L new:List α)(q m N:Nat)(h:q+m<=N)(hN:N<=L.length)(hl:new.length=m):(L.take q++new++L.drop (q+m)).take N=(L.take N).take q++new++(L.take N).drop (q+m):=by
 rw[List.take_append,yaN (by rw[yaf,yan];omega),yco,Nat.min_eq_left (by omega)];congr 1;rw[yaf,yan,hl,List.take_drop];congr 2;omega
theorem zI6(R:Rel base h E)(hP:E.P=P){o:Oper}{ty:TypeId}{p x:Operand}(ho:o.op=.store ty p x)(hi:(P.info? ty).isSome=true){xa:AV}(hxv:VL E [xa] [a.eval x])
  (hn:xa.cells.length=P.cellsOf ty) (h1:xa.cells.all AV.one=true) {k g:Nat} {i:Int} {off:Nat} (hpv:VL E [.rptr k g i off] [a.eval p]) {e:TypeId} {xs:List AV} (hr:zaV h k g=some (e,false,xs)) {y:AV} (hy:Ops.std.lget xs i=some y) (hxd:xa.data=true) (hle:off+P.cellsOf ty<=y.cells.length):
  Comes1 P base o a h E .bad (h.set k (.row e g false (Ops.std.lset xs i (zkH y off xa.cells)))):=by
 obtain⟨hkn,hgt,hpe⟩:=hpv.rptr_inv;have hcv:=zmL hxv h1;have hcd:=zoJ (zFQ hxv hxd);have ho1:=hcv.one_cells (fun c hc=>by simpa using yaS.1 h1 c hc);have hk:=za2 hr;obtain⟨hgen,htop,hesz,hsx,olds,hrow,hdx,honex⟩:=R.ent k _ hk;obtain⟨b,hhead,hpv'⟩:=hpe hgen;obtain⟨hi0,hyi⟩:=zn1 hy;have hilt:i.toNat<xs.length:=(yae.1 hyi).1;have hys:y.cells.length=E.P.cellsOf e:=hsx y (List.mem_of_getElem? hyi);subst hP;rcases hrow.2 with⟨hn0,_⟩|⟨b0,cap,cur,hc0,ha,hbb,hh,hlec,hmx,hcs,htk⟩
 ·omega
 ·obtain⟨n',c',ha'⟩:=hhead;rw[ha]at ha';injection ha' with hab _ _;injection hab with hab;injection hab with hbb' _ _;subst hbb';have hsz:(a.eval x).cells.size=E.P.cellsOf ty:=by rw[<-hn,<-hcv.length];simp
  have hblk0:zaP (E.row k)=some b0:=by
   rw[ha]
   cases cap with
   |zero=>omega
   |succ c'=>rfl
  have hbk:blkOf E h k=some b0:=(zaN hk).trans hblk0
  have hpos:i.toNat*E.P.cellsOf e+off+E.P.cellsOf ty<=xs.length*E.P.cellsOf e:=by
   have h2:(i.toNat+1)*E.P.cellsOf e<=xs.length*E.P.cellsOf e:=yaD _ hilt;rw[yaE,ybR]at h2;omega
  have hcl:cur.toList.length=cap*E.P.cellsOf e:=by simpa using hcs
  have hcap:xs.length*E.P.cellsOf e<=cap*E.P.cellsOf e:=yaD _ hlec;generalize hpp:i.toNat*E.P.cellsOf e+off=q at *
  have run:=zvL (P:=E.P) (w:=E.w) (ty:=ty) hi (b:=b0) (o:=q) hh (v:=a.eval x) hsz (by rw[hsz,hcs];omega) ho1;have hnl:(a.eval x).cells.toList.length=E.P.cellsOf ty:=by rw[hcv.length,hn]
  have hnew:(zkH y off xa.cells).cells.length=E.P.cellsOf e:=by rw[zvG hn h1 hle,zBj (by omega),hys]
  have hfl:flat (xs.set i.toNat (zkH y off xa.cells))=(flat xs).take q++xa.cells++(flat xs).drop (q+E.P.cellsOf ty):=by
   rw[zKj hsx i.toNat _ hilt hnew,zvG hn h1 hle];have hfa:=zzu hsx i.toNat y hyi;have hfll:(flat xs).length=xs.length*E.P.cellsOf e:=zbB hsx;rw[<-hfa];simp only[zeQ,hn];rw[zJy _ _ _ _ _ _ (by omega),hpp]
  have hdl':DL E.P E.w E.own (flat (xs.set i.toNat (zkH y off xa.cells))) (olds.take q++(a.eval x).cells.toList++olds.drop (q+E.P.cellsOf ty)):=by
   rw[hfl];exact((hdx.take q).append hcd).append (hdx.drop _)
  have hol:=hrow.1
  obtain⟨R',S'⟩:=zvH R hbk (cur.toList.take q++(a.eval x).cells.toList++cur.toList.drop (q+(a.eval x).cells.toList.length)).toArray (.row e g false (xs.set i.toNat (zkH y off xa.cells))) hblk0 (by
   refine⟨hgen,htop,hesz,fun z hz=>?_,olds.take q++(a.eval x).cells.toList++olds.drop (q+E.P.cellsOf ty),?_,hdl'.step (zqb R hbk _),fun u hu=>?_⟩
   ·rcases List.mem_or_eq_of_mem_set hz with hz|rfl
    ·exact hsx z hz
    ·exact hnew
   ·refine⟨by simp only[yaf,yan,yar,ybU,hol,hnl];omega,.inr ⟨b0,cap,_,hc0,by rw[ybU];exact ha,hbb,setRow_heap E.w b0 cur _ e (0,0) hh,by rw[ybU];exact hlec,hmx,?_,?_⟩⟩
    ·simp only[ybc,yaf,yan,yar,hcl,hnl];omega
    ·rw[ybU,<-htk,hnl];exact zw8 cur.toList (a.eval x).cells.toList q (E.P.cellsOf ty) (xs.length*E.P.cellsOf e) hpos (by omega) hnl
   ·rcases yal.1 hu with hu|hu
    ·rcases yal.1 hu with hu|hu
     ·exact honex u (yaz hu)
     ·exact ho1 u hu
    ·exact honex u (yaG hu))
  refine⟨undef,_,.inr ⟨?_,rfl⟩,R',S',.bad .nil⟩;rw[hesz,hpp]at hpv';simp only[execOp,ho,hpv',Instr.storeAt,Instr.sureAddr,yaw,ybf,yaj,run]
end
section
variable {P:Program} {base:Base} {h:Store} {E:Env} {t:List AV} {a:Act}
theorem zEC{w:World}{len cap:Nat}{lo hi:Option Value}{i j:Int}(hlo:(lo=none/\i=0)\/lo=some (.int .i64 i))(hhi:(hi=none/\j=len)\/hi=some (.int .i64 j))(h0:0<=i)(h1:i<=j)(h2:j<=cap):
  (ybb true len cap lo hi none).run P w=.ok (i.toNat,j.toNat,cap) w:=by
 rcases hlo with⟨rfl,rfl⟩|rfl
 ·rcases hhi with⟨rfl,rfl⟩|rfl
  ·simp[ybb]
  ·have e1:=fun code=>zbq (P:=P) (w:=w) (k:=.i64) (i:=j) (y:=cap) (code:=code) (by omega) (by omega)
   simp[ybb,e1]
 ·rcases hhi with⟨rfl,rfl⟩|rfl
  ·have e2:=fun code=>zbq (P:=P) (w:=w) (k:=.i64) (i:=i) (y:=len) (code:=code) h0 (by omega)
   simp[ybb,e2]
  ·have e1:=fun code=>zbq (P:=P) (w:=w) (k:=.i64) (i:=j) (y:=cap) (code:=code) (by omega) (by omega)
   have e2:=fun code=>zbq (P:=P) (w:=w) (k:=.i64) (i:=i) (y:=j.toNat) (code:=code) h0 (by omega)
   simp[ybb,e1,e2]
theorem zED{w:World}{len cap:Nat}{lo:Option Value}{i j m:Int}(hlo:(lo=none/\i=0)\/lo=some (.int .i64 i))(h0:0<=i)(h1:i<=j)(h2:j<=m)(h3:m<=cap):
  (ybb true len cap lo (some (.int .i64 j)) (some (.int .i64 m))).run P w=.ok (i.toNat,j.toNat,m.toNat) w:=by
 have e0:=fun code=>zbq (P:=P) (w:=w) (k:=.i64) (i:=m) (y:=cap) (code:=code) (by omega) (by omega)
 have e1:=fun code=>zbq (P:=P) (w:=w) (k:=.i64) (i:=j) (y:=m.toNat) (code:=code) (by omega) (by omega)
 rcases hlo with⟨rfl,rfl⟩|rfl
 ·simp[ybb,e0,e1]
 ·have e2:=fun code=>zbq (P:=P) (w:=w) (k:=.i64) (i:=i) (y:=j.toNat) (code:=code) h0 (by omega)
  simp[ybb,e0,e1,e2]
theorem ziY{xs ys:List AV}{i j:Int}(h:Ops.std.lsub xs i j=some ys):0<=i/\i<=j/\j<=xs.length/\ys=(xs.take j.toNat).drop i.toNat:=by
 simp only[Ops.std]at h;split at h
 ·rename_i hb;cases h;exact⟨hb.1,hb.2.1,hb.2.2,rfl⟩
 ·cases h
theorem zI3(R:Rel base h E)(hP:E.P=P){e0:TypeId}(hz:0<P.cellsOf e0)(ht:VL E t a.tmps.toList){o:Oper}{ty:TypeId}{x:Operand}{lo hi:Option Operand}(ho:o.op=.slice ty x lo hi none)(hs:P.underlying ty=some (.slice e0))(hinfo:(P.info? e0).isSome=true){x':Od}(hx:zaH x=some x'){lo' hi':Option Od}
  (hl:zga lo=some lo') (hh:zga hi=some hi') {k g:Nat} {l0 h0:Int} (hxs:od t x'=.sub k g l0 h0) {v:AV} (he:zsp Ops.std h t e0 k g l0 h0 lo' hi'=some v):Comes1 P base o a h E v h:=by
 have hv:=zaS ht hx;rw[hxs]at hv;obtain⟨hkn,hg,h1,hsub⟩:=hv.sub_inv;unfold zsp at he;split at he
 ·rename_i e' ro xs hr;split at he
  ·rename_i hee;subst hee;split at he
   ·rename_i ys hys;split at he
    ·rename_i i j hi1 hj1;obtain⟨hgen,hesz,hs',ad0,cap0,vals0,hv0,hc0,hm0,hd0,hone0,hrd0⟩:=zbk R hr;obtain⟨_,h01,ad,cap,hve,hc,hm,hb,hz0⟩:=hsub hgen;obtain⟨q0,q1,q2,q3⟩:=ziY hys;have hylen:ys.length=(h0-l0).toNat:=by rw[q3];simp;omega
     have hlo:=zlk ht hl hi1;have hhi:=zlk ht hh hj1
     have run:0<=i->i<=j->j<=cap->(execOp a.eval o).run P E.w=.ok (.value (.slice (if cap=i.toNat then ad else ad.map (·.add (i.toNat*P.cellsOf e0))) (j.toNat-i.toNat) (cap-i.toNat))) E.w:=fun b1 b2 b3=>by
      have hb':=zEC (P:=P) (w:=E.w) (len:=(h0-l0).toNat) (cap:=cap) (lo:=lo.map a.eval) (hi:=hi.map a.eval) (i:=i) (j:=j) (by rcases hlo with⟨rfl,rfl⟩|⟨y,rfl,hy⟩;exact .inl ⟨rfl,rfl⟩;exact .inr (by simp[hy]))
       (by rcases hhi with⟨rfl,hj⟩|⟨y,rfl,hy⟩;exact .inl ⟨rfl,by rw[hj,<-hylen];rfl⟩;exact .inr (by simp[hy])) b1 b2 b3
      simp only[execOp,ho,hve,Instr.sliceAt,yaw,run_underlying hs,yaj,Instr.slice,Option.map_none];simp[hb',zbw hinfo]
     subst hP
     have hadr:∀{u},u<xs.length->∃b,ad0=some ⟨b,0,none⟩:=fun{u} hu=>by
      obtain⟨c,hcell⟩:=zlG hs' hz hd0.length hu;obtain⟨b,hab,_⟩:=hrd0 _ c hcell;exact⟨b,hab⟩
     split at he
     ·rename_i hl0;have hl0:l0=0:=by simpa[Ops.std]using hl0
      subst hl0;split at he
      ·rename_i zs hzs;cases he;obtain⟨b1,b2,b3,_⟩:=ziY hzs;obtain⟨n0,hrk⟩:=hz0 rfl;rw[hv0]at hrk;injection hrk with e1 _ e3;subst e1 e3;refine Comes1.same R (run b1 b2 (by omega)) (.sub hkn hg rfl (fun _=>⟨b1,b2,_,_,by rw[show(j-i).toNat=j.toNat-i.toNat by omega],by omega,by omega,fun hij=>?_,fun hi0=>⟨xs.length,?_⟩⟩) .nil)
       ·have hne:cap0≠i.toNat:=by omega
        obtain⟨b,hab⟩:=hadr (u:=0) (by omega);exact⟨b,zuX hv0 hab,by rw[if_neg hne,hab,hesz];simp[zcm]⟩
       ·subst hi0;rw[hv0];by_cases hce:cap0=0
        ·subst hce;simp
        ·rw[if_neg (by simpa using hce)]
         cases ad0 with
         |none=>simp
         |some A=>simp[Addr.add]
      ·cases he
     ·rename_i hl0;split at he
      ·rename_i zs hzs;cases he;have hl0:l0≠0:=by simpa[Ops.std]using hl0
       obtain⟨b1,b2,b3,_⟩:=ziY hzs
       have hA:Ops.std.iadd .i64 l0 i=l0+i:=by
        show ybD.wrap _=_;rw[ybP];have:maxLen=9223372036854775807:=by unfold maxLen;rfl
        omega
       have hB:Ops.std.iadd .i64 l0 j=l0+j:=by
        show ybD.wrap _=_;rw[ybP];have:maxLen=9223372036854775807:=by unfold maxLen;rfl
        omega
       rw[hA,hB];refine Comes1.same R (run b1 b2 (by omega)) (.sub hkn hg rfl (fun _=>⟨by omega,by omega,_,_,by rw[show(l0+j-(l0+i)).toNat=j.toNat-i.toNat by omega],by omega,by omega,fun hij=>?_,fun hi0=>absurd hi0 (by omega)⟩) .nil);have hne:cap≠i.toNat:=by omega
       obtain⟨b,hh1,hab⟩:=hb (by omega);refine⟨b,hh1,?_⟩;rw[if_neg hne,hab,hesz];simp only[yb0,zcm];rw[show(l0+i).toNat=l0.toNat+i.toNat by omega,yaE]
      ·cases he
    ·cases he
   ·cases he
  ·cases he
 ·cases he
theorem zNv(R:Rel base h E)(hP:E.P=P){e0:TypeId}(ht:VL E t a.tmps.toList){o:Oper}{ty:TypeId}{x y z:Operand}{lo:Option Operand}(ho:o.op=.slice ty x lo (some y) (some z))(hs:P.underlying ty=some (.slice e0))(hinfo:(P.info? e0).isSome=true){x' y' z':Od}(hx:zaH x=some x')(hy:zaH y=some y')(hz:zaH z=some z'){lo':Option Od}
  (hl:zga lo=some lo') {xs ys zs:List AV} (hxs:zbc Ops.std h (od t x')=some xs) {i j m:Int}
  (hi1:bnd t 0 lo'=some i) (hj1:zhh (od t y')=some j) (hm1:zhh (od t z')=some m) (hr:Ops.std.lsub xs i j=some ys) (hr2:Ops.std.lsub xs j m=some zs):Comes1 P base o a h E .bad h:=by
 obtain⟨ad,cap,vals,hv,hc,hm,hd,hone,_,hrd⟩:=zeJ R (zaS ht hx) hxs;obtain⟨b1,b2,_,_⟩:=ziY hr;obtain⟨b3,b4,b5,_⟩:=ziY hr2;have hlo:=zlk ht hl hi1
 have val:∀{q:Od} {qo:Operand} {n:Int},zaH qo=some q->zhh (od t q)=some n->a.eval qo=.int .i64 n:=fun{q qo n} h1 h2=>by
  have h3:=zaS ht h1
  cases hq:od t q with
  |sc u=>
   rw[hq]at h2 h3;have h4:=h3.sc_inv.1
   cases u with
   |int k c=>cases k<;>simp[zhh]at h2;subst h2;exact h4
   |_=>simp[zhh]at h2
  |_=>rw[hq]at h2;simp[zhh]at h2
 have hb':=zED (P:=P) (w:=E.w) (len:=xs.length) (cap:=cap) (lo:=lo.map a.eval) (i:=i) (j:=j) (m:=m) (by rcases hlo with⟨rfl,rfl⟩|⟨y,rfl,hy⟩;exact .inl ⟨rfl,rfl⟩;exact .inr (by simp[hy])) b1 b2 b4 (by omega);refine Comes1.same R (v':=.slice (if m.toNat=i.toNat then ad else ad.map (·.add (i.toNat*P.cellsOf e0))) (j.toNat-i.toNat) (m.toNat-i.toNat)) ?_ (.bad .nil);simp only[execOp,ho,hv,Instr.sliceAt,yaw,run_underlying hs,yaj,Instr.slice,yb0,val hy hj1,val hz hm1];simp[hb',zbw hinfo]
theorem zvK(R:Rel base h E){k g:Nat}{e:TypeId}{xs:List AV}(hr:zaV h k g=some (e,false,xs)){p:Nat}{ys:List AV}{news:List Value}(hp:p+ys.length<=xs.length)(hsy:∀y,y∈ys->y.cells.length=E.P.cellsOf e)(hd:DL E.P E.w E.own (flat ys) news)(h1:∀u,u∈news->u.oneCell'=true)
  {b0 cap:Nat} {cur:Array Value} (ha:E.row k=.slice (some ⟨b0,0,none⟩) xs.length cap) (hh:E.w.heap[b0]?=some (.cells cur e (0,0))) (hc0:0<cap):
  Rel base (h.set k (.row e g false (xs.take p++ys++xs.drop (p+ys.length)))) {E with w:=E.w.setRow b0 (cur.toList.take (p*E.P.cellsOf e)++news++cur.toList.drop (p*E.P.cellsOf e+news.length)).toArray}/\
  Step h E (h.set k (.row e g false (xs.take p++ys++xs.drop (p+ys.length)))) {E with w:=E.w.setRow b0 (cur.toList.take (p*E.P.cellsOf e)++news++cur.toList.drop (p*E.P.cellsOf e+news.length)).toArray}:=by
 have hk:=za2 hr;obtain⟨hgen,htop,hesz,hsx,olds,hrow,hdx,honex⟩:=R.ent k _ hk
 have hblk0:zaP (E.row k)=some b0:=by
  rw[ha]
  cases cap with
  |zero=>omega
  |succ c'=>rfl
 have hbk:blkOf E h k=some b0:=(zaN hk).trans hblk0;have hnl:news.length=ys.length*E.P.cellsOf e:=by rw[hd.length,zbB hsy]
 rcases hrow.2 with⟨hn0,a',ha'⟩|⟨b0',cap',cur',hc0',ha',hbb,hh',hlec,hmx,hcs,htk⟩
 ·rw[ha]at ha';injection ha' with _ _ e3;omega
 ·rw[ha]at ha';injection ha' with e1 _ e3;injection e1 with e1;injection e1 with e1 _ _;subst e1 e3;rw[hh]at hh';injection hh' with hh';injection hh' with hh' _ _;subst hh';have hcl:cur.toList.length=cap*E.P.cellsOf e:=by simpa using hcs
  have hpos:p*E.P.cellsOf e+ys.length*E.P.cellsOf e<=xs.length*E.P.cellsOf e:=by rw[<-yaE];exact yaD _ hp
  have hcap:xs.length*E.P.cellsOf e<=cap*E.P.cellsOf e:=yaD _ hlec;have hlen:(xs.take p++ys++xs.drop (p+ys.length)).length=xs.length:=by simp;omega
  have hol:=hrow.1
  have hsz':∀z,z∈xs.take p++ys++xs.drop (p+ys.length)->z.cells.length=E.P.cellsOf e:=fun z hz=>by
   rcases yal.1 hz with hz|hz
   ·rcases yal.1 hz with hz|hz
    ·exact hsx z (yaz hz)
    ·exact hsy z hz
   ·exact hsx z (yaG hz)
  have hdl':DL E.P E.w E.own (flat (xs.take p++ys++xs.drop (p+ys.length))) (olds.take (p*E.P.cellsOf e)++news++olds.drop (p*E.P.cellsOf e+news.length)):=by
   rw[zep,zep,zlI hsx,znV hsx,hnl,<-yaE];exact((hdx.take _).append hd).append (hdx.drop _)
  refine zvH R hbk _ (.row e g false (xs.take p++ys++xs.drop (p+ys.length))) hblk0 ⟨hgen,htop,hesz,hsz',olds.take (p*E.P.cellsOf e)++news++olds.drop (p*E.P.cellsOf e+news.length),?_,hdl'.step (zqb R hbk _),fun u hu=>?_⟩
  ·refine⟨by rw[hlen];simp only[yaf,yan,yar,hol,hnl];omega,.inr ⟨b0,cap,_,hc0,by rw[hlen];exact ha,hbb,setRow_heap E.w b0 cur _ e (0,0) hh,by rw[hlen];exact hlec,hmx,?_,?_⟩⟩
   ·simp only[ybc,yaf,yan,yar,hcl,hnl];omega
   ·rw[hlen,<-htk];exact zw8 cur.toList news (p*E.P.cellsOf e) news.length (xs.length*E.P.cellsOf e) (by rw[hnl];exact hpos) (by rw[hcl];exact hcap) rfl
  ·rcases yal.1 hu with hu|hu
   ·rcases yal.1 hu with hu|hu
    ·exact honex u (yaz hu)
    ·exact h1 u hu
   ·exact honex u (yaG hu)
section
variable {o:Oper} {ty e:TypeId} {x y:Operand} {args:Array Operand} {tys:Array TypeId} {x' y':Od} {z:AV} {ys:List AV}
theorem zNn(R:Rel base h E)(hP:E.P=P)(ht:VL E t a.tmps.toList)(ho:o.op=.call {callee:=.builtin .append,args,argTypes:=tys})(hargs:args.toList=[x,y])(htys:tys.toList=[ty,ty])(hs:P.underlying ty=some (.slice e))(hz:zbb P e=some z)(h0:0<P.cellsOf e)
  (hx:zaH x=some x') (hy:zaH y=some y') (hys:zbc Ops.std h (od t y')=some ys) (hsize:∀x,x∈ys->x.cells.length=P.cellsOf e) {k g:Nat} {lo hi:Int} (hsl:od t x'=.sub k g lo hi) {r:AV×Store} (he:zuA Ops.std h e k g lo hi ys=some r):
  Comes1 P base o a h E r.1 r.2:=by
 have hxv:=zaS ht hx;rw[hsl]at hxv;unfold zuA at he;split at he
 ·rename_i xs hr;split at he
  ·rename_i hee;subst hee;split at he
   case h_1=>cases he
   rename_i hlo;split at he
   case h_1=>cases he
   rename_i hle;split at he
   ·cases he
   ·rename_i zs hzs;cases he;have hlo:lo=0:=by simpa[Ops.std]using hlo
    subst hlo;have hk:=za2 hr;obtain⟨hgen,hesz,hs',ad0,cap0,vals0,hv0,hc0,hm0,hd0,hone0,hrd0⟩:=zbk R hr;obtain⟨hkn,hg,h1,hsub⟩:=hxv.sub_inv;obtain⟨_,h01,ad,cap,hve,hc,hm,_,hz0⟩:=hsub hgen;obtain⟨n0,hrk⟩:=hz0 rfl;rw[hv0]at hrk;injection hrk with e1 _ e3;subst e1 e3;obtain⟨b1,b2,b3,_⟩:=ziY hzs;have hmx:maxLen=9223372036854775807:=by unfold maxLen;rfl
    have hle:(ys.length:Int)<=xs.length-hi:=by
     have h2:Ops.std.isub .i64 (xs.length:Int) hi=xs.length-hi:=by
      show ybD.wrap _=_;rw[ybP];omega
     have h3:Ops.std.ile (ys.length:Int) (Ops.std.isub .i64 (xs.length:Int) hi)=true:=hle;rw[h2]at h3;simpa[Ops.std]using h3
    have hadd:Ops.std.iadd .i64 hi (Ops.std.llen ys)=hi+ys.length:=by
     show ybD.wrap (hi+(ys.length:Int))=_;rw[ybP];omega
    rw[hadd];have hn:(hi-0).toNat=hi.toNat:=by congr 1;omega
    rw[hn]at hve hc;obtain⟨bd,c,news,hyv,hcy,hmy,hd,hone,_,hrd⟩:=zeJ R (zaS ht hy) hys;have hinfo:(P.info? e).isSome=true:=by obtain⟨i,_,hi,_⟩:=za7 (E:=E) hz;rw[hi];rfl
    subst hP;have hnl:news.length=ys.length*E.P.cellsOf e:=by rw[hd.length,zbB hsize]
    have hput:Ops.std.lput xs hi ys=xs.take hi.toNat++ys++xs.drop (hi.toNat+ys.length):=rfl;rw[hput];by_cases hyz:ys.length=0
    ·have hyn:ys=[]:=yai hyz;subst hyn;have hr0:=zft (w:=E.w) (rt:=o.type) hs hinfo ad0 bd hi.toNat cap0 c (by omega)
     have hset:h.set k (.row e g false (xs.take hi.toNat++[]++xs.drop (hi.toNat+([]:List AV).length)))=h:=by
      have:xs.take hi.toNat++[]++xs.drop (hi.toNat+([]:List AV).length)=xs:=by simp
      rw[this];obtain⟨hkl,hke⟩:=yae.1 hk;rw[<-hke];exact List.set_getElem_self hkl
     rw[hset];refine Comes1.same R (v':=.slice ad0 hi.toNat cap0) (zih ho hargs htys (by rw[hve,hyv];exact hr0)) ?_;rw[hve]at hxv;simpa using hxv
    ·obtain⟨u0,hu0⟩:=zlG hs' h0 hd0.length (i:=0) (by omega);obtain⟨b0,rfl,_⟩:=hrd0 _ u0 hu0;obtain⟨_,_,_,_,olds,hrow,_⟩:=R.ent k _ hk;rcases hrow.2 with⟨hn0,_⟩|⟨b0',cap',cur,hcp,ha',hbb,hh,hlec,hmxc,hcs,htk⟩
     ·omega
     ·have ha'':=ha';rw[hv0]at ha';injection ha' with e1 _ e3;injection e1 with e1;injection e1 with e1 _ _;subst e1 e3;obtain⟨i,zv,hi',hzv,hzs',_,_⟩:=za7 (E:=E) hz;have his:E.P.cellsOf e=i.size:=by simp[ybF,hi']
      have hne:∃u,news[0]?=some u:=⟨news[0]'(by rw[hnl];exact Nat.mul_pos (by omega) h0),yad _⟩
      obtain⟨v0,hv0'⟩:=hne;obtain⟨b1',o1,rfl,_⟩:=hrd 0 v0 hv0'
      have hnews:∀j v,news[j]?=some v->E.w.cell? ((⟨b1',o1,none⟩:Addr).add j)=some v:=fun j v hj=>by
       obtain⟨b',o',hab,hc'⟩:=hrd j v hj;injection hab with hab;injection hab with e1 e2 _;subst e1 e2;rw[zcm];exact hc'
      have hfit:hi.toNat*i.size+news.length<=cur.size:=by
       rw[hcs,hnl,<-his,<-yaE];exact yaD _ (by omega)
      have hra:=run_append_room (P:=E.P) E.w ty o.type e i hs hi' b0 hi.toNat cap0 cur hh ⟨b1',o1,none⟩ ys.length c news (by rw[hnl,his]) hnews hone (by omega) hfit;obtain⟨R',S'⟩:=zvK R hr (p:=hi.toNat) (ys:=ys) (news:=news) (by omega) hsize hd hone hv0 hh hcp;rw[<-his]at hra;refine⟨_,_,.inl (zih ho hargs htys (by rw[hve,hyv];exact hra)),R',S',?_⟩;refine .sub hkn hg rfl (fun _=>⟨by omega,by omega,some ⟨b0,0,none⟩,cap0,?_,?_,hm0,fun _=>⟨b0,?_,?_⟩,fun _=>⟨xs.length,hv0⟩⟩) .nil
      ·congr 1;omega
      ·omega
      ·exact⟨_,_,hv0⟩
      ·simp
  ·cases he
 ·cases he
theorem zK8{w:World}{own:Nat->Prop}{zs:List AV}{us:List Value}(hd:DL P w own zs us):∀n,DL P w own ((yaA n zs).flatten) ((yaA n us).flatten):=by
 intro n
 induction n with
 |zero=>exact .nil
 |succ n ih=>simp only[List.replicate_succ,List.flatten_cons];exact hd.append ih
theorem zyu{v:Value}{x:AV}(h:znT v=some x):x.one=true:=by
 unfold znT at h;split at h
 ·cases h;rfl
 ·split at h
  ·cases h;rfl
  ·cases h
theorem zDU:∀{vs:List Value} {l:List AV},zlF vs=some l->∀c,c∈l->c.one=true:=by
 intro vs
 induction vs with
 |nil=>intro l h c hc;simp only[zlF]at h;cases h;cases hc
 |cons v vs ih=>
  intro l h c hc;simp only[zlF]at h;split at h
  ·rename_i a b ha hb;cases h;rcases yaJ.1 hc with rfl|hc
   ·exact zyu ha
   ·exact ih hb c hc
  ·cases h
theorem zJK{P:Program}{E:Env}{t:TypeId}{z:AV}(h:zbb P t=some z):∃i zv,P.info? t=some i/\i.zero=some zv/\zv.cells.size=P.cellsOf t/\DL E.P E.w E.own z.cells zv.cells.toList/\∀c,c∈z.cells->c.one=true:=by
 unfold zbb at h;split at h
 ·rename_i i hi;split at h
  ·rename_i zv hz;split at h
   ·rename_i hsz;have hc:P.cellsOf t=i.size:=by simp[ybF,hi]
    split at h
    ·rename_i cs;obtain⟨l,hl,rfl⟩:=zbJ h;exact⟨i,_,hi,hz,by rw[hc];exact hsz,by simpa[AV.cells,ybG]using zyv (E:=E) hl,zDU hl⟩
    ·rename_i hne;have hd:=zp6 (E:=E) h;have h1:=zyu h;refine⟨i,zv,hi,hz,by rw[hc];exact hsz,zoJ hd,fun c hcc=>?_⟩;rw[zuM h1]at hcc;rw[List.mem_singleton.1 hcc];exact h1
   ·cases h
  ·cases h
 ·cases h
theorem zz7{zc:Array Value}(hpos:0<zc.size):∀n,(yaX zc n).toList=(yaA n zc.toList).flatten:=by
 intro n
 induction n with
 |zero=>simp[yaX]
 |succ n ih=>
  have h1:(yaX zc (n+1)).toList=(yaX zc n).toList++zc.toList:=by
   apply List.ext_getElem
   ·simp[yaX,yaE]
   ·intro i hi1 hi2;simp only[yaX,yb6,Array.toList_range,yaf,yaK,ybS,ya8]at hi1 hi2;simp only[yaX,yb6,Array.toList_range,List.getElem_map,List.getElem_range];by_cases hlt:i<n*zc.size
    ·rw[List.getElem_append_left (by simpa using hlt)];simp
    ·rw[List.getElem_append_right (by simpa using hlt)]
     have hlt2:i-n*zc.size<zc.size:=by
      rw[yaE,ybR]at hi1;omega
     have hmod:i%zc.size=i-n*zc.size:=by
      rw[show i=(i-n*zc.size)+n*zc.size by omega,Nat.add_mul_mod_self_right,Nat.mod_eq_of_lt hlt2];omega
     simp only[yaK,ybS,hmod];rw[getElem!_pos zc _ hlt2];simp
  rw[h1,ih,List.replicate_succ',List.flatten_append];simp
theorem zPK(R:Rel base h E)(hP:E.P=P)(ht:VL E t a.tmps.toList)(ho:o.op=.call {callee:=.builtin .clear,args,argTypes:=tys})(hargs:args.toList=[x])(htys:tys.toList=[ty])(hs:P.underlying ty=some (.slice e))(hz:zbb P e=some z)(h0:0<P.cellsOf e)
  (hx:zaH x=some x') {k g:Nat} {lo hi:Int} (hsl:od t x'=.sub k g lo hi) {xs zs:List AV} (hr:zaV h k g=some (e,false,xs)) (hzs:Ops.std.lsub xs lo hi=some zs):
  Comes1 P base o a h E (.tup []) (h.set k (.row e g false (Ops.std.lfil xs lo hi z))):=by
 have ea:args=#[x]:=ybO hargs;have et:tys=#[ty]:=ybO htys;subst ea et;have hxv:=zaS ht hx;rw[hsl]at hxv;have hk:=za2 hr;obtain⟨hgen,hesz,hs',ad0,cap0,vals0,hv0,hc0,hm0,hd0,hone0,hrd0⟩:=zbk R hr;obtain⟨hkn,hg,h1,hsub⟩:=hxv.sub_inv;obtain⟨_,h01,ad,cap,hve,hc,hm,hb,_⟩:=hsub hgen;obtain⟨b1,b2,b3,_⟩:=ziY hzs;obtain⟨i,zv,hi',hzv,hzs',hzdl,hzone⟩:=zJK (E:=E) hz;have hfil:Ops.std.lfil xs lo hi z=xs.take lo.toNat++yaA (hi.toNat-lo.toNat) z++xs.drop hi.toNat:=rfl;rw[hfil];by_cases hlt:lo<hi
 ·obtain⟨b0,⟨n1,c1,hhead⟩,hab⟩:=hb hlt;obtain⟨_,_,_,_,olds,hrow,_⟩:=R.ent k _ hk;rcases hrow.2 with⟨hn0,_⟩|⟨b0',cap',cur,hcp,ha',hbb,hh,hlec,hmxc,hcs,htk⟩
  ·omega
  ·have ha'':=ha';rw[hhead]at ha';injection ha' with e1 _ e3;injection e1 with e1;injection e1 with e1 _ _;subst e1;subst hP;rw[hesz]at hab;have hn:(hi-lo).toNat=hi.toNat-lo.toNat:=by omega
   have hz1:∀u,u∈zv.cells.toList->u.oneCell'=true:=hzdl.vl.one_cells hzone;have hzpos:0<zv.cells.size:=by rw[hzs'];exact h0
   have hlist:=zz7 hzpos (hi.toNat-lo.toNat);have hnews:=zK8 hzdl (hi.toNat-lo.toNat)
   have hflat:flat (yaA (hi.toNat-lo.toNat) z)=(yaA (hi.toNat-lo.toNat) z.cells).flatten:=by
    simp[flat,List.flatMap_def]
   have hzl:z.cells.length=E.P.cellsOf e:=by rw[<-hzs',<-hzdl.length];simp
   have hone:∀u,u∈(yaA (hi.toNat-lo.toNat) zv.cells.toList).flatten->u.oneCell'=true:=fun u hu=>by
    obtain⟨l,hl,hul⟩:=List.mem_flatten.1 hu;rw[List.eq_of_mem_replicate hl]at hul;exact hz1 u hul
   have hnl:((yaA (hi.toNat-lo.toNat) zv.cells.toList).flatten).length=(hi.toNat-lo.toNat)*E.P.cellsOf e:=by
    simp[hzs']
   have hfit:lo.toNat*E.P.cellsOf e+0+((yaA (hi.toNat-lo.toNat) zv.cells.toList).flatten).length<=cur.size:=by
    rw[hcs,hnl,yce,<-yaE];exact yaD _ (by omega)
   have hst:=run_storeCells_at E.P b0 (lo.toNat*E.P.cellsOf e) e _ 0 cur E.w hh hfit hone;simp only[yce]at hst;obtain⟨R',S'⟩:=zvK R hr (p:=lo.toNat) (ys:=yaA (hi.toNat-lo.toNat) z) (by simp;omega) (fun y hy=>by rw[List.eq_of_mem_replicate hy];exact hzl) (by rw[hflat];exact hnews) hone ha'' hh hcp;have hidx:lo.toNat+(yaA (hi.toNat-lo.toNat) z).length=hi.toNat:=by simp;omega
   rw[hidx]at R' S';refine⟨_,_,.inl ?_,R',S',.tup .nil .nil⟩;obtain⟨m,hm'⟩:∃m,hi.toNat-lo.toNat=m+1:=⟨hi.toNat-lo.toNat-1,by omega⟩
   have hzr:(zeroValue e).run E.P E.w=.ok zv E.w:=by simp[zeroValue,typeInfo,hi',hzv]
   rw[<-hlist]at hst⊢;rw[hab,hn,hm']at hve;rw[hm']at hst⊢;simp[execOp,ho,resolve,invoke,builtin,hve,Builtin.clear_,run_underlying hs,hzr,hst]
 ·have hlo:lo=hi:=by omega
  subst hlo
  have hset:h.set k (.row e g false (xs.take lo.toNat++yaA (lo.toNat-lo.toNat) z++xs.drop lo.toNat))=h:=by
   have:xs.take lo.toNat++yaA (lo.toNat-lo.toNat) z++xs.drop lo.toNat=xs:=by simp
   rw[this];obtain⟨hkl,hke⟩:=yae.1 hk;rw[<-hke];exact List.set_getElem_self hkl
  rw[hset];have hn:(lo-lo).toNat=0:=by omega
  rw[hn]at hve;refine Comes1.same R (v':=.tuple #[]) ?_ (.tup .nil .nil)
  cases ad with
  |none=>simp[execOp,ho,resolve,invoke,builtin,hve,Builtin.clear_,run_underlying hs]
  |some A=>simp[execOp,ho,resolve,invoke,builtin,hve,Builtin.clear_,run_underlying hs]
end
end
end Go.Ab
