/- Our texts for this statement, merged: what its theorem leads to. -/
import Derived.Lib.DecodeN
import Derived.Lib.RuneCountTail
import Derived.Lib.TrimU
import Derived.Test.YtjmmobicnfojeaaGreatDoorQWg11
import Derived.Test.YtjmmobicnfojeaaGreatDoorQWg12
import Derived.Test.YtjmmobicnfojeaaGreatDoorQWg13
import Derived.Test.YtjmmobicnfojeaaGreatDoorQWg14
import Derived.Test.YtjmmobicnfojeaaGreatDoorQWg15
import Derived.Test.YtjmmobicnfojeaaGreatDoorQWg16
import Derived.Test.YtjmmobicnfojeaaGreatDoorQWg17
import Derived.Test.YtjmmobicnfojeaaGreatDoorQWg18
set_option linter.unusedVariables false
set_option linter.unusedSimpArgs false
noncomputable section
namespace Go.Ab.Tryz.Pe
open Go.Ab.Tryz Go Go.Ab Go.Proofs
def PeOk (p:Peer):Prop:=0 ≤ p.id ∧ p.id < 18446744073709551616
def dist (a b:Int):Int:=(b - a) % 18446744073709551616
theorem ring_Dist_eq (a b:Int):zix a b=some (dist a b):=zu6 (by
 show some (IntKind.u64.wrap (b - a))=_
 rw [zvM];rfl)
theorem r03_Dist_eq {a b:Int} (ha:0 ≤ a) (ha2:a < 18446744073709551616) (hb:0 ≤ b) (hb2:b < 18446744073709551616):zlO a b=some (dist a b):=zD9 (by
 unfold zrm
 show (bif Ops.std.ile a b then some (IntKind.u64.wrap (b - a)) else some (IntKind.u64.wrap (IntKind.u64.wrap (18446744073709551615 - IntKind.u64.wrap (a - b)) + 1)))=_
 simp only [zvM,dist,zbH,zaf]
 split
 ·rfl
 ·congr 1;omega)
def zt8 (me a b:Peer):Bool:=decide (dist me.id a.id < dist me.id b.id ∨ dist me.id a.id=dist me.id b.id ∧ a.addr < b.addr)
theorem zxn (me a b:Peer):zpi me a b=some (zt8 me a b):=zyu (by
 simp only [zmR,ring_Dist_eq,Option.bind_some,zau,zam,zaf,zt8]
 split
 ·simp_all
 ·split <;> simp_all)
theorem zAB {me a b:Peer} (hm:PeOk me) (ha:PeOk a) (hb:PeOk b):ztm me a b=some (zt8 me a b):=zBL (by
 simp only [zpt,r03_Dist_eq hm.1 hm.2 ha.1 ha.2,r03_Dist_eq hm.1 hm.2 hb.1 hb.2,Option.bind_some,zau,zam,zaf,zt8]
 split
 ·rename_i h;simp [h]
 ·rename_i h;simp [h])
def isAt (addr:Int) (e:Entry):Bool:=decide (e.peer.addr=addr)
def zeC (l:List Entry) (addr:Int):Int:=fstI (isAt addr) l
theorem znz {l:List Entry} {addr:Int} (hl:l.length ≤ 1000):zjl l addr=some (zeC l addr) ∧ zjm l addr=some (zeC l addr) ∧ zoP l addr=some (zeC l addr):=by
 have e2:=zcc zai (l:=l) (by omega) (p:=isAt addr) (L:=fun i=>zd3 l addr i) (fun h=>zfo (by simp [zcf,h]))
  (fun n x _ h1 h2 hp=>zfo (by
   have:zjS x addr=some (isAt addr x):=zoL rfl
   simp [zcf,h1,h2,this,hp]))
  (fun n x r _ h1 h2 hp h=>zfo (by
   have:zjS x addr=some (isAt addr x):=zoL rfl
   simp [zcf,h1,h2,this,hp];exact h))
 have e1:=zcc zai (l:=l) (by omega) (p:=isAt addr) (L:=fun i=>zd4 l addr i) (fun h=>zfp (by simp [zch,h]))
  (fun n x _ h1 h2 hp=>zfp (by
   have:zfN x addr=some (isAt addr x):=zlL rfl
   simp [zch,h1,h2,this,hp]))
  (fun n x r _ h1 h2 hp h=>zfp (by
   have:zfN x addr=some (isAt addr x):=zlL rfl
   simp [zch,h1,h2,this,hp];exact h))
 have e0:=zcc zai (l:=l) (by omega) (p:=isAt addr) (L:=fun i=>zkY l addr i) (fun h=>zlV (by simp [zf0,h]))
  (fun n x _ h1 h2 hp=>zlV (by
   have:Ops.std.ieq x.peer.addr addr=true:=hp
   simp [zf0,h1,h2,this]))
  (fun n x r _ h1 h2 hp h=>zlV (by
   have:Ops.std.ieq x.peer.addr addr=false:=hp
   simp [zf0,h1,h2,this];exact h))
 refine ⟨zsu ?_,zsv ?_,zBN ?_⟩
 ·rw [zhK,e2];unfold zeC fstI;cases fst (isAt addr) l <;> rfl
 ·rw [zhL,e1];unfold zeC fstI;cases fst (isAt addr) l <;> rfl
 ·rw [zpu,e0];unfold zeC fstI;cases fst (isAt addr) l <;> rfl
theorem zxo {l:List Entry} {addr:Int} (hl:l.length ≤ 1000):zpj l addr=some (zeC l addr):=zyv (by simp [zmS,(znz hl).1])
theorem zAC {l:List Entry} {addr:Int} (hl:l.length ≤ 1000):zoP l addr=some (zeC l addr):=(znz hl).2.2
def drp (addr:Int) (l:List Entry):List Entry:=l.filter fun e=>!isAt addr e
theorem zvl {addr:Int} {x:Entry} {l:List Entry}:drp addr (x :: l)=bif isAt addr x then drp addr l else x :: drp addr l:=by
 unfold drp
 cases h:isAt addr x <;> simp [h]
theorem zzW {addr:Int} {l:List Entry} (h:∀ x,x ∈ l → isAt addr x=false):drp addr l=l:=by
 unfold drp
 rw [List.filter_eq_self]
 intro x hx;simp [h x hx]
theorem zzV (addr:Int) (l:List Entry):(drp addr l).length ≤ l.length:=List.length_filter_le _ _
theorem zG8 (addr:Int) (l:List Entry):(l.flatMap fun x=>bif isAt addr x then [] else [x])=drp addr l:=by
 induction l with
 | nil=>rfl
 | cons x l ih=>rw [List.flatMap_cons,ih,zvl];cases isAt addr x <;> rfl
theorem zBM {l:List Entry} {addr:Int} (hl:l.length ≤ 1000):zvs l addr=some (drp addr l):=zEf (by
 have h:=zpc zai (l:=l) (by omega) (f:=fun x=>bif isAt addr x then [] else [x]) (L:=fun i acc=>zjB l addr i acc) 1 (fun x _=>by cases isAt addr x <;> simp)
  (fun acc h=>zr9 (by simp [zg5,h]))
  (fun n x acc r ha hn _ h1 h2 h=>zr9 (by
   cases hx:isAt addr x with
   | true=>
    have hx':Ops.std.ieq x.peer.addr addr=true:=hx
    simp only [hx,cond_true,List.append_nil] at h
    simp [zg5,h1,h2,hx',h]
   | false=>
    have hx':Ops.std.ieq x.peer.addr addr=false:=hx
    simp only [hx,cond_false] at h
    simp [zg5,h1,h2,hx',zaI zai (b:=24) (l:=acc) (l':=[x]) (by simp;omega) (by omega),h]))
 rw [zrs,h,zG8] <;> rfl)
theorem zBq (addr:Int) (rest:List Entry):∀ (kept:List Entry) (j0:Entry) (jt:List Entry),kept.length + (jt.length + 1) + rest.length ≤ 1000 →
  ∃ junk,zcd addr (kept.length:Nat) ((kept ++ j0 :: jt).length:Nat) (kept ++ j0 :: jt ++ rest)=some ((((kept ++ drp addr rest).length:Nat):Int),kept ++ drp addr rest ++ junk):=by
 induction rest with
 | nil=>
  intro kept j0 jt h
  refine ⟨j0 :: jt,zdF ?_⟩
  have:Ops.std.ilt ((kept ++ j0 :: jt).length:Nat) (xlen zai (kept ++ j0 :: jt ++ []))=false:=by rw [zhE];simp
  rw [zbS,this]
  simp [drp]
 | cons x rest ih=>
  intro kept j0 jt h
  simp only [List.length_cons] at h
  have hlt:Ops.std.ilt ((kept ++ j0 :: jt).length:Nat) (xlen zai (kept ++ j0 :: jt ++ x :: rest))=true:=by rw [zhE];simp
  have hg:xget zai (kept ++ j0 :: jt ++ x :: rest) ((kept ++ j0 :: jt).length:Nat)=some x:=by rw [za6];simp
  have hadd:Ops.std.iadd .i64 ((kept ++ j0 :: jt).length:Nat) 1=(((kept ++ j0 :: jt).length + 1:Nat):Int):=zjP (by simp;omega)
  have hd:zfN x addr=some (isAt addr x):=zlL rfl
  rw [zvl]
  cases hx:isAt addr x with
  | true=>
   obtain ⟨junk,h2⟩:=ih kept j0 (jt ++ [x]) (by simp;omega)
   refine ⟨junk,zdF ?_⟩
   rw [zbS,hlt,hg,hadd]
   simp only [cond_true,Option.bind_some,hd,hx]
   simpa [Nat.add_assoc] using h2
  | false=>
   have hg0:xget zai (kept ++ j0 :: jt ++ x :: rest) (kept.length:Nat)=some j0:=by rw [za6];simp
   have hadd2:Ops.std.iadd .i64 (kept.length:Nat) 1=((kept.length + 1:Nat):Int):=zjP (by omega)
   have hset:xset (kept ++ j0 :: jt ++ x :: rest) (kept.length:Nat) x=(kept ++ [x]) ++ (jt ++ [x]) ++ rest:=by
    unfold xset;simp
   have go:zcd addr ((kept.length + 1:Nat):Int) (((kept ++ j0 :: jt).length + 1:Nat):Int) ((kept ++ [x]) ++ (jt ++ [x]) ++ rest)=zbS addr (kept.length:Nat) ((kept ++ j0 :: jt).length:Nat) (kept ++ j0 :: jt ++ x :: rest):=by
    rw [zbS,hlt,hg,hadd]
    simp only [cond_true,Option.bind_some,hd,hx,cond_false,hg0,hadd2,hset]
   cases jt with
   | nil=>
    obtain ⟨junk,h2⟩:=ih (kept ++ [x]) x [] (by simp;omega)
    refine ⟨junk,zdF (go.symm.trans ?_)⟩
    simpa [Nat.add_assoc] using h2
   | cons j1 jt=>
    obtain ⟨junk,h2⟩:=ih (kept ++ [x]) j1 (jt ++ [x]) (by simp at h ⊢;omega)
    refine ⟨junk,zdF (go.symm.trans ?_)⟩
    simpa [Nat.add_assoc] using h2
theorem zfm (l:List Entry) (n:Nat) (h:n ≤ l.length):xsub zai l 0 (n:Int)=some (l.take n):=by
 rw [zjj,if_pos (by omega)];simp
theorem zkM (l:List Entry) (n:Nat) (h:n ≤ l.length):xsub zai l (n:Int) (xlen zai l)=some (l.drop n):=by
 rw [zjj,zaE,if_pos (by omega)];simp
theorem zyj {l:List Entry} {addr:Int} (hl:l.length ≤ 1000):zkd l addr=some (drp addr l):=zsw (by
 rw [zhT,(znz hl).2.1,Option.bind_some]
 unfold zeC fstI
 cases hf:fst (isAt addr) l with
 | none=>
  have:Ops.std.ieq (-1) (-1)=true:=rfl
  simp [this,zzW (znM hf)]
 | some n=>
  obtain ⟨x,hx,hp,hn,hb⟩:=zfq hf
  have h1:Ops.std.ieq (n:Int) (-1)=false:=ieqF (by omega)
  obtain ⟨hn',hxe⟩:=List.getElem?_eq_some_iff.1 hx
  have hsplit:l=l.take n ++ x :: l.drop (n + 1):=by
   rw [← hxe,← List.drop_eq_getElem_cons hn,List.take_append_drop]
  have hkl:(l.take n).length=n:=by simp;omega
  have hbefore:drp addr (l.take n)=l.take n:=zzW fun y hy=>by
   obtain ⟨i,hi,rfl⟩:=List.getElem_of_mem hy
   rw [hkl] at hi
   exact hb i _ hi (by rw [List.getElem_take];exact List.getElem?_eq_getElem _)
  have hdrp:drp addr l=l.take n ++ drp addr (l.drop (n + 1)):=by
   conv=>lhs;rw [hsplit]
   show List.filter _ _=_
   rw [List.filter_append]
   show drp addr _ ++ drp addr (x :: _)=_
   rw [hbefore,zvl,hp,cond_true]
  obtain ⟨junk,hlo⟩:=zBq addr (l.drop (n + 1)) (l.take n) x [] (by rw [hkl];simp;omega)
  rw [← hdrp,List.append_assoc,List.singleton_append,← hsplit,List.length_append,hkl,List.length_singleton] at hlo
  have hadd:Ops.std.iadd .i64 (n:Int) 1=((n + 1:Nat):Int):=zjP (by omega)
  have hz:Ops.std.ieq 0 0=true:=rfl
  have hfil:xfil (drp addr l ++ junk) ((drp addr l).length:Nat) (xlen zai (drp addr l ++ junk)) ⟨⟨0,0⟩,0⟩=drp addr l ++ List.replicate junk.length ⟨⟨0,0⟩,0⟩:=by
   unfold xfil;rw [zaE];simp only [Int.toNat_natCast];simp
  simp only [h1,cond_false,hadd,hlo,Option.bind_some,zkM (drp addr l ++ junk) (drp addr l).length (by simp),hfil,zfm (drp addr l ++ List.replicate junk.length ⟨⟨0,0⟩,0⟩) (drp addr l).length (by simp),hz,cond_true]
  simp)
theorem zr7 {l:List Entry} {addr:Int} (hl:l.length ≤ 1000):zri l addr=some (drp addr l):=zAo (by
 simp [znQ,zyj hl,zaI zai (b:=24) (l:=[]) (l':=l) (by simp;omega) (by omega)])
def firms (l:List Entry):List Peer:=l.flatMap fun x=>bif Ops.std.ile x.misses 0 then [x.peer] else []
theorem some_eq {l:List Entry} (hl:l.length ≤ 1000):zkU l=some (firms l) ∧ znU l=some (firms l) ∧ True:=by
 have h1:=zpc zai (l:=l) (by omega) (f:=fun x=>bif Ops.std.ile x.misses 0 then [x.peer] else []) (L:=fun i acc=>zeX l i acc) 1 (fun x _=>by cases Ops.std.ile x.misses 0 <;> simp)
  (fun acc h=>zne (by simp [zdY,h]))
  (fun n x acc r ha hn _ h1 h2 h=>zne (by
   have hf:zrj x=some (Ops.std.ile x.misses 0):=zAs rfl
   cases hx:Ops.std.ile x.misses 0 with
   | false=>simp only [hx,cond_false,List.append_nil] at h;simp [zdY,h1,h2,hf,hx,h]
   | true=>simp only [hx,cond_true] at h;simp [zdY,h1,h2,hf,hx,h,zaI zah (b:=16) (l:=acc) (l':=[x.peer]) (by simp;omega) (by omega)]))
 have h2:=zpc zai (l:=l) (by omega) (f:=fun x=>bif Ops.std.ile x.misses 0 then [x.peer] else []) (L:=fun i acc=>zjC l i acc) 1 (fun x _=>by cases Ops.std.ile x.misses 0 <;> simp)
  (fun acc h=>zsa (by simp [zg7,h]))
  (fun n x acc r ha hn _ h1 h2 h=>zsa (by
   have hf:Ops.std.ilt x.misses 1=Ops.std.ile x.misses 0:=by rw [zau,zbH];exact decide_eq_decide.2 (by omega)
   cases hx:Ops.std.ile x.misses 0 with
   | false=>simp only [hx,cond_false,List.append_nil] at h;simp [zg7,h1,h2,hf,hx,h]
   | true=>simp only [hx,cond_true] at h;simp [zg7,h1,h2,hf,hx,h,zaI zah (b:=16) (l:=acc) (l':=[x.peer]) (by simp;omega) (by omega)]))
 refine ⟨zAp ?_,zEg ?_,trivial⟩
 ·simp [znR,zxp (l:=l) (r:=firms l) (by simp [zlM,h1,firms])]
 ·simp [zrt,h2,firms]
theorem firms_le (l:List Entry):(firms l).length ≤ l.length:=by
 unfold firms
 induction l with
 | nil=>exact Nat.le_refl _
 | cons x l ih=>rw [List.flatMap_cons,List.length_append,List.length_cons];cases Ops.std.ile x.misses 0 <;> simp only [cond_true,cond_false,List.length_cons,List.length_nil] <;> omega
theorem Entry.ext3 {a b:Entry}:a=b ↔ a.peer.id=b.peer.id ∧ a.peer.addr=b.peer.addr ∧ a.misses=b.misses:=by
 rw [Entry.ext',Peer.ext',and_assoc]
theorem r27_Same_eq {a b:List Entry} (hl:a.length ≤ 1000):zru a b=some (eqb a b):=zEh (by
 rw [zrv,zaE,zaE]
 by_cases he:a.length=b.length
 ·have h:=zoX zai (l:=a) (l':=b) (by omega) he (L:=fun i=>zmj a b i) (fun h=>zmU (by simp [zg9,h]))
   (fun n x r _ h1 h2 h3 h=>zmU (by simp [zg9,h1,h2,h3,zam];exact h))
   (fun n x y _ h1 h2 h3 h=>zmU (by
    simp only [zg9,h1,h2,h3,zam,zaf,cond_true,Option.bind_some]
    rw [ne_eq,Entry.ext3] at h
    split
    ·split
     ·split
      ·exact absurd ⟨‹_›,‹_›,‹_›⟩ h
      ·rfl
     ·rfl
    ·rfl))
  rw [ieqT (by omega),cond_true]
  rcases h with ⟨h1,h2⟩ | ⟨h1,h2⟩
  ·rw [h2,h1,zh9];rfl
  ·rw [h2,zmA h1];rfl
 ·rw [ieqF (by omega),zmA (fun h=>he (by rw [h]))];rfl)
theorem zth {a b:List Peer} (hl:a.length ≤ 1000):zoO a b=some (eqb a b):=zu1 (by
 rw [zmh,zaE,zaE]
 by_cases he:a.length=b.length
 ·have h:=zoX zah (l:=a) (l':=b) (by omega) he (L:=fun i=>zif a b i) (fun h=>zef (by simp [zcC,h]))
   (fun n x r _ h1 h2 h3 h=>zef (by simp [zcC,h1,h2,h3,zam];exact h))
   (fun n x y _ h1 h2 h3 h=>zef (by
    simp only [zcC,h1,h2,h3,zam,zaf,cond_true,Option.bind_some]
    rw [ne_eq,Peer.ext'] at h
    split
    ·split
     ·exact absurd ⟨‹_›,‹_›⟩ h
     ·rfl
    ·rfl))
  rw [ieqT (by omega),cond_true]
  rcases h with ⟨h1,h2⟩ | ⟨h1,h2⟩
  ·rw [h2,h1,zh9];rfl
  ·rw [h2,zmA h1];rfl
 ·rw [ieqF (by omega),zmA (fun h=>he (by rw [h]))];rfl)
def owner (key:Int):Peer → List Peer → Peer
 | best,[]=>best
 | best,p :: l=>if dist key p.id < dist key best.id then owner key p l else owner key best l
theorem zH5 {α:Type} (l:List α) (n:Nat) (x:α):xset l (n:Int) x=l.set n x:=rfl
end Go.Ab.Tryz.Pe
namespace Go.Ab.Tryz.Pe
open Go.Ab.Tryz Go Go.Ab Go.Proofs
def EnOk (l:List Entry):Prop:=∀ x,x ∈ l → PeOk x.peer
def isAh (me p:Peer) (x:Entry):Bool:=zt8 me p x.peer
def ins (me p:Peer):List Entry → List Entry
 | []=>[⟨p,0⟩]
 | x :: l=>bif isAh me p x then ⟨p,0⟩ :: x :: l else x :: ins me p l
def cut (l:List Entry):List Entry:=if 15 < l.length then l.take (l.length - 1) else l
def add (me:Peer) (l:List Entry) (p:Peer):List Entry:=
 if p.addr=me.addr then l else
 match fst (isAt p.addr) l with
 | none=>cut (ins me p (drp p.addr l))
 | some n=>match l[n]? with
  | none=>l
  | some x=>if x.peer=p then l.set n ⟨x.peer,0⟩ else cut (ins me p (drp p.addr l))
theorem zDf (me p:Peer) (l:List Entry):(ins me p l).length=l.length + 1:=by
 induction l with
 | nil=>rfl
 | cons x l ih=>rw [ins];cases isAh me p x <;> simp [ih]
theorem zxY (me p:Peer) (l:List Entry):ins me p l=match fst (isAh me p) l with | some n=>l.take n ++ ⟨p,0⟩ :: l.drop n | none=>l ++ [⟨p,0⟩]:=by
 induction l with
 | nil=>rfl
 | cons x l ih=>
  rw [ins,fst]
  cases isAh me p x with
  | true=>rfl
  | false=>
   rw [cond_false,cond_false,ih]
   cases fst (isAh me p) l with
   | none=>rfl
   | some n=>simp
theorem zoo {me p:Peer} {l:List Entry} (hl:l.length ≤ 1000):zkN l me.id me.addr p.id p.addr=some (fstI (isAh me p) l):=zuP (by
 have hc:∀ x,zpg x me.id me.addr p.id p.addr=some (isAh me p x):=fun x=>zyt (by
  rw [zmQ,zxn];rfl)
 have h:=zcc zai (l:=l) (by omega) (p:=isAh me p) (L:=fun i=>zeP l me.id me.addr p.id p.addr i) (fun h=>zgE (by simp [zcI,h]))
  (fun n x _ h1 h2 hp=>zgE (by simp [zcI,h1,h2,hc,hp]))
  (fun n x r _ h1 h2 hp h=>zgE (by simp [zcI,h1,h2,hc,hp];exact h))
 rw [zjn,h]
 unfold fstI
 cases fst (isAh me p) l <;> rfl)
theorem zoJ {me p:Peer} {l r4:List Entry} {n:Nat} (hl:r4.length ≤ 1000) (hn:n ≤ r4.length):∃ t hi,zkT me l p (n:Int) r4=some (hi,t) ∧ xsub zai t 0 hi=some (cut (r4.take n ++ ⟨p,0⟩ :: r4.drop n)):=by
 have hroom:zaK zai 24 r4 [⟨p,0⟩]=true:=zaI zai (by simp;omega) (by omega)
 have hlen:(r4.take n ++ ([(⟨p,0⟩:Entry)] ++ r4.drop n)).length=r4.length + 1:=by simp;omega
 have e:r4.take n ++ ⟨p,0⟩ :: r4.drop n=r4.take n ++ ([(⟨p,0⟩:Entry)] ++ r4.drop n):=rfl
 rw [e]
 generalize hL:r4.take n ++ ([(⟨p,0⟩:Entry)] ++ r4.drop n)=L at hlen
 have hsub:∀ k:Nat,k ≤ L.length → xsub zai L 0 (k:Int)=some (L.take k):=fun k hk=>zfm L k hk
 have h1:Ops.std.isub .i64 (xlen zai L) 1=(r4.length:Int):=by rw [zaE,zzw (by omega) (by omega)];omega
 refine ⟨L,((if 15 < L.length then L.length - 1 else L.length:Nat):Int),zxm ?_,?_⟩
 ·simp only [zlK,hroom,cond_true,zfm r4 n hn,zkM r4 n hn,Option.bind_some,hL,h1]
  rw [zaE]
  by_cases h15:15 < L.length
  ·by_cases h14:L.length=16
   ·rw [iltF (by omega),cond_false,iltT (by omega),cond_true,if_pos h15]
    have:=hsub r4.length (by omega)
    rw [this,Option.bind_some];congr 2;omega
   ·rw [iltF (by omega),cond_false,iltT (by omega),cond_true,if_pos h15]
    have:=hsub r4.length (by omega)
    rw [this,Option.bind_some];congr 2;omega
  ·rw [iltT (by omega),cond_true,iltF (by omega),cond_false,if_neg h15]
   have:=hsub L.length (Nat.le_refl _)
   rw [this,Option.bind_some]
 ·rw [hsub _ (by split <;> omega)]
  unfold cut
  split
  ·rfl
  ·simp
theorem zwD {me p:Peer} {l:List Entry} (hl:l.length ≤ 900):∃ t hi,zib me l p=some (hi,t) ∧ xsub zai t 0 hi=some (cut (ins me p (drp p.addr l))):=by
 have hd:=zzV p.addr l
 rw [zxY]
 cases hf:fst (isAh me p) (drp p.addr l) with
 | none=>
  obtain ⟨t,hi,h1,h2⟩:=zoJ (me:=me) (p:=p) (l:=l) (r4:=drp p.addr l) (n:=(drp p.addr l).length) (by omega) (Nat.le_refl _)
  refine ⟨t,hi,zqs ?_,by rw [h2];simp⟩
  simp only [ziT,zr7 (l:=l) (by omega),Option.bind_some,zoo (l:=drp p.addr l) (by omega),fstI,hf]
  have:Ops.std.ilt (-1) 0=true:=rfl
  simp only [this,cond_true,zaE,h1,Option.bind_some]
 | some n=>
  have hn:=(zfq hf).choose_spec.2.2.1
  obtain ⟨t,hi,h1,h2⟩:=zoJ (me:=me) (p:=p) (l:=l) (r4:=drp p.addr l) (n:=n) (by omega) (by omega)
  refine ⟨t,hi,zqs ?_,h2⟩
  simp only [ziT,zr7 (l:=l) (by omega),Option.bind_some,zoo (l:=drp p.addr l) (by omega),fstI,hf,iltF (show ¬ (n:Int) < 0 by omega),cond_false,h1]
theorem peers_Add_eq {me p:Peer} {l:List Entry} (hl:l.length ≤ 900):zta me l p=some (add me l p):=zBB (by
 have hroom:zaK zai 24 [] l=true:=zaI zai (by simp;omega) (by omega)
 obtain ⟨t,hi,h1,h2⟩:=zwD (me:=me) (p:=p) (l:=l) hl
 simp only [zph,hroom,cond_true,zxo (l:=l) (by omega),Option.bind_some,zam,zbH,zaf,h1,h2,add]
 split
 ·rfl
 ·unfold zeC fstI
  cases hf:fst (isAt p.addr) l with
  | none=>dsimp only;rw [if_neg (by omega)]
  | some n=>
   obtain ⟨x,hx,hp,hn,hb⟩:=zfq hf
   have hg:xget zai l (n:Int)=some x:=by rw [za6,hx]
   dsimp only
   rw [if_pos (by omega)]
   simp only [hg,Option.bind_some,hx,Peer.ext',zH5]
   by_cases h3:x.peer.id=p.id
   ·by_cases h4:x.peer.addr=p.addr
    ·simp [h3,h4]
    ·simp [h3,h4]
   ·simp [h3])
theorem zyx {me p:Peer} {l:List Entry} (hl:l.length ≤ 900) (hm:PeOk me) (hp:PeOk p) (ho:EnOk l):zgM me p l false 0 []=some (match fst (isAh me p) l with | some n=>(true,l.take n ++ ⟨p,0⟩ :: l.drop n) | none=>(false,l)):=by
 have h:=zbb (σ:=Bool × List Entry) zai (l:=l) (by omega) (L:=fun i s=>zgM me p l s.1 i s.2) (res:=fun _ s rest=>bif s.1 then (true,s.2 ++ rest) else match fst (isAh me p) rest with | some n=>(true,s.2 ++ (rest.take n ++ ⟨p,0⟩ :: rest.drop n)) | none=>(false,s.2 ++ rest)) (Inv:=fun n s=>s.2.length ≤ n + (bif s.1 then 1 else 0))
  (fun s _ h=>ztj (by
   obtain ⟨b,acc⟩:=s
   cases b <;> simp [zig,h,fst]))
  (fun n x rest s hi hn hx hd h1 h2 h3 ih=>ztj (by
   obtain ⟨b,acc⟩:=s
   have hi':acc.length ≤ n + (bif b then 1 else 0):=hi
   have hroom:∀ (a:List Entry) (y:Entry),a.length ≤ n + 2 → zaK zai 24 a [y]=true:=fun a y ha=>zaI zai (by simp;omega) (by omega)
   cases b with
   | true=>
    rw [cond_true] at hi'
    simp only [zig,h1,h2,cond_true,Option.bind_some,hroom acc x (by omega),h3]
    have:=ih (true,acc ++ [x]) (by simp;omega)
    simpa using this
   | false=>
    rw [cond_false] at hi'
    simp only [zig,h1,h2,cond_true,cond_false,Option.bind_some,zAB hm hp (ho x (List.mem_of_getElem? hx)),fst]
    have e:zt8 me p x.peer=isAh me p x:=rfl
    rw [e]
    cases isAh me p x with
    | true=>
     simp only [cond_true,hroom acc ⟨p,0⟩ (by omega),hroom (acc ++ [⟨p,0⟩]) x (by simp;omega),h3]
     have:=ih (true,acc ++ [⟨p,0⟩] ++ [x]) (by simp;omega)
     simpa using this
    | false=>
     simp only [cond_false,hroom acc x (by omega),cond_true,h3]
     have:=ih (false,acc ++ [x]) (by simp;omega)
     simp only [cond_false] at this
     rw [this]
     cases fst (isAh me p) rest with
     | none=>simp
     | some m=>simp)) (false,[]) (by simp)
 simpa using h
theorem zyy {me p:Peer} {t:List Entry} (hl:t.length ≤ 1000):∃ r,zno me p t=some r ∧ (match r with | .inl (hi,r3)=>(xsub zai r3 0 hi).bind fun ys=>some ys | .inr r3=>some r3)=some (cut t):=by
 by_cases h15:15 < t.length
 ·have h1:Ops.std.isub .i64 (xlen zai t) 1=((t.length - 1:Nat):Int):=by rw [zaE,zzw (by omega) (by omega)];omega
  refine ⟨.inl (((t.length - 1:Nat):Int),t),ztl ?_,?_⟩
  ·simp only [zkX,h1,zfm t (t.length - 1) (by omega),Option.bind_some]
   rw [zaE,iltT (by omega),cond_true]
  ·simp only [zfm t (t.length - 1) (by omega),Option.bind_some,cut,if_pos h15]
 ·refine ⟨.inr t,ztl ?_,by simp only [cut,if_neg h15]⟩
  rw [zkX,zaE,iltF (by omega),cond_false]
theorem zyz {me p:Peer} {l:List Entry} (hl:l.length ≤ 900) (hm:PeOk me) (hp:PeOk p) (ho:EnOk l):∃ r,ziX me l p=some r ∧ (match r with | .inl (hi,r3)=>(xsub zai r3 0 hi).bind fun ys=>some ys | .inr r3=>some r3)=some (cut (ins me p (drp p.addr l))):=by
 have hd:=zzV p.addr l
 have hod:EnOk (drp p.addr l):=fun x hx=>ho x (List.mem_filter.1 hx).1
 have hil:=zDf me p (drp p.addr l)
 obtain ⟨r,h1,h2⟩:=zyy (me:=me) (p:=p) (t:=ins me p (drp p.addr l)) (by omega)
 refine ⟨r,zAA ?_,h2⟩
 have hl1:=zyx (me:=me) (p:=p) (l:=drp p.addr l) (by omega) hm hp hod
 simp only [znT,zBM (l:=l) (addr:=p.addr) (by omega),Option.bind_some,hl1]
 rw [zxY] at h1
 cases hf:fst (isAh me p) (drp p.addr l) with
 | none=>
  rw [hf] at h1
  have hroom:zaK zai 24 (drp p.addr l) [⟨p,0⟩]=true:=zaI zai (by simp;omega) (by omega)
  simp only [Option.bind_some,cond_false,hroom,cond_true] at h1 ⊢
  rw [h1] <;> (rcases r with ⟨a,b⟩ | c <;> rfl)
 | some n=>
  rw [hf] at h1
  simp only [Option.bind_some,cond_true] at h1 ⊢
  rw [h1] <;> (rcases r with ⟨a,b⟩ | c <;> rfl)
theorem r27_Add_eq {me p:Peer} {l:List Entry} (hl:l.length ≤ 900) (hm:PeOk me) (hp:PeOk p) (ho:EnOk l):zuI me l p=some (add me l p):=zGg (by
 have hroom:zaK zai 24 [] l=true:=zaI zai (by simp;omega) (by omega)
 obtain ⟨r,h1,h2⟩:=zyz (l:=l) hl hm hp ho
 have s0:∀ at_,zgN me l p at_ false=some (.inr ()):=fun at_=>ztk (by rw [zkW,cond_false])
 rcases r with ⟨hi,t⟩ | t
 all_goals
  simp only [Option.bind_fun_some,Option.some.injEq] at h2
  simp only [zti,zAC (l:=l) (addr:=p.addr) (by omega),Option.bind_some,zam,zbH,zaf,s0,h1,h2,add]
  split
  ·rfl
  ·unfold zeC fstI
   cases hf:fst (isAt p.addr) l with
   | none=>dsimp only;rw [if_neg (by omega)]
   | some n=>
    obtain ⟨x,hx,hp,hn,hb⟩:=zfq hf
    have hg:xget zai l (n:Int)=some x:=by rw [za6,hx]
    have s1:zgN me l p (n:Int) true=some (.inl (l.set n ⟨x.peer,0⟩)):=ztk (by
     rw [zkW,cond_true,hroom,cond_true,hg];rfl)
    dsimp only
    rw [if_pos (by omega)]
    simp only [hg,Option.bind_some,hx,Peer.ext',s1]
    by_cases h3:x.peer.id=p.id
    ·by_cases h4:x.peer.addr=p.addr
     ·simp [h3,h4]
     ·simp [h3,h4]
    ·simp [h3])
theorem add_le (me p:Peer) (l:List Entry):(add me l p).length ≤ l.length + 1:=by
 have hd:=zzV p.addr l
 have hc:(cut (ins me p (drp p.addr l))).length ≤ l.length + 1:=by
  unfold cut
  have:=zDf me p (drp p.addr l)
  split
  ·rw [List.length_take];omega
  ·omega
 unfold add
 split
 ·omega
 ·split
  ·exact hc
  ·split
   ·omega
   ·split
    ·rw [List.length_set];omega
    ·exact hc
end Go.Ab.Tryz.Pe
namespace Go.Ab.Tryz
open Go Go.Ab Go.Proofs Go.Lib
def byt (s:ByteArray) (i:Nat):Nat:=(s.get! i).toNat
theorem zwm (s:ByteArray) (i:Nat):byt s i < 256:=(s.get! i).toNat_lt
theorem zJJ (s:ByteArray) (i:Nat) (h:s.size ≤ i):byt s i=0:=by
 cases s with
 | mk d=>
  have h':d.size ≤ i:=h
  show (d[i]!).toNat=0
  rw [getElem!_neg d i (by omega)];rfl
theorem zkL {s:ByteArray} {i:Nat} (h:i < s.size):zcH s (i:Int)=some (byt s i:Int):=by
 show (if (0:Int) ≤ (i:Int) then (s[(i:Int).toNat]?).map fun c=>(c.toNat:Int) else none)=_
 rw [if_pos (by omega),Int.toNat_natCast]
 have e1:s[i]?=some (s[i]'h):=getElem?_pos s i h
 have e2:s.get! i=s[i]'h:=by
  cases s with
  | mk d=>exact getElem!_pos d i h
 rw [e1]
 show some ((s[i]'h).toNat:Int)=_
 rw [← e2];rfl
theorem zuD {a b:Nat} (h:a + b < 9223372036854775808):Ops.std.iadd .i64 (a:Int) (b:Int)=((a + b:Nat):Int):=by
 show IntKind.i64.wrap _=_
 unfold IntKind.wrap
 simp [IntKind.signed,IntKind.bits]
 omega
theorem zJL {a b:Nat} (h:b ≤ a) (h2:a < 9223372036854775808):Ops.std.isub .i64 (a:Int) (b:Int)=((a - b:Nat):Int):=by
 show IntKind.i64.wrap _=_
 unfold IntKind.wrap
 simp [IntKind.signed,IntKind.bits]
 omega
theorem zbw (s:ByteArray):Ops.std.slen s=(s.size:Int):=rfl
def wid (s:ByteArray) (i:Nat):Nat:=if Utf8.decode s i=(65533,1) then 0 else (Utf8.decode s i).2
def tl (b:Nat):Bool:=decide (128 ≤ b ∧ b ≤ 191)
theorem zpr (b:Nat):zie (b:Int)=some (tl b):=zEb (by
 simp only [zro,zbH,zaf,tl]
 split
 ·rename_i h
  congr 1
  exact decide_eq_decide.2 ⟨fun h2=>⟨by omega,by omega⟩,fun h2=>by omega⟩
 ·rename_i h
  congr 1
  exact (decide_eq_false (by omega)).symm)
def wd3 (b0 b1:Nat) (t:Bool):Option Nat:=bif t then (if b0=224 then (if b1 < 160 then some 0 else some 3) else if b0=237 then (if 159 < b1 then some 0 else some 3) else some 3) else none
def wd4 (b0 b1:Nat) (t:Bool):Nat:=bif t then (if b0=240 then (if b1 < 144 then 0 else 4) else if b0=244 then (if 143 < b1 then 0 else 4) else 4) else 0
section
variable {s:ByteArray} {i:Nat} (hi:i < s.size) (hs:s.size < 4611686018427387904)
include hi hs
theorem zxi:Ops.std.isub .i64 (Ops.std.slen s) (i:Int)=((s.size - i:Nat):Int):=zJL (by omega) (by omega)
theorem zor {k:Nat} (h:k < s.size - i) (hk:k < 8):zcH s (Ops.std.iadd .i64 (i:Int) (k:Int))=some (byt s (i + k):Int):=by
 rw [zuD (by omega)];exact zkL (by omega)
theorem s0_eq (h:1 < s.size - i) (b:Nat) (t:Bool):zdq s (i:Int) (b:Int) t=some (match wd3 b (byt s (i + 1)) t with | some n=>.inl (n:Int) | none=>.inr (b:Int)):=zqw (by
 have e1:zcH s (Ops.std.iadd .i64 (i:Int) 1)=some (byt s (i + 1):Int):=zor (k:=1) hi hs h (by decide)
 unfold zlQ
 cases t
 ·rfl
 ·simp only [cond_true,zam,zau,zaf,wd3,e1,Option.bind_some]
  by_cases h1:b=224
  ·subst h1
   by_cases h2:byt s (i + 1) < 160
   ·simp [h2,show (byt s (i + 1):Int) < 160 by omega]
   ·simp [h2,show ¬ (byt s (i + 1):Int) < 160 by omega]
  ·by_cases h3:b=237
   ·subst h3
    by_cases h2:159 < byt s (i + 1)
    ·simp [h2,show (159:Int) < byt s (i + 1) by omega]
    ·simp [h2,show ¬ (159:Int) < byt s (i + 1) by omega]
   ·simp [h1,h3,show ¬ (b:Int)=224 by omega,show ¬ (b:Int)=237 by omega])
omit hi hs in
theorem zAS (b:Nat):zdq s (i:Int) (b:Int) false=some (.inr (b:Int)):=zqw rfl
theorem s1_eq (h:1 < s.size - i) (b:Nat):zcP s (i:Int) (b:Int) true=some (.inl (wd4 b (byt s (i + 1)) true:Nat)):=zqx (by
 have e1:zcH s (Ops.std.iadd .i64 (i:Int) 1)=some (byt s (i + 1):Int):=zor (k:=1) hi hs h (by decide)
 unfold zlR
 simp only [cond_true,zam,zau,zaf,wd4,e1,Option.bind_some]
 by_cases h1:b=240
 ·subst h1
  by_cases h2:byt s (i + 1) < 144
  ·simp [h2,show (byt s (i + 1):Int) < 144 by omega]
  ·simp [h2,show ¬ (byt s (i + 1):Int) < 144 by omega]
 ·by_cases h3:b=244
  ·subst h3
   by_cases h2:143 < byt s (i + 1)
   ·simp [h2,show (143:Int) < byt s (i + 1) by omega]
   ·simp [h2,show ¬ (143:Int) < byt s (i + 1) by omega]
  ·simp [h1,h3,show ¬ (b:Int)=240 by omega,show ¬ (b:Int)=244 by omega])
omit hi hs in
theorem zAT (b:Nat):zcP s (i:Int) (b:Int) false=some (.inr ()):=zqx rfl
theorem zJm (b:Nat):zer s (i:Int) (b:Int)=some ((if 240 ≤ b ∧ b ≤ 244 ∧ 3 < s.size - i ∧ tl (byt s (i + 1))=true ∧ tl (byt s (i + 2))=true ∧ tl (byt s (i + 3))=true then wd4 b (byt s (i + 1)) true else 0:Nat):Int):=zxr (by
 unfold zlS
 simp only [zbH,zau,zaf,zxi hi hs,zAT,Option.bind_some]
 split
 ·split
  ·split
   ·have e1:zcH s (Ops.std.iadd .i64 (i:Int) 1)=some (byt s (i + 1):Int):=zor (k:=1) hi hs (by omega) (by decide)
    have e2:zcH s (Ops.std.iadd .i64 (i:Int) 2)=some (byt s (i + 2):Int):=zor (k:=2) hi hs (by omega) (by decide)
    have e3:zcH s (Ops.std.iadd .i64 (i:Int) 3)=some (byt s (i + 3):Int):=zor (k:=3) hi hs (by omega) (by decide)
    simp only [e1,e2,e3,Option.bind_some,zpr]
    cases t1:tl (byt s (i + 1))
    ·simp
    ·cases t2:tl (byt s (i + 2))
     ·simp
     ·cases t3:tl (byt s (i + 3))
      ·simp [zAT]
      ·simp only [cond_true,s1_eq hi hs (by omega:1 < s.size - i),Option.bind_some]
       rw [if_pos ⟨by omega,by omega,by omega,trivial,trivial,trivial⟩]
   ·rw [if_neg (by omega)];rfl
  ·rw [if_neg (by omega)];rfl
 ·rw [if_neg (by omega)];rfl)
theorem s3_eq (b:Nat):zfV s (i:Int) (b:Int)=some ((if 224 ≤ b ∧ b ≤ 239 ∧ 2 < s.size - i ∧ tl (byt s (i + 1))=true ∧ tl (byt s (i + 2))=true then (wd3 b (byt s (i + 1)) true).getD 0
  else if 240 ≤ b ∧ b ≤ 244 ∧ 3 < s.size - i ∧ tl (byt s (i + 1))=true ∧ tl (byt s (i + 2))=true ∧ tl (byt s (i + 3))=true then wd4 b (byt s (i + 1)) true else 0:Nat):Int):=zxs (by
 unfold zlT
 simp only [zbH,zau,zaf,zxi hi hs,zAS,Option.bind_some,zJm hi hs]
 split
 ·split
  ·split
   ·have e1:zcH s (Ops.std.iadd .i64 (i:Int) 1)=some (byt s (i + 1):Int):=zor (k:=1) hi hs (by omega) (by decide)
    have e2:zcH s (Ops.std.iadd .i64 (i:Int) 2)=some (byt s (i + 2):Int):=zor (k:=2) hi hs (by omega) (by decide)
    simp only [e1,e2,Option.bind_some,zpr]
    cases t1:tl (byt s (i + 1))
    ·simp
    ·cases t2:tl (byt s (i + 2))
     ·simp [zAS,zJm hi hs,t1,t2]
     ·simp only [cond_true,s0_eq hi hs (by omega:1 < s.size - i),Option.bind_some]
      rw [if_pos ⟨by omega,by omega,by omega,trivial,trivial⟩]
      unfold wd3
      simp only [cond_true]
      repeat' split
      all_goals first | rfl | simp_all
   ·rw [if_neg (c:=224 ≤ b ∧ _) (by omega)]
  ·rw [if_neg (c:=224 ≤ b ∧ _) (by omega)]
 ·rw [if_neg (c:=224 ≤ b ∧ _) (by omega)])
def widN (n b0 b1 b2 b3:Nat):Nat:=
 if b0 < 128 then 1
 else if 194 ≤ b0 ∧ b0 ≤ 223 ∧ 1 < n ∧ tl b1=true then 2
 else if 224 ≤ b0 ∧ b0 ≤ 239 ∧ 2 < n ∧ tl b1=true ∧ tl b2=true then (wd3 b0 b1 true).getD 0
 else if 240 ≤ b0 ∧ b0 ≤ 244 ∧ 3 < n ∧ tl b1=true ∧ tl b2=true ∧ tl b3=true then wd4 b0 b1 true else 0
theorem zEK:zid s (i:Int)=some (widN (s.size - i) (byt s i) (byt s (i + 1)) (byt s (i + 2)) (byt s (i + 3)):Int):=zBG (by
 unfold zpq widN
 simp only [zkL hi,Option.bind_some,zbH,zau,zaf,zxi hi hs,s3_eq hi hs]
 by_cases h1:byt s i < 128
 ·rw [if_pos (by omega),if_pos h1];rfl
 ·rw [if_neg (by omega),if_neg h1]
  split
  ·split
   ·split
    ·have e1:zcH s (Ops.std.iadd .i64 (i:Int) 1)=some (byt s (i + 1):Int):=zor (k:=1) hi hs (by omega) (by decide)
     simp only [e1,Option.bind_some,zpr]
     cases t1:tl (byt s (i + 1))
     ·simp
     ·simp only [cond_true]
      rw [if_pos ⟨by omega,by omega,by omega,trivial⟩];rfl
    ·rw [if_neg (c:=194 ≤ byt s i ∧ _) (by omega)]
   ·rw [if_neg (c:=194 ≤ byt s i ∧ _) (by omega)]
  ·rw [if_neg (c:=194 ≤ byt s i ∧ _) (by omega)])
end
theorem zA2 {b:Nat} (h:b < 256):tl b=true ↔ b / 64=2:=by unfold tl;rw [decide_eq_true_eq];omega
set_option maxRecDepth 100000 in
set_option maxHeartbeats 4000000 in
theorem zKm {n b0 b1 b2 b3:Nat} (h0:b0 < 256) (h1:b1 < 256) (h2:b2 < 256) (h3:b3 < 256):widN n b0 b1 b2 b3=if decodeN n b0 b1 b2 b3=(65533,1) then 0 else (decodeN n b0 b1 b2 b3).2:=by
 unfold widN wd3 wd4
 simp only [zA2 h1,zA2 h2,zA2 h3,cond_true]
 unfold decodeN
 repeat' split
 all_goals first | rfl | omega | (simp_all;done) | (simp_all;omega)
theorem zvf {s:ByteArray} {i:Nat} (hi:i < s.size) (hs:s.size < 4611686018427387904):zid s (i:Int)=some (wid s i:Int):=by
 rw [zEK hi hs,zKm (zwm _ _) (zwm _ _) (zwm _ _) (zwm _ _)]
 unfold wid
 rw [decode_at];rfl
end Go.Ab.Tryz
namespace Go.Ab.Tryz
open Go Go.Ab Go.Proofs Go.Lib
def ze8 (s:ByteArray) (i:Nat):Bool:=decide (Utf8.decode s i=(65533,1))
theorem zo6 {s:ByteArray} {i:Nat} (h:i < s.size):zrY s (i:Int)=some (((Utf8.decode s i).1:Int),((i + (Utf8.decode s i).2:Nat):Int)):=by
 show (if 0 ≤ (i:Int) ∧ (i:Int).toNat < s.size then some (((Utf8.decode s (i:Int).toNat).1:Int),(i:Int) + ((Utf8.decode s (i:Int).toNat).2:Int)) else none)=_
 rw [if_pos ⟨by omega,by simpa using h⟩,Int.toNat_natCast]
 simp
theorem zyh {s:ByteArray} {i:Nat} (h:¬ i < s.size):zrY s (i:Int)=none:=by
 show (if 0 ≤ (i:Int) ∧ (i:Int).toNat < s.size then some (((Utf8.decode s (i:Int).toNat).1:Int),(i:Int) + ((Utf8.decode s (i:Int).toNat).2:Int)) else none)=_
 rw [if_neg (by simpa using h)]
theorem ztQ {s:ByteArray} {i:Nat} (h:i < s.size):ztP s (i:Int) ((Utf8.decode s i).1:Int)=some (ze8 s i):=zCb (by
 unfold zpR
 simp only [zam,zaf]
 split
 ·rename_i h1
  have e1:zuO s (i:Int) (Ops.std.slen s)=some (s.extract i s.size):=by
   show (if 0 ≤ (i:Int) ∧ (i:Int) ≤ (s.size:Int) ∧ (s.size:Int) ≤ (s.size:Int) then some (s.extract (i:Int).toNat (s.size:Int).toNat) else none)=_
   rw [if_pos ⟨by omega,by omega,by omega⟩];simp
  have e2:zrY (s.extract i s.size) 0=some (((Utf8.decode s i).1:Int),((Utf8.decode s i).2:Int)):=by
   have:=zo6 (s:=s.extract i s.size) (i:=0) (by rw [tail_size];omega)
   rw [tail_decode] at this
   simpa using this
  rw [e1,Option.bind_some,e2]
  simp only [xopt,ze8]
  congr 1
  have h2:(Utf8.decode s i).1=65533:=by omega
  refine decide_eq_decide.2 ⟨fun h=>Prod.ext h2 (by show (Utf8.decode s i).2=1;omega),fun h=>by rw [h];rfl⟩
 ·rename_i h1
  congr 1
  exact (decide_eq_false (fun h=>h1 (by rw [h];rfl))).symm)
def poss (s:ByteArray):Nat → Nat → List Nat
 | 0,_=>[]
 | n + 1,i=>if i < s.size then i :: poss s n (i + (Utf8.decode s i).2) else []
theorem zH3 (s:ByteArray):∀ (n i:Nat),s.size - i < n → ∃ r,ziB s (i:Int)=some r ∧ (match r with | .inl _=>false | .inr _=>true)=(poss s n i).all fun j=>!ze8 s j:=by
 intro n
 induction n with
 | zero=>intro i h;omega
 | succ n ih=>
  intro i h
  by_cases hi:i < s.size
  ·have hw:=width_pos s i
   cases hst:ze8 s i
   ·obtain ⟨r,hr,he⟩:=ih (i + (Utf8.decode s i).2) (by omega)
    refine ⟨r,zl5 (by simp only [zgk,zo6 hi,xopt,ztQ hi,Option.bind_some,hst,cond_false];exact hr),?_⟩
    rw [he];simp [poss,hi,hst]
   ·exact ⟨_,zl5 (by simp only [zgk,zo6 hi,xopt,ztQ hi,Option.bind_some,hst,cond_true];rfl),by simp [poss,hi,hst]⟩
  ·exact ⟨_,zl5 (by simp only [zgk,zyh hi,xopt];rfl),by simp [poss,hi]⟩
theorem zA7 (s:ByteArray):ztO s=some ((poss s (s.size + 1) 0).all fun j=>!ze8 s j):=zCa (by
 obtain ⟨r,hr,he⟩:=zH3 s (s.size + 1) 0 (by omega)
 have hr:ziB s 0=some r:=hr
 simp only [zpQ,hr,Option.bind_some]
 cases r <;> exact congrArg some he)
theorem zHM (s:ByteArray):∀ (n i:Nat),(poss s n i).length ≤ n:=by
 intro n
 induction n with
 | zero=>intro i;simp [poss]
 | succ n ih=>
  intro i
  unfold poss
  split
  ·have:=ih (i + (Utf8.decode s i).2);simp;omega
  ·simp
theorem zG2 (s:ByteArray):∀ (n i k:Nat),s.size - i < n → k + n < 9223372036854775808 → ∃ a,ziA s (k:Int) (i:Int)=some (((k + (poss s n i).length:Nat):Int),a):=by
 intro n
 induction n with
 | zero=>intro i k h;omega
 | succ n ih=>
  intro i k h hk
  by_cases hi:i < s.size
  ·have hw:=width_pos s i
   obtain ⟨a,ha⟩:=ih (i + (Utf8.decode s i).2) (k + 1) (by omega) (by omega)
   refine ⟨a,zqE ?_⟩
   have e1:Ops.std.iadd .i64 (k:Int) 1=((k + 1:Nat):Int):=zuD (b:=1) (by omega)
   simp only [zjb,zo6 hi,xopt,e1,ha]
   simp [poss,hi];omega
  ·exact ⟨(i:Int),zqE (by simp only [zjb,zyh hi,xopt];simp [poss,hi])⟩
theorem zA6 {s:ByteArray} (hs:s.size < 4611686018427387904):ztN s=some (((poss s (s.size + 1) 0).length:Nat):Int):=zB9 (by
 obtain ⟨a,ha⟩:=zG2 s (s.size + 1) 0 0 (by omega) (by omega)
 have ha:ziA s 0 0=some (((0 + (poss s (s.size + 1) 0).length:Nat):Int),a):=ha
 simp only [zpP,ha,Option.bind_some,Nat.zero_add])
end Go.Ab.Tryz
namespace Go.Ab.Tryz
open Go Go.Ab Go.Proofs Go.Lib
def zeZ (s:ByteArray) (i:Nat):ByteArray:=s.extract i (i + (Utf8.decode s i).2)
theorem zGH (s:ByteArray) (i:Nat):(wid s i=0 ∧ (Utf8.decode s i).2=1) ∨ (wid s i ≠ 0 ∧ wid s i=(Utf8.decode s i).2):=by
 unfold wid
 split
 ·rename_i h;exact .inl ⟨rfl,by rw [h]⟩
 ·have:=width_pos s i;exact .inr ⟨by omega,rfl⟩
theorem zHJ (s:ByteArray) (hs:s.size < 1000000):∀ (n i:Nat) (l:List ByteArray),s.size - i < n → l.length ≤ i → i ≤ s.size → (∀ j,j < s.size → j + (Utf8.decode s j).2 ≤ s.size) → zfO s (i:Int) l=some (l ++ (poss s n i).map (zeZ s)):=by
 intro n
 induction n with
 | zero=>intro i l h;omega
 | succ n ih=>
  intro i l h hl hi0 hfit
  by_cases hi:i < s.size
  ·have hw:=width_pos s i
   have hf:=hfit i hi
   have hr:∀ z:ByteArray,zaK vT 16 l [z]=true:=fun z=>zaI vT (by simp;omega) (by omega)
   have hx:=ih (i + (Utf8.decode s i).2) (l ++ [zeZ s i]) (by omega) (by simp;omega) hf hfit
   have hsub:∀ w:Nat,i + w ≤ s.size → zuO s (i:Int) ((i + w:Nat):Int)=some (s.extract i (i + w)):=fun w hwl=>by
    show (if 0 ≤ (i:Int) ∧ (i:Int) ≤ ((i + w:Nat):Int) ∧ ((i + w:Nat):Int) ≤ (s.size:Int) then some (s.extract (i:Int).toNat ((i + w:Nat):Int).toNat) else none)=_
    rw [if_pos ⟨by omega,by omega,by omega⟩,Int.toNat_natCast,Int.toNat_natCast]
   refine zqv ?_
   unfold ziW
   simp only [zau,zaf,zbw,zvf hi (by omega),Option.bind_some,zam]
   rw [if_pos (by omega)]
   rcases zGH s i with ⟨h1,h2⟩ | ⟨h1,h2⟩
   ·have e1:Ops.std.iadd .i64 (i:Int) 1=((i + 1:Nat):Int):=zuD (b:=1) (by omega)
    rw [if_pos (by omega),e1,hsub 1 (by omega),Option.bind_some,hr,cond_true]
    rw [h2] at hx
    simp only [poss,if_pos hi,List.map_cons,h2]
    rw [show s.extract i (i + 1)=zeZ s i from by unfold zeZ;rw [h2],hx]
    simp
   ·have e1:Ops.std.iadd .i64 (i:Int) (wid s i:Int)=((i + wid s i:Nat):Int):=zuD (by omega)
    rw [if_neg (by omega),e1,hsub _ (by omega),Option.bind_some,hr,cond_true]
    rw [← h2] at hx
    simp only [poss,if_pos hi,List.map_cons,← h2]
    rw [show s.extract i (i + wid s i)=zeZ s i from by unfold zeZ;rw [h2],hx]
    simp
  ·exact zqv (by
    unfold ziW
    simp only [zau,zaf,zbw]
    rw [if_neg (by omega)]
    simp [poss,hi])
theorem fits {s:ByteArray} {i:Nat} (h:i < s.size):i + (Utf8.decode s i).2 ≤ s.size:=by
 rw [decode_at]
 have:∀ n b0 b1 b2 b3,1 ≤ n → (decodeN n b0 b1 b2 b3).2 ≤ n:=fun n b0 b1 b2 b3 hn=>by
  unfold decodeN
  repeat' split
  all_goals (simp only;omega)
 have:=this (s.size - i) (s.get! i).toNat (s.get! (i + 1)).toNat (s.get! (i + 2)).toNat (s.get! (i + 3)).toNat (by omega)
 omega
theorem ztd {s:ByteArray} (hs:s.size < 1000000):zoM s=some ((poss s (s.size + 1) 0).map (zeZ s)):=zBE (by
 have h:=zHJ s hs (s.size + 1) 0 [] (by omega) (by simp) (by omega) (fun j hj=>fits hj)
 have h:zfO s 0 []=some ((poss s (s.size + 1) 0).map (zeZ s)):=h
 simp only [zpo,h,Option.bind_some])
end Go.Ab.Tryz
namespace Go.Ab.Tryz
open Go Go.Ab Go.Proofs Go.Lib
set_option maxRecDepth 100000 in
set_option maxHeartbeats 4000000 in
theorem zG5 {n b0 b1 b2 b3 r w:Nat} (hn:1 ≤ n) (hd:decodeN n b0 b1 b2 b3=(r,w)):decodeN w b0 (if 1 < w then b1 else 0) (if 2 < w then b2 else 0) (if 3 < w then b3 else 0)=(r,w):=by
 unfold decodeN at hd
 repeat' split at hd
 all_goals
  injection hd with e1 e2
  subst e1 e2
  unfold decodeN
  simp only [show ¬ 1 < 1 by omega,show ¬ 2 < 1 by omega,show ¬ 3 < 1 by omega,show 1 < 2 by omega,show ¬ 2 < 2 by omega,show ¬ 3 < 2 by omega,show 1 < 3 by omega,show 2 < 3 by omega,show ¬ 3 < 3 by omega,show 1 < 4 by omega,show 2 < 4 by omega,show 3 < 4 by omega,if_true,if_false,false_and,true_and,and_false]
  repeat' split
  all_goals first | rfl | (exfalso;omega)
end Go.Ab.Tryz
namespace Go.Ab.Tryz
open Go Go.Ab Go.Proofs Go.Lib
theorem zvK (s:ByteArray) (i j:Nat) (h:j ≤ s.size):(s.extract i j).size=j - i:=by
 simp [ByteArray.size_extract];omega
theorem zJt (s:ByteArray) (i j k:Nat) (h:j ≤ s.size) (hk:i + k < j):byt (s.extract i j) k=byt s (i + k):=by
 have h1:k < (s.extract i j).size:=by rw [zvK s i j h];omega
 have e1:=zkL h1
 have e2:=zkL (s:=s) (i:=i + k) (by omega)
 unfold byt
 have g1:(s.extract i j).get! k=(s.extract i j)[k]'h1:=by
  generalize s.extract i j=z at h1 ⊢
  cases z with
  | mk d=>exact getElem!_pos d k h1
 have g2:s.get! (i + k)=s[i + k]'(by omega):=by
  have h2:i + k < s.size:=by omega
  clear e1 e2 g1 h1
  cases s with
  | mk d=>exact getElem!_pos d (i + k) h2
 rw [g1,g2,ByteArray.getElem_extract]
theorem zx7 {s:ByteArray} {i:Nat} (h:i < s.size):Utf8.decode (zeZ s i) 0=Utf8.decode s i:=by
 have hf:=fits h
 have hw:=width_pos s i
 obtain ⟨r,w,hd⟩:∃ r w,Utf8.decode s i=(r,w):=⟨_,_,rfl⟩
 have hsz:(zeZ s i).size=w:=by unfold zeZ;rw [zvK _ _ _ hf,hd];simp only;omega
 have hb:∀ k,byt (zeZ s i) k=if k < w then byt s (i + k) else 0:=fun k=>by
  split
  ·rename_i hk
   unfold zeZ
   rw [hd] at hf ⊢
   exact zJt s i (i + w) k hf (by omega)
  ·exact zJJ _ _ (by omega)
 rw [hd] at hw ⊢
 rw [decode_at] at hd ⊢
 have b0:=hb 0;have b1:=hb 1;have b2:=hb 2;have b3:=hb 3
 unfold byt at b0 b1 b2 b3
 simp only [Nat.zero_add,Nat.sub_zero,Nat.add_zero] at b0 b1 b2 b3 ⊢
 rw [hsz,b0,b1,b2,b3,if_pos (show 0 < w from hw)]
 exact zG5 (by omega) hd
end Go.Ab.Tryz
namespace Go.Ab.Tryz
open Go Go.Ab Go.Proofs Go.Lib
theorem zyg (s:ByteArray) (i:Nat):(wid s i=0) ↔ ze8 s i=true:=by
 unfold wid ze8
 have:=width_pos s i
 split
 ·rename_i h;simp [h]
 ·rename_i h;simp [h];omega
theorem zKl {l:List ByteArray} (hl:l.length ≤ 4611686018427387904) (hb:∀ x,x ∈ l → 0 < x.size ∧ x.size < 1000000):zic l 0=some (bif allI (fun _ x=>!ze8 x 0) 0 l then .inr () else .inl ()):=
 zzE vT hl (L:=fun i=>zic l i)
  (fun h=>zlP (by simp [zfQ,h]))
  (fun n x r hx h1 h2 hp h=>zlP (by
   have hm:=hb x (List.mem_of_getElem? hx)
   have hw:zid x 0=some (wid x 0:Int):=zvf hm.1 (by omega)
   have hz:¬ (wid x 0=0):=fun h0=>by
    have:=(zyg x 0).1 h0;simp [this] at hp
   simp [zfQ,h1,h2,hw,zam,hz];exact h))
  (fun n x hx h1 h2 hp=>zlP (by
   have hm:=hb x (List.mem_of_getElem? hx)
   have hw:zid x 0=some (wid x 0:Int):=zvf hm.1 (by omega)
   have hz:wid x 0=0:=(zyg x 0).2 (by simpa using hp)
   simp [zfQ,h1,h2,hw,zam,hz]))
end Go.Ab.Tryz
namespace Go.Ab.Tryz
open Go Go.Ab Go.Proofs Go.Lib
theorem zxq (s:ByteArray):∀ (n i:Nat),∀ j,j ∈ poss s n i → j < s.size:=by
 intro n
 induction n with
 | zero=>intro i j h;simp [poss] at h
 | succ n ih=>
  intro i j h
  unfold poss at h
  split at h
  ·rename_i hi
   rcases List.mem_cons.1 h with rfl | h
   ·exact hi
   ·exact ih _ j h
  ·cases h
theorem zGP {l:List ByteArray} {p:ByteArray → Bool}:∀ n,allI (fun _ x=>p x) n l=l.all p:=by
 induction l with
 | nil=>intro n;rfl
 | cons x l ih=>intro n;simp [allI,ih]
theorem zAz {s:ByteArray} (hs:s.size < 1000000):zte s=some ((poss s (s.size + 1) 0).all fun j=>!ze8 s j):=zBF (by
 have hl:=zHM s (s.size + 1) 0
 have hb:∀ x,x ∈ (poss s (s.size + 1) 0).map (zeZ s) → 0 < x.size ∧ x.size < 1000000:=fun x hx=>by
  obtain ⟨j,hj,rfl⟩:=List.mem_map.1 hx
  have h1:=zxq s _ _ j hj
  have h2:=fits h1
  have h3:=width_pos s j
  unfold zeZ
  rw [zvK _ _ _ h2];omega
 have hv:=zKl (l:=(poss s (s.size + 1) 0).map (zeZ s)) (by simp;omega) hb
 rw [zGP] at hv
 have he:((poss s (s.size + 1) 0).map (zeZ s)).all (fun x=>!ze8 x 0)=(poss s (s.size + 1) 0).all fun j=>!ze8 s j:=by
  rw [List.all_map]
  refine Bool.eq_iff_iff.2 ?_
  simp only [List.all_eq_true,Function.comp]
  refine ⟨fun h j hj=>?_,fun h j hj=>?_⟩
  ·have:=h j hj;unfold ze8 at this ⊢;rwa [zx7 (zxq s _ _ j hj)] at this
  ·have:=h j hj;unfold ze8 at this ⊢;rwa [zx7 (zxq s _ _ j hj)]
 rw [he] at hv
 simp only [zpp,ztd hs,Option.bind_some,hv]
 cases (poss s (s.size + 1) 0).all fun j=>!ze8 s j <;> rfl)
end Go.Ab.Tryz
namespace Go.Ab.Tryz
open Go Go.Ab Go.Proofs Go.Lib
def zoG (s:ByteArray):Bool:=decide (0 < s.size ∧ s.size ≤ 96) && ((poss s (s.size + 1) 0).all fun j=>!ze8 s j) && decide ((poss s (s.size + 1) 0).length ≤ 32)
theorem zEc {s:ByteArray} (hs:s.size < 1000000):zxt s=some (zoG s):=zGf (by
 simp only [ztf,zau,zaf,zbw,zAz hs,ztd hs,Option.bind_some,zoG,zaE,List.length_map]
 by_cases h1:0 < s.size
 ·rw [if_pos (by omega)]
  by_cases h2:s.size ≤ 96
  ·rw [if_pos (by omega)]
   cases (poss s (s.size + 1) 0).all fun j=>!ze8 s j
   ·simp
   ·simp [h1,h2];omega
  ·rw [if_neg (by omega)];simp [h2]
 ·rw [if_neg (by omega)];simp [h1])
theorem zD0 {s:ByteArray} (hs:s.size < 1000000):zxk s=some (zoG s):=zF2 (by
 have h0:Ops.std.seq s ⟨#[]⟩=true ↔ s.size=0:=by
  rw [zuM]
  constructor
  ·rintro rfl;rfl
  ·intro h
   cases s with
   | mk d=>
    have:d.size=0:=h
    rw [Array.eq_empty_of_size_eq_zero this]
 simp only [zs6,zbH,zaf,zbw,zA7,zA6 (show s.size < 4611686018427387904 by omega),Option.bind_some,zoG]
 by_cases h1:s.size=0
 ·rw [h0.2 h1];simp [h1]
 ·rw [Bool.eq_false_iff.2 (fun h=>h1 (h0.1 h)),cond_false]
  by_cases h2:s.size ≤ 96
  ·rw [if_pos (by omega)]
   cases (poss s (s.size + 1) 0).all fun j=>!ze8 s j
   ·simp
   ·have h3:0 < s.size:=by omega
    simp only [cond_true,h2,h3,and_self,decide_true,Bool.true_and,Option.some.injEq]
    exact decide_eq_decide.2 ⟨fun h=>by omega,fun h=>by omega⟩
  ·rw [if_neg (by omega)];simp [h2])
end Go.Ab.Tryz
namespace Go.Ab.Tryz
open Go Go.Ab Go.Proofs Go.Lib
theorem iltT {a b:Int} (h:a < b):Ops.std.ilt a b=true:=decide_eq_true h
theorem iltF {a b:Int} (h:¬ a < b):Ops.std.ilt a b=false:=decide_eq_false h
theorem ieqT {a b:Int} (h:a=b):Ops.std.ieq a b=true:=decide_eq_true h
theorem ieqF {a b:Int} (h:¬ a=b):Ops.std.ieq a b=false:=decide_eq_false h
theorem zvG (a:ByteArray):Ops.std.seq a a=true:=zuM.2 rfl
theorem zGT (a b:Bool):Ops.std.beq a b=decide (a=b):=by cases a <;> cases b <;> rfl
def n64 (x:BitVec 64):Int:=(x.toNat:Int)
def mc1:BitVec 64:=13787848793156543929#64
def mc2:BitVec 64:=10723151780598845931#64
def mixB (u:BitVec 64):BitVec 64:=
 let a:=(u ^^^ (u >>> 30)) * mc1
 let b:=(a ^^^ (a >>> 27)) * mc2
 b ^^^ (b >>> 31)
def stepB (n:BitVec 64) (c:Nat):BitVec 64:=(n ^^^ BitVec.ofNat 64 c) * 1099511628211#64
def zJh (f:BitVec 64 → Nat → BitVec 64):Nat → Nat → BitVec 64 → BitVec 64
 | 0,_,x=>x
 | d + 1,i,x=>zJh f d (i + 1) (f x i)
def sumB (s:ByteArray) (d i:Nat) (x:BitVec 64):BitVec 64:=zJh (fun x i=>stepB x (byt s i)) d i x
def basis:BitVec 64:=14695981039346656037#64
def zMs (s:ByteArray):BitVec 64:=mixB (sumB s s.size 0 basis)
def zL2 (s:ByteArray):Int:=n64 (zMs s)
def upto (a x b:Int):Bool:=decide (a=b) || (decide (x=b) || (decide (x ≠ a) && decide ((x - a) % 18446744073709551616 < (b - a) % 18446744073709551616)))
theorem zHs (a b:Int):Ops.std.isub .u64 a b=(a - b) % 18446744073709551616:=zvM _
theorem ztG (a x b:Int):zkK a x b=some (upto a x b):=zBY (by
 have hd:∀ u v,zix u v=some ((v - u) % 18446744073709551616):=fun u v=>zu6 (by rw [zpK,zHs])
 have hb:a ≠ b → zgg a x b=some (decide (x ≠ a) && decide ((x - a) % 18446744073709551616 < (b - a) % 18446744073709551616)):=fun h=>zqA (by
  simp only [zi9,hd,Option.bind_some,zam,zau,decide_eq_false h,cond_false,zaf]
  by_cases hx:x=a <;> simp [hx])
 simp only [zpL,zam,zaf,upto]
 by_cases h1:a=b
 ·simp [h1]
 ·by_cases h2:x=b
  ·simp [h1,h2]
  ·simp [h1,h2,hb h1])
theorem zpn {a x b:Int} (ha:0 ≤ a ∧ a < 18446744073709551616) (hx:0 ≤ x ∧ x < 18446744073709551616) (hb:0 ≤ b ∧ b < 18446744073709551616):znS a x b=some (upto a x b):=zEa (by
 simp only [zrn,zau,zbH,zaf,upto]
 split
 ·split
  ·rename_i h1 h2
   congr 1
   rw [decide_eq_false (by omega:¬ a=b),Bool.false_or,Bool.eq_iff_iff]
   simp only [decide_eq_true_eq,Bool.or_eq_true,Bool.and_eq_true]
   omega
  ·rename_i h1 h2
   congr 1
   rw [decide_eq_false (by omega:¬ a=b),Bool.false_or]
   symm
   rw [Bool.eq_false_iff]
   intro h
   simp only [decide_eq_true_eq,Bool.or_eq_true,Bool.and_eq_true] at h
   omega
 ·split
  ·split
   ·rename_i h1 h2 h3
    congr 1
    symm
    simp only [decide_eq_true_eq,Bool.or_eq_true,Bool.and_eq_true]
    omega
   ·rename_i h1 h2 h3
    congr 1
    rw [Bool.eq_iff_iff]
    simp only [decide_eq_true_eq,Bool.or_eq_true,Bool.and_eq_true]
    omega
  ·congr 1
   symm
   simp only [decide_eq_true_eq,Bool.or_eq_true,Bool.and_eq_true]
   omega)
theorem zvj {s:ByteArray} {i:Nat} (h:i < s.size):∃ x,s.data.toList.drop i=x :: s.data.toList.drop (i + 1) ∧ byt s i=x.toNat:=by
 have hl:i < s.data.toList.length:=by simpa using h
 refine ⟨s.data.toList[i],List.drop_eq_getElem_cons hl,?_⟩
 unfold byt
 congr 1
 cases s with
 | mk d=>
  show d[i]! = _
  rw [Array.getElem_toList]
  exact getElem!_pos d i (by simpa using hl)
theorem zFY (x y:UInt8) (a b:List UInt8):Op.bytesLess (x :: a) (y :: b)=(decide (x.toNat < y.toNat) || (decide (x.toNat=y.toNat) && Op.bytesLess a b)):=by
 show (decide (x < y) || (x == y && Op.bytesLess a b))=_
 have e:(x == y)=decide (x.toNat=y.toNat):=by
  rw [Bool.eq_iff_iff,beq_iff_eq,decide_eq_true_eq]
  exact ⟨fun h=>by rw [h],fun h=>UInt8.toNat_inj.1 h⟩
 rw [e]
 rfl
theorem zx4 {a b:ByteArray} (ha:a.size < 4611686018427387904):∀ (k i:Nat),i + k=a.size → i ≤ b.size → ∃ r,zjA a b (i:Int)=some r ∧ (match r with | .inl t=>t | .inr _=>Ops.std.ilt (Ops.std.slen a) (Ops.std.slen b))=Op.bytesLess (a.data.toList.drop i) (b.data.toList.drop i)
 | 0,i,h,hi=>by
  refine ⟨.inr (),zjT ?_,?_⟩
  ·have e:Ops.std.ilt (i:Int) (Ops.std.slen a)=false:=iltF (by rw [zbw];omega)
   rw [zeI,e];rfl
  ·rw [List.drop_of_length_le (by simp;omega:a.data.toList.length ≤ i)]
   show decide ((a.size:Int) < (b.size:Int))=_
   by_cases hb:i < b.size
   ·obtain ⟨y,hy,_⟩:=zvj hb
    rw [hy,decide_eq_true (by omega)];rfl
   ·rw [List.drop_of_length_le (by simp;omega:b.data.toList.length ≤ i),decide_eq_false (by omega)];rfl
 | k + 1,i,h,hi=>by
  have e:Ops.std.ilt (i:Int) (Ops.std.slen a)=true:=iltT (by rw [zbw];omega)
  obtain ⟨x,hx,hxv⟩:=zvj (s:=a) (i:=i) (by omega)
  by_cases hb:i < b.size
  ·have e2:Ops.std.ilt (i:Int) (Ops.std.slen b)=true:=iltT (by rw [zbw];omega)
   obtain ⟨y,hy,hyv⟩:=zvj hb
   have g1:=zkL (s:=a) (i:=i) (by omega)
   have g2:=zkL hb
   have ad:Ops.std.iadd .i64 (i:Int) 1=((i + 1:Nat):Int):=zjP (by omega)
   rw [hx,hy,zFY,← hxv,← hyv]
   by_cases he:byt a i=byt b i
   ·obtain ⟨r,hr,hv⟩:=zx4 (a:=a) (b:=b) ha k (i + 1) (by omega) (by omega)
    have hs0:zmi a b (i:Int)=some (.inl ((i + 1:Nat):Int)):=zr8 (by
     rw [zjU,g1,g2,ad]
     simp only [Option.bind_some,ieqT (show (byt a i:Int)=byt b i by omega),cond_true])
    refine ⟨r,zjT ?_,?_⟩
    ·rw [zeI,e,e2,hs0];exact hr
    ·rw [hv,he];simp
   ·have hs0:zmi a b (i:Int)=some (.inr (Ops.std.ilt (byt a i:Int) (byt b i:Int))):=zr8 (by
     rw [zjU,g1,g2,ad]
     simp only [Option.bind_some,ieqF (show ¬ (byt a i:Int)=byt b i by omega),cond_false])
    refine ⟨.inl (Ops.std.ilt (byt a i:Int) (byt b i:Int)),zjT ?_,?_⟩
    ·rw [zeI,e,e2,hs0];rfl
    ·simp only [decide_eq_false he,Bool.false_and,Bool.or_false]
     exact decide_eq_decide.2 ⟨fun h=>by omega,fun h=>by omega⟩
  ·have e2:Ops.std.ilt (i:Int) (Ops.std.slen b)=false:=iltF (by rw [zbw];omega)
   refine ⟨.inr (),zjT (by rw [zeI,e,e2];rfl),?_⟩
   rw [hx,List.drop_of_length_le (by simp;omega:b.data.toList.length ≤ i)]
   show decide ((a.size:Int) < (b.size:Int))=_
   rw [decide_eq_false (by omega)];rfl
def lt (a b:ByteArray):Bool:=Op.bytesLess a.data.toList b.data.toList
theorem zBJ {a b:ByteArray} (ha:a.size < 4611686018427387904):zrq a b=some (lt a b):=zEe (by
 obtain ⟨r,hr,hv⟩:=zx4 (a:=a) (b:=b) ha a.size 0 (by omega) (by omega)
 have hr':zjA a b 0=some r:=hr
 rw [zrr,hr',Option.bind_some]
 rw [List.drop_zero,List.drop_zero] at hv
 unfold lt
 rw [← hv]
 cases r <;> rfl)
end Go.Ab.Tryz
namespace Go.Ab.Tryz
open Go Go.Ab Go.Proofs Go.Lib
theorem ztg {a b:List Pair} (hl:a.length ≤ 1000000):zoN a b=some (eqb a b):=zBH (by
 rw [zps,zaE,zaE]
 by_cases he:a.length=b.length
 ·have h:=zoX zan (l:=a) (l':=b) (by omega) he (L:=fun i=>zkV a b i) (fun h=>zlU (by simp [zfX,h]))
   (fun n x r _ h1 h2 h3 h=>zlU (by simp [zfX,h1,h2,h3,zvG];exact h))
   (fun n x y _ h1 h2 h3 h=>zlU (by
    simp only [zfX,h1,h2,h3,zDs,zaf,cond_true,Option.bind_some]
    rw [ne_eq,Pair.ext'] at h
    split
    ·split
     ·exact absurd ⟨‹_›,‹_›⟩ h
     ·rfl
    ·rfl))
  rw [ieqT (by omega),cond_true]
  rcases h with ⟨h1,h2⟩ | ⟨h1,h2⟩
  ·rw [h2,h1,zh9] <;> rfl
  ·rw [h2,zmA h1] <;> rfl
 ·rw [ieqF (by omega),zmA (fun h=>he (by rw [h]))] <;> rfl)
def isAt (key:ByteArray) (p:Pair):Bool:=Ops.std.seq p.key key
def pl (l:List Pair) (key:ByteArray):Int:=fstI (isAt key) l
theorem znn {l:List Pair} {key:ByteArray} (hl:l.length ≤ 1000):zmv l key=some (pl l key) ∧ zoT l key=some (pl l key):=by
 have e1:=zcc zan (l:=l) (by omega) (p:=isAt key) (L:=fun i=>zez l key i) (fun h=>zfy (by simp [zcx,h]))
  (fun n x _ h1 h2 hp=>zfy (by
   have:zkb x key=some (isAt key x):=zo1 rfl
   simp [zcx,h1,h2,this,hp]))
  (fun n x r _ h1 h2 hp h=>zfy (by
   have:zkb x key=some (isAt key x):=zo1 rfl
   simp [zcx,h1,h2,this,hp];exact h))
 have e0:=zcc zan (l:=l) (by omega) (p:=isAt key) (L:=fun i=>zk3 l key i) (fun h=>zlW (by simp [zf4,h]))
  (fun n x _ h1 h2 hp=>zlW (by
   have:Ops.std.seq x.key key=true:=hp
   simp [zf4,h1,h2,this]))
  (fun n x r _ h1 h2 hp h=>zlW (by
   have:Ops.std.seq x.key key=false:=hp
   simp [zf4,h1,h2,this];exact h))
 refine ⟨zyZ (zsz ?_),zBQ ?_⟩
 ·rw [zhZ,e1];unfold pl fstI;cases fst (isAt key) l <;> rfl
 ·rw [zpx,e0];unfold pl fstI;cases fst (isAt key) l <;> rfl
def getP (l:List Pair) (key:ByteArray):ByteArray × Bool:=match l.find? (isAt key) with
 | some x=>(x.val,true)
 | none=>(⟨#[]⟩,false)
theorem znL {p:Pair → Bool}:∀ {l:List Pair},match fst p l with
  | some n=>∃ x,l[n]?=some x ∧ l.find? p=some x ∧ p x=true ∧ n < l.length
  | none=>l.find? p=none
 | []=>rfl
 | x :: l=>by
  have ih:=znL (p:=p) (l:=l)
  rw [fst,List.find?_cons]
  cases h:p x with
  | true=>exact ⟨x,rfl,rfl,h,by simp⟩
  | false=>
   cases hf:fst p l with
   | none=>rw [hf] at ih;exact ih
   | some n=>
    rw [hf] at ih
    obtain ⟨y,h1,h2,h3,h4⟩:=ih
    exact ⟨y,by simpa using h1,h2,h3,by simp;omega⟩
theorem zAa {l:List Pair} {key:ByteArray} (hl:l.length ≤ 1000):ztK l key=some (getP l key) ∧ zxw l key=some (getP l key):=by
 have h:=znL (p:=isAt key) (l:=l)
 have h1:zmu l key=some (getP l key) ∧ zoS l key=some (getP l key):=by
  rw [zmu,zoS,(znn hl).1,(znn hl).2,Option.bind_some]
  unfold pl fstI getP
  cases hf:fst (isAt key) l with
  | none=>
   rw [hf] at h
   simp only [h,iltT (show (-1:Int) < 0 by omega),cond_true,and_self]
  | some n=>
   rw [hf] at h
   obtain ⟨x,h1,h2,h3,h4⟩:=h
   simp only [h2,iltF (show ¬ (n:Int) < 0 by omega),cond_false,za6,h1,Option.bind_some,and_self]
 exact ⟨zB7 h1.1,zGj h1.2⟩
def isUp (key:ByteArray) (p:Pair):Bool:=lt key p.key
def setP (key val:ByteArray):List Pair → List Pair
 | []=>[]
 | x :: l=>bif isAt key x then ⟨x.key,val⟩ :: l else x :: setP key val l
def insP (key val:ByteArray):List Pair → List Pair
 | []=>[⟨key,val⟩]
 | x :: l=>bif isUp key x then ⟨key,val⟩ :: x :: l else x :: insP key val l
def put (l:List Pair) (key val:ByteArray):List Pair × Int:=
 bif zoG key then
  (if 512 < val.size then (l,5) else
  if 0 ≤ pl l key then (setP key val l,0) else
  if 64 ≤ l.length then (l,10) else (insP key val l,0))
 else (l,7)
theorem zxE {key val:ByteArray}:∀ {l:List Pair} {n:Nat} {x:Pair},fst (isAt key) l=some n → l[n]?=some x → l.set n ⟨x.key,val⟩=setP key val l
 | [],n,x,h,_=>by cases h
 | y :: l,n,x,h,hx=>by
  rw [fst] at h
  rw [setP]
  cases hy:isAt key y with
  | true=>
   rw [hy] at h
   cases h
   cases hx
   rfl
  | false=>
   rw [hy,cond_false] at h
   cases hf:fst (isAt key) l with
   | none=>rw [hf] at h;cases h
   | some m=>
    rw [hf] at h
    cases h
    rw [cond_false,← zxE hf (by simpa using hx)]
    rfl
theorem zwu (key val:ByteArray) (l:List Pair):insP key val l=match fst (isUp key) l with | some n=>l.take n ++ ⟨key,val⟩ :: l.drop n | none=>l ++ [⟨key,val⟩]:=by
 induction l with
 | nil=>rfl
 | cons x l ih=>
  rw [insP,fst]
  cases isUp key x with
  | true=>rfl
  | false=>
   rw [cond_false,cond_false,ih]
   cases fst (isUp key) l with
   | none=>rfl
   | some n=>simp
theorem zHn (key val:ByteArray) (l:List Pair):(insP key val l).length=l.length + 1:=by
 induction l with
 | nil=>rfl
 | cons x l ih=>rw [insP];cases isUp key x <;> simp [ih]
theorem zHW (key val:ByteArray) (l:List Pair):(setP key val l).length=l.length:=by
 induction l with
 | nil=>rfl
 | cons x l ih=>rw [setP];cases isAt key x <;> simp [ih]
theorem zkI (l:List Pair) (key val:ByteArray):(put l key val).1.length ≤ max l.length 64:=by
 unfold put
 cases zoG key
 ·exact Nat.le_max_left _ _
 ·rw [cond_true]
  split
  ·exact Nat.le_max_left _ _
  ·split
   ·rw [zHW];exact Nat.le_max_left _ _
   ·split
    ·exact Nat.le_max_left _ _
    ·rw [zHn];omega
theorem zfm (l:List Pair) (n:Nat) (h:n ≤ l.length):xsub zan l 0 (n:Int)=some (l.take n):=by
 rw [zjj,if_pos (by omega)];simp
theorem zkM (l:List Pair) (n:Nat) (h:n ≤ l.length):xsub zan l (n:Int) (xlen zan l)=some (l.drop n):=by
 rw [zjj,zaE,if_pos (by omega)];simp
theorem zzC {l:List Pair} {key:ByteArray} (hl:l.length ≤ 1000):zkf l key=some (fstI (isUp key) l):=zsy (by
 have hc:∀ x,zpN x key=some (isUp key x):=fun x=>zyY rfl
 have h:=zcc zan (l:=l) (by omega) (p:=isUp key) (L:=fun i=>zey l key i) (fun h=>zfx (by simp [zcv,h]))
  (fun n x _ h1 h2 hp=>zfx (by simp [zcv,h1,h2,hc,hp]))
  (fun n x r _ h1 h2 hp h=>zfx (by simp [zcv,h1,h2,hc,hp];exact h))
 rw [zhY,h]
 unfold fstI
 cases fst (isUp key) l <;> rfl)
theorem zwT {l:List Pair} {key val:ByteArray} (hl:l.length ≤ 1000):zoa l key val=some (insP key val l):=zxF (by
 have hroom:zaK zan 32 l [⟨key,val⟩]=true:=zaI zan (by simp;omega) (by omega)
 have h0:xsub zan l 0 (xlen zan l)=some l:=by
  rw [zaE,zfm l l.length (Nat.le_refl _),List.take_length]
 have h1:xsub zan l (xlen zan l) (xlen zan l)=some []:=by
  have:=zkM l l.length (Nat.le_refl _)
  rw [zaE] at this ⊢
  rw [this,List.drop_length]
 rw [zl3,zzC hl,Option.bind_some,hroom,zwu]
 have h:=znL (p:=isUp key) (l:=l)
 unfold fstI
 cases hf:fst (isUp key) l with
 | none=>simp only [iltT (show (-1:Int) < 0 by omega),cond_true,h0,h1,Option.bind_some];simp
 | some n=>
  rw [hf] at h
  obtain ⟨x,hx,_,_,hn⟩:=h
  simp only [iltF (show ¬ (n:Int) < 0 by omega),cond_false,cond_true,zfm l n (by omega),zkM l n (by omega),Option.bind_some];simp)
theorem zAt (l:List Pair) (key:ByteArray):(pl l key=-1 ∧ fst (isAt key) l=none ∧ l.find? (isAt key)=none) ∨ ∃ n x,pl l key=(n:Nat) ∧ fst (isAt key) l=some n ∧ l[n]?=some x ∧ n < l.length ∧ l.find? (isAt key)=some x:=by
 have h:=znL (p:=isAt key) (l:=l)
 unfold pl fstI
 cases hf:fst (isAt key) l with
 | none=>rw [hf] at h;exact .inl ⟨rfl,rfl,h⟩
 | some n=>
  rw [hf] at h
  obtain ⟨x,h1,h2,h3,h4⟩:=h
  exact .inr ⟨n,x,rfl,rfl,h1,h4,h2⟩
theorem zJf {a:Int}:Ops.std.ile 0 a=decide (0 ≤ a):=rfl
theorem zAZ {l:List Pair} {key val:ByteArray} (hl:l.length ≤ 1000) (hk:key.size < 1000000):ztL l key val=some (put l key val):=zB8 (by
 have hroom:zaK zan 32 [] l=true:=zaI zan (by simp;omega) (by omega)
 rw [zpO,hroom,cond_true,(znn hl).1,Option.bind_some,zD0 hk,Option.bind_some]
 unfold put
 cases zoG key with
 | false=>rfl
 | true=>
  rw [cond_true,cond_true,zbw,zau,zaf]
  by_cases h5:512 < val.size
  ·rw [if_pos h5,if_pos (by omega)]
  ·rw [if_neg h5,if_neg (by omega),zJf,zaf]
   rcases zAt l key with ⟨hp,hf,_⟩ | ⟨n,x,hp,hf,hx,hn,_⟩
   ·rw [hp,if_neg (by omega),if_neg (by omega),zaE,zbH,zaf]
    by_cases h64:64 ≤ l.length
    ·rw [if_pos h64,if_pos (by omega)]
    ·rw [if_neg h64,if_neg (by omega),zwT hl];rfl
   ·rw [hp,if_pos (by omega),if_pos (by omega),za6,hx,Option.bind_some]
    congr 2
    exact zxE hf hx)
theorem zyC {l:List Pair} {key val:ByteArray} (hl:l.length ≤ 1000) (hk:key.size < 1000000):zk1 l key val 0=some (match fst (isUp key) l with | some n=>(n:Int) | none=>(l.length:Int)):=by
 have hc:∀ x:Pair,zrq key x.key=some (isUp key x):=fun x=>zBJ (by omega)
 have:=zbb (σ:=Unit) zan (l:=l) (by omega) (L:=fun i _=>zk1 l key val i) (res:=fun n _ rest=>match fst (isUp key) rest with | some m=>((n + m:Nat):Int) | none=>((n + rest.length:Nat):Int)) (Inv:=fun _ _=>True)
  (fun _ _ h=>ztq (by rw [zk2,h];rfl))
  (fun n x rest s _ hn hx hd h1 h2 h3 ih=>ztq (by
   rw [zk2,h1,h2,cond_true,Option.bind_some,hc,Option.bind_some,fst]
   cases hp:isUp key x with
   | true=>rfl
   | false=>
    rw [cond_false,h3,cond_false]
    have:=ih () trivial
    rw [this]
    cases fst (isUp key) rest with
    | none=>simp only [Option.map_none,List.length_cons];congr 1;omega
    | some m=>simp only [Option.map_some];congr 1;omega)) () trivial
 rw [this]
 cases fst (isUp key) l <;> simp
theorem zEn {l:List Pair} {key val:ByteArray} (hl:l.length ≤ 1000) (hk:key.size < 1000000):zxx l key val=some (put l key val):=zGk (by
 have hroom:zaK zan 32 [] l=true:=zaI zan (by simp;omega) (by omega)
 rw [ztp,zEc hk,Option.bind_some]
 unfold put
 cases zoG key with
 | false=>rfl
 | true=>
  rw [cond_true,cond_true,zbw,zau,zaf]
  by_cases h5:512 < val.size
  ·rw [if_pos h5,if_pos (by omega)]
  ·rw [if_neg h5,if_neg (by omega),(znn hl).2,Option.bind_some,zJf,zaf]
   rcases zAt l key with ⟨hp,hf,_⟩ | ⟨n,x,hp,hf,hx,hn,_⟩
   ·rw [hp,if_neg (by omega),if_neg (by omega),zaE,zau,zaf]
    by_cases h64:64 ≤ l.length
    ·rw [if_pos h64,if_pos (by omega)]
    ·rw [if_neg h64,if_neg (by omega),zyC hl hk,Option.bind_some]
     have key2:∀ n:Nat,n ≤ l.length → ((xsub zan l 0 (n:Int)).bind fun ys=>bif zaK zan 32 [] ys then (bif zaK zan 32 ys [(⟨key,val⟩:Pair)] then (xsub zan l (n:Int) (xlen zan l)).bind fun ys1=>bif zaK zan 32 (ys ++ [(⟨key,val⟩:Pair)]) ys1 then some (((ys ++ [(⟨key,val⟩:Pair)]) ++ ys1),(0:Int)) else none else none) else none)=some (l.take n ++ ⟨key,val⟩ :: l.drop n,0):=fun n hn=>by
      rw [zfm l n hn,Option.bind_some,zaI zan (by simp;omega) (by omega),cond_true,zaI zan (by simp;omega) (by omega),cond_true,zkM l n hn,Option.bind_some,zaI zan (by simp;omega) (by omega),cond_true]
      simp
     rw [zwu]
     have h:=znL (p:=isUp key) (l:=l)
     rw [zaE] at key2
     cases hf2:fst (isUp key) l with
     | none=>
      have:=key2 l.length (Nat.le_refl _)
      rw [List.take_length,List.drop_length] at this
      simp only []
      exact this
     | some n=>
      rw [hf2] at h
      obtain ⟨x,hx,_,_,hn⟩:=h
      exact key2 n (by omega)
   ·rw [hp,if_pos (by omega),if_pos (by omega),hroom,cond_true,za6,hx,Option.bind_some]
    congr 2
    exact zxE hf hx)
end Go.Ab.Tryz
namespace Go.Ab.Tryz
open Go Go.Ab Go.Proofs Go.Lib
def Keys (l:List Pair):Prop:=∀ p,p ∈ l → p.key.size < 1000000
def un (l:List Pair):Unit ⊕ (((List Pair) × Int) ⊕ Int) → List Pair × Int
 | .inl ()=>(l,0)
 | .inr (.inl r)=>r
 | .inr (.inr met)=>(l,met)
end Go.Ab.Tryz
namespace Go.Ab.Tryz
open Go Go.Ab Go.Proofs Go.Lib
def inP (a b:Int) (p:Pair):Bool:=upto a (zL2 p.key) b
def rng (l:List Pair) (a b:Int):List Pair:=l.filter (inP a b)
theorem zG3 {α β:Type} (f:α → β) (xs:List α):cut8 (xs.map f)=(cut8 xs).map (List.map f):=by
 unfold cut8
 rw [List.length_map,List.map_map]
 apply List.map_congr_left
 intro k _
 simp
theorem zKo {l:List Pair} (hl:l.length ≤ 1000000):xcut zan 78 l=some (cut8 l):=by
 refine zas ?_
 show (if (l.map zan).length ≤ 1000000 then some ((cut8 (l.map zan)).map (AV.lit 78 false)) else none)=_
 rw [if_pos (by rw [List.length_map];exact hl),zG3,List.map_map]
 rfl
theorem zC9 {l:List Pair} {c:List Pair} (hc:c ∈ cut8 l):c.length ≤ 8:=by
 unfold cut8 at hc
 obtain ⟨k,_,rfl⟩:=List.mem_map.1 hc
 rw [List.length_take];omega
theorem zvk (l:List Pair):(cut8 l).length=(l.length + 7) / 8:=by
 unfold cut8;rw [List.length_map,List.length_range]
def zwx (l:List Pair):Bool:=decide (100 < l.length) || !allI (fun _ p=>decide (p.key.size ≤ 300) && decide (p.val.size ≤ 700)) 0 l
theorem zHv (l:List Pair):ztS l=some (zwx l):=zCd (by
 rw [zpT,zaE]
 unfold zwx
 by_cases h1:100 < l.length
 ·rw [iltT (by omega),decide_eq_true h1];rfl
 ·have h:=zzE zan (l:=l) (by omega) (p:=fun _ p=>decide (p.key.size ≤ 300) && decide (p.val.size ≤ 700)) (L:=fun i=>zlj l i)
   (fun h=>zl6 (by simp [zgn,h]))
   (fun n x r hx h1 h2 hp h=>zl6 (by
    rw [Bool.and_eq_true,decide_eq_true_eq,decide_eq_true_eq] at hp
    rw [zgn,h1,h2,cond_true,Option.bind_some,zbw,zbw,iltF (by omega),iltF (by omega)];exact h))
   (fun n x hx h1 h2 hp=>zl6 (by
    rw [Bool.and_eq_false_iff,decide_eq_false_iff_not,decide_eq_false_iff_not] at hp
    rw [zgn,h1,h2,cond_true,Option.bind_some,zbw,zbw]
    rcases hp with hp | hp
    ·rw [iltT (by omega)];rfl
    ·by_cases h3:300 < x.key.size
     ·rw [iltT (by omega)];rfl
     ·rw [iltF (by omega),cond_false,iltT (by omega)];rfl))
  rw [h,Option.bind_some,iltF (by omega),decide_eq_false h1,cond_false,Bool.false_or]
  cases allI (fun _ p=>decide (p.key.size ≤ 300) && decide (p.val.size ≤ 700)) 0 l <;> rfl)
theorem zFX {l:List Pair} (h:zwx l=false):l.length ≤ 100 ∧ Keys l:=by
 unfold zwx at h
 rw [Bool.or_eq_false_iff,decide_eq_false_iff_not,Bool.not_eq_false'] at h
 refine ⟨by omega,fun p hp=>?_⟩
 obtain ⟨i,hi⟩:=List.getElem?_of_mem hp
 have:=zGQ.1 h.2 i p hi
 rw [Bool.and_eq_true,decide_eq_true_eq] at this
 omega
end Go.Ab.Tryz
namespace Go.Ab.Tryz
open Go Go.Ab Go.Proofs Go.Lib
def fl (k:Int) (has:Bool):Int:=if k=1 then 4 else if k=2 then 18 else if k=4 then (bif has then 26 else 18) else if k=5 then 8 else if k=7 then 96 else if k=8 then 32 else if k=9 then (bif has then 66 else 2) else if k=10 then 130 else if k=12 then 1 else 0
end Go.Ab.Tryz
namespace Go.Ab.Tryz
open Go Go.Ab Go.Proofs Go.Lib
theorem zth {a b:List Peer} (hl:a.length ≤ 1000000):zoO a b=some (eqb a b):=zu1 (by
 rw [zmh,zaE,zaE]
 by_cases he:a.length=b.length
 ·have h:=zoX zah (l:=a) (l':=b) (by omega) he (L:=fun i=>zif a b i) (fun h=>zef (by simp [zcC,h]))
   (fun n x r _ h1 h2 h3 h=>zef (by simp [zcC,h1,h2,h3,zam];exact h))
   (fun n x y _ h1 h2 h3 h=>zef (by
    simp only [zcC,h1,h2,h3,zam,zaf,cond_true,Option.bind_some]
    rw [ne_eq,Peer.ext'] at h
    split
    ·split
     ·exact absurd ⟨‹_›,‹_›⟩ h
     ·rfl
    ·rfl))
  rw [ieqT (by omega),cond_true]
  rcases h with ⟨h1,h2⟩ | ⟨h1,h2⟩
  ·rw [h2,h1,zh9] <;> rfl
  ·rw [h2,zmA h1] <;> rfl
 ·rw [ieqF (by omega),zmA (fun h=>he (by rw [h]))] <;> rfl)
theorem zBI {a b:Msg} (hp:a.peers.length ≤ 1000000) (hq:a.pairs.length ≤ 1000000):zvr a b=some (eqb a b):=zEd (by
 simp only [zrp,zth hp,ztg hq,Option.bind_some,zam,zGT,zDs,zaf]
 obtain ⟨k,rid,code,has,id,key,val,⟨pi,pa⟩,peers,pairs⟩:=a
 obtain ⟨k',rid',code',has',id',key',val',⟨pi',pa'⟩,peers',pairs'⟩:=b
 simp only [eqb,Msg.mk.injEq,Peer.mk.injEq]
 by_cases c1:k=k' <;> by_cases c2:rid=rid' <;> by_cases c3:code=code' <;> by_cases c4:has=has' <;> by_cases c5:id=id' <;> simp only [c1,c2,c3,c4,c5,if_true,if_false,false_and,and_false,decide_false,true_and] <;> first | rfl | skip
 all_goals (by_cases c6:key=key' <;> by_cases c7:val=val' <;> by_cases c8:pi=pi' <;> by_cases c9:pa=pa' <;> by_cases c10:peers=peers' <;> by_cases c11:pairs=pairs' <;> simp_all))
structure Fit (m:Msg):Prop where
 key:m.key.size < 1000000
 val:m.val.size < 1000000
 peers:m.peers.length ≤ 1000
 pairs:m.pairs.length ≤ 1000
 keys:∀ p,p ∈ m.pairs → p.key.size < 1000000
theorem zDe {α:Type} {p:α → Bool} {l:List α}:decide (0 ≤ fstI p l)=l.any p:=by
 unfold fstI
 cases h:fst p l with
 | none=>
  have:=znM h
  have e:l.any p=false:=by
   rw [List.any_eq_false];intro x hx;simp [this x hx]
  rw [e] <;> rfl
 | some n=>
  obtain ⟨x,hx,hp,_⟩:=zfq h
  rw [List.any_eq_true.2 ⟨x,List.mem_of_getElem? hx,hp⟩]
  exact decide_eq_true (show (0:Int) ≤ (n:Int) by omega)
end Go.Ab.Tryz
namespace Go.Ab.Tryz
open Go Go.Ab Go.Proofs Go.Lib
theorem eta2 {α β:Type} {x:Option (α × β)} {p:α × β} (h:x=some p):x=some (p.1,p.2):=h
structure Sz (n:Node):Prop where
 pred:n.pred.length ≤ 1000
 list:n.list.length ≤ 1000
 fingers:n.fingers.length ≤ 1000
 store:n.store.length ≤ 200
 pends:n.pends.length ≤ 1000
 jobs:n.jobs.length ≤ 1000
 results:n.results.length ≤ 1000
theorem zeq {n:Node} (h:Sz n):zeY n=some (n.me.id,n.me.addr,n.clock,n.joined,n.pred,n.list,n.fingers,n.store,n.pends,n.jobs,n.results,n.rid,n.jobID,n.nextBit):=zBC (by
 obtain ⟨h1,h2,h3,h4,h5,h6,h7⟩:=h
 rw [zpl,zaI zai (by simp;omega) (by omega),zaI zai (by simp;omega) (by omega),zaI zae (by simp;omega) (by omega),zaI zan (by simp;omega) (by omega),zaI za4 (by simp;omega) (by omega),zaI eJob (by simp;omega) (by omega),zaI zaq (by simp;omega) (by omega)]
 rfl)
def now (n:Node):Int:=if 0 ≤ n.clock ∧ n.clock ≤ 1099511627776 then n.clock else 0
theorem zAl (n:Node):zvq n=some (now n) ∧ zxy n=some (now n):=by
 unfold now
 constructor
 ·refine zD5 ?_
  simp only [zrl,zau,zaf]
  (repeat' split) <;> first | rfl | (exfalso;omega)
 ·refine zGm ?_
  simp only [zts,zau,zbH,zaf]
  (repeat' split) <;> first | rfl | (exfalso;omega) | (congr 1;omega)
theorem zBA {m:Msg} (hp:m.peers.length ≤ 1000000) (hq:m.pairs.length ≤ 1000000):zvp m=some m:=zDZ (by
 rw [zre,zaI zah (by simpa using hp) (by omega),zaI zan (by simpa using hq) (by omega)]
 rfl)
def askN (n:Node) (to_:Peer) (m:Msg) (why job:Int):Node × List Out:=
 if 63 < n.pends.length then (n,[]) else
 (⟨n.me,n.clock,n.joined,n.pred,n.list,n.fingers,n.store,n.pends ++ [⟨Ops.std.iadd .u32 n.rid 1,m.kind,why,job,to_,Ops.std.iadd .i64 (now n) 8⟩],n.jobs,n.results,Ops.std.iadd .u32 n.rid 1,n.jobID,n.nextBit⟩,
  [⟨to_,⟨m.kind,Ops.std.iadd .u32 n.rid 1,m.code,m.has,m.id,m.key,m.val,m.peer,m.peers,m.pairs⟩⟩])
theorem zmf {n:Node} {to_:Peer} {m:Msg} {why job:Int} (h:Sz n) (hp:m.peers.length ≤ 1000000) (hq:m.pairs.length ≤ 1000000):zlN n to_ m why job=some (askN n to_ m why job):=zD4 (by
 have h5:=h.pends
 rw [zrk,zeq h,Option.bind_some]
 dsimp only
 rw [zaE,zbH,zaf,askN]
 by_cases hc:63 < n.pends.length
 ·rw [if_pos (by omega),if_pos hc]
 ·rw [if_neg (by omega),if_neg hc,zBA hp hq,Option.bind_some,(zAl _).1,Option.bind_some,zaI za4 (by simp;omega) (by omega)]
  rfl)
theorem zk4 {n:Node} {to_:Peer} {m:Msg} {why job:Int} (h:Sz n):zlX n to_ m why job=some (askN n to_ m why job):=zGl (by
 have h5:=h.pends
 rw [ztr,zaE,zau,zaf,askN]
 by_cases hc:63 < n.pends.length
 ·rw [if_pos (by omega),if_pos hc]
 ·rw [if_neg (by omega),if_neg hc,zaI za4 (by simp;omega) (by omega),cond_true,(zAl _).2,Option.bind_some,zaI za4 (by simp;omega) (by omega)]
  rfl)
theorem zkz {n:Node} {to_:Peer} {m:Msg} {why job:Int} (h:Sz n):Sz (askN n to_ m why job).1 ∧ (askN n to_ m why job).2.length ≤ 1:=by
 unfold askN
 split
 ·exact ⟨h,by simp⟩
 ·exact ⟨⟨h.pred,h.list,h.fingers,h.store,by simp;omega,h.jobs,h.results⟩,by simp⟩
def zhQ (fresh:Bool) (c:List Pair):Msg:=⟨10,0,0,fresh,0,⟨#[]⟩,⟨#[]⟩,⟨0,0⟩,[],c⟩
def zft (to_:Peer) (fresh:Bool):List (List Pair) → Node → Node × List Out
 | [],n=>(n,[])
 | c :: cs,n=>((zft to_ fresh cs (askN n to_ (zhQ fresh c) 6 0).1).1,(askN n to_ (zhQ fresh c) 6 0).2 ++ (zft to_ fresh cs (askN n to_ (zhQ fresh c) 6 0).1).2)
theorem zAb (to_:Peer) (fresh:Bool):∀ (cs:List (List Pair)) {n:Node},Sz n → Sz (zft to_ fresh cs n).1 ∧ (zft to_ fresh cs n).2.length ≤ cs.length
 | [],n,h=>⟨h,by simp [zft]⟩
 | c :: cs,n,h=>by
  obtain ⟨h1,h2⟩:=zkz (to_:=to_) (m:=zhQ fresh c) (why:=6) (job:=0) h
  obtain ⟨h3,h4⟩:=zAb to_ fresh cs h1
  refine ⟨h3,?_⟩
  simp only [zft,List.length_append,List.length_cons]
  omega
def hand (n:Node) (to_:Peer) (l:List Pair) (fresh:Bool):Node × List Out:=zft to_ fresh (cut8 l) n
theorem zBg {l:List Pair} (hl:l.length ≤ 1000000):xcut zan 78 l=some (cut8 l):=zKo hl
theorem zyV {n:Node} {to_:Peer} {l:List Pair} {fresh:Bool} (h:Sz n) (hl:l.length ≤ 1000):zrR n to_ l fresh=some (hand n to_ l fresh):=zAU (by
 have hc:(cut8 l).length ≤ 1000:=by rw [zvk];omega
 have hcs:∀ c,c ∈ cut8 l → c.length ≤ 8:=fun c hc=>zC9 hc
 rw [zn8,zeq h,Option.bind_some]
 dsimp only
 rw [zBg (by omega),Option.bind_some]
 have:=zbb (σ:=Node × List Out) (eL 78 zan) (l:=cut8 l) (by omega) (L:=fun i s=>zj9 to_ fresh (cut8 l) (xlen (eL 78 zan) (cut8 l)) i s.1 n.pred n.list n.fingers n.store n.pends n.jobs n.results s.2)
  (res:=fun k s rest=>((zft to_ fresh rest s.1).1,n.pred,n.list,n.fingers,n.store,n.pends,n.jobs,n.results,s.2 ++ (zft to_ fresh rest s.1).2)) (Inv:=fun k s=>Sz s.1 ∧ s.2.length ≤ k)
  (fun s hi h0=>zoY (by rw [zhR,h0];simp [zft]))
  (fun k x rest s hi hn hx hd h1 h2 h3 ih=>zoY (by
   have hx8:=hcs x (List.mem_of_getElem? hx)
   obtain ⟨h4,h5⟩:=zkz (to_:=to_) (m:=zhQ fresh x) (why:=6) (job:=0) hi.1
   have h6:=hi.2
   rw [zhR,h1,h2,cond_true,Option.bind_some]
   rw [show (⟨10,0,0,fresh,0,⟨#[]⟩,⟨#[]⟩,⟨0,0⟩,[],x⟩:Msg)=zhQ fresh x from rfl,eta2 (zmf hi.1 (by simp [zhQ]) (by simp [zhQ];omega)),Option.bind_some]
   dsimp only
   rw [zaI eOut (by omega) (by omega),cond_true,h3]
   rw [ih ((askN s.1 to_ (zhQ fresh x) 6 0).1,s.2 ++ (askN s.1 to_ (zhQ fresh x) 6 0).2) ⟨h4,by simp only [List.length_append];omega⟩]
   simp only [zft,List.append_assoc])) (n,[]) ⟨h,by simp⟩
 dsimp only at this
 have e:(⟨⟨n.me.id,n.me.addr⟩,n.clock,n.joined,n.pred,n.list,n.fingers,n.store,n.pends,n.jobs,n.results,n.rid,n.jobID,n.nextBit⟩:Node)=n:=rfl
 rw [e,this,Option.bind_some]
 simp [hand])
theorem zBU {n:Node} {to_:Peer} {l:List Pair} {fresh:Bool} (h:Sz n) (hl:l.length ≤ 1000):zvy n to_ l fresh=some (hand n to_ l fresh):=zEu (by
 have hc:(cut8 l).length ≤ 1000:=by rw [zvk];omega
 rw [zrG,zBg (by omega),Option.bind_some]
 have:=zbb (σ:=Node × List Out) (eL 78 zan) (l:=cut8 l) (by omega) (L:=fun i s=>zmq to_ fresh (cut8 l) i s.1 s.2)
  (res:=fun k s rest=>((zft to_ fresh rest s.1).1,s.2 ++ (zft to_ fresh rest s.1).2)) (Inv:=fun k s=>Sz s.1 ∧ s.2.length ≤ k)
  (fun s hi h0=>zsl (by rw [zj3,h0];simp [zft]))
  (fun k x rest s hi hn hx hd h1 h2 h3 ih=>zsl (by
   obtain ⟨h4,h5⟩:=zkz (to_:=to_) (m:=zhQ fresh x) (why:=6) (job:=0) hi.1
   have h6:=hi.2
   rw [zj3,h1,h2,cond_true,Option.bind_some]
   rw [show (⟨10,0,0,fresh,0,⟨#[]⟩,⟨#[]⟩,⟨0,0⟩,[],x⟩:Msg)=zhQ fresh x from rfl,eta2 (zk4 hi.1),Option.bind_some]
   dsimp only
   rw [zaI eOut (by omega) (by omega),cond_true,h3]
   rw [ih ((askN s.1 to_ (zhQ fresh x) 6 0).1,s.2 ++ (askN s.1 to_ (zhQ fresh x) 6 0).2) ⟨h4,by simp only [List.length_append];omega⟩]
   simp only [zft,List.append_assoc])) (n,[]) ⟨h,by simp⟩
 rw [this]
 simp [hand])
def zdI (key val:ByteArray):List Peer → Node → Node × List Out
 | [],n=>(n,[])
 | p :: ps,n=>((zdI key val ps (hand n p [⟨key,val⟩] true).1).1,(hand n p [⟨key,val⟩] true).2 ++ (zdI key val ps (hand n p [⟨key,val⟩] true).1).2)
def zds (n:Node) (l:List Pair):Node:=⟨n.me,n.clock,n.joined,n.pred,n.list,n.fingers,l,n.pends,n.jobs,n.results,n.rid,n.jobID,n.nextBit⟩
def zdg (n:Node) (key val:ByteArray):Node × List Out × Int:=
 if (put n.store key val).2=0 then ((zdI key val ((Pe.firms n.list).take 2) (zds n (put n.store key val).1)).1,(zdI key val ((Pe.firms n.list).take 2) (zds n (put n.store key val).1)).2,0)
 else (n,[],(put n.store key val).2)
theorem zvo {n:Node} {p:Peer} {q:Pair} {fresh:Bool} (h:Sz n):Sz (hand n p [q] fresh).1 ∧ (hand n p [q] fresh).2.length ≤ 1:=by
 obtain ⟨h1,h2⟩:=zAb p fresh (cut8 [q]) h
 exact ⟨h1,Nat.le_trans h2 (by rw [zvk];simp)⟩
theorem zAf (key val:ByteArray):∀ (ps:List Peer) {n:Node},Sz n → Sz (zdI key val ps n).1 ∧ (zdI key val ps n).2.length ≤ ps.length
 | [],n,h=>⟨h,by simp [zdI]⟩
 | p :: ps,n,h=>by
  obtain ⟨h1,h2⟩:=zvo (p:=p) (q:=⟨key,val⟩) (fresh:=true) h
  obtain ⟨h3,h4⟩:=zAf key val ps h1
  refine ⟨h3,?_⟩
  simp only [zdI,List.length_append,List.length_cons]
  omega
theorem zA8 {n:Node} {l:List Pair} (h:Sz n) (hl:l.length ≤ 200):Sz (zds n l):=⟨h.pred,h.list,h.fingers,hl,h.pends,h.jobs,h.results⟩
theorem zAx {n:Node} (h:Sz n) (key val:ByteArray):Sz (zds n (put n.store key val).1):=zA8 h (by have:=zkI n.store key val;have:=h.store;omega)
theorem zfn (l:List Peer) (n:Nat) (h:n ≤ l.length):xsub zah l 0 (n:Int)=some (l.take n):=by
 rw [zjj,if_pos (by omega)];simp
theorem zyW {n:Node} {key val:ByteArray} (h:Sz n) (hk:key.size < 1000000):zrS n key val=some (zdg n key val):=zAV (by
 have hs:=h.store
 have hf:=Pe.firms_le n.list
 have hll:=h.list
 have hz:=zAx h key val
 rw [zn9,zeq h,Option.bind_some]
 dsimp only
 rw [zAZ (by omega) hk,zdg]
 obtain ⟨⟨q,e⟩,hq⟩:∃ z,put n.store key val=z:=⟨_,rfl⟩
 rw [hq] at hz ⊢
 rw [Option.bind_some]
 dsimp only at hz ⊢
 by_cases he:e=0
 ·rw [if_pos he,ieqT he,cond_true,(Pe.some_eq hll).1,Option.bind_some]
  have loop:∀ (ys:List Peer),ys.length ≤ 2 → zeL key val ys (xlen zah ys) 0 (zds n q) n.pred n.list n.fingers n.store n.pends n.jobs n.results (Pe.firms n.list) []=some ((zdI key val ys (zds n q)).1,n.pred,n.list,n.fingers,n.store,n.pends,n.jobs,n.results,Pe.firms n.list,(zdI key val ys (zds n q)).2):=fun ys hy=>by
   have:=zbb (σ:=Node × List Out) zah (l:=ys) (by omega) (L:=fun i s=>zeL key val ys (xlen zah ys) i s.1 n.pred n.list n.fingers n.store n.pends n.jobs n.results (Pe.firms n.list) s.2)
    (res:=fun k s rest=>((zdI key val rest s.1).1,n.pred,n.list,n.fingers,n.store,n.pends,n.jobs,n.results,Pe.firms n.list,s.2 ++ (zdI key val rest s.1).2)) (Inv:=fun k s=>Sz s.1 ∧ s.2.length ≤ k)
    (fun s hi h0=>zoZ (by rw [zhS,h0];simp [zdI]))
    (fun k x rest s hi hn hx hd h1 h2 h3 ih=>zoZ (by
     obtain ⟨h4,h5⟩:=zvo (p:=x) (q:=⟨key,val⟩) (fresh:=true) hi.1
     have h6:=hi.2
     rw [zhS,h1,h2,cond_true,Option.bind_some,eta2 (zyV hi.1 (by simp)),Option.bind_some]
     dsimp only
     rw [zaI eOut (by omega) (by omega),cond_true,h3]
     rw [ih ((hand s.1 x [⟨key,val⟩] true).1,s.2 ++ (hand s.1 x [⟨key,val⟩] true).2) ⟨h4,by simp only [List.length_append];omega⟩]
     simp only [zdI,List.append_assoc])) (zds n q,[]) ⟨hz,by simp⟩
   simpa using this
  have e0:(⟨⟨n.me.id,n.me.addr⟩,n.clock,n.joined,n.pred,n.list,n.fingers,q,n.pends,n.jobs,n.results,n.rid,n.jobID,n.nextBit⟩:Node)=zds n q:=rfl
  rw [e0,zaE,zau,zaf]
  by_cases h2:2 < (Pe.firms n.list).length
  ·rw [if_pos (by omega),show (2:Int)=((2:Nat):Int) from rfl,zfn _ 2 (by omega),Option.bind_some,loop _ (by rw [List.length_take];omega),Option.bind_some]
  ·rw [if_neg (by omega),zfn _ _ (Nat.le_refl _),Option.bind_some,List.take_length,loop _ (by omega),Option.bind_some,List.take_of_length_le (by omega)]
 ·rw [if_neg he,ieqF he,cond_false])
theorem zu3 {n:Node} {key val:ByteArray} (h:Sz n) (hk:key.size < 1000000):zvz n key val=some (zdg n key val):=zEv (by
 have hs:=h.store
 have hf:=Pe.firms_le n.list
 have hll:=h.list
 have hz:=zAx h key val
 rw [zrH,zEn (by omega) hk,zdg]
 obtain ⟨⟨q,e⟩,hq⟩:∃ z,put n.store key val=z:=⟨_,rfl⟩
 rw [hq] at hz ⊢
 rw [Option.bind_some]
 dsimp only at hz ⊢
 by_cases he:e=0
 ·rw [if_pos he,ieqT he,cond_true,(Pe.some_eq hll).2.1,Option.bind_some]
  have e0:(⟨n.me,n.clock,n.joined,n.pred,n.list,n.fingers,q,n.pends,n.jobs,n.results,n.rid,n.jobID,n.nextBit⟩:Node)=zds n q:=rfl
  rw [e0]
  have loop:∀ (ps:List Peer) (k:Nat) (m:Node) (o:List Out),Sz m → o.length ≤ k → k ≤ 2 → (Pe.firms n.list).drop k=ps → zmr key val (k:Int) m o (Pe.firms n.list)=some ((zdI key val (ps.take (2 - k)) m).1,o ++ (zdI key val (ps.take (2 - k)) m).2,Pe.firms n.list):=by
   intro ps
   induction ps with
   | nil=>
    intro k m o hm ho hk2 hd
    have hle:(Pe.firms n.list).length ≤ k:=by simpa using hd
    refine zsm ?_
    rw [zj4,zhE,zaf,if_neg (by omega)]
    simp [zdI]
   | cons p ps ih=>
    intro k m o hm ho hk2 hd
    have hlt:k < (Pe.firms n.list).length:=by
     rcases Nat.lt_or_ge k (Pe.firms n.list).length with h1 | h1
     ·exact h1
     ·rw [List.drop_eq_nil_of_le h1] at hd;cases hd
    have hx:(Pe.firms n.list)[k]?=some p:=by
     have:((Pe.firms n.list).drop k)[0]?=some p:=by rw [hd];rfl
     simpa using this
    have hd2:(Pe.firms n.list).drop (k + 1)=ps:=by
     rw [← List.drop_drop,hd];rfl
    refine zsm ?_
    rw [zj4,zhE,zaf,if_pos hlt,zau,zaf]
    by_cases hk3:k < 2
    ·rw [if_pos (by omega)]
     obtain ⟨h4,h5⟩:=zvo (p:=p) (q:=⟨key,val⟩) (fresh:=true) hm
     have hs0:zpE key val (k:Int) m o (Pe.firms n.list)=some (((k + 1:Nat):Int),(hand m p [⟨key,val⟩] true).1,o ++ (hand m p [⟨key,val⟩] true).2,Pe.firms n.list):=zyO (by
      rw [zm7,za6,hx,Option.bind_some,eta2 (zBU hm (by simp)),Option.bind_some]
      dsimp only
      rw [zaI eOut (by omega) (by omega),cond_true]
      rw [show Ops.std.iadd .i64 (k:Int) 1=((k + 1:Nat):Int) from zjP (by omega)])
     rw [hs0,Option.bind_some]
     dsimp only
     rw [ih (k + 1) _ _ h4 (by simp only [List.length_append];omega) (by omega) hd2,show 2 - k=(2 - (k + 1)) + 1 by omega]
     simp only [List.take_succ_cons,zdI,List.append_assoc]
    ·rw [if_neg (by omega),show 2 - k=0 by omega]
     simp [zdI]
  have:=loop (Pe.firms n.list) 0 (zds n q) [] hz (by simp) (by omega) rfl
  rw [show ((0:Nat):Int)=0 from rfl] at this
  rw [this,Option.bind_some]
  simp
 ·rw [if_neg he,ieqF he,cond_false])
theorem zxh {n:Node} {key val:ByteArray} (h:Sz n):Sz (zdg n key val).1 ∧ (zdg n key val).2.1.length ≤ 2:=by
 unfold zdg
 split
 ·obtain ⟨h1,h2⟩:=zAf key val ((Pe.firms n.list).take 2) (zAx h key val)
  exact ⟨h1,Nat.le_trans h2 (by rw [List.length_take];omega)⟩
 ·exact ⟨h,by simp⟩
theorem zvh (a:Bool):Ops.std.beq a a=true:=by cases a <;> rfl
theorem zyB {l:List Finger} (hl:l.length ≤ 1000):zvu l l=some true:=zEk (by
 have:=zbb (σ:=Unit) zae (l:=l) (by omega) (L:=fun i _=>zml l l i) (res:=fun _ _ _=>.inr ()) (Inv:=fun _ _=>True)
  (fun _ _ h=>zse (by rw [zjY,h];rfl))
  (fun n x rest s _ hn hx hd h1 h2 h3 ih=>zse (by
   simp only [zjY,h1,h2,cond_true,Option.bind_some,ieqT,h3];exact ih () trivial)) () trivial
 rw [zrx,ieqT rfl,cond_true,this];rfl)
theorem zxz {l:List Pend} (hl:l.length ≤ 1000):ztt l l=some true:=zBR (by
 have:=zbb (σ:=Unit) za4 (l:=l) (by omega) (L:=fun i _=>zk5 l l i) (res:=fun _ _ _=>.inr ()) (Inv:=fun _ _=>True)
  (fun _ _ h=>zqz (by rw [zi0,h];rfl))
  (fun n x rest s _ hn hx hd h1 h2 h3 ih=>zqz (by
   simp only [zi0,h1,h2,cond_true,Option.bind_some,ieqT,h3];exact ih () trivial)) () trivial
 rw [zpy,ieqT rfl,cond_true,this];rfl)
theorem zyH {n:Node} (hj:n.jobs.length ≤ 1000) (hr:n.results.length ≤ 1000):zvv n n=some true:=zEq (by
 have e0:=zbb (σ:=Unit) eJob (l:=n.jobs) (by omega) (L:=fun i _=>zmn n n i) (res:=fun _ _ _=>.inr ()) (Inv:=fun _ _=>True)
  (fun _ _ h=>zsh (by rw [zj0,h];rfl))
  (fun k x rest s _ hn hx hd h1 h2 h3 ih=>zsh (by
   simp only [zj0,h1,h2,cond_true,Option.bind_some,ieqT,zvG,zvh,h3];exact ih () trivial)) () trivial
 have e1:=zbb (σ:=Unit) zaq (l:=n.results) (by omega) (L:=fun i _=>zmo n n i) (res:=fun _ _ _=>.inr ()) (Inv:=fun _ _=>True)
  (fun _ _ h=>zsi (by rw [zj1,h];rfl))
  (fun k x rest s _ hn hx hd h1 h2 h3 ih=>zsi (by
   simp only [zj1,h1,h2,cond_true,Option.bind_some,ieqT,zvG,zvh,h3];exact ih () trivial)) () trivial
 rw [zrB,ieqT rfl,ieqT rfl,cond_true,cond_true]
 refine zyG ?_
 rw [zm1,e0,Option.bind_some]
 dsimp only
 rw [e1];rfl)
theorem zsg {n:Node} (h:Sz n):zir n n=some true:=zEp (by
 have h1:zpz n n=some true:=zyE (by
  rw [zmZ,ztg (by have:=h.store;omega),Option.bind_some,zh9,cond_true,zxz h.pends,Option.bind_some,cond_true,zyH h.jobs h.results])
 have h2:zpA n n=some true:=zyF (by
  rw [zm0,Pe.r27_Same_eq h.pred,Option.bind_some,zh9,cond_true,Pe.r27_Same_eq h.list,Option.bind_some,zh9,cond_true,zyB h.fingers,Option.bind_some,cond_true,h1])
 simp only [zrA,ieqT,zvh,cond_true,h2])
def zJp (l:List Out):Prop:=l.length ≤ 1000 ∧ ∀ o,o ∈ l → o.msg.peers.length ≤ 1000000 ∧ o.msg.pairs.length ≤ 1000000
theorem zyD {l:List Out} (h:zJp l):zkk l l=some true:=zEo (by
 have:=zbb (σ:=Unit) eOut (l:=l) (by have:=h.1;omega) (L:=fun i _=>zmm l l i) (res:=fun _ _ _=>.inr ()) (Inv:=fun _ _=>True)
  (fun _ _ h=>zsf (by rw [zjZ,h];rfl))
  (fun k x rest s _ hn hx hd h1 h2 h3 ih=>zsf (by
   obtain ⟨hp,hq⟩:=h.2 x (List.mem_of_getElem? hx)
   simp only [zjZ,h1,h2,cond_true,Option.bind_some,ieqT,zBI hp hq,zh9,h3];exact ih () trivial)) () trivial
 rw [zrz,ieqT rfl,cond_true,this];rfl)
end Go.Ab.Tryz
namespace Go.Ab.Tryz
open Go Go.Ab Go.Proofs Go.Lib
theorem zxV {α:Type} {p:α → Bool} {l:List α}:match fst p l with
  | some n=>∃ x,l[n]?=some x ∧ l.find? p=some x ∧ p x=true ∧ n < l.length
  | none=>l.find? p=none:=by
 induction l with
 | nil=>rfl
 | cons x l ih=>
  cases hp:p x with
  | true=>simp [fst,hp]
  | false=>
   simp only [fst,hp,cond_false,List.find?_cons]
   cases hf:fst p l with
   | none=>rw [hf] at ih;exact ih
   | some n=>
    rw [hf] at ih
    obtain ⟨y,h1,h2,h3,h4⟩:=ih
    exact ⟨y,by simpa using h1,h2,h3,by simp;omega⟩
def isJ (id:Int) (j:Job):Bool:=decide (j.id=id)
def zd7 (l:List Job) (id:Int):Int:=fstI (isJ id) l
theorem znN {l:List Job} {id:Int} (hl:l.length ≤ 10000):zmF l id=some (zd7 l id):=zBx (by
 have hf:∀ x:Job,zpd x id=some (isJ id x):=fun x=>zyq rfl
 have:=zcc eJob (l:=l) (by omega) (p:=isJ id) (L:=fun i=>zeQ l id i) (fun h=>zgH (by simp [zcM,h]))
  (fun n x _ h1 h2 hp=>zgH (by simp [zcM,h1,h2,hf,hp]))
  (fun n x r _ h1 h2 hp h=>zgH (by simp [zcM,h1,h2,hf,hp,h]))
 rw [zpe]
 refine zuQ ?_
 rw [zjo,this]
 unfold zd7 fstI
 cases fst (isJ id) l <;> rfl)
theorem zjD {l:List Job} {id:Int} (hl:l.length ≤ 10000):znZ l id=some (zd7 l id):=zEr (by
 have hf:∀ x:Job,Ops.std.ieq x.id id=isJ id x:=fun x=>rfl
 have:=zcc eJob (l:=l) (by omega) (p:=isJ id) (L:=fun i=>zmp l id i) (fun h=>zm2 (by simp [zhm,h]))
  (fun n x _ h1 h2 hp=>zm2 (by simp [zhm,h1,h2,hf,hp]))
  (fun n x r _ h1 h2 hp h=>zm2 (by simp [zhm,h1,h2,hf,hp,h]))
 rw [zrC,this]
 unfold zd7 fstI
 cases fst (isJ id) l <;> rfl)
def setJ:List Job → Job → List Job
 | [],_=>[]
 | x :: r,j=>if x.id=j.id then j :: r else x :: setJ r j
theorem zHS (l:List Job) (j:Job):(setJ l j).length=l.length:=by
 induction l with
 | nil=>rfl
 | cons x r ih=>unfold setJ;split <;> simp [ih]
theorem zHT {l:List Job} {j j':Job} (h:j.id=j'.id):setJ (setJ l j) j'=setJ l j':=by
 induction l with
 | nil=>rfl
 | cons x r ih=>
  by_cases hx:x.id=j.id
  ·simp [setJ,hx,h]
  ·simp [setJ,hx,ih,← h]
theorem zye {l:List Job} {j:Job} (h:fst (isJ j.id) l=none):setJ l j=l:=by
 have:=znM h
 clear h
 induction l with
 | nil=>rfl
 | cons x r ih=>
  have hx:¬ x.id=j.id:=by simpa [isJ] using this x (by simp)
  rw [setJ,if_neg hx,ih fun y hy=>this y (by simp [hy])]
theorem ztJ {l:List Job} {j:Job} {n:Nat} (h:fst (isJ j.id) l=some n):setJ l j=l.set n j:=by
 induction l generalizing n with
 | nil=>cases h
 | cons x r ih=>
  by_cases hx:x.id=j.id
  ·have:n=0:=by simpa [fst,isJ,hx] using h.symm
   subst this
   simp [setJ,hx]
  ·simp only [fst,isJ,hx,decide_false,cond_false,Option.map_eq_some_iff] at h
   obtain ⟨m,hm,rfl⟩:=h
   rw [setJ,if_neg hx,ih hm];rfl
theorem zGx {l:List Job} {j:Job} {n:Nat} (h:fst (isJ j.id) l=some n) (hj:l[n]?=some j):setJ l j=l:=by
 rw [ztJ h]
 obtain ⟨hn,he⟩:=List.getElem?_eq_some_iff.1 hj
 rw [← he,List.set_getElem_self]
def zvN (n:Node) (l:List Job):Node:=⟨n.me,n.clock,n.joined,n.pred,n.list,n.fingers,n.store,n.pends,l,n.results,n.rid,n.jobID,n.nextBit⟩
def setN (n:Node) (j:Job):Node:=zvN n (setJ n.jobs j)
theorem zvI (n:Node) {j j':Job} (h:j.id=j'.id):setN (setN n j) j'=setN n j':=by
 show zvN (setN n j) (setJ (setJ n.jobs j) j')=_
 rw [zHT h];rfl
theorem zei {n:Node} (h:Sz n) (j:Job):Sz (setN n j):=⟨h.pred,h.list,h.fingers,h.store,h.pends,by show (setJ n.jobs j).length ≤ 1000;rw [zHS];exact h.jobs,h.results⟩
theorem zHt {α:Type} (l:List α) (n:Nat) (x:α):xset l (n:Int) x=l.set n x:=rfl
theorem zuZ {n:Node} {j:Job} (h:Sz n):zq7 n j=some (n.me.id,n.me.addr,n.clock,n.joined,n.pred,n.list,n.fingers,n.store,n.pends,setJ n.jobs j,n.results,n.rid,n.jobID,n.nextBit):=zDU (by
 have hj:=h.jobs
 rw [zq9,zeq h,Option.bind_some]
 dsimp only
 rw [znN (by omega),Option.bind_some,zbH,zaf]
 unfold zd7 fstI
 cases hf:fst (isJ j.id) n.jobs with
 | none=>dsimp only;rw [if_neg (by omega),zye hf]
 | some k=>
  obtain ⟨x,hx,_,hk,_⟩:=zfq hf
  dsimp only
  rw [if_pos (by omega),za6,hx,Option.bind_some,zHt,ztJ hf])
def repl (j:Job):Int → List Job → List Job
 | _,[]=>[]
 | k,x :: r=>(if k=0 then j else x) :: repl j (k - 1) r
theorem zvC (j:Job):∀ (l:List Job) (k:Int),k < 0 → repl j k l=l
 | [],_,_=>rfl
 | x :: r,k,h=>by rw [repl,if_neg (by omega),zvC j r (k - 1) (by omega)]
theorem zAP (j:Job):∀ (l:List Job) (n:Nat),repl j (n:Int) l=l.set n j
 | [],_=>rfl
 | x :: r,0=>by rw [repl,if_pos (by omega),zvC j r _ (by omega)];rfl
 | x :: r,n + 1=>by rw [repl,if_neg (by omega),show ((n + 1:Nat):Int) - 1=(n:Int) by omega,zAP j r n];rfl
theorem zd8 {n:Node} {j:Job} (h:Sz n):zf7 n j=some (setN n j):=zGn (by
 have hj:=h.jobs
 have key:zi1 n j (zd7 n.jobs j.id) 0 []=some (repl j (zd7 n.jobs j.id) n.jobs):=by
  have:=zbb (σ:=List Job) eJob (l:=n.jobs) (by omega) (L:=fun i acc=>zi1 n j (zd7 n.jobs j.id) i acc) (res:=fun k acc rest=>acc ++ repl j (zd7 n.jobs j.id - (k:Int)) rest) (Inv:=fun k acc=>acc.length=k)
   (fun acc _ hh=>ztv (by rw [zk6,hh];simp [repl]))
   (fun k x rest acc ha hn hx hd h1 h2 h3 ih=>ztv (by
    rw [zk6,h1,cond_true,zam,zaf]
    have ih':=fun (y:Job)=>ih (acc ++ [y]) (by simp [ha])
    by_cases hk:(k:Int)=zd7 n.jobs j.id
    ·rw [if_pos hk,zaI eJob (by simp;omega) (by omega),cond_true,h3,ih',repl,if_pos (by omega)]
     simp only [List.append_assoc,List.singleton_append]
     rw [show zd7 n.jobs j.id - ((k + 1:Nat):Int)=zd7 n.jobs j.id - (k:Int) - 1 by omega]
    ·rw [if_neg hk,h2,Option.bind_some,zaI eJob (by simp;omega) (by omega),cond_true,h3,ih',repl,if_neg (by omega)]
     simp only [List.append_assoc,List.singleton_append]
     rw [show zd7 n.jobs j.id - ((k + 1:Nat):Int)=zd7 n.jobs j.id - (k:Int) - 1 by omega])) [] rfl
  simpa using this
 rw [ztu,zjD (by omega),Option.bind_some,key,Option.bind_some]
 have e:repl j (zd7 n.jobs j.id) n.jobs=setJ n.jobs j:=by
  unfold zd7 fstI
  cases hf:fst (isJ j.id) n.jobs with
  | none=>dsimp only;rw [zvC _ _ _ (by omega),zye hf]
  | some k=>dsimp only;rw [zAP,ztJ hf]
 rw [e];rfl)
def delJ:List Job → Int → List Job
 | [],_=>[]
 | x :: r,id=>if x.id=id then r else x :: delJ r id
theorem zG6 (l:List Job) (id:Int):(delJ l id).length ≤ l.length:=by
 induction l with
 | nil=>exact Nat.le_refl _
 | cons x r ih=>unfold delJ;split <;> simp <;> omega
theorem zxS {l:List Job} {id:Int} {n:Nat} (h:fst (isJ id) l=some n):delJ l id=l.eraseIdx n:=by
 induction l generalizing n with
 | nil=>cases h
 | cons x r ih=>
  by_cases hx:x.id=id
  ·have:n=0:=by simpa [fst,isJ,hx] using h.symm
   subst this
   simp [delJ,hx]
  ·simp only [fst,isJ,hx,decide_false,cond_false,Option.map_eq_some_iff] at h
   obtain ⟨m,hm,rfl⟩:=h
   rw [delJ,if_neg hx,ih hm];rfl
def zbC (x:Job) (has:Bool) (val:ByteArray) (e:Int):Result:=⟨x.id,x.kind,x.key,val,has,e⟩
def told (l:List Result) (x:Job) (has:Bool) (val:ByteArray) (e:Int):List Result:=
 if x.kind=2 ∨ x.kind=3 then (l ++ [zbC x has val e]).drop ((l ++ [zbC x has val e]).length - 16) else l
theorem zH1 (l:List Result) (x:Job) (has:Bool) (val:ByteArray) (e:Int) (h:l.length ≤ 1000):(told l x has val e).length ≤ 1000:=by
 unfold told
 split
 ·simp;omega
 ·exact h
def zaz (n:Node) (id:Int) (has:Bool) (val:ByteArray) (e:Int):Node:=match n.jobs.find? (isJ id) with
 | none=>n
 | some x=>⟨n.me,n.clock,n.joined,n.pred,n.list,n.fingers,n.store,n.pends,delJ n.jobs id,told n.results x has val e,n.rid,n.jobID,n.nextBit⟩
theorem zed {n:Node} (h:Sz n) (id:Int) (has:Bool) (val:ByteArray) (e:Int):Sz (zaz n id has val e):=by
 unfold zaz
 split
 ·exact h
 ·exact ⟨h.pred,h.list,h.fingers,h.store,h.pends,Nat.le_trans (zG6 _ _) h.jobs,zH1 _ _ _ _ _ h.results⟩
theorem zjx (l:List Job) (id:Int):(zd7 l id=-1 ∧ fst (isJ id) l=none ∧ l.find? (isJ id)=none) ∨ ∃ n x,zd7 l id=(n:Nat) ∧ fst (isJ id) l=some n ∧ l[n]?=some x ∧ n < l.length ∧ l.find? (isJ id)=some x ∧ x.id=id:=by
 have h:=zxV (p:=isJ id) (l:=l)
 unfold zd7 fstI
 cases hf:fst (isJ id) l with
 | none=>rw [hf] at h;exact .inl ⟨rfl,rfl,h⟩
 | some n=>
  rw [hf] at h
  obtain ⟨x,h1,h2,h3,h4⟩:=h
  exact .inr ⟨n,x,rfl,rfl,h1,h4,h2,of_decide_eq_true h3⟩
theorem zkH {α:Type} (e:α → AV) [Inj e] (l:List α) (n:Nat) (h:n ≤ l.length):xsub e l 0 (n:Int)=some (l.take n):=by
 rw [zjj,if_pos (by omega)];simp
theorem zeV {α:Type} (e:α → AV) [Inj e] (l:List α) (n:Nat) (h:n ≤ l.length):xsub e l (n:Int) (xlen e l)=some (l.drop n):=by
 rw [zjj,zaE,if_pos (by omega)];simp
theorem zyk {l:List Job} {n:Nat} (hl:l.length ≤ 1000) (hn:n < l.length):zqJ (n:Int) ((n + 1:Nat):Int) l=some (l.eraseIdx n):=zzz (by
 have h1:xsub eJob l (n:Int) ((n + 1:Nat):Int)=some ((l.take (n + 1)).drop n):=by rw [zjj,if_pos (by omega)];simp only [Int.toNat_natCast]
 have h2:=zeV eJob l (n + 1) (by omega)
 have h3:Ops.std.ieq (n:Int) ((n + 1:Nat):Int)=false:=ieqF (by omega)
 have h4:=zkH eJob l n (by omega)
 have h5:Ops.std.isub .i64 (xlen eJob l) (n:Int)=((l.length - n:Nat):Int):=by rw [zaE,zzw (by omega) (by omega)];omega
 have h6:Ops.std.ile (xlen eJob (l.drop (n + 1))) ((l.length - n:Nat):Int)=true:=ileT (by rw [zaE,List.length_drop];omega)
 have h7:Ops.std.iadd .i64 (n:Int) (xlen eJob (l.drop (n + 1)))=((l.length - 1:Nat):Int):=by rw [zaE,List.length_drop,zq5 (by omega) (by omega)];omega
 have hput:xput l (n:Int) (l.drop (n + 1))=l.eraseIdx n ++ l.drop (l.length - 1):=by
  unfold xput
  rw [Int.toNat_natCast,List.length_drop,List.eraseIdx_eq_take_drop_succ]
  congr 2;omega
 have hle:(l.eraseIdx n).length=l.length - 1:=by rw [List.length_eraseIdx];simp [hn]
 have h8:xsub eJob (l.eraseIdx n ++ l.drop (l.length - 1)) 0 ((l.length - 1:Nat):Int)=some (l.eraseIdx n):=by
  rw [zkH eJob _ _ (by simp [hle]),← hle,List.take_left]
 have h9:xsub eJob (l.eraseIdx n ++ l.drop (l.length - 1)) (xlen eJob (l.eraseIdx n)) (xlen eJob l)=some (l.drop (l.length - 1)):=by
  have e:xlen eJob l=xlen eJob (l.eraseIdx n ++ l.drop (l.length - 1)):=by rw [zaE,zaE,List.length_append,hle,List.length_drop];omega
  rw [e,zaE,zeV eJob _ _ (by simp),List.drop_left]
 have h10:∀ z:Job,xfil (l.eraseIdx n ++ l.drop (l.length - 1)) (xlen eJob (l.eraseIdx n)) (xlen eJob l) z=l.eraseIdx n ++ List.replicate 1 z:=fun z=>by
  unfold xfil
  rw [zaE,zaE,Int.toNat_natCast,Int.toNat_natCast,List.take_left,hle,show l.length - (l.length - 1)=1 by omega,List.append_assoc,List.drop_eq_nil_of_le (by simp [hle] <;> omega),List.append_nil]
 have h11:∀ z:Job,xsub eJob (l.eraseIdx n ++ List.replicate 1 z) 0 ((l.length - 1:Nat):Int)=some (l.eraseIdx n):=fun z=>by
  rw [zkH eJob _ _ (by simp [hle]),← hle,List.take_left]
 have hz:Ops.std.ieq 0 0=true:=rfl
 simp only [znx,h1,h2,h3,h4,h5,h6,h7,hput,h8,h9,h10,h11,hz,Option.bind_some,cond_true,cond_false])
theorem zww {j:Job} {has:Bool} {val:ByteArray} {e a b c:Int} {d:Bool} {f g k:Int} {r1 r2:List Entry} {r3:List Finger} {r4:List Pair} {r5:List Pend} {r6:List Job} {r7:List Result} (h:r7.length ≤ 1000):
  zkP j has val e a b c d f g k r1 r2 r3 r4 r5 r6 r7=some ((r7 ++ [zbC j has val e]).drop ((r7 ++ [zbC j has val e]).length - 16)):=zxg (by
 have hlen:(r7 ++ [zbC j has val e]).length=r7.length + 1:=by simp
 have hs:Ops.std.isub .i64 (xlen zaq (r7 ++ [zbC j has val e])) 16=((r7.length:Int) + 1) - 16:=by rw [zaE,hlen,zzw (by omega) (by omega)];omega
 show (bif zaK zaq 64 r7 [zbC j has val e] then bif Ops.std.ilt 0 (Ops.std.isub .i64 (xlen zaq (r7 ++ [zbC j has val e])) 16) then (xsub zaq (r7 ++ [zbC j has val e]) (Ops.std.isub .i64 (xlen zaq (r7 ++ [zbC j has val e])) 16) (xlen zaq (r7 ++ [zbC j has val e]))).bind fun ys=>bif zaK zaq 64 [] ys then some ys else none
  else (xsub zaq (r7 ++ [zbC j has val e]) 0 (xlen zaq (r7 ++ [zbC j has val e]))).bind fun ys=>bif zaK zaq 64 [] ys then some ys else none else none)=_
 rw [zaI zaq (by simp;omega) (by omega),cond_true,hs,zau,zaf]
 by_cases hc:15 < r7.length
 ·have e2:((r7.length:Int) + 1) - 16=((r7.length - 15:Nat):Int):=by omega
  rw [if_pos (by omega),e2,zeV zaq _ _ (by rw [hlen];omega),Option.bind_some,zaI zaq (by rw [List.length_nil,List.length_drop,hlen];omega) (by omega),cond_true,hlen]
  congr 2
 ·rw [if_neg (by omega),show (0:Int)=((0:Nat):Int) from rfl,zeV zaq _ 0 (by omega),Option.bind_some,List.drop_zero,zaI zaq (by rw [List.length_nil,hlen];omega) (by omega),cond_true,hlen,show r7.length + 1 - 16=0 by omega,List.drop_zero])
theorem zlH {n:Node} {id:Int} {has:Bool} {val:ByteArray} {e:Int} (h:Sz n):zjy n id has val e=some (zaz n id has val e):=zyr (by
 have hj:=h.jobs
 rw [zmP,zeq h,Option.bind_some]
 dsimp only
 rw [znN (by omega),Option.bind_some,zau,zaf]
 unfold zaz
 rcases zjx n.jobs id with ⟨h1,h2,h3⟩ | ⟨k,x,h1,h2,h3,h4,h5,h6⟩
 ·rw [h1,if_pos (by omega),h3]
 ·rw [h1,if_neg (by omega),h5,za6,h3,Option.bind_some,zjP (by omega),zyk (by omega) h4,Option.bind_some,zxS h2]
  have e1:zsY x has val e n.me.id n.me.addr n.clock n.joined n.rid n.jobID n.nextBit n.pred n.list n.fingers n.store n.pends (n.jobs.eraseIdx k) n.results=some (if x.kind=2 ∨ x.kind=3 then .inl (n.results ++ [zbC x has val e],told n.results x has val e) else .inr ()):=zBy (by
   rw [zpf,zww h.results,Option.bind_some,zam,zam,zaf,zaf]
   unfold told
   by_cases c2:x.kind=2
   ·rw [if_pos c2,if_pos (.inl c2),if_pos (.inl c2)];rfl
   ·by_cases c3:x.kind=3
    ·rw [if_neg c2,if_pos c3,if_pos (.inr c3),if_pos (.inr c3)];rfl
    ·rw [if_neg c2,if_neg c3,if_neg (by omega)])
  rw [e1,Option.bind_some]
  by_cases c:x.kind=2 ∨ x.kind=3
  ·rw [if_pos c]
  ·rw [if_neg c]
   dsimp only
   rw [told,if_neg c])
theorem zxA {l:List Job} {n:Nat} (hl:l.length ≤ 1000) (hn:n < l.length):zpC l (n:Int)=some (l.eraseIdx n):=zyL (by
 have:=zbb (σ:=List Job) eJob (l:=l) (by omega) (L:=fun i acc=>zf8 l (n:Int) i acc) (res:=fun k acc rest=>acc ++ (if k ≤ n then rest.eraseIdx (n - k) else rest)) (Inv:=fun k acc=>acc.length ≤ k)
  (fun acc _ hh=>zn1 (by rw [zgO,hh];simp))
  (fun k x rest acc ha hk hx hd h1 h2 h3 ih=>zn1 (by
   rw [zgO,h1,cond_true,zam,zaf]
   by_cases hc:k=n
   ·rw [if_pos (by omega),h3,ih acc (by omega),if_neg (by omega),if_pos (by omega),hc,Nat.sub_self];rfl
   ·rw [if_neg (by omega),h2,Option.bind_some,zaI eJob (by simp;omega) (by omega),cond_true,h3,ih (acc ++ [x]) (by simp;omega)]
    by_cases hlt:k ≤ n
    ·rw [if_pos (by omega),if_pos hlt,show n - k=(n - (k + 1)) + 1 by omega,List.eraseIdx_cons_succ];simp
    ·rw [if_neg (by omega),if_neg hlt];simp)) [] (by simp)
 rw [zm3,this]
 simp)
theorem zBS {l:List Result} {x:Job} {has:Bool} {val:ByteArray} {e:Int} (hl:l.length ≤ 1000):zvw l x has val e=some (told l x has val e):=zEs (by
 have hlen:(l ++ [zbC x has val e]).length=l.length + 1:=by simp
 have sub:∀ k:Nat,k ≤ l.length + 1 → xsub zaq (l ++ [zbC x has val e]) (k:Int) ((l.length + 1:Nat):Int)=some ((l ++ [zbC x has val e]).drop k):=fun k hk=>by
  have:=zeV zaq (l ++ [zbC x has val e]) k (by rw [hlen];exact hk)
  rwa [zaE,hlen] at this
 have lenD:∀ k:Nat,xlen zaq ((l ++ [zbC x has val e]).drop k)=((l.length + 1 - k:Nat):Int):=fun k=>by rw [zaE,List.length_drop,hlen]
 have loop:∀ d k:Nat,k + d=l.length + 1 - 16 → 1 ≤ k → 16 < l.length + 1 → zeJ l x has val e (k:Int) ((l.length + 1:Nat):Int)=some (.inr (((l.length + 1 - 16:Nat):Int),((l.length + 1:Nat):Int))):=by
  intro d
  induction d with
  | zero=>
   intro k hk h1 h16
   refine zoV ?_
   show ((xsub zaq (l ++ [zbC x has val e]) (k:Int) ((l.length + 1:Nat):Int)).bind _)=_
   rw [sub k (by omega),Option.bind_some,lenD,zau,zaf,if_neg (by omega),show k=l.length + 1 - 16 by omega]
  | succ d ih=>
   intro k hk h1 h16
   refine zoV ?_
   show ((xsub zaq (l ++ [zbC x has val e]) (k:Int) ((l.length + 1:Nat):Int)).bind _)=_
   have s1:xsub zaq ((l ++ [zbC x has val e]).drop k) 1 ((l.length + 1 - k:Nat):Int)=some (((l ++ [zbC x has val e]).drop k).drop 1):=by
    have:=zeV zaq ((l ++ [zbC x has val e]).drop k) 1 (by rw [List.length_drop,hlen];omega)
    rwa [lenD] at this
   rw [sub k (by omega),Option.bind_some,lenD,zau,zaf,if_pos (by omega),ieqF (show (k:Int) ≠ 0 by omega),cond_false,s1,Option.bind_some,zjP (by omega),zq5 (by omega) (by omega),show (k:Int) + ((l.length + 1 - k:Nat):Int)=((l.length + 1:Nat):Int) by omega]
   exact ih (k + 1) (by omega) (by omega) h16
 have s0:zjE l x has val e=some (if 16 < l.length + 1 then .inr (((l.length + 1 - 16:Nat):Int),((l.length + 1:Nat):Int)) else .inl ()):=zyK (by
  show (bif zaK zaq 64 [] l then bif zaK zaq 64 l [zbC x has val e] then zpB l x has val e else none else none)=_
  rw [zaI zaq (by simp;omega) (by omega),zaI zaq (by simp;omega) (by omega),cond_true,cond_true]
  refine zyJ ?_
  show (bif Ops.std.ilt 16 (xlen zaq (l ++ [zbC x has val e])) then (xsub zaq (l ++ [zbC x has val e]) 1 (xlen zaq (l ++ [zbC x has val e]))).bind fun ys=>zeJ l x has val e 1 (xlen zaq (l ++ [zbC x has val e])) else some (.inl ()))=_
  rw [zaE,hlen,zau,zaf]
  by_cases hc:16 < l.length + 1
  ·have:=sub 1 (by omega)
   rw [if_pos (by omega),if_pos hc,show (1:Int)=((1:Nat):Int) from rfl,this,Option.bind_some]
   exact loop (l.length + 1 - 16 - 1) 1 (by omega) (by omega) hc
  ·rw [if_neg (by omega),if_neg hc])
 have fin:(zjE l x has val e).bind (fun r=>match r with | .inl ()=>some (l ++ [zbC x has val e]) | .inr (lo,hi)=>(xsub zaq (l ++ [zbC x has val e]) lo hi).bind fun ys=>some ys)=some ((l ++ [zbC x has val e]).drop ((l ++ [zbC x has val e]).length - 16)):=by
  rw [s0,Option.bind_some,hlen]
  by_cases hc:16 < l.length + 1
  ·rw [if_pos hc];dsimp only;rw [sub _ (by omega)];rfl
  ·rw [if_neg hc,show l.length + 1 - 16=0 by omega];rfl
 unfold told
 rw [zrE,zam,zam,zaf,zaf]
 by_cases c2:x.kind=2
 ·rw [if_pos c2,if_pos (.inl c2)];exact fin
 ·by_cases c3:x.kind=3
  ·rw [if_neg c2,if_pos c3,if_pos (.inr c3)];exact fin
  ·rw [if_neg c2,if_neg c3,if_neg (by omega)])
theorem zyI {n:Node} {id:Int} {has:Bool} {val:ByteArray} {e:Int} (h:Sz n):zrD n id has val e=some (zaz n id has val e):=zAH (by
 have hj:=h.jobs
 rw [zn0,zjD (by omega),Option.bind_some,zau,zaf]
 unfold zaz
 rcases zjx n.jobs id with ⟨h1,h2,h3⟩ | ⟨k,x,h1,h2,h3,h4,h5,h6⟩
 ·rw [h1,if_pos (by omega),h3]
 ·rw [h1,if_neg (by omega),h5,za6,h3,Option.bind_some,zBS h.results,Option.bind_some,zxA (by omega) h4,Option.bind_some,zxS h2])
end Go.Ab.Tryz
namespace Go.Ab.Tryz
open Go Go.Ab Go.Proofs Go.Lib
def isB (bit:Int) (f:Finger):Bool:=decide (f.bit=bit)
def gtB (bit:Int) (f:Finger):Bool:=decide (bit < f.bit)
def updF (bit:Int) (p:Peer):List Finger → List Finger
 | []=>[]
 | x :: r=>if x.bit=bit then ⟨x.bit,p⟩ :: r else x :: updF bit p r
def insF (bit:Int) (p:Peer):List Finger → List Finger
 | []=>[⟨bit,p⟩]
 | x :: r=>if bit < x.bit then ⟨bit,p⟩ :: x :: r else x :: insF bit p r
def setF (l:List Finger) (bit:Int) (p:Peer):List Finger:=if bit < 0 ∨ 63 < bit then l else if l.any (isB bit)=true then updF bit p l else insF bit p l
theorem zH2 (bit:Int) (p:Peer) (l:List Finger):(updF bit p l).length=l.length:=by
 induction l with
 | nil=>rfl
 | cons x r ih=>unfold updF;split <;> simp [ih]
theorem zAd (bit:Int) (p:Peer) (l:List Finger):(insF bit p l).length=l.length + 1:=by
 induction l with
 | nil=>rfl
 | cons x r ih=>unfold insF;split <;> simp [ih]
theorem zvH (l:List Finger) (bit:Int) (p:Peer):(setF l bit p).length ≤ l.length + 1:=by
 unfold setF
 split
 ·omega
 ·split
  ·rw [zH2];omega
  ·rw [zAd];omega
theorem zGG {bit:Int} {p:Peer} {l:List Finger} {n:Nat} {x:Finger} (h:fst (isB bit) l=some n) (hx:l[n]?=some x):updF bit p l=l.set n ⟨x.bit,p⟩:=by
 induction l generalizing n with
 | nil=>cases h
 | cons y r ih=>
  by_cases hy:y.bit=bit
  ·have:n=0:=by simpa [fst,isB,hy] using h.symm
   subst this
   obtain rfl:y=x:=by simpa using hx
   simp [updF,hy]
  ·simp only [fst,isB,hy,decide_false,cond_false,Option.map_eq_some_iff] at h
   obtain ⟨m,hm,rfl⟩:=h
   rw [updF,if_neg hy,ih hm (by simpa using hx)];rfl
theorem zDT (bit:Int) (p:Peer) (l:List Finger):insF bit p l=match fst (gtB bit) l with | some n=>l.take n ++ ([⟨bit,p⟩] ++ l.drop n) | none=>l ++ [⟨bit,p⟩]:=by
 induction l with
 | nil=>rfl
 | cons x r ih=>
  by_cases hx:bit < x.bit
  ·simp [insF,fst,gtB,hx]
  ·simp only [insF,fst,gtB,if_neg hx,decide_eq_false hx,cond_false,ih]
   show _=match (fst (gtB bit) r).map (· + 1) with | some n=>_ | none=>_
   cases fst (gtB bit) r with
   | none=>rfl
   | some n=>simp
theorem zyl {l:List Finger} {bit:Int} (hl:l.length ≤ 2000):zhV l bit=some (fstI (isB bit) l):=zqK (by
 have hf:∀ x:Finger,zo9 x bit=some (isB bit x):=fun x=>zyo rfl
 have:=zcc zae (l:=l) (by omega) (p:=isB bit) (L:=fun i=>zdG l bit i) (fun h=>zeF (by simp [zb6,h]))
  (fun n x _ h1 h2 hp=>zeF (by simp [zb6,h1,h2,hf,hp]))
  (fun n x r _ h1 h2 hp h=>zeF (by simp [zb6,h1,h2,hf,hp,h]))
 rw [zgF,this]
 unfold fstI
 cases fst (isB bit) l <;> rfl)
theorem zym {l:List Finger} {bit:Int} (hl:l.length ≤ 2000):zhW l bit=some (fstI (gtB bit) l):=zqL (by
 have hf:∀ x:Finger,zpa x bit=some (gtB bit x):=fun x=>zyp rfl
 have:=zcc zae (l:=l) (by omega) (p:=gtB bit) (L:=fun i=>zdH l bit i) (fun h=>zeG (by simp [zb8,h]))
  (fun n x _ h1 h2 hp=>zeG (by simp [zb8,h1,h2,hf,hp]))
  (fun n x r _ h1 h2 hp h=>zeG (by simp [zb8,h1,h2,hf,hp,h]))
 rw [zgG,this]
 unfold fstI
 cases fst (gtB bit) l <;> rfl)
theorem zz6 {l:List Finger} {bit:Int} {p:Peer} (hl:l.length ≤ 1000):zsQ l bit p=some (setF l bit p):=zBt (by
 rw [zpb,zaI zae (by simp;omega) (by omega),cond_true,zau,zaf,zau,zaf]
 unfold setF
 by_cases h1:bit < 0
 ·rw [if_pos h1,if_pos (.inl h1)]
 by_cases h2:63 < bit
 ·rw [if_neg h1,if_pos h2,if_pos (.inr h2)]
 rw [if_neg h1,if_neg h2,if_neg (by omega)]
 refine zxc ?_
 have hroom:zaK zae 24 l [(⟨bit,p⟩:Finger)]=true:=zaI zae (by simp;omega) (by omega)
 rw [zlF,zyl (by omega),Option.bind_some,zym (by omega),Option.bind_some,hroom,cond_true,cond_true,zbH,zaf,zau,zaf]
 cases hf:fst (isB bit) l with
 | some n=>
  obtain ⟨x,hx,_,_⟩:=zfq hf
  have e1:fstI (isB bit) l=(n:Int):=by unfold fstI;rw [hf]
  have ha:l.any (isB bit)=true:=by rw [← zDe,e1];simp
  rw [e1,if_pos (by omega),if_pos ha,za6,hx,Option.bind_some,zGG hf hx];rfl
 | none=>
  have e1:fstI (isB bit) l=-1:=by unfold fstI;rw [hf]
  have ha:¬ l.any (isB bit)=true:=by rw [← zDe,e1];simp
  rw [e1,if_neg (by omega),if_neg ha,zDT]
  cases hg:fst (gtB bit) l with
  | none=>
   have e3:fstI (gtB bit) l=-1:=by unfold fstI;rw [hg]
   have h0:xsub zae l 0 (xlen zae l)=some l:=by rw [zaE,zkH zae l l.length (Nat.le_refl _),List.take_length]
   have h1:xsub zae l (xlen zae l) (xlen zae l)=some []:=by
    have:=zeV zae l l.length (Nat.le_refl _)
    rw [zaE] at this ⊢
    rw [this,List.drop_length]
   rw [e3,if_pos (by omega),h0,Option.bind_some,h1,Option.bind_some];simp
  | some n=>
   obtain ⟨_,_,_,hn,_⟩:=zfq hg
   have e3:fstI (gtB bit) l=(n:Int):=by unfold fstI;rw [hg]
   rw [e3,if_neg (by omega),zkH zae l n (by omega),Option.bind_some,zeV zae l n (by omega),Option.bind_some])
theorem zEi {l:List Finger} {bit:Int} (hl:l.length ≤ 1000):∃ q,zxu l bit=some (q,l.any (isB bit)):=by
 have:∃ z,ze0 l bit 0=some z ∧ (z.isLeft=l.any (isB bit)):=by
  have key:=zbb (σ:=Unit) zae (l:=l) (by omega) (L:=fun i _=>(ze0 l bit i).map (·.isLeft)) (res:=fun _ _ rest=>rest.any (isB bit)) (Inv:=fun _ _=>True)
   (fun _ _ h=>by
    have e:ze0 l bit (l.length:Int)=some (.inr ()):=znV (by rw [zil,h];rfl)
    rw [e];rfl)
   (fun n x rest s _ hn hx hd h1 h2 h3 ih=>by
    cases hp:isB bit x with
    | true=>
     have e:ze0 l bit (n:Int)=some (.inl (x.peer.id,x.peer.addr)):=znV (by
      have hp':Ops.std.ieq x.bit bit=true:=hp
      rw [zil,h1,h2,cond_true,Option.bind_some,hp'];rfl)
     rw [e,List.any_cons,hp];rfl
    | false=>
     have h4:=ih () trivial
     obtain ⟨z,hz,hz2⟩:=Option.map_eq_some_iff.1 h4
     have e:ze0 l bit (n:Int)=some z:=znV (by
      have hp':Ops.std.ieq x.bit bit=false:=hp
      rw [zil,h1,h2,cond_true,Option.bind_some,hp',cond_false,h3,hz])
     rw [e,List.any_cons,hp,Bool.false_or,← hz2];rfl) () trivial
  exact Option.map_eq_some_iff.1 key
 obtain ⟨z,h1,h2⟩:=this
 rcases z with ⟨a,b⟩ | u
 ·exact ⟨⟨a,b⟩,zx8 (by rw [zoQ,h1,← h2];rfl)⟩
 ·exact ⟨⟨0,0⟩,zx8 (by rw [zoQ,h1,← h2];rfl)⟩
def insG (bit:Int) (p:Peer):List Finger → List Finger
 | []=>[]
 | x :: r=>if bit < x.bit then ⟨bit,p⟩ :: x :: r else x :: insG bit p r
theorem zHl {bit:Int} {p:Peer} {l:List Finger}:(if l.any (gtB bit)=true then insG bit p l else insG bit p l ++ [⟨bit,p⟩])=insF bit p l:=by
 induction l with
 | nil=>rfl
 | cons x r ih=>
  by_cases hx:bit < x.bit
  ·simp [insG,insF,gtB,hx]
  ·have hx':gtB bit x=false:=decide_eq_false hx
   rw [List.any_cons,hx',Bool.false_or,insG,insF,if_neg hx,if_neg hx,← ih]
   by_cases ha:r.any (gtB bit)=true
   ·rw [if_pos ha,if_pos ha]
   ·rw [if_neg ha,if_neg ha];rfl
theorem zoR {l:List Finger} {bit i a b c d e:Int} {p:Peer} {there put_:Bool} {r3:List Finger} (hr:r3.length ≤ 5000):ziY l bit p there put_ i a b r3 c d e =
  some (there,(if there=true then put_ else put_ || decide (bit < c)),i,a,b,(if there=true ∨ put_=true then r3 ++ [⟨c,⟨d,e⟩⟩] else if bit < c then (r3 ++ [⟨bit,p⟩]) ++ [⟨c,⟨d,e⟩⟩] else r3 ++ [⟨c,⟨d,e⟩⟩]),c,d,e):=zAD (by
 have hroom:∀ (k:Nat) (r:List Finger) (x:Finger),r.length ≤ 5000 + k → k ≤ 1 → zaK zae 24 r [x]=true:=fun k r x h1 h2=>zaI zae (by simp;omega) (by omega)
 rw [znX,hroom 0 _ _ (by omega) (by omega),hroom 0 _ _ (by omega) (by omega),hroom 1 _ _ (by simp;omega) (by omega),zau,zaf]
 cases there
 ·cases put_
  ·by_cases hc:bit < c
   ·simp [hc]
   ·simp [hc]
  ·simp
 ·simp)
theorem zAF {l:List Finger} {bit a b:Int} {p:Peer} (hl:l.length ≤ 1000):zco l bit p true false 0 a b []=some (l.any (isB bit),a,b,updF bit p l):=by
 have:=zbb (σ:=Bool × List Finger) zae (l:=l) (by omega) (L:=fun i s=>zco l bit p true s.1 i a b s.2) (res:=fun _ s rest=>(s.1 || rest.any (isB bit),a,b,s.2 ++ (if s.1=true then rest else updF bit p rest))) (Inv:=fun n s=>s.2.length ≤ n)
  (fun s _ h=>zkZ (by rw [zf2,h];rcases s with ⟨s1,s2⟩;cases s1 <;> simp [updF]))
  (fun n x rest s hs hn hx hd h1 h2 h3 ih=>zkZ (by
   rcases s with ⟨s1,s2⟩
   have hs':s2.length ≤ n:=hs
   have ih':∀ (c:Bool) (y:Finger),zco l bit p true c ((n + 1:Nat):Int) a b (s2 ++ [y])=some (c || rest.any (isB bit),a,b,(s2 ++ [y]) ++ (if c=true then rest else updF bit p rest)):=fun c y=>ih (c,s2 ++ [y]) (by show (s2 ++ [y]).length ≤ n + 1;simp;omega)
   dsimp only
   rw [zf2,h1,h2,cond_true,Option.bind_some,cond_true,zoR (by omega),zoR (by omega),zoR (by omega)]
   simp only [Option.bind_some,h3,ih',if_true,true_or]
   cases s1 with
   | true=>simp
   | false=>
    rw [cond_false,zam,zaf]
    by_cases hc:x.bit=bit
    ·simp [hc,updF,isB]
    ·simp [hc,updF,isB])) (false,[]) (by simp)
 simpa using this
theorem zEm {l:List Finger} {bit a b:Int} {p:Peer} (hl:l.length ≤ 1000):zco l bit p false false 0 a b []=some (l.any (gtB bit),a,b,insG bit p l):=by
 have:=zbb (σ:=Bool × List Finger) zae (l:=l) (by omega) (L:=fun i s=>zco l bit p false s.1 i a b s.2) (res:=fun _ s rest=>(s.1 || rest.any (gtB bit),a,b,s.2 ++ (if s.1=true then rest else insG bit p rest))) (Inv:=fun n s=>s.2.length ≤ 2 * n)
  (fun s _ h=>zkZ (by rw [zf2,h];rcases s with ⟨s1,s2⟩;cases s1 <;> simp [insG]))
  (fun n x rest s hs hn hx hd h1 h2 h3 ih=>zkZ (by
   rcases s with ⟨s1,s2⟩
   have hs':s2.length ≤ 2 * n:=hs
   have ih':∀ (c:Bool) (y:List Finger),y.length ≤ 2 → zco l bit p false c ((n + 1:Nat):Int) a b (s2 ++ y)=some (c || rest.any (gtB bit),a,b,(s2 ++ y) ++ (if c=true then rest else insG bit p rest)):=fun c y hy=>ih (c,s2 ++ y) (by show (s2 ++ y).length ≤ 2 * (n + 1);simp;omega)
   dsimp only
   rw [zf2,h1,h2,cond_true,Option.bind_some,cond_false,zoR (by omega)]
   cases s1 with
   | true=>
    have:=ih' true [x] (by simp)
    simp [h3] at this ⊢
    exact this
   | false=>
    by_cases hc:bit < x.bit
    ·have:=ih' true [⟨bit,p⟩,x] (by simp)
     simp [h3,hc,gtB,insG] at this ⊢
     exact this
    ·have:=ih' false [x] (by simp)
     simp [h3,hc,gtB,insG] at this ⊢
     exact this)) (false,[]) (by simp)
 simpa using this
theorem zEl {l:List Finger} {bit:Int} {p:Peer} (hl:l.length ≤ 1000):zxv l bit p=some (setF l bit p):=zGh (by
 rw [ztn,zau,zaf,zau,zaf]
 unfold setF
 by_cases h1:bit < 0
 ·rw [if_pos h1,if_pos (.inl h1)]
 by_cases h2:63 < bit
 ·rw [if_neg h1,if_pos h2,if_pos (.inr h2)]
 rw [if_neg h1,if_neg h2,if_neg (by omega)]
 obtain ⟨q,hq⟩:=zEi (l:=l) (bit:=bit) hl
 have e:zry l bit p=some (q.id,q.addr,if l.any (isB bit)=true then updF bit p l else insF bit p l):=zAE (by
  rw [znY,hq,Option.bind_some]
  dsimp only
  cases ha:l.any (isB bit) with
  | true=>
   rw [zAF hl,Option.bind_some,ha];rfl
  | false=>
   have hins:=zHl (bit:=bit) (p:=p) (l:=l)
   rw [zEm hl,Option.bind_some]
   have hgl:(insG bit p l).length ≤ 2000:=by
    have e1:=zAd bit p l
    rw [← hins] at e1
    split at e1
    ·omega
    ·simp at e1;omega
   cases hb:l.any (gtB bit) with
   | true=>rw [hb,if_pos rfl] at hins;rw [hins];rfl
   | false=>
    rw [hb,if_neg (by simp)] at hins
    simp only [cond_false,zaI zae (b:=24) (l:=insG bit p l) (l':=[⟨bit,p⟩]) (by simp;omega) (by omega),cond_true,hins]
    rfl)
 rw [e];rfl)
def drpF (bit:Int) (l:List Finger):List Finger:=l.filter fun f=>!isB bit f
theorem zsN {bit:Int} {x:Finger} {l:List Finger}:drpF bit (x :: l)=bif isB bit x then drpF bit l else x :: drpF bit l:=by
 unfold drpF
 cases h:isB bit x <;> simp [h]
theorem zxT {bit:Int} {l:List Finger} (h:∀ x,x ∈ l → isB bit x=false):drpF bit l=l:=by
 unfold drpF
 rw [List.filter_eq_self]
 intro x hx;simp [h x hx]
theorem zw8 (bit:Int) (l:List Finger):(drpF bit l).length ≤ l.length:=List.length_filter_le _ _
theorem zG7 (bit:Int) (a b:List Finger):drpF bit (a ++ b)=drpF bit a ++ drpF bit b:=List.filter_append ..
def zeE (n:Node) (l:List Finger):Node:=⟨n.me,n.clock,n.joined,n.pred,n.list,l,n.store,n.pends,n.jobs,n.results,n.rid,n.jobID,n.nextBit⟩
theorem zzU (N:Node) (j:Job) (o:List Out) (rest:List Finger):∀ (kept:List Finger) (j0:Finger) (jt:List Finger),kept.length + (jt.length + 1) + rest.length ≤ 1000 →
  ∃ junk,zbZ j o (kept.length:Nat) ((kept ++ j0 :: jt).length:Nat) (zeE N (kept ++ j0 :: jt ++ rest))=some ((((kept ++ drpF j.bit rest).length:Nat):Int),zeE N (kept ++ drpF j.bit rest ++ junk)):=by
 induction rest with
 | nil=>
  intro kept j0 jt h
  refine ⟨j0 :: jt,zdc ?_⟩
  have:Ops.std.ilt ((kept ++ j0 :: jt).length:Nat) (xlen zae (kept ++ j0 :: jt ++ []))=false:=by rw [zhE];simp
  rw [zbM,show (zeE N (kept ++ j0 :: jt ++ [])).fingers=kept ++ j0 :: jt ++ [] from rfl,this]
  simp [drpF]
 | cons x rest ih=>
  intro kept j0 jt h
  simp only [List.length_cons] at h
  have hfi:(zeE N (kept ++ j0 :: jt ++ x :: rest)).fingers=kept ++ j0 :: jt ++ x :: rest:=rfl
  have hlt:Ops.std.ilt ((kept ++ j0 :: jt).length:Nat) (xlen zae (kept ++ j0 :: jt ++ x :: rest))=true:=by rw [zhE];simp
  have hg:xget zae (kept ++ j0 :: jt ++ x :: rest) ((kept ++ j0 :: jt).length:Nat)=some x:=by rw [za6];simp
  have hadd:Ops.std.iadd .i64 ((kept ++ j0 :: jt).length:Nat) 1=(((kept ++ j0 :: jt).length + 1:Nat):Int):=zjP (by simp;omega)
  have hd:zdy x (zeE N (kept ++ j0 :: jt ++ x :: rest)) j o=some (isB j.bit x):=zlu rfl
  rw [zsN]
  cases hx:isB j.bit x with
  | true=>
   obtain ⟨junk,h2⟩:=ih kept j0 (jt ++ [x]) (by simp;omega)
   refine ⟨junk,zdc ?_⟩
   rw [zbM,hfi,hlt,hg,hadd]
   simp only [cond_true,Option.bind_some,hd,hx]
   simpa [Nat.add_assoc] using h2
  | false=>
   have hg0:xget zae (kept ++ j0 :: jt ++ x :: rest) (kept.length:Nat)=some j0:=by rw [za6];simp
   have hadd2:Ops.std.iadd .i64 (kept.length:Nat) 1=((kept.length + 1:Nat):Int):=zjP (by omega)
   have hset:xset (kept ++ j0 :: jt ++ x :: rest) (kept.length:Nat) x=(kept ++ [x]) ++ (jt ++ [x]) ++ rest:=by
    unfold xset;simp
   have go:zbZ j o ((kept.length + 1:Nat):Int) (((kept ++ j0 :: jt).length + 1:Nat):Int) (zeE N ((kept ++ [x]) ++ (jt ++ [x]) ++ rest))=zbM j o (kept.length:Nat) ((kept ++ j0 :: jt).length:Nat) (zeE N (kept ++ j0 :: jt ++ x :: rest)):=by
    rw [zbM,hfi,hlt,hg,hadd]
    simp only [cond_true,Option.bind_some,hd,hx,cond_false,hg0,hadd2,hset]
    rfl
   cases jt with
   | nil=>
    obtain ⟨junk,h2⟩:=ih (kept ++ [x]) x [] (by simp;omega)
    refine ⟨junk,zdc (go.symm.trans ?_)⟩
    simpa [Nat.add_assoc] using h2
   | cons j1 jt=>
    obtain ⟨junk,h2⟩:=ih (kept ++ [x]) j1 (jt ++ [x]) (by simp at h ⊢;omega)
    refine ⟨junk,zdc (go.symm.trans ?_)⟩
    simpa [Nat.add_assoc] using h2
theorem zzB {N:Node} {j:Job} {o:List Out} (hl:N.fingers.length ≤ 1000):zke N j o=some (fstI (isB j.bit) N.fingers):=zsx (by
 have hf:∀ x:Finger,zdy x N j o=some (isB j.bit x):=fun x=>zlu rfl
 have:=zcc zae (l:=N.fingers) (by omega) (p:=isB j.bit) (L:=fun i=>zex N j o i) (fun h=>zfw (by simp [zct,h]))
  (fun n x _ h1 h2 hp=>zfw (by simp [zct,h1,h2,hf,hp]))
  (fun n x r _ h1 h2 hp h=>zfw (by simp [zct,h1,h2,hf,hp,h]))
 rw [zhX,this]
 unfold fstI
 cases fst (isB j.bit) N.fingers <;> rfl)
theorem zyi {N:Node} {j:Job} {o:List Out} (hl:N.fingers.length ≤ 1000):zjk N j o=some (drpF j.bit N.fingers,N.me.id,N.me.addr,N.clock,N.joined,N.pred,N.list,N.store,N.pends,N.jobs,N.results,N.rid,N.jobID,N.nextBit):=zst (by
 rw [zhJ,zzB hl,Option.bind_some]
 unfold fstI
 cases hf:fst (isB j.bit) N.fingers with
 | none=>
  rw [zxT (znM hf)];rfl
 | some n=>
  obtain ⟨x,hx,hp,hn,hb⟩:=zfq hf
  obtain ⟨hn',hxe⟩:=List.getElem?_eq_some_iff.1 hx
  have hsplit:N.fingers=N.fingers.take n ++ x :: N.fingers.drop (n + 1):=by
   rw [← hxe,← List.drop_eq_getElem_cons hn,List.take_append_drop]
  have hkl:(N.fingers.take n).length=n:=by simp;omega
  have hbefore:drpF j.bit (N.fingers.take n)=N.fingers.take n:=zxT fun y hy=>by
   obtain ⟨i,hi,rfl⟩:=List.mem_iff_getElem.1 hy
   have hin:i < n:=by rw [hkl] at hi;exact hi
   exact hb i _ hin (by rw [List.getElem_take,List.getElem?_eq_getElem])
  obtain ⟨junk,hloop⟩:=zzU N j o (N.fingers.drop (n + 1)) (N.fingers.take n) x [] (by simp;omega)
  have hdr:drpF j.bit N.fingers=N.fingers.take n ++ drpF j.bit (N.fingers.drop (n + 1)):=by
   rw [congrArg (drpF j.bit) hsplit,zG7,hbefore,zsN,hp];rfl
  have hN:zeE N (N.fingers.take n ++ [x] ++ N.fingers.drop (n + 1))=N:=by
   rw [List.append_assoc,List.singleton_append,← hsplit];rfl
  rw [hN,← hdr,hkl] at hloop
  rw [show (N.fingers.take n ++ [x]).length=n + 1 by rw [List.length_append,hkl];rfl] at hloop
  have hz:Ops.std.ieq 0 0=true:=rfl
  have hsub:∀ z:Finger,xsub zae (xfil (drpF j.bit N.fingers ++ junk) (((drpF j.bit N.fingers).length:Nat):Int) (xlen zae (drpF j.bit N.fingers ++ junk)) z) 0 (((drpF j.bit N.fingers).length:Nat):Int)=some (drpF j.bit N.fingers):=fun z=>by
   unfold xfil
   rw [zaE,Int.toNat_natCast,Int.toNat_natCast,List.take_left,List.append_assoc,zkH zae _ _ (by simp),List.take_left]
  have hf2:(zeE N (drpF j.bit N.fingers ++ junk)).fingers=drpF j.bit N.fingers ++ junk:=rfl
  dsimp only
  rw [ieqF (show (n:Int) ≠ -1 by omega),cond_false,zjP (by omega),hloop,Option.bind_some]
  dsimp only
  rw [hf2,zeV zae _ _ (by simp),Option.bind_some,hsub,Option.bind_some,hz,cond_true]
  rfl)
theorem zyS {j:Job} {owner:Peer} {N:Node} (hl:N.fingers.length ≤ 1000):zi7 j owner 0 N []=some (N,drpF j.bit N.fingers):=by
 have:=zbb (σ:=List Finger) zae (l:=N.fingers) (by omega) (L:=fun i acc=>zi7 j owner i N acc) (res:=fun _ acc rest=>(N,acc ++ drpF j.bit rest)) (Inv:=fun k acc=>acc.length ≤ k)
  (fun acc _ h=>ztA (by rw [zk7,h];simp [drpF]))
  (fun k x rest acc ha hk hx hd h1 h2 h3 ih=>ztA (by
   rw [zk7,h1,h2,cond_true,Option.bind_some,zsN,h3]
   show (bif isB j.bit x then _ else _)=_
   cases hc:isB j.bit x with
   | true=>rw [cond_true,cond_true,ih acc (by omega)]
   | false=>rw [cond_false,cond_false,zaI zae (by simp;omega) (by omega),cond_true,ih (acc ++ [x]) (by simp;omega)];simp)) [] (by simp)
 simpa using this
end Go.Ab.Tryz
namespace Go.Ab.Tryz
open Go Go.Ab Go.Proofs Go.Lib
open Pe (dist PeOk)
def btw (a x b:Int):Bool:=decide (x ≠ a) && (decide (a=b) || decide (dist a x < dist a b))
theorem zoW (a x b:Int):zgg a x b=some (btw a x b):=zqA (by
 simp only [zi9,Pe.ring_Dist_eq,Option.bind_some,zam,zau,zaf,btw]
 by_cases h1:x=a <;> by_cases h2:a=b <;> simp [h1,h2]
 all_goals (by_cases h3:x=b <;> simp [h3]))
theorem ziV {a x b:Int} (ha:0 ≤ a ∧ a < 18446744073709551616) (hx:0 ≤ x ∧ x < 18446744073709551616) (hb:0 ≤ b ∧ b < 18446744073709551616):zmg a x b=some (btw a x b):=zyw (by
 simp only [zmT,zpn ha hx hb,zam,zaf,btw,upto,dist]
 by_cases h1:a=b
 ·subst h1;simp
 ·by_cases h2:x=b
  ·subst h2;simp [h1]
  ·simp [h1,h2]
   first | done | rfl | (congr 1;exact decide_eq_decide.2 Iff.rfl) | (congr 2))
def hLe (me:Peer) (x y:Peer):Bool:=!zoE me.id (y.id,y.addr) (x.id,x.addr)
theorem zlG {me x y:Peer}:hLe me x y=true ↔ dist me.id y.id < dist me.id x.id ∨ (dist me.id x.id=dist me.id y.id ∧ x.addr ≤ y.addr):=by
 simp only [hLe,zoE,dist,Bool.not_eq_true',Bool.or_eq_false_iff,Bool.and_eq_false_iff,decide_eq_false_iff_not]
 omega
def zoD (me:Peer) (l:List Peer):List Peer:=l.mergeSort (hLe me)
theorem zAq:∀ {l:List Peer},(∀ p,p ∈ l → PeOk p) → zlA (l.map zah)=some (l.map fun p=>(p.id,p.addr))
 | [],_=>rfl
 | p :: l,h=>by
  have hp:=h p (by simp)
  have ih:=zAq (l:=l) fun q hq=>h q (by simp [hq])
  have e:zvX (zah p)=some (p.id,p.addr):=by
   show (if 0 ≤ p.id ∧ p.id < 18446744073709551616 then some (p.id,p.addr) else none)=_
   exact if_pos hp
  simp only [List.map_cons,zlA,e,ih]
theorem zKq {me:Peer} {l:List Peer} (hl:l.length ≤ 1000000) (ho:∀ p,p ∈ l → PeOk p):xsrt zah me.id l=some (zoD me l):=by
 refine zas ?_
 show (match zlA (l.map zah) with
  | some l=>if l.length ≤ 1000000 then some ((hopSort me.id l).map zdp) else none
  | none=>none)=_
 rw [zAq ho]
 simp only [List.length_map,hl,if_true]
 congr 1
 have hm:(l.mergeSort (hLe me)).map (fun p=>(p.id,p.addr))=(l.map fun p=>(p.id,p.addr)).mergeSort fun x y=>!zoE me.id y x:=List.map_mergeSort (fun a _ b _=>rfl)
 rw [hopSort,← hm,List.map_map]
 rfl
def bef (me y p:Peer):Bool:=decide (dist me.id p.id < dist me.id y.id) || (decide (dist me.id y.id=dist me.id p.id) && decide (y.addr < p.addr))
def posH (me p:Peer):List Peer → Nat
 | []=>0
 | y :: r=>if bef me y p=true then posH me p r + 1 else 0
def insH (me p:Peer):List Peer → List Peer
 | []=>[p]
 | y :: r=>if bef me y p=true then y :: insH me p r else p :: y :: r
theorem zDq (me p:Peer):∀ l,posH me p l ≤ l.length
 | []=>Nat.le_refl _
 | y :: r=>by
  have:=zDq me p r
  simp only [posH];split <;> simp <;> omega
theorem zwt (me p:Peer):∀ l,l.take (posH me p l) ++ [p] ++ l.drop (posH me p l)=insH me p l
 | []=>rfl
 | y :: r=>by
  have ih:=zwt me p r
  simp only [posH,insH]
  split
  ·simp only [List.take_succ_cons,List.drop_succ_cons,List.cons_append,ih]
  ·rfl
theorem zmE (me p:Peer):∀ l,(insH me p l).Perm (p :: l)
 | []=>List.Perm.refl _
 | y :: r=>by
  simp only [insH]
  split
  ·exact ((zmE me p r).cons y).trans (List.Perm.swap p y r)
  ·exact List.Perm.refl _
theorem zuY (me p:Peer):∀ {l},l.Pairwise (fun a b=>hLe me a b=true) → (insH me p l).Pairwise (fun a b=>hLe me a b=true)
 | [],_=>by simp [insH]
 | y :: r,h=>by
  rw [List.pairwise_cons] at h
  simp only [insH]
  split
  ·rename_i hb
   refine List.pairwise_cons.2 ⟨fun z hz=>?_,zuY me p h.2⟩
   rcases List.mem_cons.1 ((zmE me p r).mem_iff.1 hz) with rfl | hz
   ·rw [zlG]
    simp only [bef,Bool.or_eq_true,Bool.and_eq_true,decide_eq_true_eq] at hb
    omega
   ·exact h.1 z hz
  ·rename_i hb
   have hpy:hLe me p y=true:=by
    rw [zlG]
    simp only [bef,Bool.or_eq_true,Bool.and_eq_true,decide_eq_true_eq] at hb
    omega
   refine List.pairwise_cons.2 ⟨fun z hz=>?_,List.pairwise_cons.2 h⟩
   rcases List.mem_cons.1 hz with rfl | hz
   ·exact hpy
   ·have:=h.1 z hz
    rw [zlG] at *
    omega
def zjw (me:Peer) (out cs:List Peer):List Peer:=cs.foldl (fun o p=>insH me p o) out
theorem zsW (me:Peer):∀ (cs:List Peer) {out:List Peer},out.Pairwise (fun a b=>hLe me a b=true) → (zjw me out cs).Pairwise (fun a b=>hLe me a b=true) ∧ (zjw me out cs).Perm (out ++ cs)
 | [],out,h=>⟨h,by simp [zjw]⟩
 | p :: cs,out,h=>by
  obtain ⟨h1,h2⟩:=zsW me cs (zuY me p h)
  refine ⟨h1,h2.trans ?_⟩
  exact ((zmE me p out).append_right cs).trans ((List.perm_middle (l₁:=out) (l₂:=cs) (a:=p)).symm)
theorem zEI {me:Peer} (hm:PeOk me) {l:List Peer} (ho:∀ p,p ∈ l → PeOk p):zjw me [] l=zoD me l:=by
 obtain ⟨h1,h2⟩:=zsW me l (out:=[]) List.Pairwise.nil
 rw [List.nil_append] at h2
 have h3:(zoD me l).Pairwise (fun a b=>hLe me a b=true):=List.pairwise_mergeSort (fun a b c hab hbc=>by rw [zlG] at *;omega) (fun a b=>by
  rw [Bool.or_eq_true,zlG,zlG];omega) l
 have h4:(zoD me l).Perm l:=List.mergeSort_perm l (hLe me)
 refine List.Perm.eq_of_pairwise (le:=fun a b=>hLe me a b=true) (fun a b ha hb hab hba=>?_) h1 h3 (h2.trans h4.symm)
 have oa:=ho a (h2.mem_iff.1 ha)
 have ob:=ho b (h4.mem_iff.1 hb)
 rw [zlG] at hab hba
 have e1:dist me.id a.id=dist me.id b.id:=by omega
 have e2:a.addr=b.addr:=by omega
 have e3:a.id=b.id:=by
  simp only [dist,PeOk] at *
  omega
 obtain ⟨ai,aa⟩:=a
 obtain ⟨bi,ba⟩:=b
 simp only at e2 e3
 rw [e2,e3]
def has (l:List Peer) (a:Int):Bool:=l.any fun q=>decide (q.addr=a)
def filt (me:Peer) (key:Int):List Peer → List Peer → List Peer
 | _,[]=>[]
 | pre,p :: r=>if has pre p.addr=false ∧ p.addr ≠ me.addr ∧ btw me.id p.id key=true then p :: filt me key (pre ++ [p]) r else filt me key (pre ++ [p]) r
def zqU (me:Peer) (key:Int):List Peer → List Peer → List Peer
 | _,[]=>[]
 | met,p :: r=>if has met p.addr=true ∨ p.addr=me.addr then zqU me key met r else if btw me.id p.id key=true then p :: zqU me key (met ++ [p]) r else zqU me key (met ++ [p]) r
def metR (me:Peer):List Peer → List Peer → List Peer
 | met,[]=>met
 | met,p :: r=>if has met p.addr=true ∨ p.addr=me.addr then metR me met r else metR me (met ++ [p]) r
theorem zuB (l:List Peer) (p:Peer) (a:Int):has (l ++ [p]) a=(has l a || decide (p.addr=a)):=by simp [has]
theorem zov (me:Peer) (key:Int):∀ (l met pre:List Peer),(∀ a,a ≠ me.addr → has met a=has pre a) → zqU me key met l=filt me key pre l
 | [],_,_,_=>rfl
 | p :: r,met,pre,h=>by
  simp only [zqU,filt]
  by_cases hm:p.addr=me.addr
  ·rw [if_pos (.inr hm),if_neg (fun h=>h.2.1 hm)]
   refine zov me key r met _ fun a ha=>?_
   rw [zuB,h a ha]
   have:decide (p.addr=a)=false:=by rw [decide_eq_false_iff_not];omega
   rw [this,Bool.or_false]
  ·have hp:=h p.addr hm
   cases hh:has pre p.addr with
   | true=>
    rw [if_pos (.inl (hp.trans hh)),if_neg (fun h=>by cases h.1)]
    refine zov me key r met _ fun a ha=>?_
    rw [zuB,h a ha]
    by_cases hpa:p.addr=a
    ·rw [← hpa,hh];rfl
    ·rw [decide_eq_false hpa,Bool.or_false]
   | false=>
    have ih:=zov me key r (met ++ [p]) (pre ++ [p]) fun a ha=>by rw [zuB,zuB,h a ha]
    rw [if_neg (fun h2=>by rcases h2 with h2 | h2;rw [hp,hh] at h2;cases h2;exact hm h2)]
    by_cases hb:btw me.id p.id key=true
    ·rw [if_pos hb,if_pos ⟨rfl,hm,hb⟩,ih]
    ·rw [if_neg hb,if_neg (fun h=>hb h.2.2),ih]
theorem zq2 (me:Peer) (key:Int):∀ (l pre:List Peer) (p:Peer),p ∈ filt me key pre l → p ∈ l
 | [],_,_,h=>by cases h
 | q :: r,pre,p,h=>by
  simp only [filt] at h
  split at h
  ·rcases List.mem_cons.1 h with rfl | h
   ·simp
   ·exact List.mem_cons_of_mem _ (zq2 me key r _ p h)
  ·exact List.mem_cons_of_mem _ (zq2 me key r _ p h)
theorem zz4 (me:Peer) (key:Int):∀ (l pre:List Peer),(filt me key pre l).length ≤ l.length
 | [],_=>Nat.le_refl _
 | q :: r,pre=>by
  have:=zz4 me key r (pre ++ [q])
  simp only [filt];split <;> simp <;> omega
theorem zFO {all:List Peer} {n:Nat} {x:Peer} (hx:all[n]?=some x):fstI (fun q=>decide (q.addr=x.addr)) all=(n:Int) ↔ has (all.take n) x.addr=false:=by
 have hxm:=List.mem_of_getElem? hx
 obtain ⟨k,hk⟩:=zL0 (p:=fun q:Peer=>decide (q.addr=x.addr)) (l:=all) ⟨x,hxm,by simp⟩
 obtain ⟨y,hy,hpy,hkl,hbe⟩:=zfq hk
 have e:fstI (fun q:Peer=>decide (q.addr=x.addr)) all=(k:Int):=by unfold fstI;rw [hk]
 rw [e]
 constructor
 ·intro hkn
  have hkn:k=n:=by omega
  subst hkn
  rw [has,List.any_eq_false]
  intro q hq
  obtain ⟨i,hi⟩:=List.mem_iff_getElem?.1 hq
  rw [List.getElem?_take] at hi
  split at hi
  ·rename_i hlt
   have:=hbe i q hlt hi
   simpa using this
  ·cases hi
 ·intro hh
  rw [has,List.any_eq_false] at hh
  rcases Nat.lt_trichotomy k n with h1 | h1 | h1
  ·exfalso
   have hyt:y ∈ all.take n:=List.mem_iff_getElem?.2 ⟨k,by rw [List.getElem?_take,if_pos h1];exact hy⟩
   exact hh y hyt hpy
  ·omega
  ·exfalso
   have:=hbe n x h1 hx
   simp at this
theorem zw0 {l:List Peer} {id addr:Int} (hl:l.length ≤ 10000):zlx l id addr=some (fstI (fun q=>decide (q.addr=addr)) l):=zve (by
 have hf:∀ x:Peer,znI x id addr=some (decide (x.addr=addr)):=fun x=>zxb rfl
 have:=zcc zah (l:=l) (by omega) (p:=fun q=>decide (q.addr=addr)) (L:=fun i=>zfs l id addr i) (fun h=>zhM (by simp [zc2,h]))
  (fun n x _ h1 h2 hp=>zhM (by simp [zc2,h1,h2,hf,hp]))
  (fun n x r _ h1 h2 hp h=>zhM (by simp [zc2,h1,h2,hf,hp,h]))
 rw [zkh,this]
 unfold fstI
 cases fst (fun q:Peer=>decide (q.addr=addr)) l <;> rfl)
def allP (l:List Entry) (f:List Finger):List Peer:=Pe.firms l ++ f.map Finger.peer
def hops (me:Peer) (l:List Entry) (f:List Finger) (key most:Int):List Peer:=(zoD me (filt me key [] (allP l f))).take most.toNat
theorem zFQ (me:Peer) (l:List Peer):(zoD me l).length=l.length:=List.length_mergeSort ..
theorem zyn {me:Peer} {l:List Entry} {f:List Finger} {key most:Int} (hl:l.length ≤ 1000) (hf:f.length ≤ 1000) (ho:∀ p,p ∈ allP l f → PeOk p) (hmost:most < 1000):zq3 me l f key most=some (hops me l f key most):=zz5 (by
 have hfl:=Pe.firms_le l
 rw [znJ,(Pe.some_eq hl).1,Option.bind_some]
 have e0:=zbb (σ:=List Peer) zae (l:=f) (by omega) (L:=fun i s=>zjO me f key most i s) (res:=fun _ s rest=>s ++ rest.map Finger.peer) (Inv:=fun n s=>s.length ≤ (Pe.firms l).length + n)
  (fun s _ h=>zoB (by rw [zhN,h];simp))
  (fun n x rest s hi hn hx hd h1 h2 h3 ih=>zoB (by
   rw [zhN,h1,h2,cond_true,Option.bind_some,zaI zah (by simp;omega) (by omega),cond_true,h3,ih _ (by simp;omega)]
   simp)) (Pe.firms l) (by omega)
 rw [e0,Option.bind_some]
 show ((zcX me key most (allP l f) (xlen zah (allP l f)) 0 (allP l f) []).bind _)=_
 have hal:(allP l f).length ≤ 2000:=by simp only [allP,List.length_append,List.length_map];omega
 have e1:=zbb (σ:=List Peer) zah (l:=allP l f) (by omega) (L:=fun i s=>zcX me key most (allP l f) (xlen zah (allP l f)) i (allP l f) s)
  (res:=fun n s rest=>(allP l f,s ++ filt me key ((allP l f).take n) rest)) (Inv:=fun n s=>s.length ≤ n)
  (fun s _ h=>zoC (by rw [zhO,h];simp [filt]))
  (fun n x rest s hi hn hx hd h1 h2 h3 ih=>zoC (by
   have ht:(allP l f).take (n + 1)=(allP l f).take n ++ [x]:=by rw [List.take_add_one,hx];rfl
   rw [zhO,h1,h2,cond_true,Option.bind_some,zw0 (by omega),Option.bind_some,h3,zam,zaf]
   have hfi:=zFO hx
   simp only [filt]
   by_cases c1:has ((allP l f).take n) x.addr=false
   ·rw [if_pos (hfi.2 c1),zam,zaf]
    by_cases c2:x.addr=me.addr
    ·rw [if_pos c2,if_neg (fun h=>h.2.1 c2),ih s (by omega),ht]
    ·rw [if_neg c2,zoW,Option.bind_some]
     cases c3:btw me.id x.id key with
     | true=>
      rw [cond_true,zaI zah (by simp;omega) (by omega),cond_true,if_pos ⟨c1,c2,rfl⟩,ih _ (by simp;omega),ht]
      simp
     | false=>
      rw [cond_false,if_neg (fun h=>by cases h.2.2),ih s (by omega),ht]
   ·rw [if_neg (fun h=>c1 (hfi.1 h)),if_neg (fun h=>c1 h.1),ih s (by omega),ht])) [] (by simp)
 rw [e1,Option.bind_some]
 dsimp only
 rw [List.nil_append,List.take_zero]
 have hfo:∀ p,p ∈ filt me key [] (allP l f) → PeOk p:=fun p hp=>ho p (zq2 me key _ _ p hp)
 have hfl2:=zz4 me key (allP l f) []
 rw [zKq (by omega) hfo,Option.bind_some,hops]
 have hsl:=zFQ me (filt me key [] (allP l f))
 obtain ⟨q,hq⟩:∃ q,zoD me (filt me key [] (allP l f))=q:=⟨_,rfl⟩
 rw [hq] at hsl ⊢
 rw [zau,zaf,zaE,zau,zaf,zau,zaf]
 by_cases c1:most < 0
 ·rw [if_pos c1,show most.toNat=0 by omega,List.take_zero]
  by_cases c2:(0:Int) < (q.length:Int)
  ·rw [if_pos c2,show xsub zah q 0 0=some (q.take 0) from zfn q 0 (Nat.zero_le _)];rfl
  ·rw [if_neg c2,zfn q _ (Nat.le_refl _),List.take_length]
   have:q=[]:=List.eq_nil_of_length_eq_zero (by omega)
   rw [this];rfl
 ·rw [if_neg c1]
  by_cases c2:most < (q.length:Int)
  ·rw [if_pos c2]
   obtain ⟨m,rfl⟩:∃ m:Nat,most=(m:Int):=⟨most.toNat,by omega⟩
   rw [zfn q m (by omega)];rfl
  ·rw [if_neg c2,zfn q _ (Nat.le_refl _),List.take_length,Option.bind_some,List.take_of_length_le (by omega)])
theorem zAG {l:List Peer} {a:Int} (hl:l.length ≤ 10000):zto l a=some (has l a):=zBP (by
 have:=zbb (σ:=Unit) zah (l:=l) (by omega) (L:=fun i _=>zk0 l a i) (res:=fun _ _ rest=>bif has rest a then .inl () else .inr ()) (Inv:=fun _ _=>True)
  (fun _ _ h=>zqy (by rw [ziZ,h];rfl))
  (fun n x rest s _ hn hx hd h1 h2 h3 ih=>zqy (by
   rw [ziZ,h1,h2,cond_true,Option.bind_some,zam,zaf,h3]
   by_cases c:x.addr=a
   ·rw [if_pos c];simp [has,c]
   ·rw [if_neg c,ih () trivial];simp [has,c])) () trivial
 rw [zpw,this,Option.bind_some]
 cases has l a <;> rfl)
theorem zHL {me p:Peer} {key most i:Int} {out r2 r3:List Peer} (hm:PeOk me) (ho:∀ q,q ∈ out → PeOk q) (hl:out.length ≤ 10000):
  zhG me key most out i 0 (dist me.id p.id) r2 r3 p.id p.addr=some (out,i,(posH me p out:Int),r2,r3,p.id,p.addr):=by
 have:=zbb (σ:=Unit) zah (l:=out) (by omega) (L:=fun k _=>zhG me key most out i k (dist me.id p.id) r2 r3 p.id p.addr) (res:=fun n _ rest=>(out,i,((n + posH me p rest:Nat):Int),r2,r3,p.id,p.addr)) (Inv:=fun _ _=>True)
  (fun _ _ h=>zsc (by rw [zjW,h];rfl))
  (fun n x rest s _ hn hx hd h1 h2 h3 ih=>zsc (by
   have hxo:=ho x (List.mem_of_getElem? hx)
   rw [zjW,h1,h2,cond_true,Option.bind_some,Pe.r03_Dist_eq hm.1 hm.2 hxo.1 hxo.2,Option.bind_some,zau,zaf,zam,zaf,zau,zaf,h3]
   have ihh:=ih () trivial
   (try dsimp only at ihh)
   have e:((n + 1 + posH me p rest:Nat):Int)=((n + (posH me p rest + 1):Nat):Int):=by omega
   rw [e] at ihh
   simp only [posH,bef,Bool.or_eq_true,Bool.and_eq_true,decide_eq_true_eq]
   by_cases c1:dist me.id p.id < dist me.id x.id
   ·rw [if_pos c1,if_pos (.inl c1)];exact ihh
   ·rw [if_neg c1]
    by_cases c2:dist me.id x.id=dist me.id p.id
    ·rw [if_pos c2]
     by_cases c3:x.addr < p.addr
     ·rw [if_pos c3,if_pos (.inr ⟨c2,c3⟩)];exact ihh
     ·rw [if_neg c3,if_neg (by omega)];rfl
    ·rw [if_neg c2,if_neg (by omega)];rfl)) () trivial
 simpa using this
theorem zGi {me p:Peer} {key most i:Int} {out r2 r3:List Peer} (hm:PeOk me) (hp:PeOk p) (hk:0 ≤ key ∧ key < 18446744073709551616) (ho:∀ q,q ∈ out → PeOk q) (hl:out.length ≤ 5000) (h3:r3.length ≤ 5000):
  zpv me key most out i r2 r3 p.id p.addr=some (if btw me.id p.id key=true then .inl (insH me p out,i,r2,r3 ++ [p],p.id,p.addr) else .inr (out,i,r2,r3 ++ [p],p.id,p.addr)):=zyA (by
 have hpl:=zDq me p out
 rw [zmY,zaI zah (by simp;omega) (by omega),cond_true,ziV hm hp hk,Option.bind_some]
 have ep:(⟨p.id,p.addr⟩:Peer)=p:=rfl
 rw [ep]
 cases hb:btw me.id p.id key with
 | false=>rfl
 | true=>
  rw [cond_true,Pe.r03_Dist_eq hm.1 hm.2 hp.1 hp.2,Option.bind_some,zHL hm ho (by omega),Option.bind_some]
  dsimp only
  have hxd:xsub zah out ((posH me p out:Nat):Int) (xlen zah out)=some (out.drop (posH me p out)):=by
   rw [zjj,zaE,if_pos (by omega)];simp
  rw [zfn out _ hpl,Option.bind_some,zaI zah (by simp;omega) (by omega),cond_true,zaI zah (by simp;omega) (by omega),cond_true,hxd,Option.bind_some,zaI zah (by simp;omega) (by omega),cond_true,ep,zwt]
  rfl)
theorem zHm (me p:Peer) (l:List Peer):(insH me p l).length=l.length + 1:=by rw [(zmE me p l).length_eq];rfl
theorem zBO {me:Peer} {l:List Entry} {f:List Finger} {key most:Int} (hl:l.length ≤ 1000) (hf:f.length ≤ 1000) (hm:PeOk me) (hk:0 ≤ key ∧ key < 18446744073709551616) (ho:∀ p,p ∈ allP l f → PeOk p):zvt me l f key most=some (hops me l f key most):=zEj (by
 have hfl:=Pe.firms_le l
 rw [zrw,(Pe.some_eq hl).2.1,Option.bind_some]
 have e0:=zbb (σ:=List Peer) zae (l:=f) (by omega) (L:=fun i s=>zmk me f key most i s) (res:=fun _ s rest=>s ++ rest.map Finger.peer) (Inv:=fun n s=>s.length ≤ (Pe.firms l).length + n)
  (fun s _ h=>zsb (by rw [zjV,h];simp))
  (fun n x rest s hi hn hx hd h1 h2 h3 ih=>zsb (by
   rw [zjV,h1,h2,cond_true,Option.bind_some,zaI zah (by simp;omega) (by omega),cond_true,h3,ih _ (by simp;omega)]
   simp)) (Pe.firms l) (by omega)
 rw [e0,Option.bind_some]
 show ((zeb me key most [] 0 (allP l f) []).bind _)=_
 have hal:(allP l f).length ≤ 2000:=by simp only [allP,List.length_append,List.length_map];omega
 have e1:=zbb (σ:=List Peer × List Peer) zah (l:=allP l f) (by omega) (L:=fun i s=>zeb me key most s.1 i (allP l f) s.2)
  (res:=fun n s rest=>(zjw me s.1 (zqU me key s.2 rest),allP l f,metR me s.2 rest)) (Inv:=fun n s=>s.1.length ≤ n ∧ s.2.length ≤ n ∧ ∀ q,q ∈ s.1 → PeOk q)
  (fun s _ h=>zsd (by rw [zjX,h];rfl))
  (fun n x rest s hi hn hx hd h1 h2 h3 ih=>zsd (by
   obtain ⟨hi1,hi2,hi3⟩:=hi
   have hxo:=ho x (List.mem_of_getElem? hx)
   rw [zjX,h1,h2,cond_true,Option.bind_some,zAG (by omega),Option.bind_some,h3]
   simp only [zqU,metR]
   cases c1:has s.2 x.addr with
   | true=>rw [cond_true,if_pos (.inl rfl),if_pos (.inl rfl)];exact ih s ⟨by omega,by omega,hi3⟩
   | false=>
    rw [cond_false,zam,zaf]
    by_cases c2:x.addr=me.addr
    ·rw [if_pos c2,if_pos (.inr c2),if_pos (.inr c2)];exact ih s ⟨by omega,by omega,hi3⟩
    ·have hno:¬ (false=true ∨ x.addr=me.addr):=fun h=>h.elim (fun h=>by cases h) c2
     rw [if_neg c2,if_neg hno,if_neg hno,zGi hm hxo hk hi3 (by omega) (by omega),Option.bind_some]
     by_cases c3:btw me.id x.id key=true
     ·rw [if_pos c3,if_pos c3]
      dsimp only
      rw [h3]
      exact ih (insH me x s.1,s.2 ++ [x]) ⟨by rw [zHm];omega,by simp;omega,fun q hq=>by
       rcases List.mem_cons.1 ((zmE me x s.1).mem_iff.1 hq) with rfl | hq
       ·exact hxo
       ·exact hi3 q hq⟩
     ·rw [if_neg c3,if_neg c3]
      dsimp only
      rw [h3]
      exact ih (s.1,s.2 ++ [x]) ⟨by show s.1.length ≤ _;omega,by simp;omega,hi3⟩)) ([],[]) ⟨by simp,by simp,fun q hq=>by cases hq⟩
 dsimp only at e1
 rw [e1,Option.bind_some]
 dsimp only
 have hfo:∀ p,p ∈ filt me key [] (allP l f) → PeOk p:=fun p hp=>ho p (zq2 me key _ _ p hp)
 rw [zov me key (allP l f) [] [] (fun _ _=>rfl),zEI hm hfo,hops]
 obtain ⟨q,hq⟩:∃ q,zoD me (filt me key [] (allP l f))=q:=⟨_,rfl⟩
 rw [hq,zau,zaf,zaE,zau,zaf]
 by_cases c1:most < 0
 ·rw [if_pos c1,show most.toNat=0 by omega,List.take_zero]
 ·rw [if_neg c1]
  by_cases c2:most < (q.length:Int)
  ·rw [if_pos c2]
   obtain ⟨m,rfl⟩:∃ m:Nat,most=(m:Int):=⟨most.toNat,by omega⟩
   rw [zfn q m (by omega)];rfl
  ·rw [if_neg c2,List.take_of_length_le (by omega)])
end Go.Ab.Tryz
namespace Go.Ab.Tryz
open Go Go.Ab Go.Proofs Go.Lib
open Pe (dist PeOk EnOk)
structure NOk (n:Node):Prop where
 me:PeOk n.me
 pred:EnOk n.pred
 list:EnOk n.list
 fingers:∀ x,x ∈ n.fingers → PeOk x.peer
theorem zz7 {l:List Entry} (h:EnOk l):∀ p,p ∈ Pe.firms l → PeOk p:=fun p hp=>by
 unfold Pe.firms at hp
 obtain ⟨x,hx,hpx⟩:=List.mem_flatMap.1 hp
 cases hb:Ops.std.ile x.misses 0 <;> rw [hb] at hpx
 ·cases hpx
 ·simp only [cond_true,List.mem_singleton] at hpx
  subst hpx;exact h x hx
theorem zCh {n:Node} (h:NOk n):∀ p,p ∈ allP n.list n.fingers → PeOk p:=fun p hp=>by
 rcases List.mem_append.1 hp with hp | hp
 ·exact zz7 h.list p hp
 ·obtain ⟨x,hx,rfl⟩:=List.mem_map.1 hp;exact h.fingers x hx
def zeH (n:Node) (key:Int):Bool:=match n.pred with
 | []=>false
 | x :: _=>decide (x.misses ≤ 0) && upto x.peer.id key n.me.id
theorem zwM (n:Node) (key:Int):zn7 n key=some (zeH n key):=zxB (by
 rw [zl1,zaE,zau,zaf,zeH]
 cases hp:n.pred with
 | nil=>rfl
 | cons x r=>
  rw [if_pos (by simp <;> omega),show (0:Int)=((0:Nat):Int) from rfl,za6]
  show (bif Ops.std.ile x.misses 0 then zkK x.peer.id key n.me.id else some false)=_
  rw [zbH,zaf,ztG]
  by_cases c:x.misses ≤ 0 <;> simp [c])
def zra (n:Node) (key:Int):Peer × List Peer × Bool:=if (hops n.me n.list n.fingers key 4).length=0 then (n.me,[],true) else (⟨0,0⟩,hops n.me n.list n.fingers key 4,false)
def ze6 (n:Node) (key:Int):Peer × List Peer × Bool:=match Pe.firms n.list with
 | []=>(n.me,[],true)
 | f :: _=>if key=n.me.id then (n.me,[],true) else if upto n.me.id key f.id=true then (f,[],true) else if zeH n key=true then (n.me,[],true) else zra n key
theorem zsp {n:Node} {key:Int} (h:Sz n) (ok:NOk n):zrO n key=some (ze6 n key):=zAQ (by
 have hl:=h.list
 rw [zn6,(Pe.some_eq hl).1,Option.bind_some,zaE,zam,zaf,zam,zaf,ze6]
 cases hf:Pe.firms n.list with
 | nil=>rfl
 | cons f r=>
  rw [if_neg (by simp <;> omega)]
  dsimp only
  by_cases c1:key=n.me.id
  ·rw [if_pos c1,if_pos c1]
  ·rw [if_neg c1,if_neg c1]
   have e:zna n key (f :: r)=some (if upto n.me.id key f.id=true then .inl (f.id,f.addr,f :: r) else if zeH n key=true then .inl (n.me.id,n.me.addr,f :: r) else if (hops n.me n.list n.fingers key 4).length=0 then .inl (n.me.id,n.me.addr,f :: r) else .inr (hops n.me n.list n.fingers key 4,f :: r)):=zwL (by
    rw [zld,show (0:Int)=((0:Nat):Int) from rfl,za6]
    show (zkK n.me.id key f.id).bind _=_
    rw [ztG,Option.bind_some,zwM,Option.bind_some,zyn hl h.fingers (zCh ok) (by omega),Option.bind_some,zaE,zau]
    cases upto n.me.id key f.id
    ·cases zeH n key
     ·by_cases c:(hops n.me n.list n.fingers key 4).length=0
      ·rw [decide_eq_false (by omega)];simp [c]
      ·rw [decide_eq_true (by omega)];simp [c]
     ·rfl
    ·rfl)
   rw [e,Option.bind_some,zra]
   by_cases c2:upto n.me.id key f.id=true
   ·rw [if_pos c2,if_pos c2]
   ·rw [if_neg c2,if_neg c2]
    by_cases c3:zeH n key=true
    ·rw [if_pos c3,if_pos c3]
    ·rw [if_neg c3,if_neg c3]
     by_cases c4:(hops n.me n.list n.fingers key 4).length=0
     ·rw [if_pos c4,if_pos c4]
     ·rw [if_neg c4,if_neg c4])
theorem zBT {n:Node} {key:Int} (h:Sz n) (ok:NOk n) (hk:0 ≤ key ∧ key < 18446744073709551616):zvx n key=some (ze6 n key):=zEt (by
 have hl:=h.list
 have hfo:=zz7 ok.list
 rw [zrF,(Pe.some_eq hl).2.1,Option.bind_some,zaE,zam,zaf,zam,zaf,ze6]
 cases hf:Pe.firms n.list with
 | nil=>rfl
 | cons f r=>
  rw [hf] at hfo
  have hfp:=hfo f (by simp)
  rw [if_neg (by simp <;> omega)]
  dsimp only
  by_cases c1:key=n.me.id
  ·rw [if_pos c1,if_pos c1]
  ·rw [if_neg c1,if_neg c1]
   have e0:zhH n key (f :: r)=some (if (hops n.me n.list n.fingers key 4).length=0 then .inl (f :: r) else .inr (hops n.me n.list n.fingers key 4,f :: r)):=zyM (by
    rw [zm5,zBO hl h.fingers ok.me hk (zCh ok),Option.bind_some,zaE,zam,zaf]
    by_cases c:(hops n.me n.list n.fingers key 4).length=0
    ·rw [if_pos (by omega),if_pos c]
    ·rw [if_neg (by omega),if_neg c])
   obtain ⟨w,hw,hwz⟩:∃ w,zhH n key (f :: r)=some w ∧ (match w with | .inl _=>((n.me,[],true):Peer × List Peer × Bool) | .inr (t,_)=>(⟨0,0⟩,t,false))=zra n key:=by
    by_cases c:(hops n.me n.list n.fingers key 4).length=0
    ·exact ⟨.inl (f :: r),by rw [e0,if_pos c],by rw [zra,if_pos c]⟩
    ·exact ⟨.inr (hops n.me n.list n.fingers key 4,f :: r),by rw [e0,if_neg c],by rw [zra,if_neg c]⟩
   have e:∃ z,zpD n key (f :: r)=some z ∧ (match z with | .inl (a,b,_)=>((⟨a,b⟩,[],true):Peer × List Peer × Bool) | .inr (t,_)=>(⟨0,0⟩,t,false))=(if upto n.me.id key f.id=true then (f,[],true) else if zeH n key=true then (n.me,[],true) else zra n key):=by
    refine Exists.elim (?_:∃ z,zj2 n key (f :: r)=some z ∧ _) fun z hz=>⟨z,zyN hz.1,hz.2⟩
    have hx0:xget zah (f :: r) 0=some f:=za6 zah (f :: r) 0
    rw [zj2,hx0,Option.bind_some,zpn ok.me hk hfp,Option.bind_some]
    cases hu:upto n.me.id key f.id with
    | true=>exact ⟨_,rfl,rfl⟩
    | false=>
     rw [cond_false,hw,Option.bind_some,if_neg (by simp),zaE,zau,zaf]
     cases hp:n.pred with
     | nil=>
      have hb:zeH n key=false:=by rw [zeH,hp]
      rw [if_neg (by simp),hb,if_neg (by simp)]
      rcases w with a | ⟨t,b⟩ <;> exact ⟨_,rfl,hwz⟩
     | cons x rr=>
      have hb:zeH n key=(decide (x.misses ≤ 0) && upto x.peer.id key n.me.id):=by rw [zeH,hp]
      have hxo:=ok.pred x (by rw [hp];simp)
      have hx1:xget zai (x :: rr) 0=some x:=za6 zai (x :: rr) 0
      rw [if_pos (by simp <;> omega),hx1,Option.bind_some,zau,zaf]
      by_cases c2:x.misses < 1
      ·rw [decide_eq_true (by omega:x.misses ≤ 0),Bool.true_and] at hb
       rw [if_pos c2,zpn hxo hk ok.me,Option.bind_some,hb]
       cases upto x.peer.id key n.me.id with
       | true=>exact ⟨_,rfl,rfl⟩
       | false=>
        rw [cond_false,if_neg (by simp)]
        rcases w with a | ⟨t,b⟩ <;> exact ⟨_,rfl,hwz⟩
      ·rw [decide_eq_false (by omega:¬ x.misses ≤ 0),Bool.false_and] at hb
       rw [if_neg c2,hb,if_neg (by simp)]
       rcases w with a | ⟨t,b⟩ <;> exact ⟨_,rfl,hwz⟩
   obtain ⟨z,hz,hzz⟩:=e
   rw [hz,Option.bind_some,← hzz]
   rcases z with ⟨a,b,c⟩ | ⟨a,b⟩ <;> rfl)
end Go.Ab.Tryz
namespace Go.Ab.Tryz
open Go Go.Ab Go.Proofs Go.Lib
open Pe (dist PeOk EnOk)
def jAt (j:Job) (to_:Peer):Job:=⟨j.id,j.kind,j.bit,j.key,j.val,j.target,j.via,to_,j.doing,j.hops,j.tries,j.due⟩
def jDo (j:Job) (b:Bool):Job:=⟨j.id,j.kind,j.bit,j.key,j.val,j.target,j.via,j.at_,b,j.hops,j.tries,j.due⟩
def jHop (j:Job) (h:Int):Job:=⟨j.id,j.kind,j.bit,j.key,j.val,j.target,j.via,j.at_,j.doing,h,j.tries,j.due⟩
def ziR (j:Job) (h:Int):Job:=⟨j.id,j.kind,j.bit,j.key,j.val,j.target,j.via,j.at_,false,h,j.tries,j.due⟩
def jTry (j:Job) (t:Int):Job:=⟨j.id,j.kind,j.bit,j.key,j.val,j.target,j.via,j.at_,j.doing,j.hops,t,j.due⟩
def goM (j:Job):Msg:=⟨1,0,0,false,j.target,⟨#[]⟩,⟨#[]⟩,⟨0,0⟩,[],[]⟩
def actM (j:Job):Msg:=if j.kind=2 then ⟨7,0,0,false,0,j.key,j.val,⟨0,0⟩,[],[]⟩ else if j.kind=3 then ⟨8,0,0,false,0,j.key,⟨#[]⟩,⟨0,0⟩,[],[]⟩ else ⟨3,0,0,false,0,⟨#[]⟩,⟨#[]⟩,⟨0,0⟩,[],[]⟩
def zhP (n:Node) (j:Job) (to_:Peer):Node × List Out:=askN (setN n (jAt j to_)) to_ (goM j) 4 j.id
def actN (n:Node) (j:Job) (to_:Peer):Node × List Out:=askN (setN n (jAt (jDo j true) to_)) to_ (actM j) 5 j.id
def endL (n:Node) (j:Job) (owner:Peer):Node × List Out:=
 if j.kind=1 then actN n j j.via else
 if j.kind=2 then (if (zdg n j.key j.val).2.2=0 then (zaz (zdg n j.key j.val).1 j.id true j.val 0,(zdg n j.key j.val).2.1) else (zaz n j.id false ⟨#[]⟩ (zdg n j.key j.val).2.2,[])) else
 if j.kind=3 then (zaz n j.id (getP n.store j.key).2 (getP n.store j.key).1 0,[]) else
 if owner.addr=n.me.addr then (zaz (zeE n (drpF j.bit n.fingers)) j.id false ⟨#[]⟩ 0,[]) else
 (zaz (zeE n (setF n.fingers j.bit owner)) j.id false ⟨#[]⟩ 0,[])
def endN (n:Node) (j:Job) (owner:Peer):Node × List Out:=
 if owner.addr ≠ n.me.addr ∧ j.kind ≠ 4 then actN n j owner else endL (setN n j) j owner
def zlf (n:Node) (j:Job):Node × List Out:=
 if j.kind=1 then zhP n (ziR j 0) j.via else
 if (ze6 n j.target).2.2=true then endN n (ziR j 0) (ze6 n j.target).1 else
 match (ze6 n j.target).2.1 with
 | []=>(n,[])
 | x :: _=>zhP n (ziR j 1) x
def zd5 (n:Node) (j:Job) (why:Int):Node × List Out:=
 if j.kind=1 then (setN n (jDo j false),[]) else
 if j.kind=4 ∨ 3 ≤ j.tries then (zaz n j.id false ⟨#[]⟩ why,[]) else
 zlf n (jTry j (if j.tries < 0 then 1 else j.tries + 1))
def near (n:Node) (j:Job) (p:Peer):Bool:=!decide (p.addr=n.me.addr) && btw j.at_.id p.id j.target
def zoH (n:Node) (j:Job) (l:List Peer):Node × List Out:=
 match l.find? (near n j) with
 | none=>zd5 n j 15
 | some p=>if j.hops < 64 then zhP n (jHop j (if j.hops < 0 then 1 else j.hops + 1)) p else if j.kind=1 then zd5 n j 19 else (zaz n j.id false ⟨#[]⟩ 19,[])
structure JOk (j:Job):Prop where
 target:0 ≤ j.target ∧ j.target < 18446744073709551616
 at_:PeOk j.at_
 key:j.key.size < 1000000
theorem zmt {n:Node} {j:Job} {to_:Peer} (h:Sz n):ziw n j to_=some (zhP n j to_):=zEz (by
 show (zf7 n (jAt j to_)).bind _=_
 rw [zd8 h,Option.bind_some,zk4 (zei h _)];rfl)
theorem zwH {n:Node} {j:Job} {to_:Peer} (h:Sz n):zuJ n j to_=some (actN n j to_):=zGo (by
 have s0:∀ (k:Int) (key val:ByteArray),znp n j to_ k key val=some (if j.kind=3 then ((askN (setN n (jAt (jDo j true) to_)) to_ ⟨8,0,0,false,0,j.key,⟨#[]⟩,⟨0,0⟩,[],[]⟩ 5 j.id).2,(askN (setN n (jAt (jDo j true) to_)) to_ ⟨8,0,0,false,0,j.key,⟨#[]⟩,⟨0,0⟩,[],[]⟩ 5 j.id).1,8,j.key,⟨#[]⟩)
   else ((askN (setN n (jAt (jDo j true) to_)) to_ ⟨k,0,0,false,0,key,val,⟨0,0⟩,[],[]⟩ 5 j.id).2,(askN (setN n (jAt (jDo j true) to_)) to_ ⟨k,0,0,false,0,key,val,⟨0,0⟩,[],[]⟩ 5 j.id).1,k,key,val)):=fun k key val=>zAK (by
  show (bif Ops.std.ieq j.kind 3 then (zf7 n (jAt (jDo j true) to_)).bind _ else (zf7 n (jAt (jDo j true) to_)).bind _)=_
  rw [zd8 h,Option.bind_some,Option.bind_some,zk4 (zei h _),zk4 (zei h _),zam,zaf]
  split <;> rfl)
 rw [ztx,s0,s0,zam,zaf]
 unfold actN actM
 by_cases c2:j.kind=2
 ·rw [if_pos c2,if_pos c2,if_neg (by omega)];rfl
 ·rw [if_neg c2,if_neg c2]
  by_cases c3:j.kind=3
  ·rw [if_pos c3,if_pos c3];rfl
  ·rw [if_neg c3,if_neg c3];rfl)
theorem zbK {n:Node} {j:Job} {has:Bool} {val:ByteArray} {e:Int} (h:Sz n):zbI n j has val e=some (zaz n j.id has val e):=zAL (zyI h)
theorem zl9 {n:Node} (h:Sz n) {l:List Finger} (hl:l.length ≤ 1000):Sz (zeE n l):=⟨h.pred,h.list,hl,h.store,h.pends,h.jobs,h.results⟩
def prE:zk9 → Node × List Out
 | .inl (o,_,n)=>(n,o)
 | .inr (.inl (_,n,_))=>(n,[])
 | .inr (.inr (.inl (_,n)))=>(n,[])
 | .inr (.inr (.inr (_,n)))=>(n,[])
theorem zyT {n:Node} {j:Job} {owner:Peer} (h:Sz n) (hf:n.fingers.length ≤ 900) (hk:j.key.size < 1000000):∃ z,zk8 n j owner=some z ∧ prE z=endL (setN n j) j owner:=by
 have hs:=zei h j
 have hfs:(setN n j).fingers.length ≤ 900:=hf
 unfold endL
 by_cases c1:j.kind=1
 ·refine ⟨_,zgf (by rw [zdr,zd8 h,Option.bind_some,zam,zaf,if_pos c1,zwH hs,Option.bind_some]),?_⟩
  rw [if_pos c1];rfl
 by_cases c2:j.kind=2
 ·rw [if_neg c1,if_pos c2]
  by_cases c0:(zdg (setN n j) j.key j.val).2.2=0
  ·refine ⟨_,zgf (by rw [zdr,zd8 h,Option.bind_some,zam,zaf,if_neg c1,zam,zaf,if_pos c2,zu3 hs hk,Option.bind_some];dsimp only;rw [zam,zaf,if_pos c0,zbK (zxh hs).1,Option.bind_some]),?_⟩
   rw [if_pos c0];rfl
  ·refine ⟨_,zgf (by rw [zdr,zd8 h,Option.bind_some,zam,zaf,if_neg c1,zam,zaf,if_pos c2,zu3 hs hk,Option.bind_some];dsimp only;rw [zam,zaf,if_neg c0,zbK hs,Option.bind_some]),?_⟩
   rw [if_neg c0];rfl
 by_cases c3:j.kind=3
 ·rw [if_neg c1,if_neg c2,if_pos c3]
  refine ⟨_,zgf (by rw [zdr,zd8 h,Option.bind_some,zam,zaf,if_neg c1,zam,zaf,if_neg c2,zam,zaf,if_pos c3,(zAa (l:=(setN n j).store) (key:=j.key) (by have:=hs.store;omega)).2,Option.bind_some];dsimp only;rw [zbK hs,Option.bind_some]),?_⟩
  rfl
 rw [if_neg c1,if_neg c2,if_neg c3]
 by_cases c4:owner.addr=(setN n j).me.addr
 ·rw [if_pos c4]
  refine ⟨_,zgf (by
   rw [zdr,zd8 h,Option.bind_some,zam,zaf,if_neg c1,zam,zaf,if_neg c2,zam,zaf,if_neg c3,zam,zaf,if_pos c4,zyS (by omega),Option.bind_some]
   show (zbI (zeE (setN n j) (drpF j.bit (setN n j).fingers)) j false ⟨#[]⟩ 0).bind _=_
   rw [zbK (zl9 hs (by have:=zw8 j.bit (setN n j).fingers;omega)),Option.bind_some]),?_⟩
  rfl
 ·rw [if_neg c4]
  refine ⟨_,zgf (by
   rw [zdr,zd8 h,Option.bind_some,zam,zaf,if_neg c1,zam,zaf,if_neg c2,zam,zaf,if_neg c3,zam,zaf,if_neg c4,zEl (by omega),Option.bind_some]
   show (zbI (zeE (setN n j) (setF (setN n j).fingers j.bit owner)) j false ⟨#[]⟩ 0).bind _=_
   rw [zbK (zl9 hs (by have:=zvH (setN n j).fingers j.bit owner;omega)),Option.bind_some]),?_⟩
  rfl
theorem zwI {n:Node} {j:Job} {owner:Peer} (h:Sz n) (hf:n.fingers.length ≤ 900) (hk:j.key.size < 1000000):zuK n j owner=some (endN n j owner):=zGp (by
 obtain ⟨z,h1,h2⟩:=zyT (owner:=owner) h hf hk
 have e:(zk8 n j owner).bind (fun r=>match r with
   | .inl (t7,b0,b3)=>some (b3,t7)
   | .inr (.inl (b0,b3,b5))=>some (b3,[])
   | .inr (.inr (.inl (b0,b3)))=>some (b3,[])
   | .inr (.inr (.inr (b0,b3)))=>some (b3,[]))=some (endL (setN n j) j owner):=by
  rw [h1,Option.bind_some,← h2]
  rcases z with ⟨a,b,c⟩ | ⟨a,b,c⟩ | ⟨a,b⟩ | ⟨a,b⟩ <;> rfl
 rw [ztz,zam,zaf,zam,zaf]
 unfold endN
 by_cases c1:owner.addr=n.me.addr
 ·rw [if_pos c1,if_neg (fun hh=>hh.1 c1)];exact e
 ·rw [if_neg c1]
  by_cases c4:j.kind=4
  ·rw [if_pos c4,if_neg (fun hh=>hh.2 c4)];exact e
  ·rw [if_neg c4,if_pos ⟨c1,c4⟩];exact zwH h)
theorem zwS {n:Node} {key:Int} (h:(ze6 n key).2.2=false):∃ x r,(ze6 n key).2.1=x :: r:=by
 unfold ze6 at h ⊢
 split at h
 ·cases h
 ·rename_i f r hf
  try dsimp only
  by_cases c1:key=n.me.id
  ·rw [if_pos c1] at h;cases h
  rw [if_neg c1] at h ⊢
  by_cases c2:upto n.me.id key f.id=true
  ·rw [if_pos c2] at h;cases h
  rw [if_neg c2] at h ⊢
  by_cases c3:zeH n key=true
  ·rw [if_pos c3] at h;cases h
  rw [if_neg c3] at h ⊢
  unfold zra at h ⊢
  by_cases c4:(hops n.me n.list n.fingers key 4).length=0
  ·rw [if_pos c4] at h;cases h
  rw [if_neg c4]
  cases hh:hops n.me n.list n.fingers key 4 with
  | nil=>rw [hh] at c4;exact absurd rfl c4
  | cons x r=>exact ⟨x,r,rfl⟩
theorem zpI {n:Node} {j:Job} (h:Sz n) (ok:NOk n) (hf:n.fingers.length ≤ 900) (hj:JOk j):zkm n j=some (zlf n j):=zEA (by
 rw [zrM,zam,zaf]
 unfold zlf
 by_cases c1:j.kind=1
 ·rw [if_pos c1,if_pos c1];exact zmt (j:=ziR j 0) h
 rw [if_neg c1,if_neg c1,zBT h ok hj.target,Option.bind_some]
 cases hb:(ze6 n j.target).2.2 with
 | true=>
  obtain ⟨⟨o,l,b⟩,hq⟩:∃ z,ze6 n j.target=z:=⟨_,rfl⟩
  rw [hq] at hb ⊢
  dsimp only at hb ⊢
  rw [hb,cond_true,if_pos rfl];exact zwI (j:=ziR j 0) h hf hj.key
 | false=>
  obtain ⟨x,r,hx⟩:=zwS hb
  obtain ⟨⟨o,l,b⟩,hq⟩:∃ z,ze6 n j.target=z:=⟨_,rfl⟩
  rw [hq] at hb hx ⊢
  dsimp only at hb hx ⊢
  rw [hb,cond_false,if_neg (by simp),hx,show (0:Int)=((0:Nat):Int) from rfl,za6]
  exact zmt (j:=ziR j 1) h)
theorem zuE {j:Job} (h:JOk j) (t:Int):JOk (jTry j t):=⟨h.target,h.at_,h.key⟩
theorem zjH {n:Node} {j:Job} {why:Int} (h:Sz n) (ok:NOk n) (hf:n.fingers.length ≤ 900) (hj:JOk j):zkl n j why=some (zd5 n j why):=zEy (by
 have s0:¬ 3 ≤ j.tries → ∃ a,zpH n j=some ((zlf n (jTry j (if j.tries < 0 then 1 else j.tries + 1))).2,a,(zlf n (jTry j (if j.tries < 0 then 1 else j.tries + 1))).1):=fun h3=>by
  by_cases c0:j.tries < 0
  ·refine ⟨_,zso (by
    rw [zj8,zau,zaf,if_pos c0]
    show (zkm n (jTry j 1)).bind _=_
    rw [zpI h ok hf (zuE hj 1),Option.bind_some,if_pos c0])⟩
  ·refine ⟨_,zso (by
    rw [zj8,zau,zaf,if_neg c0,zq5 (a:=j.tries) (b:=1) (by omega) (by omega)]
    show (zkm n (jTry j (j.tries + 1))).bind _=_
    rw [zpI h ok hf (zuE hj _),Option.bind_some,if_neg c0])⟩
 rw [zrL,zam,zaf,zam,zaf,zbH,zaf]
 unfold zd5
 by_cases c1:j.kind=1
 ·rw [if_pos c1,if_pos c1]
  show (zf7 n (jDo j false)).bind _=_
  rw [zd8 h];rfl
 rw [if_neg c1,if_neg c1]
 by_cases c4:j.kind=4
 ·rw [if_pos c4,if_pos (.inl c4),zbK h];rfl
 rw [if_neg c4]
 by_cases c3:3 ≤ j.tries
 ·rw [if_pos c3,if_pos (.inr c3),zbK h];rfl
 ·obtain ⟨a,ha⟩:=s0 c3
  rw [if_neg c3,if_neg (by omega),ha];rfl)
theorem zvc {n:Node} {j:Job} {o:List Out} (h:Sz n):zeO n j o=some (setN n j,n.fingers):=zwZ (by
 rw [zlv,zuZ h];rfl)
theorem ztZ {n:Node} {j:Job} {o:List Out} (h:Sz n):zdP n j o=some (setN n j,n.fingers):=zuU (by
 rw [zju,zuZ h];rfl)
theorem zok {m n:Node} {j:Job} {o more:List Out} (ho:o.length ≤ 1000) (hm:more.length ≤ 1000):zgx m more n j o=some (n.fingers,o ++ more):=zvS (by
 rw [zky,zaI eOut (by omega) (by omega)];rfl)
theorem zy3 {m n:Node} {j:Job} {o more:List Out} (ho:o.length ≤ 1000) (hm:more.length ≤ 1000):zgW m more n j o=some (o ++ more):=zt5 (by
 rw [ziP,zaI eOut (by omega) (by omega)];rfl)
theorem zva {n:Node} {j:Job} {to_:Peer} {m:Msg} {why:Int} {o:List Out} (h:Sz n) (ho:o.length ≤ 900) (hp:m.peers.length ≤ 1000000) (hq:m.pairs.length ≤ 1000000):
  zeN to_ m why n j o=some ((askN (setN n (jAt j to_)) to_ m why j.id).1,jAt j to_,n.fingers,o ++ (askN (setN n (jAt j to_)) to_ m why j.id).2):=zwY (by
 show (zeO n (jAt j to_) o).bind _=_
 rw [zvc h,Option.bind_some]
 try dsimp only
 rw [zmf (zei h _) hp hq,Option.bind_some]
 try dsimp only
 rw [zok (by omega) (by have:=(zkz (to_:=to_) (m:=m) (why:=why) (job:=j.id) (zei h (jAt j to_))).2;omega),Option.bind_some]
 rfl)
theorem zBc {n:Node} {j:Job} {to_:Peer} {m:Msg} {why:Int} {o:List Out} (h:Sz n) (ho:o.length ≤ 900) (hp:m.peers.length ≤ 1000000) (hq:m.pairs.length ≤ 1000000):
  zlp to_ m why n j o=some ((askN (setN n (jAt j to_)) to_ m why j.id).1,jAt j to_,n.fingers,o ++ (askN (setN n (jAt j to_)) to_ m why j.id).2):=zuT (by
 show (zdP n (jAt j to_) o).bind _=_
 rw [ztZ h,Option.bind_some]
 try dsimp only
 rw [zmf (zei h _) hp hq,Option.bind_some]
 try dsimp only
 rw [zok (by omega) (by have:=(zkz (to_:=to_) (m:=m) (why:=why) (job:=j.id) (zei h (jAt j to_))).2;omega),Option.bind_some]
 rfl)
theorem zog {n:Node} {j:Job} {to_:Peer} {o:List Out} (h:Sz n) (ho:o.length ≤ 900):zcF to_ n j o=some ((zhP n j to_).1,jAt j to_,n.fingers,o ++ (zhP n j to_).2):=zvQ (zva h ho (Nat.zero_le _) (Nat.zero_le _))
theorem zy2 {n:Node} {j:Job} {to_:Peer} {o:List Out} (h:Sz n) (ho:o.length ≤ 900):zks to_ n j o=some ((zhP n j to_).1,jAt j to_,n.fingers,o ++ (zhP n j to_).2):=zt2 (zBc h ho (Nat.zero_le _) (Nat.zero_le _))
theorem zu9 {n:Node} {j:Job} {to_:Peer} {o:List Out} (h:Sz n) (ho:o.length ≤ 900):zkc to_ n j o=some ((actN n j to_).1,jAt (jDo j true) to_,n.fingers,o ++ (actN n j to_).2):=zwX (by
 have e:=fun (m:Msg) h1 h2=>zva (n:=n) (j:=jDo j true) (to_:=to_) (m:=m) (why:=5) (o:=o) h ho h1 h2
 rw [zlo,zam,zaf,zam,zaf]
 unfold actN actM
 by_cases c2:j.kind=2
 ·rw [if_pos c2,if_pos c2];exact e _ (Nat.zero_le _) (Nat.zero_le _)
 rw [if_neg c2,if_neg c2]
 by_cases c3:j.kind=3
 ·rw [if_pos c3,if_pos c3];exact e _ (Nat.zero_le _) (Nat.zero_le _)
 ·rw [if_neg c3,if_neg c3];exact e _ (Nat.zero_le _) (Nat.zero_le _))
theorem zcD {n:Node} {j:Job} {has:Bool} {val:ByteArray} {e:Int} {o:List Out} (h:Sz n):zbk has val e n j o=some (zaz n j.id has val e,n.fingers):=zt4 (by
 rw [ziO,zlH h];rfl)
end Go.Ab.Tryz
namespace Go.Ab.Tryz
open Go Go.Ab Go.Proofs Go.Lib
open Pe (dist PeOk EnOk)
theorem zo4 {n:Node} {j:Job} {has:Bool} {val:ByteArray} {e:Int} {o:List Out} (h:Sz n):zdD has val e n j o=some (zaz n j.id has val e):=zrW (zlH h)
theorem zwW {n:Node} {j:Job} {has:Bool} {val:ByteArray} {e:Int} {o:List Out} (h:Sz n):ziN has val e n j o=some (zaz n j.id has val e,n.fingers):=zrX (by
 rw [zgV,zlH h];rfl)
theorem zxL {n:Node} {j:Job} {owner:Peer} {mine:Bool} {o:List Out} (h:Sz n) (hf:n.fingers.length ≤ 900):∃ f,zkr owner mine n j o=some (zaz (zeE n (if mine=true then drpF j.bit n.fingers else setF n.fingers j.bit owner)) j.id false ⟨#[]⟩ 0,f):=by
 cases mine with
 | true=>
  refine ⟨_,zmM (by
   rw [zfj,cond_true,zyi (by omega),Option.bind_some]
   dsimp only
   show zbk false ⟨#[]⟩ 0 (zeE n (drpF j.bit n.fingers)) j o=_
   rw [zcD (zl9 h (by have:=zw8 j.bit n.fingers;omega))];rfl)⟩
 | false=>
  refine ⟨_,zmM (by
   rw [zfj,cond_false,zz6 (by omega),Option.bind_some]
   show (zdD false ⟨#[]⟩ 0 (zeE n (setF n.fingers j.bit owner)) j o).bind _=_
   rw [zo4 (zl9 h (by have:=zvH n.fingers j.bit owner;omega))];rfl)⟩
theorem zBd {n:Node} {j:Job} {o:List Out} (h:Sz n) (ho:o.length ≤ 900) (hk:j.key.size < 1000000):∃ f,zma n j o=some (if (zdg n j.key j.val).2.2=0 then (zaz (zdg n j.key j.val).1 j.id true j.val 0,f,o ++ (zdg n j.key j.val).2.1) else (zaz n j.id false ⟨#[]⟩ (zdg n j.key j.val).2.2,f,o)):=by
 refine ⟨n.fingers,zvR ?_⟩
 rw [zkv,zyW h hk,Option.bind_some]
 obtain ⟨hk1,hk2⟩:=zxh (key:=j.key) (val:=j.val) h
 obtain ⟨⟨a,b,c⟩,hq⟩:∃ z,zdg n j.key j.val=z:=⟨_,rfl⟩
 rw [hq] at hk1 hk2 ⊢
 dsimp only at hk1 hk2 ⊢
 rw [zam,zaf]
 by_cases c0:c=0
 ·rw [if_pos c0,if_pos c0,zok (by omega) (by omega),Option.bind_some]
  dsimp only
  rw [zo4 hk1];rfl
 ·rw [if_neg c0,if_neg c0,zwW h];rfl
theorem zHU (n:Node) (j:Job) (to_:Peer):actN (setN n j) j to_=actN n j to_:=by
 unfold actN;rw [zvI n (show j.id=(jAt (jDo j true) to_).id from rfl)]
theorem zHV (n:Node) (j:Job) (owner:Peer):endN (setN n j) j owner=endN n j owner:=by
 unfold endN
 rw [zHU,zvI n rfl];rfl
theorem zoy {n:Node} {j:Job} (hl:setN n j=n) (owner:Peer):endN n j owner=if owner.addr ≠ n.me.addr ∧ j.kind ≠ 4 then actN n j owner else endL n j owner:=by
 unfold endN;rw [hl]
theorem zvb {n:Node} {j:Job} {owner:Peer} {o:List Out} (h:Sz n) (hf:n.fingers.length ≤ 900) (hl:setN n j=n) (ho:o.length ≤ 900) (hk:j.key.size < 1000000) (h1:1 ≤ j.kind) (h4:j.kind ≤ 4):
  ∃ q f,zhC owner n j o=some ((endN n j owner).1,q,f,o ++ (endN n j owner).2):=by
 have s0:∀ t:Bool,(t=true → j.kind=3 ∧ owner.addr=n.me.addr) → (t=false → owner.addr ≠ n.me.addr ∧ j.kind ≠ 4) → ∃ q f,zgP owner n j o t=some ((endN n j owner).1,q,f,o ++ (endN n j owner).2):=fun t ht hff=>by
  rw [zoy hl]
  cases t with
  | true=>
   obtain ⟨k3,ka⟩:=ht rfl
   rw [if_neg (fun hh=>hh.1 ka)]
   unfold endL
   rw [if_neg (by omega),if_neg (by omega),if_pos k3]
   dsimp only
   rw [List.append_nil]
   exact ⟨_,_,zmL (by
    rw [zfi,cond_true,(zAa (l:=n.store) (key:=j.key) (by have:=h.store;omega)).1,Option.bind_some]
    try dsimp only
    rw [zcD h,Option.bind_some])⟩
  | false=>
   obtain ⟨ka,k4⟩:=hff rfl
   refine ⟨_,_,zmL (by rw [zfi,cond_false,if_pos ⟨ka,k4⟩];exact zu9 h ho)⟩
 have s1:∀ t:Bool,(t=true → j.kind=2 ∧ owner.addr=n.me.addr) → (t=false → j.kind ≠ 4 ∧ (owner.addr=n.me.addr → j.kind=3)) → ∃ q f,zgQ owner n j o (Ops.std.ieq owner.addr n.me.addr) t=some ((endN n j owner).1,q,f,o ++ (endN n j owner).2):=fun t ht hff=>by
  cases t with
  | true=>
   obtain ⟨k2,ka⟩:=ht rfl
   obtain ⟨f,hkp⟩:=zBd (n:=n) (j:=j) (o:=o) h ho hk
   rw [zoy hl,if_neg (fun hh=>hh.1 ka)]
   unfold endL
   rw [if_neg (by omega),if_pos k2]
   by_cases c0:(zdg n j.key j.val).2.2=0
   ·rw [if_pos c0] at hkp ⊢
    exact ⟨_,_,zdu (by rw [zbV,cond_true,hkp];rfl)⟩
   ·rw [if_neg c0] at hkp ⊢
    exact ⟨_,_,zdu (by rw [zbV,cond_true,hkp];simp;exact ⟨rfl,rfl⟩)⟩
  | false=>
   obtain ⟨k4,ka⟩:=hff rfl
   by_cases k3:j.kind=3
   ·by_cases kk:owner.addr=n.me.addr
    ·obtain ⟨q,f,hz⟩:=s0 true (fun _=>⟨k3,kk⟩) (fun hh=>by cases hh)
     exact ⟨q,f,zdu (by rw [zbV,cond_false,zam,zaf,if_pos k3,zam,decide_eq_true kk];exact hz)⟩
    ·obtain ⟨q,f,hz⟩:=s0 false (fun hh=>by cases hh) (fun _=>⟨kk,k4⟩)
     exact ⟨q,f,zdu (by rw [zbV,cond_false,zam,zaf,if_pos k3,zam,decide_eq_false kk];exact hz)⟩
   ·obtain ⟨q,f,hz⟩:=s0 false (fun hh=>by cases hh) (fun _=>⟨fun hh=>k3 (ka hh),k4⟩)
    exact ⟨q,f,zdu (by rw [zbV,cond_false,zam,zaf,if_neg k3];exact hz)⟩
 have s2:∀ t:Bool,(t=true → j.kind=1 ∧ owner.addr=n.me.addr) → (t=false → (j.kind=1 → owner.addr ≠ n.me.addr)) → ∃ q f,zgR owner n j o t=some ((endN n j owner).1,q,f,o ++ (endN n j owner).2):=fun t ht hff=>by
  cases t with
  | true=>
   obtain ⟨k1,ka⟩:=ht rfl
   refine ⟨_,_,zdw (by
    rw [zbW,cond_true,zoy hl,if_neg (fun hh=>hh.1 ka)]
    unfold endL
    rw [if_pos k1];exact zu9 h ho)⟩
  | false=>
   have hn:=hff rfl
   by_cases k4:j.kind=4
   ·obtain ⟨f,hfi⟩:=zxL (n:=n) (j:=j) (owner:=owner) (mine:=Ops.std.ieq owner.addr n.me.addr) (o:=o) h hf
    have e:endN n j owner=(zaz (zeE n (if Ops.std.ieq owner.addr n.me.addr=true then drpF j.bit n.fingers else setF n.fingers j.bit owner)) j.id false ⟨#[]⟩ 0,[]):=by
     rw [zoy hl,if_neg (fun hh:owner.addr ≠ n.me.addr ∧ j.kind ≠ 4=>hh.2 k4)]
     unfold endL
     rw [if_neg (show ¬ j.kind=1 by omega),if_neg (show ¬ j.kind=2 by omega),if_neg (show ¬ j.kind=3 by omega),zam]
     by_cases ka:owner.addr=n.me.addr
     ·rw [if_pos ka,if_pos (decide_eq_true ka)]
     ·rw [if_neg ka,if_neg (by simpa using ka)]
    refine ⟨j,f,zdw ?_⟩
    rw [zbW,cond_false,show Ops.std.ieq j.kind 4=true from decide_eq_true k4,cond_true,hfi,Option.bind_some,e]
    simp
   ·by_cases k2:j.kind=2
    ·by_cases kk:owner.addr=n.me.addr
     ·obtain ⟨q,f,hz⟩:=s1 true (fun _=>⟨k2,kk⟩) (fun hh=>by cases hh)
      refine ⟨q,f,zdw ?_⟩
      rw [zbW,cond_false,zam,zaf,if_neg k4,zam,zaf,if_pos k2]
      rw [show Ops.std.ieq owner.addr n.me.addr=true from decide_eq_true kk] at hz ⊢
      exact hz
     ·obtain ⟨q,f,hz⟩:=s1 false (fun hh=>by cases hh) (fun _=>⟨k4,fun hh=>absurd hh kk⟩)
      refine ⟨q,f,zdw ?_⟩
      rw [zbW,cond_false,zam,zaf,if_neg k4,zam,zaf,if_pos k2]
      rw [show Ops.std.ieq owner.addr n.me.addr=false from decide_eq_false kk] at hz ⊢
      exact hz
    ·obtain ⟨q,f,hz⟩:=s1 false (fun hh=>by cases hh) (fun _=>⟨k4,fun hh=>by
      by_cases k1:j.kind=1
      ·exact absurd hh (hn k1)
      ·omega⟩)
     refine ⟨q,f,zdw ?_⟩
     rw [zbW,cond_false,zam,zaf,if_neg k4,zam,zaf,if_neg k2]
     exact hz
 by_cases k1:j.kind=1
 ·by_cases kk:owner.addr=n.me.addr
  ·obtain ⟨q,f,hz⟩:=s2 true (fun _=>⟨k1,kk⟩) (fun hh=>by cases hh)
   exact ⟨q,f,zls (by rw [zfh,zam,zaf,if_pos k1,zam,decide_eq_true kk];exact hz)⟩
  ·obtain ⟨q,f,hz⟩:=s2 false (fun hh=>by cases hh) (fun _ _=>kk)
   exact ⟨q,f,zls (by rw [zfh,zam,zaf,if_pos k1,zam,decide_eq_false kk];exact hz)⟩
 ·obtain ⟨q,f,hz⟩:=s2 false (fun hh=>by cases hh) (fun _ hh=>absurd hh k1)
  exact ⟨q,f,zls (by rw [zfh,zam,zaf,if_neg k1];exact hz)⟩
theorem zoj {n:Node} {j:Job} {o:List Out} (h:Sz n) (ok:NOk n) (hf:n.fingers.length ≤ 900) (hj:JOk j) (ho:o.length ≤ 900) (h1:1 ≤ j.kind) (h4:j.kind ≤ 4):
  ∃ q f,zda n j o=some ((zlf n j).1,q,f,o ++ (zlf n j).2):=by
 unfold zlf
 by_cases c1:j.kind=1
 ·rw [if_pos c1]
  exact ⟨_,_,zkx (by rw [zew,zam,zaf,if_pos c1];exact zog (j:=ziR j 0) h ho)⟩
 rw [if_neg c1]
 cases hb:(ze6 n j.target).2.2 with
 | true=>
  rw [if_pos rfl]
  obtain ⟨q,f,he⟩:=zvb (n:=setN n (ziR j 0)) (j:=ziR j 0) (owner:=(ze6 n j.target).1) (o:=o) (zei h _) hf (zvI n rfl) ho hj.key h1 h4
  rw [zHV] at he
  refine ⟨q,n.fingers,zkx ?_⟩
  rw [zew,zam,zaf,if_neg c1,zsp h ok,Option.bind_some]
  obtain ⟨⟨ow,l,b⟩,hq⟩:∃ z,ze6 n j.target=z:=⟨_,rfl⟩
  rw [hq] at hb he ⊢
  dsimp only at hb he ⊢
  rw [hb,cond_true]
  show (zdP n (ziR j 0) o).bind _=_
  rw [ztZ h,Option.bind_some]
  show (zhC ow (setN n (ziR j 0)) (ziR j 0) o).bind _=_
  rw [he];rfl
 | false=>
  rw [if_neg (by simp)]
  obtain ⟨x,r,hx⟩:=zwS hb
  rw [hx]
  refine ⟨_,_,zkx (by
   rw [zew,zam,zaf,if_neg c1,zsp h ok,Option.bind_some]
   obtain ⟨⟨ow,l,b⟩,hq⟩:∃ z,ze6 n j.target=z:=⟨_,rfl⟩
   rw [hq] at hb hx ⊢
   dsimp only at hb hx ⊢
   rw [hb,cond_false,hx,show (0:Int)=((0:Nat):Int) from rfl,za6]
   exact zy2 (j:=ziR j 1) h ho)⟩
def prF (o:List Out):zgS → Node × List Out
 | .inl (n,_,_)=>(n,o)
 | .inr (n,_,_,r)=>(n,r)
theorem ziF {n:Node} {j:Job} {why:Int} {o:List Out} (h:Sz n) (ok:NOk n) (hf:n.fingers.length ≤ 900) (hj:JOk j) (ho:o.length ≤ 900) (h1:1 ≤ j.kind) (h4:j.kind ≤ 4):
  ∃ z,zcE why n j o=some z ∧ prF o z=((zd5 n j why).1,o ++ (zd5 n j why).2):=by
 unfold zd5
 by_cases c1:j.kind=1
 ·rw [if_pos c1]
  refine ⟨_,zeu (by
   rw [zcq,zam,zaf,if_pos c1]
   show (zeO n (jDo j false) o).bind _=_
   rw [zvc h,Option.bind_some]),?_⟩
  simp [prF]
 rw [if_neg c1]
 by_cases c4:j.kind=4
 ·rw [if_pos (.inl c4)]
  refine ⟨_,zeu (by rw [zcq,zam,zaf,if_neg c1,zam,zaf,if_pos c4,zcD h,Option.bind_some]),?_⟩
  simp [prF]
 by_cases c3:3 ≤ j.tries
 ·rw [if_pos (.inr c3)]
  refine ⟨_,zeu (by rw [zcq,zam,zaf,if_neg c1,zam,zaf,if_neg c4,zbH,zaf,if_pos c3,zcD h,Option.bind_some]),?_⟩
  simp [prF]
 rw [if_neg (by omega)]
 by_cases c0:j.tries < 0
 ·obtain ⟨q,f,hs⟩:=zoj (n:=n) (j:=jTry j 1) (o:=o) h ok hf (zuE hj _) ho h1 h4
  rw [if_pos c0]
  refine ⟨_,zeu (by
   rw [zcq,zam,zaf,if_neg c1,zam,zaf,if_neg c4,zbH,zaf,if_neg c3,zau,zaf,if_pos c0]
   show (zda n (jTry j 1) o).bind _=_
   rw [hs,Option.bind_some]),rfl⟩
 ·obtain ⟨q,f,hs⟩:=zoj (n:=n) (j:=jTry j (j.tries + 1)) (o:=o) h ok hf (zuE hj _) ho h1 h4
  rw [if_neg c0]
  refine ⟨_,zeu (by
   rw [zcq,zam,zaf,if_neg c1,zam,zaf,if_neg c4,zbH,zaf,if_neg c3,zau,zaf,if_neg c0,zq5 (a:=j.tries) (b:=1) (by omega) (by omega)]
   show (zda n (jTry j (j.tries + 1)) o).bind _=_
   rw [hs,Option.bind_some]),rfl⟩
end Go.Ab.Tryz
namespace Go.Ab.Tryz
open Go Go.Ab Go.Proofs Go.Lib
open Pe (dist PeOk EnOk)
def zeD (n:Node) (id:Int):Option Job:=match n.jobs.find? (isJ id) with
 | none=>none
 | some x=>if 1 ≤ x.kind ∧ x.kind ≤ 4 then some x else none
theorem ze9 {n:Node} {id:Int} {x:Job} (h:zeD n id=some x):x ∈ n.jobs ∧ x.id=id ∧ 1 ≤ x.kind ∧ x.kind ≤ 4 ∧ setN n x=n:=by
 unfold zeD at h
 rcases zjx n.jobs id with ⟨h1,h2,h3⟩ | ⟨k,y,h1,h2,h3,h4,h5,h6⟩
 ·rw [h3] at h;cases h
 ·rw [h5] at h
  dsimp only at h
  split at h
  ·rename_i hk
   cases h
   refine ⟨List.mem_of_getElem? h3,h6,hk.1,hk.2,?_⟩
   show zvN n (setJ n.jobs x)=n
   rw [zGx (n:=k) (by rw [h6];exact h2) h3];rfl
  ·cases h
theorem zns {n:Node} {id:Int} (h:Sz n):znw n id=some (match zeD n id with | some x=>(true,n,x,[]) | none=>(false,n,⟨0,0,0,⟨#[]⟩,⟨#[]⟩,0,⟨0,0⟩,⟨0,0⟩,false,0,0,0⟩,[])):=zGI (by
 have hj:=h.jobs
 rw [zt0,zeq h,Option.bind_some]
 dsimp only
 rw [znN (by omega),Option.bind_some,zau,zaf]
 unfold zeD
 rcases zjx n.jobs id with ⟨h1,h2,h3⟩ | ⟨k,x,h1,h2,h3,h4,h5,h6⟩
 ·rw [h1,if_pos (by omega),h3]
 ·rw [h1,if_neg (by omega),h5,za6,h3,Option.bind_some,zau,zaf,zau,zaf]
  dsimp only
  by_cases c1:x.kind < 1
  ·rw [if_pos c1,if_neg (by omega)]
  ·by_cases c4:4 < x.kind
   ·rw [if_neg c1,if_pos c4,if_neg (by omega)]
   ·rw [if_neg c1,if_neg c4,if_pos (by omega)]
    have e:∀ (a b:List Entry) (c:List Pair) (d:List Pend) (f:List Job) (g:List Result),znt n (k:Int) a b c d f g n=some (a,b,c,d,f,g,n,x):=fun a b c d f g=>zBf (by
     rw [zoi,za6,h3];rfl)
    show (znt n (k:Int) n.pred n.list n.store n.pends n.jobs n.results n).bind _=_
    rw [e];rfl)
theorem zla {n:Node} {id:Int} (h:Sz n):∃ k:Int,zkJ n id=some k ∧ (match zeD n id with | some x=>0 ≤ k ∧ xget eJob n.jobs k=some x | none=>k < 0):=by
 have hj:=h.jobs
 unfold zeD
 rcases zjx n.jobs id with ⟨h1,h2,h3⟩ | ⟨k,x,h1,h2,h3,h4,h5,h6⟩
 ·rw [h3]
  exact ⟨-1,zpJ (by rw [zjI,zjD (by omega),Option.bind_some,h1];rfl),by omega⟩
 ·rw [h5]
  dsimp only
  by_cases c:1 ≤ x.kind ∧ x.kind ≤ 4
  ·rw [if_pos c]
   refine ⟨(k:Int),zpJ (by
    rw [zjI,zjD (by omega),Option.bind_some,h1,zbH,zaf,if_pos (by omega),za6,h3,Option.bind_some,zau,zaf,if_neg (by omega),zau,zaf,if_neg (by omega)]),by omega,by rw [za6,h3]⟩
  ·rw [if_neg c]
   refine ⟨-1,zpJ (by
    rw [zjI,zjD (by omega),Option.bind_some,h1,zbH,zaf,if_pos (by omega),za6,h3,Option.bind_some,zau,zaf,zau,zaf]
    by_cases c1:x.kind < 1
    ·rw [if_pos c1]
    ·rw [if_neg c1,if_pos (by omega)]),by show (-1:Int) < 0;omega⟩
def zrQ (n:Node) (id:Int):Node × List Out:=match zeD n id with | some x=>zlf n x | none=>(n,[])
def zq1 (n:Node) (id why:Int):Node × List Out:=match zeD n id with | some x=>zd5 n x why | none=>(n,[])
def zqp (n:Node) (x:Job) (m:Msg):Node × List Out:=
 if m.kind=12 then zd5 n x (Ops.std.iwrap .i64 m.code) else
 if m.kind=2 then (if m.has=true then (match m.peers with | []=>(n,[]) | p :: _=>endN n x p) else zoH n x m.peers) else (n,[])
def znK (n:Node) (id:Int) (m:Msg):Node × List Out:=match zeD n id with
 | some x=>if x.doing=true then (n,[]) else zqp n x m
 | none=>(n,[])
def zmd (n:Node) (x:Job):Node × List Out:=
 askN ⟨(zaz n x.id false ⟨#[]⟩ 0).me,(zaz n x.id false ⟨#[]⟩ 0).clock,true,(zaz n x.id false ⟨#[]⟩ 0).pred,Pe.add (zaz n x.id false ⟨#[]⟩ 0).me (zaz n x.id false ⟨#[]⟩ 0).list x.at_,(zaz n x.id false ⟨#[]⟩ 0).fingers,(zaz n x.id false ⟨#[]⟩ 0).store,(zaz n x.id false ⟨#[]⟩ 0).pends,(zaz n x.id false ⟨#[]⟩ 0).jobs,(zaz n x.id false ⟨#[]⟩ 0).results,(zaz n x.id false ⟨#[]⟩ 0).rid,(zaz n x.id false ⟨#[]⟩ 0).jobID,(zaz n x.id false ⟨#[]⟩ 0).nextBit⟩ x.at_ ⟨5,0,0,false,0,⟨#[]⟩,⟨#[]⟩,(zaz n x.id false ⟨#[]⟩ 0).me,[],[]⟩ 2 0
def zuA (n:Node) (x:Job) (m:Msg):Node × List Out:=
 if m.kind=12 then zd5 n x (Ops.std.iwrap .i64 m.code) else
 if m.kind=4 ∧ x.kind=1 then zmd n x else
 if m.kind=6 ∧ x.kind=2 then (zaz n x.id true x.val 0,[]) else
 if m.kind=9 ∧ x.kind=3 then (zaz n x.id m.has m.val 0,[]) else (n,[])
def zqX (n:Node) (id:Int) (m:Msg):Node × List Out:=match zeD n id with
 | some x=>if x.doing=true then zuA n x m else (n,[])
 | none=>(n,[])
def JsOk (n:Node):Prop:=∀ j,j ∈ n.jobs → JOk j
theorem zBX {n:Node} {id:Int} (h:Sz n) (ok:NOk n) (hf:n.fingers.length ≤ 900) (hj:JsOk n):zvB n id=some (zrQ n id):=zEx (by
 obtain ⟨k,hk,hx⟩:=zla (id:=id) h
 rw [zrK,hk,Option.bind_some,zau,zaf]
 unfold zrQ
 cases ht:zeD n id with
 | none=>rw [ht] at hx;rw [if_pos hx]
 | some x=>
  rw [ht] at hx
  rw [if_neg (by omega),hx.2,Option.bind_some]
  exact zpI h ok hf (hj x (ze9 ht).1))
theorem zyR {n:Node} {id why:Int} (h:Sz n) (ok:NOk n) (hf:n.fingers.length ≤ 900) (hj:JsOk n):zrJ n id why=some (zq1 n id why):=zAI (by
 obtain ⟨k,hk,hx⟩:=zla (id:=id) h
 rw [zn2,hk,Option.bind_some,zau,zaf]
 unfold zq1
 cases ht:zeD n id with
 | none=>rw [ht] at hx;rw [if_pos hx]
 | some x=>
  rw [ht] at hx
  rw [if_neg (by omega),hx.2,Option.bind_some]
  exact zjH h ok hf (hj x (ze9 ht).1))
theorem zbL {n:Node} {j:Job} {o:List Out}:zaY n j o=some (n.me.id,n.me.addr,n.clock,n.joined,n.pred,n.list,n.store,n.pends,n.jobs,n.results,n.rid,n.jobID,n.nextBit):=zvP rfl
theorem zeM {n:Node} {j:Job} {o:List Out}:zbe n j o=some n:=zt1 rfl
theorem zBb {n:Node} {id:Int} (h:Sz n) (ok:NOk n) (hf:n.fingers.length ≤ 900) (hj:JsOk n):ztY n id=some (zrQ n id):=zCg (by
 rw [zpW,zns h,Option.bind_some]
 unfold zrQ
 cases ht:zeD n id with
 | none=>dsimp only;rw [cond_false,zbL];rfl
 | some x=>
  obtain ⟨t1,t2,t3,t4,t5⟩:=ze9 ht
  obtain ⟨q,f,hs⟩:=zoj (n:=n) (j:=x) (o:=[]) h ok hf (hj x t1) (by simp) t3 t4
  dsimp only
  rw [cond_true,hs,Option.bind_some]
  dsimp only
  rw [zeM,Option.bind_some,List.nil_append])
theorem zxK {n:Node} {id why:Int} (h:Sz n) (ok:NOk n) (hf:n.fingers.length ≤ 900) (hj:JsOk n):zpV n id why=some (zq1 n id why):=zy0 (by
 rw [znc,zns h,Option.bind_some]
 unfold zq1
 cases ht:zeD n id with
 | none=>dsimp only;rw [cond_false,zbL];rfl
 | some x=>
  obtain ⟨t1,t2,t3,t4,t5⟩:=ze9 ht
  obtain ⟨z,hz,hp⟩:=ziF (n:=n) (j:=x) (why:=why) (o:=[]) h ok hf (hj x t1) (by simp) t3 t4
  dsimp only
  rw [cond_true,hz,Option.bind_some]
  rw [List.nil_append] at hp
  rw [← show (zd5 n x why)=((zd5 n x why).1,(zd5 n x why).2) from rfl] at hp
  rw [← hp]
  rcases z with ⟨a,b,c⟩ | ⟨a,b,c,d⟩
  ·dsimp only;rw [zbL];rfl
  ·dsimp only;rw [zeM];rfl)
end Go.Ab.Tryz
namespace Go.Ab.Tryz
open Go Go.Ab Go.Proofs Go.Lib
open Pe (dist PeOk EnOk)
def hopN (n:Node) (j:Job) (p:Peer):Node × List Out:=if j.hops < 64 then zhP n (jHop j (if j.hops < 0 then 1 else j.hops + 1)) p else if j.kind=1 then zd5 n j 19 else (zaz n j.id false ⟨#[]⟩ 19,[])
theorem zx5 (n:Node) (j:Job) (l:List Peer):zoH n j l=match l.find? (near n j) with | none=>zd5 n j 15 | some p=>hopN n j p:=rfl
def prS:zi4 → Node × List Out
 | .inl (o,n,_)=>(n,o)
 | .inr (n,_)=>(n,[])
theorem zwG {n:Node} {id:Int} {m:Msg} {j:Job} {a b:Int} (h:Sz n) (ok:NOk n) (hf:n.fingers.length ≤ 900) (hj:JOk j):∃ z,zn3 n id m j a b=some z ∧ prS z=hopN n j ⟨a,b⟩:=by
 unfold hopN
 by_cases c:j.hops < 64
 ·rw [if_pos c]
  have c':¬ 63 < j.hops:=by omega
  by_cases c0:j.hops < 0
  ·rw [if_pos c0]
   have e:zga n id m j a b=some (.inr ((zhP n (jHop j 1) ⟨a,b⟩).2,(zhP n (jHop j 1) ⟨a,b⟩).1,jHop j 1,a,b)):=zlZ (by
    rw [zgb,zau,zaf,if_neg c',zau,zaf,if_pos c0]
    show (ziw n (jHop j 1) ⟨a,b⟩).bind _=_
    rw [zmt h];rfl)
   exact ⟨_,zi5 (by rw [zeh,zau,zaf,if_neg c',e,Option.bind_some]),rfl⟩
  ·rw [if_neg c0]
   have e:zga n id m j a b=some (.inr ((zhP n (jHop j (j.hops + 1)) ⟨a,b⟩).2,(zhP n (jHop j (j.hops + 1)) ⟨a,b⟩).1,jHop j (j.hops + 1),a,b)):=zlZ (by
    rw [zgb,zau,zaf,if_neg c',zau,zaf,if_neg c0,zq5 (a:=j.hops) (b:=1) (by omega) (by omega)]
    show (ziw n (jHop j (j.hops + 1)) ⟨a,b⟩).bind _=_
    rw [zmt h];rfl)
   exact ⟨_,zi5 (by rw [zeh,zau,zaf,if_neg c',e,Option.bind_some]),rfl⟩
 ·rw [if_neg c]
  have c':63 < j.hops:=by omega
  by_cases k1:j.kind=1
  ·rw [if_pos k1]
   exact ⟨_,zi5 (by rw [zeh,zau,zaf,if_pos c',zam,zaf,if_pos k1,zjH h ok hf hj,Option.bind_some]),rfl⟩
  ·rw [if_neg k1]
   have e:zga n id m j a b=some (.inl (zaz n j.id false ⟨#[]⟩ 19,j,a,b)):=zlZ (by
    rw [zgb,zau,zaf,if_pos c',zbK h];rfl)
   exact ⟨_,zi5 (by rw [zeh,zau,zaf,if_pos c',zam,zaf,if_neg k1,e,Option.bind_some]),rfl⟩
def prL:zi2 → (Node × List Out) ⊕ Job
 | .inl (o,n,_)=>.inl (n,o)
 | .inr (.inl (n,_))=>.inl (n,[])
 | .inr (.inr j)=>.inr j
theorem zwF {n:Node} {id:Int} {m:Msg} {j:Job} (h:Sz n) (ok:NOk n) (hf:n.fingers.length ≤ 900) (hj:JOk j) (hl:m.peers.length ≤ 1000000) (hp:∀ p,p ∈ m.peers → PeOk p):
  ∃ z,zcQ n id m 0 j=some z ∧ prL z=match m.peers.find? (near n j) with | none=>.inr j | some p=>.inl (hopN n j p):=by
 have key:=zbb (σ:=Unit) zah (l:=m.peers) (by omega) (L:=fun i _=>(zcQ n id m i j).map prL) (res:=fun _ _ rest=>match rest.find? (near n j) with | none=>.inr j | some p=>.inl (hopN n j p)) (Inv:=fun _ _=>True)
  (fun _ _ hh=>by
   have e:zcQ n id m (m.peers.length:Int) j=some (.inr (.inr j)):=zi3 (by rw [zeg,hh];rfl)
   rw [e];rfl)
  (fun k x rest s _ hk hx hd h1 h2 h3 ih=>by
   have hxo:=hp x (List.mem_of_getElem? hx)
   have nxt:near n j x=false → Ops.std.ieq x.addr n.me.addr=true ∨ (Ops.std.ieq x.addr n.me.addr=false ∧ btw j.at_.id x.id j.target=false):=fun hn=>by
    unfold near at hn
    rw [zam]
    by_cases ca:x.addr=n.me.addr
    ·exact .inl (decide_eq_true ca)
    ·exact .inr ⟨decide_eq_false ca,by simpa [ca] using hn⟩
   rw [List.find?_cons]
   cases hn:near n j x with
   | true=>
    have hn':¬ x.addr=n.me.addr ∧ btw j.at_.id x.id j.target=true:=by simpa [near] using hn
    obtain ⟨z,hz,hz2⟩:=zwG (id:=id) (m:=m) (a:=x.id) (b:=x.addr) h ok hf hj
    have e:∃ w,zcQ n id m (k:Int) j=some w ∧ prL w=.inl (prS z):=by
     rcases z with ⟨o,a,b⟩ | ⟨a,b⟩
     ·exact ⟨_,zi3 (by rw [zeg,h1,cond_true,h2,Option.bind_some,zam,decide_eq_false hn'.1,cond_false,ziV hj.at_ hxo hj.target,Option.bind_some,hn'.2,cond_true,hz,Option.bind_some]),rfl⟩
     ·exact ⟨_,zi3 (by rw [zeg,h1,cond_true,h2,Option.bind_some,zam,decide_eq_false hn'.1,cond_false,ziV hj.at_ hxo hj.target,Option.bind_some,hn'.2,cond_true,hz,Option.bind_some]),rfl⟩
    obtain ⟨w,hw,hw2⟩:=e
    rw [hw,Option.map_some,hw2,hz2]
   | false=>
    have h4:=ih () trivial
    obtain ⟨w,hw,hw2⟩:=Option.map_eq_some_iff.1 h4
    have e:zcQ n id m (k:Int) j=some w:=zi3 (by
     rw [zeg,h1,cond_true,h2,Option.bind_some,h3]
     rcases nxt hn with c | ⟨c1,c2⟩
     ·rw [c,cond_true];exact hw
     ·rw [c1,cond_false,ziV hj.at_ hxo hj.target,Option.bind_some,c2,cond_false];exact hw)
    rw [e,Option.map_some,hw2]) () trivial
 exact Option.map_eq_some_iff.1 key
def prG (n:Node):zi6 → Node × List Out
 | .inl (o,_,b)=>(b,o)
 | .inr (.inl _)=>(n,[])
 | .inr (.inr (b,_))=>(b,[])
theorem zAJ {n:Node} {id:Int} {m:Msg} (h:Sz n) (ok:NOk n) (hf:n.fingers.length ≤ 900) (hj:JsOk n) (hl:m.peers.length ≤ 1000000) (hp:∀ p,p ∈ m.peers → PeOk p):ztw n id m=some (znK n id m):=zBW (by
 obtain ⟨k,hk,hx⟩:=zla (id:=id) h
 rw [zpG,hk,Option.bind_some,zau,zaf]
 unfold znK
 cases ht:zeD n id with
 | none=>rw [ht] at hx;rw [if_pos hx]
 | some x=>
  rw [ht] at hx
  rw [if_neg (by omega),hx.2,Option.bind_some]
  dsimp only
  cases hd:x.doing with
  | true=>rfl
  | false=>
   have xo:=hj x (ze9 ht).1
   have s3:∃ z,zn4 n id m k=some z ∧ prG n z=zqp n x m:=by
    unfold zqp
    by_cases k12:m.kind=12
    ·rw [if_pos k12]
     exact ⟨_,zc7 (by rw [zb3,hx.2,Option.bind_some,zam,zaf,if_pos k12,zjH h ok hf xo,Option.bind_some]),rfl⟩
    rw [if_neg k12]
    by_cases k2:m.kind=2
    ·rw [if_pos k2]
     cases hh:m.has with
     | true=>
      rw [if_pos rfl]
      cases hpe:m.peers with
      | nil=>exact ⟨_,zc7 (by rw [zb3,hx.2,Option.bind_some,zam,zaf,if_neg k12,zam,zaf,if_pos k2,hh,cond_true,hpe,zaE];rfl),rfl⟩
      | cons p r=>
       have e0:xget zah (p :: r) 0=some p:=by rw [show (0:Int)=((0:Nat):Int) from rfl,za6];rfl
       exact ⟨_,zc7 (by rw [zb3,hx.2,Option.bind_some,zam,zaf,if_neg k12,zam,zaf,if_pos k2,hh,cond_true,hpe,zaE,ieqF (by simp only [List.length_cons];omega),cond_false,e0,Option.bind_some,zwI h hf xo.key,Option.bind_some]),rfl⟩
     | false=>
      rw [if_neg (by simp),zx5]
      obtain ⟨z,hz,hz2⟩:=zwF (id:=id) (m:=m) h ok hf xo hl hp
      cases hfi:m.peers.find? (near n x) with
      | none=>
       rw [hfi] at hz2
       have:z=.inr (.inr x):=by
        rcases z with ⟨o,a,b⟩ | ⟨a,b⟩ | a
        ·cases hz2
        ·cases hz2
        ·cases hz2;rfl
       subst this
       exact ⟨_,zc7 (by rw [zb3,hx.2,Option.bind_some,zam,zaf,if_neg k12,zam,zaf,if_pos k2,hh,cond_false,hz,Option.bind_some];dsimp only;rw [zjH h ok hf xo,Option.bind_some]),rfl⟩
      | some p=>
       rw [hfi] at hz2
       rcases z with ⟨o,a,b⟩ | ⟨a,b1,b2,b3⟩ | a
       ·refine ⟨.inl (o,false,a),zc7 (by rw [zb3,hx.2,Option.bind_some,zam,zaf,if_neg k12,zam,zaf,if_pos k2,hh,cond_false,hz,Option.bind_some]),?_⟩
        exact Sum.inl.inj (show (Sum.inl (a,o):(Node × List Out) ⊕ Job)=Sum.inl (hopN n x p) from hz2)
       ·refine ⟨.inr (.inr (a,b1,b2,b3)),zc7 (by rw [zb3,hx.2,Option.bind_some,zam,zaf,if_neg k12,zam,zaf,if_pos k2,hh,cond_false,hz,Option.bind_some]),?_⟩
        exact Sum.inl.inj (show (Sum.inl (a,[]):(Node × List Out) ⊕ Job)=Sum.inl (hopN n x p) from hz2)
       ·cases hz2
    ·rw [if_neg k2]
     exact ⟨_,zc7 (by rw [zb3,hx.2,Option.bind_some,zam,zaf,if_neg k12,zam,zaf,if_neg k2]),rfl⟩
   obtain ⟨z,hz,hz2⟩:=s3
   rw [cond_false,hz,Option.bind_some,if_neg (by simp),← hz2]
   rcases z with ⟨o,a,b⟩ | ⟨a,b⟩ | ⟨a,b⟩ <;> rfl)
def prD:zj6 → Node × List Out
 | .inl (o,_,b)=>(b,o)
 | .inr (b,_)=>(b,[])
theorem zuF {n:Node} {x:Job} (h:Sz n) (hl:n.list.length ≤ 900) (p:Peer) (b:Bool):Sz (⟨(zaz n x.id false ⟨#[]⟩ 0).me,(zaz n x.id false ⟨#[]⟩ 0).clock,b,(zaz n x.id false ⟨#[]⟩ 0).pred,Pe.add (zaz n x.id false ⟨#[]⟩ 0).me (zaz n x.id false ⟨#[]⟩ 0).list p,(zaz n x.id false ⟨#[]⟩ 0).fingers,(zaz n x.id false ⟨#[]⟩ 0).store,(zaz n x.id false ⟨#[]⟩ 0).pends,(zaz n x.id false ⟨#[]⟩ 0).jobs,(zaz n x.id false ⟨#[]⟩ 0).results,(zaz n x.id false ⟨#[]⟩ 0).rid,(zaz n x.id false ⟨#[]⟩ 0).jobID,(zaz n x.id false ⟨#[]⟩ 0).nextBit⟩:Node):=by
 have hs:=zed h x.id false ⟨#[]⟩ 0
 have e:(zaz n x.id false ⟨#[]⟩ 0).list=n.list:=by unfold zaz;split <;> rfl
 exact ⟨hs.pred,by show (Pe.add _ _ _).length ≤ 1000;have:=Pe.add_le (zaz n x.id false ⟨#[]⟩ 0).me p (zaz n x.id false ⟨#[]⟩ 0).list;rw [e] at this ⊢;omega,hs.fingers,hs.store,hs.pends,hs.jobs,hs.results⟩
theorem zpM (n:Node) (id:Int) (has:Bool) (val:ByteArray) (e:Int):(zaz n id has val e).me=n.me ∧ (zaz n id has val e).list=n.list ∧ (zaz n id has val e).fingers=n.fingers ∧ (zaz n id has val e).pred=n.pred:=by
 unfold zaz;split <;> exact ⟨rfl,rfl,rfl,rfl⟩
theorem zBK {n:Node} {x:Job} (h:Sz n) (ok:NOk n) (hli:n.list.length ≤ 900) (xo:JOk x):zuI (zaz n x.id false ⟨#[]⟩ 0).me (zaz n x.id false ⟨#[]⟩ 0).list x.at_=some (Pe.add (zaz n x.id false ⟨#[]⟩ 0).me (zaz n x.id false ⟨#[]⟩ 0).list x.at_):=by
 obtain ⟨e1,e2,e3,e4⟩:=zpM n x.id false ⟨#[]⟩ 0
 rw [e1,e2]
 exact Pe.r27_Add_eq hli ok.me xo.at_ ok.list
theorem zBV {n:Node} {id:Int} {m:Msg} (h:Sz n) (ok:NOk n) (hf:n.fingers.length ≤ 900) (hli:n.list.length ≤ 900) (hj:JsOk n):zvA n id m=some (zqX n id m):=zEw (by
 obtain ⟨k,hk,hx⟩:=zla (id:=id) h
 rw [zrI,hk,Option.bind_some,zau,zaf]
 unfold zqX
 cases ht:zeD n id with
 | none=>rw [ht] at hx;rw [if_pos hx]
 | some x=>
  rw [ht] at hx
  rw [if_neg (by omega),hx.2,Option.bind_some]
  dsimp only
  cases hd:x.doing with
  | false=>rfl
  | true=>
   have xo:=hj x (ze9 ht).1
   have d2:∃ a,zjG n id m x=some (if m.kind=6 ∧ x.kind=2 then zaz n x.id true x.val 0 else if m.kind=9 ∧ x.kind=3 then zaz n x.id m.has m.val 0 else n,a):=by
    have d1:zms n id m x=some (if m.kind=9 ∧ x.kind=3 then zaz n x.id m.has m.val 0 else n,x):=zyP (by
     rw [zm8,zam,zaf,zam,zaf,zbK h]
     by_cases a:m.kind=9 <;> by_cases b:x.kind=3 <;> simp [a,b])
    refine ⟨x,zyQ ?_⟩
    rw [zm9,zam,zaf,zam,zaf,zbK h,d1]
    by_cases a:m.kind=6 <;> by_cases b:x.kind=2 <;> simp [a,b]
   obtain ⟨da,d2⟩:=d2
   have d0:∀ t:Bool,∃ z,zjF n id m t x=some z ∧ (t=true → ∃ a b,z=.inl ((zmd n x).2,a,(zmd n x).1,b)) ∧ (t=false → z=.inr x):=fun t=>by
    cases t with
    | false=>exact ⟨_,zsn (by rw [zj5,cond_false]),by simp,fun _=>rfl⟩
    | true=>
     obtain ⟨e1,e2,e3,e4⟩:=zpM n x.id false ⟨#[]⟩ 0
     refine ⟨_,zsn (by
      rw [zj5,cond_true,zbK h,Option.bind_some,zBK h ok hli xo,Option.bind_some,zk4 (zuF h hli x.at_ true),Option.bind_some];rfl),fun _=>⟨_,_,rfl⟩,by simp⟩
   have s3:∃ z,zpF n id m k=some z ∧ prD z=zuA n x m:=by
    unfold zuA
    by_cases k12:m.kind=12
    ·rw [if_pos k12]
     exact ⟨_,zj7 (by rw [zeK,hx.2,Option.bind_some,zam,zaf,if_pos k12,zjH h ok hf xo,Option.bind_some]),rfl⟩
    rw [if_neg k12]
    have tail:∀ q:Bool,q=false → ∃ w,((zjF n id m q x).bind fun r=>match r with
      | .inl (t7,b0,b2,b4)=>some (.inl (t7,b0,b2))
      | .inr b4=>(zjG n id m b4).bind fun ⟨b2,b41⟩=>some (.inr (b2,b41)))=some w ∧ prD w=(if m.kind=6 ∧ x.kind=2 then (zaz n x.id true x.val 0,[]) else if m.kind=9 ∧ x.kind=3 then (zaz n x.id m.has m.val 0,[]) else (n,[])):=fun q hq=>by
     obtain ⟨z,hz,_,hz2⟩:=d0 q
     rw [hz,Option.bind_some,hz2 hq]
     dsimp only
     rw [d2,Option.bind_some]
     refine ⟨_,rfl,?_⟩
     show ((if m.kind=6 ∧ x.kind=2 then _ else _),[])=_
     split
     ·rfl
     ·split <;> rfl
    by_cases k4:m.kind=4
    ·by_cases k1:x.kind=1
     ·rw [if_pos ⟨k4,k1⟩]
      obtain ⟨z,hz,hz2,_⟩:=d0 true
      obtain ⟨a,b,rfl⟩:=hz2 rfl
      exact ⟨_,zj7 (by rw [zeK,hx.2,Option.bind_some,zam,zaf,if_neg k12,zam,zaf,if_pos k4,zam,decide_eq_true k1,hz,Option.bind_some]),rfl⟩
     ·rw [if_neg (fun hh=>k1 hh.2)]
      obtain ⟨w,hw,hw2⟩:=tail (Ops.std.ieq x.kind 1) (decide_eq_false k1)
      exact ⟨w,zj7 (by rw [zeK,hx.2,Option.bind_some,zam,zaf,if_neg k12,zam,zaf,if_pos k4];exact hw),hw2⟩
    ·rw [if_neg (fun hh=>k4 hh.1)]
     obtain ⟨w,hw,hw2⟩:=tail false rfl
     exact ⟨w,zj7 (by rw [zeK,hx.2,Option.bind_some,zam,zaf,if_neg k12,zam,zaf,if_neg k4];exact hw),hw2⟩
   obtain ⟨z,hz,hz2⟩:=s3
   rw [cond_true,hz,Option.bind_some,if_pos rfl,← hz2]
   rcases z with ⟨o,a,b⟩ | ⟨a,b⟩ <;> rfl)
end Go.Ab.Tryz
namespace Go.Ab.Tryz
open Go Go.Ab Go.Proofs Go.Lib
open Pe (dist PeOk EnOk)
theorem zpX {l:List Peer} {n:Node} {j:Job} {o:List Out} (hl:l.length ≤ 1000000):zkg l n j o=some (fstI (near n j) l):=zsA (by
 have hf:∀ x:Peer,ziM x n j o=some (near n j x):=fun x=>zrV (by
  rw [zgU,zam,zoW]
  unfold near
  cases decide (x.addr=n.me.addr) <;> rfl)
 have:=zcc zah (l:=l) (by omega) (p:=near n j) (L:=fun i=>zeA l n j o i) (fun h=>zfz (by simp [zcz,h]))
  (fun n' x _ h1 h2 hp=>zfz (by simp [zcz,h1,h2,hf,hp]))
  (fun n' x r _ h1 h2 hp h=>zfz (by simp [zcz,h1,h2,hf,hp,h]))
 rw [zh0,this]
 unfold fstI
 cases fst (near n j) l <;> rfl)
theorem zBe {n:Node} {j:Job} {l:List Peer} {o:List Out} (h:Sz n) (ok:NOk n) (hf:n.fingers.length ≤ 900) (hj:JOk j) (ho:o.length ≤ 900) (h1:1 ≤ j.kind) (h4:j.kind ≤ 4) (hl:l.length ≤ 1000000):
  ∃ z,zgT l n j o=some z ∧ prF o z=((zoH n j l).1,o ++ (zoH n j l).2):=by
 rw [zx5]
 have hfi:=zxV (p:=near n j) (l:=l)
 cases hc:fst (near n j) l with
 | none=>
  rw [hc] at hfi
  rw [hfi]
  obtain ⟨z,hz,hz2⟩:=ziF (n:=n) (j:=j) (why:=15) (o:=o) h ok hf hj ho h1 h4
  refine ⟨z,zmO ?_,hz2⟩
  rw [zfl,zpX hl,Option.bind_some]
  unfold fstI
  rw [hc]
  dsimp only
  rw [iltT (by omega),cond_true];exact hz
 | some k=>
  rw [hc] at hfi
  obtain ⟨p,hp,hp2,_,hk⟩:=hfi
  rw [hp2]
  dsimp only
  have pre:∀ r,((bif Ops.std.ilt j.hops 64 then
    bif Ops.std.ilt j.hops 0 then
     (xget zah l (k:Int)).bind fun x=>(zcF x n (jHop j (Ops.std.iadd .i64 0 1)) o).bind fun ⟨b0_node1,za5,r1,r21⟩=>some (.inr (b0_node1,za5,r1,r21))
    else
     (xget zah l (k:Int)).bind fun x=>(zcF x n (jHop j (Ops.std.iadd .i64 j.hops 1)) o).bind fun ⟨b0_node1,za5,r1,r21⟩=>some (.inr (b0_node1,za5,r1,r21))
   else
    bif Ops.std.ieq j.kind 1 then zcE 19 n j o else
    (zbk false ⟨#[]⟩ 19 n j o).bind fun ⟨b0_node1,r1⟩=>some (.inr (b0_node1,j,r1,o))):Option zfk)=some r → zgT l n j o=some r:=fun r hr=>zmO (by
   rw [zfl,zpX hl,Option.bind_some]
   unfold fstI
   rw [hc]
   dsimp only
   rw [iltF (by omega),cond_false];exact hr)
  unfold hopN
  by_cases c:j.hops < 64
  ·rw [if_pos c]
   by_cases c0:j.hops < 0
   ·rw [if_pos c0]
    refine ⟨_,pre _ (by rw [zau,zaf,if_pos c,zau,zaf,if_pos c0,za6,hp,Option.bind_some];show (zcF p n (jHop j 1) o).bind _=_;rw [zog h ho,Option.bind_some]),rfl⟩
   ·rw [if_neg c0]
    refine ⟨_,pre _ (by rw [zau,zaf,if_pos c,zau,zaf,if_neg c0,zq5 (a:=j.hops) (b:=1) (by omega) (by omega),za6,hp,Option.bind_some,zog h ho,Option.bind_some]),rfl⟩
  ·rw [if_neg c]
   by_cases k1:j.kind=1
   ·rw [if_pos k1]
    obtain ⟨z,hz,hz2⟩:=ziF (n:=n) (j:=j) (why:=19) (o:=o) h ok hf hj ho h1 h4
    exact ⟨z,pre _ (by rw [zau,zaf,if_neg c,zam,zaf,if_pos k1];exact hz),hz2⟩
   ·rw [if_neg k1]
    refine ⟨_,pre _ (by rw [zau,zaf,if_neg c,zam,zaf,if_neg k1,zcD h,Option.bind_some]),?_⟩
    simp [prF]
theorem zxZ {j:Job} {b:Bool} (h:j.doing=b):(⟨j.id,j.kind,j.bit,j.key,j.val,j.target,j.via,j.at_,b,j.hops,j.tries,j.due⟩:Job)=j:=by subst h;rfl
def prZ:zfb → Node × List Out
 | .inl (_,n,_,_,o)=>(n,o)
 | .inr (.inl (_,n,_,o))=>(n,o)
 | .inr (.inr (n,_,_,o))=>(n,o)
theorem zkp {n0 n:Node} {id:Int} {m:Msg} {t has:Bool} {j:Job} {o:List Out} (h:Sz n) (ok:NOk n) (hf:n.fingers.length ≤ 900) (hj:JOk j) (ho:o.length ≤ 900) (h1:1 ≤ j.kind) (h4:j.kind ≤ 4) (hl:setN n j=n) (hpl:m.peers.length ≤ 1000000) (hth:t=true → m.peers ≠ []):
  ∃ z,zhB n0 id m t has n j o=some z ∧ prZ z=(if t=true then (match m.peers with | []=>(n,o) | p :: _=>((endN n j p).1,o ++ (endN n j p).2)) else if m.kind=2 ∧ has=false then ((zoH n j m.peers).1,o ++ (zoH n j m.peers).2) else (n,o)):=by
 cases t with
 | true=>
  rw [if_pos rfl]
  cases hpe:m.peers with
  | nil=>exact absurd hpe (hth rfl)
  | cons p r=>
   obtain ⟨q,f,he⟩:=zvb (n:=n) (j:=j) (owner:=p) (o:=o) h hf hl ho hj.key h1 h4
   have e0:xget zah (p :: r) 0=some p:=by rw [show (0:Int)=((0:Nat):Int) from rfl,za6];rfl
   exact ⟨_,zfc (by rw [zcS,cond_true,hpe,e0,Option.bind_some,he,Option.bind_some]),rfl⟩
 | false=>
  rw [if_neg (by simp)]
  by_cases k2:m.kind=2
  ·cases has with
   | true=>
    rw [if_neg (by simp)]
    exact ⟨_,zfc (by rw [zcS,cond_false,zam,zaf,if_pos k2,cond_true]),rfl⟩
   | false=>
    rw [if_pos ⟨k2,rfl⟩]
    obtain ⟨z,hz,hz2⟩:=zBe (n:=n) (j:=j) (l:=m.peers) (o:=o) h ok hf hj ho h1 h4 hpl
    rw [← hz2]
    rcases z with ⟨a,b,c⟩ | ⟨a,b,c,d⟩
    ·exact ⟨_,zfc (by rw [zcS,cond_false,zam,zaf,if_pos k2,cond_false,hz,Option.bind_some]),rfl⟩
    ·exact ⟨_,zfc (by rw [zcS,cond_false,zam,zaf,if_pos k2,cond_false,hz,Option.bind_some]),rfl⟩
  ·rw [if_neg (fun hh=>k2 hh.1)]
   exact ⟨_,zfc (by rw [zcS,cond_false,zam,zaf,if_neg k2]),rfl⟩
def prY:zfe → Node × List Out
 | .inl (o,_,n,_)=>(n,o)
 | .inr (.inl (o,_,n,_))=>(n,o)
 | .inr (.inr (o,_,n,_))=>(n,o)
theorem zvO {n0 n:Node} {id:Int} {m:Msg} {j:Job} (h:Sz n) (ok:NOk n) (hf:n.fingers.length ≤ 900) (hj:JOk j) (h1:1 ≤ j.kind) (h4:j.kind ≤ 4) (hl:setN n j=n) (hpl:m.peers.length ≤ 1000000):
  ∃ z,znd n0 id m n j []=some z ∧ prY z=zqp n j m:=by
 unfold zqp
 by_cases k12:m.kind=12
 ·rw [if_pos k12]
  obtain ⟨z,hz,hz2⟩:=ziF (n:=n) (j:=j) (why:=Ops.std.iwrap .i64 m.code) (o:=[]) h ok hf hj (by simp) h1 h4
  rw [List.nil_append] at hz2
  have hz3:zd5 n j (Ops.std.iwrap .i64 m.code)=prF [] z:=hz2.symm
  rw [hz3]
  rcases z with ⟨a,b,c⟩ | ⟨a,b,c,d⟩
  ·exact ⟨_,zff (by rw [zcT,zam,zaf,if_pos k12,hz,Option.bind_some];dsimp only;rw [zbL,Option.bind_some]),rfl⟩
  ·exact ⟨_,zff (by rw [zcT,zam,zaf,if_pos k12,hz,Option.bind_some];dsimp only;rw [zeM,Option.bind_some]),rfl⟩
 rw [if_neg k12]
 have fin:∀ z0:zfb,∃ z,((match z0 with
     | .inl (zba,b4_node1,zaA,r5,r61)=>(zbe b4_node1 zaA r61).bind fun r0=>some (.inr (.inl (r61,zba,r0,b4_node1,zaA,r5,r61)))
     | .inr (.inl (zba,b4_node1,zaA,r61))=>(zaY b4_node1 zaA r61).bind fun ⟨r0_0,r0_1,r0_2,r0_3,r0_4,r0_5,r0_7,r0_8,r0_9,r0_10,r0_11,r0_12,r0_13⟩=>some (.inr (.inr (r61,zba,(⟨(⟨r0_0,r0_1⟩:Peer),r0_2,r0_3,r0_4,r0_5,b4_node1.fingers,r0_7,r0_8,r0_9,r0_10,r0_11,r0_12,r0_13⟩:Node),b4_node1,zaA,r61)))
     | .inr (.inr (b4_node1,zaA,r5,r61))=>(zaY b4_node1 zaA r61).bind fun ⟨r0_0,r0_1,r0_2,r0_3,r0_4,r0_5,r0_7,r0_8,r0_9,r0_10,r0_11,r0_12,r0_13⟩=>some (.inl (r61,false,(⟨(⟨r0_0,r0_1⟩:Peer),r0_2,r0_3,r0_4,r0_5,b4_node1.fingers,r0_7,r0_8,r0_9,r0_10,r0_11,r0_12,r0_13⟩:Node),b4_node1,zaA,r5,r61))):Option zfe)=some z ∧ prY z=prZ z0:=fun z0=>by
  rcases z0 with ⟨a,b,c,d,e⟩ | ⟨a,b,c,d⟩ | ⟨a,b,c,d⟩
  ·exact ⟨_,by dsimp only;rw [zeM,Option.bind_some],rfl⟩
  ·exact ⟨_,by dsimp only;rw [zbL,Option.bind_some],rfl⟩
  ·exact ⟨_,by dsimp only;rw [zbL,Option.bind_some],rfl⟩
 by_cases k2:m.kind=2
 ·rw [if_pos k2]
  cases hh:m.has with
  | true=>
   rw [if_pos rfl]
   have et:Ops.std.ilt 0 (xlen zah m.peers)=true ↔ m.peers ≠ []:=by
    rw [zaE,zau,decide_eq_true_iff]
    cases m.peers <;> simp <;> omega
   obtain ⟨z0,hz0,hz1⟩:=zkp (n0:=n0) (id:=id) (m:=m) (t:=Ops.std.ilt 0 (xlen zah m.peers)) (has:=true) (o:=[]) h ok hf hj (by simp) h1 h4 hl hpl et.1
   obtain ⟨z,hz,hz2⟩:=fin z0
   refine ⟨z,zff (by rw [zcT,zam,zaf,if_neg k12,zam,zaf,if_pos k2,hh,cond_true,hz0,Option.bind_some];exact hz),?_⟩
   rw [hz2,hz1]
   cases hpe:m.peers with
   | nil=>simp [zaE,zau]
   | cons p r=>rw [if_pos (by rw [← hpe];exact et.2 (by rw [hpe];simp))];simp
  | false=>
   rw [if_neg (by simp)]
   obtain ⟨z0,hz0,hz1⟩:=zkp (n0:=n0) (id:=id) (m:=m) (t:=false) (has:=false) (o:=[]) h ok hf hj (by simp) h1 h4 hl hpl (by simp)
   obtain ⟨z,hz,hz2⟩:=fin z0
   refine ⟨z,zff (by rw [zcT,zam,zaf,if_neg k12,zam,zaf,if_pos k2,hh,cond_false,hz0,Option.bind_some];exact hz),?_⟩
   rw [hz2,hz1,if_neg (by simp),if_pos ⟨k2,rfl⟩];simp
 ·rw [if_neg k2]
  obtain ⟨z0,hz0,hz1⟩:=zkp (n0:=n0) (id:=id) (m:=m) (t:=false) (has:=m.has) (o:=[]) h ok hf hj (by simp) h1 h4 hl hpl (by simp)
  obtain ⟨z,hz,hz2⟩:=fin z0
  refine ⟨z,zff (by rw [zcT,zam,zaf,if_neg k12,zam,zaf,if_neg k2,hz0,Option.bind_some];exact hz),?_⟩
  rw [hz2,hz1,if_neg (by simp),if_neg (fun hh=>k2 hh.1)]
theorem zy1 {n:Node} {id:Int} {m:Msg} (h:Sz n) (ok:NOk n) (hf:n.fingers.length ≤ 900) (hj:JsOk n) (hpl:m.peers.length ≤ 1000000):zrU n id m=some (znK n id m):=zBa (by
 rw [zof,zns h,Option.bind_some]
 unfold znK
 cases ht:zeD n id with
 | none=>dsimp only;rw [cond_false,zbL];rfl
 | some x=>
  obtain ⟨t1,t2,t3,t4,t5⟩:=ze9 ht
  dsimp only
  cases hd:x.doing with
  | true=>rw [cond_true,cond_true,zbL];rfl
  | false=>
   obtain ⟨z,hz,hz2⟩:=zvO (n0:=n) (id:=id) (m:=m) h ok hf (hj x t1) t3 t4 t5 hpl
   rw [cond_true,cond_false,zxZ hd,hz,Option.bind_some,if_neg (by simp),← hz2]
   rcases z with ⟨a,b,c,d⟩ | ⟨a,b,c,d⟩ | ⟨a,b,c,d⟩ <;> rfl)
theorem zxM {n:Node} {j:Job} {o:List Out} (h:Sz n) (hli:n.list.length ≤ 900) (ho:o.length ≤ 900):zku n j o=some ((zmd n j).1,n.fingers,o ++ (zmd n j).2):=zt3 (by
 obtain ⟨e1,e2,e3,e4⟩:=zpM n j.id false ⟨#[]⟩ 0
 rw [ziL,zcD h,Option.bind_some]
 dsimp only
 rw [Pe.peers_Add_eq (by rw [e2];exact hli),Option.bind_some,zmf (zuF h hli j.at_ true) (Nat.zero_le _) (Nat.zero_le _),Option.bind_some]
 show (zgW (zmd n j).1 (zmd n j).2 _ j o).bind _=_
 have hs:(zmd n j).2.length ≤ 1:=(zkz (zuF h hli j.at_ true)).2
 rw [zy3 (by omega) (by omega),Option.bind_some]
 rfl)
def prW:zjf → Node × List Out
 | .inl (n,_,_,o)=>(n,o)
 | .inr (n,_,o)=>(n,o)
def prV:zgu → Node × List Out
 | .inl (o,n,_)=>(n,o)
 | .inr (.inl (o,n,_))=>(n,o)
 | .inr (.inr (o,n,_))=>(n,o)
theorem zwV {n0 n:Node} {id:Int} {m:Msg} {j:Job} (h:Sz n) (ok:NOk n) (hf:n.fingers.length ≤ 900) (hli:n.list.length ≤ 900) (hj:JOk j) (h1:1 ≤ j.kind) (h4:j.kind ≤ 4):
  ∃ z,zoe n0 id m n j []=some z ∧ prV z=zuA n j m:=by
 have d0:∀ t:Bool,∃ z,zll n0 id m j.kind t n j []=some z ∧ prW z=(if t=true then (zaz n j.id true j.val 0,[]) else if m.kind=9 ∧ j.kind=3 then (zaz n j.id m.has m.val 0,[]) else (n,[])):=fun t=>by
  cases t with
  | true=>exact ⟨_,zjg (by rw [zej,cond_true,zcD h,Option.bind_some]),rfl⟩
  | false=>
   rw [if_neg (by simp)]
   by_cases k9:m.kind=9
   ·by_cases k3:j.kind=3
    ·rw [if_pos ⟨k9,k3⟩]
     exact ⟨_,zjg (by rw [zej,cond_false,zam,zaf,if_pos k9,zam,zaf,if_pos k3,zcD h,Option.bind_some]),rfl⟩
    ·rw [if_neg (fun hh=>k3 hh.2)]
     exact ⟨_,zjg (by rw [zej,cond_false,zam,zaf,if_pos k9,zam,zaf,if_neg k3]),rfl⟩
   ·rw [if_neg (fun hh=>k9 hh.1)]
    exact ⟨_,zjg (by rw [zej,cond_false,zam,zaf,if_neg k9]),rfl⟩
 have d1:∀ t:Bool,∃ z,zlm n0 id m j.kind t n j []=some z ∧ prW z=(if t=true then zmd n j else if m.kind=6 ∧ j.kind=2 then (zaz n j.id true j.val 0,[]) else if m.kind=9 ∧ j.kind=3 then (zaz n j.id m.has m.val 0,[]) else (n,[])):=fun t=>by
  cases t with
  | true=>exact ⟨_,zji (by rw [zek,cond_true,zxM h hli (by simp),Option.bind_some]),by rw [if_pos rfl];simp [prW]⟩
  | false=>
   rw [if_neg (by simp)]
   by_cases k6:m.kind=6
   ·by_cases k2:j.kind=2
    ·obtain ⟨z,hz,hz2⟩:=d0 true
     exact ⟨z,zji (by rw [zek,cond_false,zam,zaf,if_pos k6,zam,decide_eq_true k2];exact hz),by rw [hz2,if_pos rfl,if_pos ⟨k6,k2⟩]⟩
    ·obtain ⟨z,hz,hz2⟩:=d0 false
     exact ⟨z,zji (by rw [zek,cond_false,zam,zaf,if_pos k6,zam,decide_eq_false k2];exact hz),by rw [hz2,if_neg (by simp),if_neg (fun hh:m.kind=6 ∧ j.kind=2=>k2 hh.2)]⟩
   ·obtain ⟨z,hz,hz2⟩:=d0 false
    exact ⟨z,zji (by rw [zek,cond_false,zam,zaf,if_neg k6];exact hz),by rw [hz2,if_neg (by simp),if_neg (fun hh:m.kind=6 ∧ j.kind=2=>k6 hh.1)]⟩
 unfold zuA
 by_cases k12:m.kind=12
 ·rw [if_pos k12]
  obtain ⟨z,hz,hz2⟩:=ziF (n:=n) (j:=j) (why:=Ops.std.iwrap .i64 m.code) (o:=[]) h ok hf hj (by simp) h1 h4
  rw [List.nil_append] at hz2
  have hz3:zd5 n j (Ops.std.iwrap .i64 m.code)=prF [] z:=hz2.symm
  rw [hz3]
  rcases z with ⟨a,b,c⟩ | ⟨a,b,c,d⟩
  ·exact ⟨_,zgv (by rw [zc8,zam,zaf,if_pos k12,hz,Option.bind_some];dsimp only;rw [zbL,Option.bind_some]),rfl⟩
  ·exact ⟨_,zgv (by rw [zc8,zam,zaf,if_pos k12,hz,Option.bind_some];dsimp only;rw [zeM,Option.bind_some]),rfl⟩
 rw [if_neg k12]
 have fin:∀ z0:zjh,∃ z,((match z0 with
     | .inl (b4_node1,zaA,r5,r61)=>(zbe b4_node1 zaA r61).bind fun r0=>some (.inr (.inl (r61,r0,b4_node1,zaA,r5,r61)))
     | .inr (b4_node1,zaA,r61)=>(zaY b4_node1 zaA r61).bind fun ⟨r0_0,r0_1,r0_2,r0_3,r0_4,r0_5,r0_7,r0_8,r0_9,r0_10,r0_11,r0_12,r0_13⟩=>some (.inr (.inr (r61,(⟨(⟨r0_0,r0_1⟩:Peer),r0_2,r0_3,r0_4,r0_5,b4_node1.fingers,r0_7,r0_8,r0_9,r0_10,r0_11,r0_12,r0_13⟩:Node),b4_node1,zaA,r61)))):Option zgu)=some z ∧ prV z=prW z0:=fun z0=>by
  rcases z0 with ⟨a,b,c,d⟩ | ⟨a,b,c⟩
  ·exact ⟨_,by dsimp only;rw [zeM,Option.bind_some],rfl⟩
  ·exact ⟨_,by dsimp only;rw [zbL,Option.bind_some],rfl⟩
 by_cases k4:m.kind=4
 ·by_cases k1:j.kind=1
  ·obtain ⟨z0,hz0,hz1⟩:=d1 true
   obtain ⟨z,hz,hz2⟩:=fin z0
   refine ⟨z,zgv (by rw [zc8,zam,zaf,if_neg k12,zam,zaf,if_pos k4,zam,decide_eq_true k1,hz0,Option.bind_some];exact hz),?_⟩
   rw [hz2,hz1,if_pos rfl,if_pos ⟨k4,k1⟩]
  ·obtain ⟨z0,hz0,hz1⟩:=d1 false
   obtain ⟨z,hz,hz2⟩:=fin z0
   refine ⟨z,zgv (by rw [zc8,zam,zaf,if_neg k12,zam,zaf,if_pos k4,zam,decide_eq_false k1,hz0,Option.bind_some];exact hz),?_⟩
   rw [hz2,hz1,if_neg (by simp),if_neg (fun hh:m.kind=4 ∧ j.kind=1=>k1 hh.2)]
 ·obtain ⟨z0,hz0,hz1⟩:=d1 false
  obtain ⟨z,hz,hz2⟩:=fin z0
  refine ⟨z,zgv (by rw [zc8,zam,zaf,if_neg k12,zam,zaf,if_neg k4,hz0,Option.bind_some];exact hz),?_⟩
  rw [hz2,hz1,if_neg (by simp),if_neg (fun hh:m.kind=4 ∧ j.kind=1=>k4 hh.1)]
theorem zA9 {n:Node} {id:Int} {m:Msg} (h:Sz n) (ok:NOk n) (hf:n.fingers.length ≤ 900) (hli:n.list.length ≤ 900) (hj:JsOk n):ztX n id m=some (zqX n id m):=zCf (by
 rw [zpU,zns h,Option.bind_some]
 unfold zqX
 cases ht:zeD n id with
 | none=>dsimp only;rw [cond_false,zbL];rfl
 | some x=>
  obtain ⟨t1,t2,t3,t4,t5⟩:=ze9 ht
  dsimp only
  cases hd:x.doing with
  | false=>rw [cond_true,cond_false,zbL];rfl
  | true=>
   obtain ⟨z,hz,hz2⟩:=zwV (n0:=n) (id:=id) (m:=m) h ok hf hli (hj x t1) t3 t4
   rw [cond_true,cond_true,zxZ hd,hz,Option.bind_some,if_pos rfl,← hz2]
   rcases z with ⟨a,b,c⟩ | ⟨a,b,c⟩ | ⟨a,b,c⟩ <;> rfl)
end Go.Ab.Tryz
namespace Go.Ab.Tryz
open Go Go.Ab Go.Proofs Go.Lib
open Pe (dist PeOk EnOk)
structure MSz (M:Msg):Prop where
 key:M.key.size < 1000000
 pairs:M.pairs.length ≤ 1000
 keys:Keys M.pairs
structure MPl (M:Msg):Prop where
 id:0 ≤ M.id ∧ M.id < 18446744073709551616
 peer:PeOk M.peer
end Go.Ab.Tryz
namespace Go.Ab.Tryz
open Go Go.Ab Go.Proofs Go.Lib
open Pe (dist PeOk EnOk)
def MFit (m:Msg):Prop:=m.peers.length ≤ 1000000 ∧ m.pairs.length ≤ 1000000
def AFit (l:List Out):Prop:=∀ o,o ∈ l → MFit o.msg
theorem AFit.nil:AFit []:=fun o ho=>by cases ho
theorem AFit.one {o:Out} (h:MFit o.msg):AFit [o]:=fun q hq=>by rw [List.mem_singleton.1 hq];exact h
theorem AFit.cons {o:Out} {l:List Out} (h:MFit o.msg) (hl:AFit l):AFit (o :: l):=fun q hq=>by
 rcases List.mem_cons.1 hq with e | e
 ·rw [e];exact h
 ·exact hl q e
theorem AFit.app {a b:List Out} (ha:AFit a) (hb:AFit b):AFit (a ++ b):=fun q hq=>(List.mem_append.1 hq).elim (ha q) (hb q)
theorem zzF {n:Node} {to_:Peer} {m:Msg} {why job:Int} (h:MFit m):AFit (askN n to_ m why job).2:=by
 unfold askN
 split
 ·exact AFit.nil
 ·exact AFit.one h
theorem zxW (to_:Peer) (fresh:Bool):∀ (cs:List (List Pair)) (n:Node),(∀ c,c ∈ cs → c.length ≤ 1000000) → AFit (zft to_ fresh cs n).2
 | [],n,h=>AFit.nil
 | c :: cs,n,h=>AFit.app (zzF ⟨Nat.zero_le _,h c (by simp)⟩) (zxW to_ fresh cs _ fun x hx=>h x (by simp [hx]))
theorem zHj {n:Node} {to_:Peer} {l:List Pair} {fresh:Bool}:AFit (hand n to_ l fresh).2:=zxW to_ fresh (cut8 l) n fun c hc=>by have:=zC9 hc;omega
theorem zx0 (key val:ByteArray):∀ (ps:List Peer) (n:Node),AFit (zdI key val ps n).2
 | [],n=>AFit.nil
 | p :: ps,n=>AFit.app zHj (zx0 key val ps _)
theorem zHu {n:Node} {key val:ByteArray}:AFit (zdg n key val).2.1:=by
 unfold zdg
 split
 ·exact zx0 key val _ _
 ·exact AFit.nil
def bigJ (x:Job):Bool:=decide (300 < x.key.size) || decide (700 < x.val.size)
def bigR (x:Result):Bool:=decide (300 < x.key.size) || decide (700 < x.val.size)
theorem zF5 {n:Node} (h:n.jobs.length ≤ 1000):ziD n 0=some (bif n.jobs.any bigJ then .inl () else .inr ()):=
 zbb (σ:=Unit) eJob (l:=n.jobs) (by omega) (L:=fun i _=>ziD n i) (res:=fun _ _ rest=>bif rest.any bigJ then .inl () else .inr ()) (Inv:=fun _ _=>True)
  (fun _ _ hh=>zqG (by rw [zjd,hh] <;> rfl))
  (fun k x rest s _ hn hx hd h1 h2 h3 ih=>zqG (by
   rw [zjd,h1,cond_true,h2,Option.bind_some,zbw,zbw,List.any_cons,bigJ]
   by_cases a:300 < x.key.size
   ·rw [iltT (by omega),decide_eq_true a] <;> rfl
   ·rw [iltF (by omega),decide_eq_false a,cond_false]
    by_cases b:700 < x.val.size
    ·rw [iltT (by omega),decide_eq_true b] <;> rfl
    ·rw [iltF (by omega),decide_eq_false b,cond_false,h3,ih () trivial] <;> rfl)) () trivial
theorem zF6 {n:Node} (h:n.results.length ≤ 1000):ziE n 0=some (bif n.results.any bigR then .inl () else .inr ()):=
 zbb (σ:=Unit) zaq (l:=n.results) (by omega) (L:=fun i _=>ziE n i) (res:=fun _ _ rest=>bif rest.any bigR then .inl () else .inr ()) (Inv:=fun _ _=>True)
  (fun _ _ hh=>zqH (by rw [zje,hh] <;> rfl))
  (fun k x rest s _ hn hx hd h1 h2 h3 ih=>zqH (by
   rw [zje,h1,cond_true,h2,Option.bind_some,zbw,zbw,List.any_cons,bigR]
   by_cases a:300 < x.key.size
   ·rw [iltT (by omega),decide_eq_true a] <;> rfl
   ·rw [iltF (by omega),decide_eq_false a,cond_false]
    by_cases b:700 < x.val.size
    ·rw [iltT (by omega),decide_eq_true b] <;> rfl
    ·rw [iltF (by omega),decide_eq_false b,cond_false,h3,ih () trivial] <;> rfl)) () trivial
structure Sm (n:Node):Prop where
 pred:n.pred.length ≤ 5
 list:n.list.length ≤ 40
 fingers:n.fingers.length ≤ 80
 pends:n.pends.length ≤ 100
 jobs:n.jobs.length ≤ 20
 results:n.results.length ≤ 40
 store:n.store.length ≤ 100
 keys:Keys n.store
theorem Sm.sz {n:Node} (h:Sm n):Sz n:=by
 obtain ⟨h1,h2,h3,h4,h5,h6,h7,_⟩:=h
 exact ⟨by omega,by omega,by omega,by omega,by omega,by omega,by omega⟩
def zs5 (m:Msg):Bool:=decide (300 < m.key.size) || (decide (700 < m.val.size) || (decide (40 < m.peers.length) || (decide (20 < m.pairs.length) || m.pairs.any fun p=>decide (300 < p.key.size) || decide (700 < p.val.size))))
theorem zF1 {m:Msg} (h:m.pairs.length ≤ 1000):ziC m 0=some (bif m.pairs.any fun p=>decide (300 < p.key.size) || decide (700 < p.val.size) then .inl () else .inr ()):=
 zbb (σ:=Unit) zan (l:=m.pairs) (by omega) (L:=fun i _=>ziC m i) (res:=fun _ _ rest=>bif rest.any fun p=>decide (300 < p.key.size) || decide (700 < p.val.size) then .inl () else .inr ()) (Inv:=fun _ _=>True)
  (fun _ _ hh=>zqF (by rw [zjc,hh] <;> rfl))
  (fun n x rest s _ hn hx hd h1 h2 h3 ih=>zqF (by
   rw [zjc,h1,cond_true,h2,Option.bind_some,zbw,zbw,List.any_cons]
   by_cases a:300 < x.key.size
   ·rw [iltT (by omega),decide_eq_true a] <;> rfl
   ·rw [iltF (by omega),decide_eq_false a,cond_false]
    by_cases b:700 < x.val.size
    ·rw [iltT (by omega),decide_eq_true b] <;> rfl
    ·rw [iltF (by omega),decide_eq_false b,cond_false,h3,ih () trivial] <;> rfl)) () trivial
theorem zF0 (m:Msg):ztR m=some (zs5 m):=zCc (by
 rw [zpS,zbw,zbw,zaE,zaE,zs5]
 by_cases h1:300 < m.key.size
 ·rw [iltT (by omega),decide_eq_true h1] <;> rfl
 ·rw [iltF (by omega),decide_eq_false h1,cond_false,Bool.false_or]
  by_cases h2:700 < m.val.size
  ·rw [iltT (by omega),decide_eq_true h2] <;> rfl
  ·rw [iltF (by omega),decide_eq_false h2,cond_false,Bool.false_or]
   by_cases h3:40 < m.peers.length
   ·rw [iltT (by omega),decide_eq_true h3] <;> rfl
   ·rw [iltF (by omega),decide_eq_false h3,cond_false,Bool.false_or]
    by_cases h4:20 < m.pairs.length
    ·rw [iltT (by omega),decide_eq_true h4] <;> rfl
    ·rw [iltF (by omega),decide_eq_false h4,cond_false,Bool.false_or,zF1 (by omega),Option.bind_some]
     cases m.pairs.any fun p=>decide (300 < p.key.size) || decide (700 < p.val.size) <;> rfl)
structure MSm (m:Msg):Prop where
 key:m.key.size ≤ 300
 val:m.val.size ≤ 700
 peers:m.peers.length ≤ 40
 pairs:m.pairs.length ≤ 20
 all:∀ p,p ∈ m.pairs → p.key.size ≤ 300 ∧ p.val.size ≤ 700
theorem zMa {m:Msg} (h:zs5 m=false):MSm m:=by
 simp only [zs5,Bool.or_eq_false_iff,decide_eq_false_iff_not,List.any_eq_false,Bool.or_eq_true,decide_eq_true_eq,not_or] at h
 obtain ⟨h1,h2,h3,h4,h5⟩:=h
 exact ⟨by omega,by omega,by omega,by omega,fun p hp=>by have:=h5 p hp;omega⟩
end Go.Ab.Tryz
namespace Go.Ab.Tryz
open Go Go.Ab Go.Proofs Go.Lib
open Pe (dist PeOk EnOk)
def Good (r:Node × List Out):Prop:=Sz r.1 ∧ r.2.length ≤ 200 ∧ AFit r.2
theorem Good.same {r:Node × List Out} (h:Good r):zir r.1 r.1=some true ∧ zkk r.2 r.2=some true:=⟨zsg h.1,zyD ⟨by have:=h.2.1;omega,h.2.2⟩⟩
theorem Good.nil {n:Node} (h:Sz n):Good (n,[]):=⟨h,Nat.zero_le _,AFit.nil⟩
theorem Good.ask {n:Node} {to_:Peer} {m:Msg} {why job:Int} (h:Sz n) (hm:MFit m):Good (askN n to_ m why job):=⟨(zkz h).1,by have:=(zkz (to_:=to_) (m:=m) (why:=why) (job:=job) h).2;omega,zzF hm⟩
theorem zsU {n:Node} {j:Job} {p:Peer} (h:Sz n):Good (zhP n j p):=Good.ask (zei h _) ⟨Nat.zero_le _,Nat.zero_le _⟩
theorem zzD {n:Node} {j:Job} {p:Peer} (h:Sz n):Good (actN n j p):=Good.ask (zei h _) (by
 unfold actM
 split
 ·exact ⟨Nat.zero_le _,Nat.zero_le _⟩
 ·split <;> exact ⟨Nat.zero_le _,Nat.zero_le _⟩)
theorem zFL {n:Node} {j:Job} {p:Peer} (h:Sz n) (hf:n.fingers.length ≤ 900):Good (endL n j p):=by
 unfold endL
 split
 ·exact zzD h
 split
 ·have hk:=zxh (key:=j.key) (val:=j.val) h
  split
  ·exact ⟨zed hk.1 _ _ _ _,by have:=hk.2;show (zdg n j.key j.val).2.1.length ≤ 200;omega,zHu⟩
  ·exact Good.nil (zed h _ _ _ _)
 split
 ·exact Good.nil (zed h _ _ _ _)
 split
 ·exact Good.nil (zed (zl9 h (by have:=zw8 j.bit n.fingers;omega)) _ _ _ _)
 ·exact Good.nil (zed (zl9 h (by have:=zvH n.fingers j.bit p;omega)) _ _ _ _)
theorem zzY {n:Node} {j:Job} {p:Peer} (h:Sz n) (hf:n.fingers.length ≤ 900):Good (endN n j p):=by
 unfold endN
 split
 ·exact zzD h
 ·exact zFL (zei h _) hf
theorem zyd {n:Node} {j:Job} (h:Sz n) (hf:n.fingers.length ≤ 900):Good (zlf n j):=by
 unfold zlf
 split
 ·exact zsU h
 split
 ·exact zzY h hf
 split
 ·exact Good.nil h
 ·exact zsU h
theorem zmB {n:Node} {j:Job} {why:Int} (h:Sz n) (hf:n.fingers.length ≤ 900):Good (zd5 n j why):=by
 unfold zd5
 split
 ·exact Good.nil (zei h _)
 split
 ·exact Good.nil (zed h _ _ _ _)
 ·exact zyd h hf
theorem zF3 {n:Node} {j:Job} {l:List Peer} (h:Sz n) (hf:n.fingers.length ≤ 900):Good (zoH n j l):=by
 unfold zoH
 split
 ·exact zmB h hf
 split
 ·exact zsU h
 split
 ·exact zmB h hf
 ·exact Good.nil (zed h _ _ _ _)
theorem zFV {n:Node} {j:Job} (h:Sz n) (hli:n.list.length ≤ 900):Good (zmd n j):=Good.ask (zuF h hli j.at_ true) ⟨Nat.zero_le _,Nat.zero_le _⟩
theorem zEG {n:Node} {id:Int} (h:Sz n) (hf:n.fingers.length ≤ 900):Good (zrQ n id):=by
 unfold zrQ
 split
 ·exact zyd h hf
 ·exact Good.nil h
theorem zDJ {n:Node} {id why:Int} (h:Sz n) (hf:n.fingers.length ≤ 900):Good (zq1 n id why):=by
 unfold zq1
 split
 ·exact zmB h hf
 ·exact Good.nil h
theorem zBu {n:Node} {id:Int} {m:Msg} (h:Sz n) (hf:n.fingers.length ≤ 900):Good (znK n id m):=by
 unfold znK
 split
 ·split
  ·exact Good.nil h
  ·unfold zqp
   split
   ·exact zmB h hf
   split
   ·split
    ·split
     ·exact Good.nil h
     ·exact zzY h hf
    ·exact zF3 h hf
   ·exact Good.nil h
 ·exact Good.nil h
theorem zDE {n:Node} {id:Int} {m:Msg} (h:Sz n) (hf:n.fingers.length ≤ 900) (hli:n.list.length ≤ 900):Good (zqX n id m):=by
 unfold zqX
 split
 ·split
  ·unfold zuA
   split
   ·exact zmB h hf
   split
   ·exact zFV h hli
   split
   ·exact Good.nil (zed h _ _ _ _)
   split
   ·exact Good.nil (zed h _ _ _ _)
   ·exact Good.nil h
  ·exact Good.nil h
 ·exact Good.nil h
theorem zD1 (n:Node):∃ b,ztT n=some b ∧ (b=false → Sm n ∧ n.jobs.any bigJ=false):=by
 refine Exists.elim (?_:∃ b,zmw n=some b ∧ (b=false → Sm n ∧ n.jobs.any bigJ=false)) fun b hb=>⟨b,zCe hb.1,hb.2⟩
 rw [zmw,zaE,zaE,zaE,zaE,zaE,zaE,zau,zau,zau,zau,zau,zau,zaf,zaf,zaf,zaf,zaf,zaf,zHv,Option.bind_some]
 have no:∃ b,some true=some b ∧ (b=false → Sm n ∧ n.jobs.any bigJ=false):=⟨true,rfl,fun h=>by cases h⟩
 by_cases h1:(5:Int) < (n.pred.length:Int)
 ·rw [if_pos h1];exact no
 rw [if_neg h1]
 by_cases h2:(40:Int) < (n.list.length:Int)
 ·rw [if_pos h2];exact no
 rw [if_neg h2]
 by_cases h3:(80:Int) < (n.fingers.length:Int)
 ·rw [if_pos h3];exact no
 rw [if_neg h3]
 by_cases h4:(100:Int) < (n.pends.length:Int)
 ·rw [if_pos h4];exact no
 rw [if_neg h4]
 by_cases h5:(20:Int) < (n.jobs.length:Int)
 ·rw [if_pos h5];exact no
 rw [if_neg h5]
 by_cases h6:(40:Int) < (n.results.length:Int)
 ·rw [if_pos h6];exact no
 rw [if_neg h6]
 cases h7:zwx n.store with
 | true=>exact no
 | false=>
  obtain ⟨h8,h9⟩:=zFX h7
  have e:zod n=some (bif n.jobs.any bigJ then true else bif n.results.any bigR then true else false):=zxI (by
   rw [zl7,zF5 (by omega),Option.bind_some]
   cases n.jobs.any bigJ
   ·dsimp only [cond_false]
    rw [zF6 (by omega),Option.bind_some]
    cases n.results.any bigR <;> rfl
   ·rfl)
  rw [cond_false,e]
  refine ⟨_,rfl,fun hh=>⟨⟨by omega,by omega,by omega,by omega,by omega,by omega,h8,h9⟩,?_⟩⟩
  cases hb:n.jobs.any bigJ with
  | true=>rw [hb] at hh;cases hh
  | false=>rfl
def JRng (n:Node):Prop:=∀ j,j ∈ n.jobs → (0 ≤ j.target ∧ j.target < 18446744073709551616) ∧ PeOk j.at_
theorem jsOk {n:Node} (h:JRng n) (hb:n.jobs.any bigJ=false):JsOk n:=fun j hj=>by
 have:=List.any_eq_false.1 hb j hj
 simp only [bigJ,Bool.or_eq_true,decide_eq_true_eq,not_or] at this
 exact ⟨(h j hj).1,(h j hj).2,by omega⟩
theorem zCj:zo3=some true:=zas ((zL8 60).call _ _ _ _ (by kernel_rfl))
theorem zAj (n:Node):(⟨⟨n.me.id,n.me.addr⟩,n.clock,n.joined,n.pred,n.list,n.fingers,n.store,n.pends,n.jobs,n.results,n.rid,n.jobID,n.nextBit⟩:Node)=n:=rfl
theorem law_Goes {n:Node} {id why:Int} {m:Msg} (ok:NOk n) (hr:JRng n) (hp:∀ p,p ∈ m.peers → PeOk p):ztU n id m why=some true:=zxJ (by
 obtain ⟨b,hb,hs⟩:=zD1 n
 rw [zl8,hb,Option.bind_some,zCj,zF0,Option.bind_some]
 cases hbb:b with
 | true=>rfl
 | false=>
  cases hm:zs5 m with
  | true=>rfl
  | false=>
   obtain ⟨sm,hjb⟩:=hs hbb
   have h:=sm.sz
   have hj:=jsOk hr hjb
   have hf:n.fingers.length ≤ 900:=by have:=sm.fingers;omega
   have hli:n.list.length ≤ 900:=by have:=sm.list;omega
   have hpl:m.peers.length ≤ 1000000:=by have:=(zMa hm).peers;omega
   have g1:=zEG (id:=id) h hf
   have g2:=zBu (id:=id) (m:=m) h hf
   have g3:=zDE (id:=id) (m:=m) h hf hli
   have g4:=zDJ (id:=id) (why:=why) h hf
   have p1:=zBb (id:=id) h ok hf hj
   have q1:=zBX (id:=id) h ok hf hj
   have p2:=zy1 (id:=id) (m:=m) h ok hf hj hpl
   have q2:=zAJ (id:=id) (m:=m) h ok hf hj hpl hp
   have p3:=zA9 (id:=id) (m:=m) h ok hf hli hj
   have q3:=zBV (id:=id) (m:=m) h ok hf hli hj
   have p4:=zxK (id:=id) (why:=why) h ok hf hj
   have q4:=zyR (id:=id) (why:=why) h ok hf hj
   obtain ⟨⟨a1,o1⟩,h1⟩:∃ z,zrQ n id=z:=⟨_,rfl⟩
   obtain ⟨⟨a2,o2⟩,h2⟩:∃ z,znK n id m=z:=⟨_,rfl⟩
   obtain ⟨⟨a3,o3⟩,h3⟩:∃ z,zqX n id m=z:=⟨_,rfl⟩
   obtain ⟨⟨a4,o4⟩,h4⟩:∃ z,zq1 n id why=z:=⟨_,rfl⟩
   rw [h1] at g1 p1 q1;rw [h2] at g2 p2 q2;rw [h3] at g3 p3 q3;rw [h4] at g4 p4 q4
   obtain ⟨s1,t1⟩:=g1.same
   obtain ⟨s2,t2⟩:=g2.same
   obtain ⟨s3,t3⟩:=g3.same
   obtain ⟨s4,t4⟩:=g4.same
   dsimp only at s1 t1 s2 t2 s3 t3 s4 t4
   have e0:∃ z,zdL n id m o3 o3 o4 o4 true n.pred n.list n.fingers n.store n.pends n.jobs n.results n.me.id n.me.addr n.clock n.joined n.rid n.jobID n.nextBit a1 a1 a2 a2 a3 a3 a4 a4=some (true,z):=⟨_,zuR (by
    rw [zjq,cond_true,s3,Option.bind_some,cond_true,t3,Option.bind_some,cond_true,s4,Option.bind_some,cond_true,t4,Option.bind_some,cond_true,zAj,zsg h,Option.bind_some,cond_true,zCj,Option.bind_some])⟩
   obtain ⟨z,hz⟩:=e0
   have e1:∃ z,zlk n id m why=some (true,z):=⟨_,zuS (by
    rw [zjs,zeq h,Option.bind_some]
    dsimp only
    rw [zAj,p1,Option.bind_some,q1,Option.bind_some,p2,Option.bind_some,q2,Option.bind_some,p3,Option.bind_some,q3,Option.bind_some,p4,Option.bind_some,q4,Option.bind_some]
    dsimp only
    rw [s1,Option.bind_some,cond_true,t1,Option.bind_some,cond_true,s2,Option.bind_some,cond_true,t2,Option.bind_some,hz,Option.bind_some])⟩
   obtain ⟨z1,hz1⟩:=e1
   rw [cond_false,cond_false,hz1];rfl)
end Go.Ab.Tryz
namespace Go.Ab.Tryz
open Go Go.Ab
open Pe (PeOk EnOk)
theorem peOk {p:Peer} (h:p.Ok):PeOk p:=⟨h.1.1,by have:=h.1.2;omega⟩
theorem enOk {l:List Entry} (h:OkL Entry.Ok l):EnOk l:=fun x hx=>peOk (h.1 x hx).1
theorem nodeOk {n:Node} (h:n.Ok):NOk n:=by
 obtain ⟨h1,h2,h3,h4,h5,h6,h7⟩:=h
 exact ⟨peOk h1,enOk h4,enOk h5,fun x hx=>peOk (h6.1 x hx).2⟩
theorem jobsOk {n:Node} (h:n.Ok):JRng n:=by
 obtain ⟨h1,h2,h3,h4,h5,h6,h7,h8,h9,h10⟩:=h
 intro j hj
 obtain ⟨j1,j2,j3,j4,j5,j6,j7,j8,j9⟩:=h9.1 j hj
 exact ⟨⟨j6.1,by have:=j6.2;omega⟩,peOk j8⟩
theorem peersOk {m:Msg} (h:m.Ok):∀ p,p ∈ m.peers → PeOk p:=by
 obtain ⟨h1,h2,h3,h4,h5,h6,h7,h8,h9,h10⟩:=h
 exact fun p hp=>peOk (h9.1 p hp)
end Go.Ab.Tryz
