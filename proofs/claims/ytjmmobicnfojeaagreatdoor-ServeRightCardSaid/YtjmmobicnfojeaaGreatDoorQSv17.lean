/- Our texts for this statement, merged: what its theorem leads to. -/
import Derived.Lib.DecodeN
import Derived.Lib.RuneCountTail
import Derived.Lib.TrimU
import Derived.Test.YtjmmobicnfojeaaGreatDoorQSv10
import Derived.Test.YtjmmobicnfojeaaGreatDoorQSv11
import Derived.Test.YtjmmobicnfojeaaGreatDoorQSv12
import Derived.Test.YtjmmobicnfojeaaGreatDoorQSv13
import Derived.Test.YtjmmobicnfojeaaGreatDoorQSv14
import Derived.Test.YtjmmobicnfojeaaGreatDoorQSv15
import Derived.Test.YtjmmobicnfojeaaGreatDoorQSv16
set_option linter.unusedVariables false
set_option linter.unusedSimpArgs false
noncomputable section
namespace Go.Ab.Tryz.Pe
open Go.Ab.Tryz Go Go.Ab Go.Proofs
def PeOk (p:Peer):Prop:=0 ≤ p.id ∧ p.id < 18446744073709551616
def dist (a b:Int):Int:=(b - a) % 18446744073709551616
theorem ring_Dist_eq (a b:Int):zhV a b=some (dist a b):=zuf (by
 show some (IntKind.u64.wrap (b - a))=_
 rw [znj];rfl)
theorem r03_Dist_eq {a b:Int} (ha:0 ≤ a) (ha2:a < 18446744073709551616) (hb:0 ≤ b) (hb2:b < 18446744073709551616):zkD a b=some (dist a b):=zDp (by
 unfold zqm
 show (bif Ops.std.ile a b then some (IntKind.u64.wrap (b - a)) else some (IntKind.u64.wrap (IntKind.u64.wrap (18446744073709551615 - IntKind.u64.wrap (a - b)) + 1)))=_
 simp only [znj,dist,zb1,zas]
 split
 ·rfl
 ·congr 1;omega)
def zcK (me a b:Peer):Bool:=decide (dist me.id a.id < dist me.id b.id ∨ dist me.id a.id=dist me.id b.id ∧ a.addr < b.addr)
theorem zkz (me a b:Peer):zk4 me a b=some (zcK me a b):=zxM (by
 simp only [zlN,ring_Dist_eq,Option.bind_some,zaM,zaI,zas,zcK]
 split
 ·simp_all
 ·split <;> simp_all)
theorem zzS {me a b:Peer} (hm:PeOk me) (ha:PeOk a) (hb:PeOk b):zsB me a b=some (zcK me a b):=zA8 (by
 simp only [zof,r03_Dist_eq hm.1 hm.2 ha.1 ha.2,r03_Dist_eq hm.1 hm.2 hb.1 hb.2,Option.bind_some,zaM,zaI,zas,zcK]
 split
 ·rename_i h;simp [h]
 ·rename_i h;simp [h])
def isAt (addr:Int) (e:Entry):Bool:=decide (e.peer.addr=addr)
def zda (l:List Entry) (addr:Int):Int:=fstI (isAt addr) l
theorem zmH {l:List Entry} {addr:Int} (hl:l.length ≤ 1000):ziy l addr=some (zda l addr) ∧ ziz l addr=some (zda l addr) ∧ znK l addr=some (zda l addr):=by
 have e2:=zdj zag (l:=l) (by omega) (p:=isAt addr) (L:=fun i=>zdH l addr i) (fun h=>zeO (by simp [zb2,h]))
  (fun n x _ h1 h2 hp=>zeO (by
   have:ziX x addr=some (isAt addr x):=znE rfl
   simp [zb2,h1,h2,this,hp]))
  (fun n x r _ h1 h2 hp h=>zeO (by
   have:ziX x addr=some (isAt addr x):=znE rfl
   simp [zb2,h1,h2,this,hp];exact h))
 have e1:=zdj zag (l:=l) (by omega) (p:=isAt addr) (L:=fun i=>zdI l addr i) (fun h=>zeP (by simp [zb4,h]))
  (fun n x _ h1 h2 hp=>zeP (by
   have:zfm x addr=some (isAt addr x):=zkA rfl
   simp [zb4,h1,h2,this,hp]))
  (fun n x r _ h1 h2 hp h=>zeP (by
   have:zfm x addr=some (isAt addr x):=zkA rfl
   simp [zb4,h1,h2,this,hp];exact h))
 have e0:=zdj zag (l:=l) (by omega) (p:=isAt addr) (L:=fun i=>zj3 l addr i) (fun h=>zkN (by simp [zfE,h]))
  (fun n x _ h1 h2 hp=>zkN (by
   have:Ops.std.ieq x.peer.addr addr=true:=hp
   simp [zfE,h1,h2,this]))
  (fun n x r _ h1 h2 hp h=>zkN (by
   have:Ops.std.ieq x.peer.addr addr=false:=hp
   simp [zfE,h1,h2,this];exact h))
 refine ⟨zrq ?_,zrr ?_,zBa ?_⟩
 ·rw [zg9,e2];unfold zda fstI;cases fst (isAt addr) l <;> rfl
 ·rw [zha,e1];unfold zda fstI;cases fst (isAt addr) l <;> rfl
 ·rw [zog,e0];unfold zda fstI;cases fst (isAt addr) l <;> rfl
theorem zkB {l:List Entry} {addr:Int} (hl:l.length ≤ 1000):zk5 l addr=some (zda l addr):=zxO (by simp [zlO,(zmH hl).1])
theorem zzT {l:List Entry} {addr:Int} (hl:l.length ≤ 1000):znK l addr=some (zda l addr):=(zmH hl).2.2
def drp (addr:Int) (l:List Entry):List Entry:=l.filter fun e=>!isAt addr e
theorem zur {addr:Int} {x:Entry} {l:List Entry}:drp addr (x :: l)=bif isAt addr x then drp addr l else x :: drp addr l:=by
 unfold drp
 cases h:isAt addr x <;> simp [h]
theorem zy3 {addr:Int} {l:List Entry} (h:∀ x,x ∈ l → isAt addr x=false):drp addr l=l:=by
 unfold drp
 rw [List.filter_eq_self]
 intro x hx;simp [h x hx]
theorem zy2 (addr:Int) (l:List Entry):(drp addr l).length ≤ l.length:=List.length_filter_le _ _
theorem zGs (addr:Int) (l:List Entry):(l.flatMap fun x=>bif isAt addr x then [] else [x])=drp addr l:=by
 induction l with
 | nil=>rfl
 | cons x l ih=>rw [List.flatMap_cons,ih,zur];cases isAt addr x <;> rfl
theorem zA9 {l:List Entry} {addr:Int} (hl:l.length ≤ 1000):zuN l addr=some (drp addr l):=zDz (by
 have h:=zg1 zag (l:=l) (by omega) (f:=fun x=>bif isAt addr x then [] else [x]) (L:=fun i acc=>ziI l addr i acc) 1 (fun x _=>by cases isAt addr x <;> simp)
  (fun acc h=>zq7 (by simp [zgB,h]))
  (fun n x acc r ha hn _ h1 h2 h=>zq7 (by
   cases hx:isAt addr x with
   | true=>
    have hx':Ops.std.ieq x.peer.addr addr=true:=hx
    simp only [hx,cond_true,List.append_nil] at h
    simp [zgB,h1,h2,hx',h]
   | false=>
    have hx':Ops.std.ieq x.peer.addr addr=false:=hx
    simp only [hx,cond_false] at h
    simp [zgB,h1,h2,hx',zaK zag (b:=24) (l:=acc) (l':=[x]) (by simp;omega) (by omega),h]))
 rw [zqy,h,zGs] <;> rfl)
theorem znX (addr:Int) (rest:List Entry):∀ (kept:List Entry) (j0:Entry) (jt:List Entry),kept.length + (jt.length + 1) + rest.length ≤ 1000 →
  ∃ junk,zb0 addr (kept.length:Nat) ((kept ++ j0 :: jt).length:Nat) (kept ++ j0 :: jt ++ rest)=some ((((kept ++ drp addr rest).length:Nat):Int),kept ++ drp addr rest ++ junk):=by
 induction rest with
 | nil=>
  intro kept j0 jt h
  refine ⟨j0 :: jt,zdq ?_⟩
  have:Ops.std.ilt ((kept ++ j0 :: jt).length:Nat) (xlen zag (kept ++ j0 :: jt ++ []))=false:=by rw [zcF];simp
  rw [zbM,this]
  simp [drp]
 | cons x rest ih=>
  intro kept j0 jt h
  simp only [List.length_cons] at h
  have hlt:Ops.std.ilt ((kept ++ j0 :: jt).length:Nat) (xlen zag (kept ++ j0 :: jt ++ x :: rest))=true:=by rw [zcF];simp
  have hg:xget zag (kept ++ j0 :: jt ++ x :: rest) ((kept ++ j0 :: jt).length:Nat)=some x:=by rw [zbd];simp
  have hadd:Ops.std.iadd .i64 ((kept ++ j0 :: jt).length:Nat) 1=(((kept ++ j0 :: jt).length + 1:Nat):Int):=ze2 (by simp;omega)
  have hd:zfm x addr=some (isAt addr x):=zkA rfl
  rw [zur]
  cases hx:isAt addr x with
  | true=>
   obtain ⟨junk,h2⟩:=ih kept j0 (jt ++ [x]) (by simp;omega)
   refine ⟨junk,zdq ?_⟩
   rw [zbM,hlt,hg,hadd]
   simp only [cond_true,Option.bind_some,hd,hx]
   simpa [Nat.add_assoc] using h2
  | false=>
   have hg0:xget zag (kept ++ j0 :: jt ++ x :: rest) (kept.length:Nat)=some j0:=by rw [zbd];simp
   have hadd2:Ops.std.iadd .i64 (kept.length:Nat) 1=((kept.length + 1:Nat):Int):=ze2 (by omega)
   have hset:xset (kept ++ j0 :: jt ++ x :: rest) (kept.length:Nat) x=(kept ++ [x]) ++ (jt ++ [x]) ++ rest:=by
    unfold xset;simp
   have go:zb0 addr ((kept.length + 1:Nat):Int) (((kept ++ j0 :: jt).length + 1:Nat):Int) ((kept ++ [x]) ++ (jt ++ [x]) ++ rest)=zbM addr (kept.length:Nat) ((kept ++ j0 :: jt).length:Nat) (kept ++ j0 :: jt ++ x :: rest):=by
    rw [zbM,hlt,hg,hadd]
    simp only [cond_true,Option.bind_some,hd,hx,cond_false,hg0,hadd2,hset]
   cases jt with
   | nil=>
    obtain ⟨junk,h2⟩:=ih (kept ++ [x]) x [] (by simp;omega)
    refine ⟨junk,zdq (go.symm.trans ?_)⟩
    simpa [Nat.add_assoc] using h2
   | cons j1 jt=>
    obtain ⟨junk,h2⟩:=ih (kept ++ [x]) j1 (jt ++ [x]) (by simp at h ⊢;omega)
    refine ⟨junk,zdq (go.symm.trans ?_)⟩
    simpa [Nat.add_assoc] using h2
theorem zdR (l:List Entry) (n:Nat) (h:n ≤ l.length):xsub zag l 0 (n:Int)=some (l.take n):=by
 rw [zmD,if_pos (by omega)];simp
theorem zic (l:List Entry) (n:Nat) (h:n ≤ l.length):xsub zag l (n:Int) (xlen zag l)=some (l.drop n):=by
 rw [zmD,zaG,if_pos (by omega)];simp
theorem zlI {l:List Entry} {addr:Int} (hl:l.length ≤ 1000):zjj l addr=some (drp addr l):=zrE (by
 rw [zhr,(zmH hl).2.1,Option.bind_some]
 unfold zda fstI
 cases hf:fst (isAt addr) l with
 | none=>
  have:Ops.std.ieq (-1) (-1)=true:=rfl
  simp [this,zy3 (zmT hf)]
 | some n=>
  obtain ⟨x,hx,hp,hn,hb⟩:=zhz hf
  have h1:Ops.std.ieq (n:Int) (-1)=false:=ieqF (by omega)
  obtain ⟨hn',hxe⟩:=List.getElem?_eq_some_iff.1 hx
  have hsplit:l=l.take n ++ x :: l.drop (n + 1):=by
   rw [← hxe,← List.drop_eq_getElem_cons hn,List.take_append_drop]
  have hkl:(l.take n).length=n:=by simp;omega
  have hbefore:drp addr (l.take n)=l.take n:=zy3 fun y hy=>by
   obtain ⟨i,hi,rfl⟩:=List.getElem_of_mem hy
   rw [hkl] at hi
   exact hb i _ hi (by rw [List.getElem_take];exact List.getElem?_eq_getElem _)
  have hdrp:drp addr l=l.take n ++ drp addr (l.drop (n + 1)):=by
   conv=>lhs;rw [hsplit]
   show List.filter _ _=_
   rw [List.filter_append]
   show drp addr _ ++ drp addr (x :: _)=_
   rw [hbefore,zur,hp,cond_true]
  obtain ⟨junk,hlo⟩:=znX addr (l.drop (n + 1)) (l.take n) x [] (by rw [hkl];simp;omega)
  rw [← hdrp,List.append_assoc,List.singleton_append,← hsplit,List.length_append,hkl,List.length_singleton] at hlo
  have hadd:Ops.std.iadd .i64 (n:Int) 1=((n + 1:Nat):Int):=ze2 (by omega)
  have hz:Ops.std.ieq 0 0=true:=rfl
  have hfil:xfil (drp addr l ++ junk) ((drp addr l).length:Nat) (xlen zag (drp addr l ++ junk)) ⟨⟨0,0⟩,0⟩=drp addr l ++ List.replicate junk.length ⟨⟨0,0⟩,0⟩:=by
   unfold xfil;rw [zaG];simp only [Int.toNat_natCast];simp
  simp only [h1,cond_false,hadd,hlo,Option.bind_some,zic (drp addr l ++ junk) (drp addr l).length (by simp),hfil,zdR (drp addr l ++ List.replicate junk.length ⟨⟨0,0⟩,0⟩) (drp addr l).length (by simp),hz,cond_true]
  simp)
theorem zq4 {l:List Entry} {addr:Int} (hl:l.length ≤ 1000):zqi l addr=some (drp addr l):=zzC (by
 simp [zm1,zlI hl,zaK zag (b:=24) (l:=[]) (l':=l) (by simp;omega) (by omega)])
def firms (l:List Entry):List Peer:=l.flatMap fun x=>bif Ops.std.ile x.misses 0 then [x.peer] else []
theorem zGC (l:List Entry):(l.flatMap fun x=>[x.peer])=l.map Entry.peer:=by
 induction l with
 | nil=>rfl
 | cons x l ih=>rw [List.flatMap_cons,ih];rfl
theorem some_eq {l:List Entry} (hl:l.length ≤ 1000):zjX l=some (firms l) ∧ zm6 l=some (firms l) ∧ zsi l=some (l.map Entry.peer) ∧ zwL l=some (l.map Entry.peer):=by
 have h1:=zg1 zag (l:=l) (by omega) (f:=fun x=>bif Ops.std.ile x.misses 0 then [x.peer] else []) (L:=fun i acc=>zez l i acc) 1 (fun x _=>by cases Ops.std.ile x.misses 0 <;> simp)
  (fun acc h=>zmb (by simp [zdD,h]))
  (fun n x acc r ha hn _ h1 h2 h=>zmb (by
   have hf:zqj x=some (Ops.std.ile x.misses 0):=zzG rfl
   cases hx:Ops.std.ile x.misses 0 with
   | false=>simp only [hx,cond_false,List.append_nil] at h;simp [zdD,h1,h2,hf,hx,h]
   | true=>simp only [hx,cond_true] at h;simp [zdD,h1,h2,hf,hx,h,zaK zaf (b:=16) (l:=acc) (l':=[x.peer]) (by simp;omega) (by omega)]))
 have h2:=zg1 zag (l:=l) (by omega) (f:=fun x=>bif Ops.std.ile x.misses 0 then [x.peer] else []) (L:=fun i acc=>ziJ l i acc) 1 (fun x _=>by cases Ops.std.ile x.misses 0 <;> simp)
  (fun acc h=>zq8 (by simp [zgD,h]))
  (fun n x acc r ha hn _ h1 h2 h=>zq8 (by
   have hf:Ops.std.ilt x.misses 1=Ops.std.ile x.misses 0:=by rw [zaM,zb1];exact decide_eq_decide.2 (by omega)
   cases hx:Ops.std.ile x.misses 0 with
   | false=>simp only [hx,cond_false,List.append_nil] at h;simp [zgD,h1,h2,hf,hx,h]
   | true=>simp only [hx,cond_true] at h;simp [zgD,h1,h2,hf,hx,h,zaK zaf (b:=16) (l:=acc) (l':=[x.peer]) (by simp;omega) (by omega)]))
 have h3:=zg1 zag (l:=l) (by omega) (f:=fun x=>[x.peer]) (L:=fun i acc=>zgv l i acc) 1 (fun x _=>by simp)
  (fun acc h=>znF (by simp [zhm,h]))
  (fun n x acc r ha hn _ h1 h2 h=>znF (by
   have hf:zn2 x=some true:=zxN rfl
   simp [zhm,h1,h2,hf,h,zaK zaf (b:=16) (l:=acc) (l':=[x.peer]) (by simp;omega) (by omega)]))
 have h4:=zg1 zag (l:=l) (by omega) (f:=fun x=>[x.peer]) (L:=fun i acc=>zmr l i acc) 1 (fun x _=>by simp)
  (fun acc h=>zsD (by simp [zj2,h]))
  (fun n x acc r ha hn _ h1 h2 h=>zsD (by
   simp [zj2,h1,h2,h,zaK zaf (b:=16) (l:=acc) (l':=[x.peer]) (by simp;omega) (by omega)]))
 rw [zGC] at h3 h4
 refine ⟨zzD ?_,zDA ?_,zAU ?_,zFE ?_⟩
 ·simp [zm2,zwC (l:=l) (r:=firms l) (by simp [zkC,h1,firms])]
 ·simp [zqz,h2,firms]
 ·simp [zn3,zzH (l:=l) (r:=l.map Entry.peer) (by simp [zm4,h3])]
 ·simp [zsC,h4]
theorem firms_le (l:List Entry):(firms l).length ≤ l.length:=by
 unfold firms
 induction l with
 | nil=>exact Nat.le_refl _
 | cons x l ih=>rw [List.flatMap_cons,List.length_append,List.length_cons];cases Ops.std.ile x.misses 0 <;> simp only [cond_true,cond_false,List.length_cons,List.length_nil] <;> omega
theorem Entry.ext3 {a b:Entry}:a=b ↔ a.peer.id=b.peer.id ∧ a.peer.addr=b.peer.addr ∧ a.misses=b.misses:=by
 rw [Entry.ext',Peer.ext',and_assoc]
theorem r27_Same_eq {a b:List Entry} (hl:a.length ≤ 1000):zqA a b=some (eqb a b):=zDB (by
 rw [zqB,zaG,zaG]
 by_cases he:a.length=b.length
 ·have h:=zjK zag (l:=a) (l':=b) (by omega) he (L:=fun i=>zld a b i) (fun h=>zlT (by simp [zgF,h]))
   (fun n x r _ h1 h2 h3 h=>zlT (by simp [zgF,h1,h2,h3,zaI];exact h))
   (fun n x y _ h1 h2 h3 h=>zlT (by
    simp only [zgF,h1,h2,h3,zaI,zas,cond_true,Option.bind_some]
    rw [ne_eq,Entry.ext3] at h
    split
    ·split
     ·split
      ·exact absurd ⟨‹_›,‹_›,‹_›⟩ h
      ·rfl
     ·rfl
    ·rfl))
  rw [ieqT (by omega),cond_true]
  rcases h with ⟨h1,h2⟩ | ⟨h1,h2⟩
  ·rw [h2,h1,zdZ];rfl
  ·rw [h2,zgm h1];rfl
 ·rw [ieqF (by omega),zgm (fun h=>he (by rw [h]))];rfl)
theorem zsu {a b:List Peer} (hl:a.length ≤ 1000):znJ a b=some (eqb a b):=zt5 (by
 rw [zlb,zaG,zaG]
 by_cases he:a.length=b.length
 ·have h:=zjK zaf (l:=a) (l':=b) (by omega) he (L:=fun i=>zhJ a b i) (fun h=>zdT (by simp [zcq,h]))
   (fun n x r _ h1 h2 h3 h=>zdT (by simp [zcq,h1,h2,h3,zaI];exact h))
   (fun n x y _ h1 h2 h3 h=>zdT (by
    simp only [zcq,h1,h2,h3,zaI,zas,cond_true,Option.bind_some]
    rw [ne_eq,Peer.ext'] at h
    split
    ·split
     ·exact absurd ⟨‹_›,‹_›⟩ h
     ·rfl
    ·rfl))
  rw [ieqT (by omega),cond_true]
  rcases h with ⟨h1,h2⟩ | ⟨h1,h2⟩
  ·rw [h2,h1,zdZ];rfl
  ·rw [h2,zgm h1];rfl
 ·rw [ieqF (by omega),zgm (fun h=>he (by rw [h]))];rfl)
theorem zHt {α:Type} (l:List α) (n:Nat) (x:α):xset l (n:Int) x=l.set n x:=rfl
theorem ztY {me a b c:Peer} (h1:zcK me a b=true) (h2:zcK me b c=true):zcK me a c=true:=by
 simp only [zcK,decide_eq_true_eq] at *
 omega
def RightP (me:Peer) (l:List Entry):Prop:=l.length ≤ 15 ∧ (∀ x,x ∈ l → 0 ≤ x.misses ∧ x.misses < 3 ∧ x.peer.addr ≠ me.addr) ∧ l.Pairwise (fun a b=>a.peer.addr ≠ b.peer.addr ∧ zcK me a.peer b.peer=true)
def zc3 (me:Peer) (l:List Entry) (n:Nat) (x:Entry):Prop:=0 ≤ x.misses ∧ x.misses < 3 ∧ x.peer.addr ≠ me.addr ∧ zda l x.peer.addr=n ∧ ∀ k y,n=k + 1 → l[k]?=some y → zcK me y.peer x.peer=true
theorem zzI {l:List Entry} {n:Nat} {x:Entry} (hx:l[n]?=some x):zda l x.peer.addr=n ↔ ∀ k y,k < n → l[k]?=some y → y.peer.addr ≠ x.peer.addr:=by
 unfold zda fstI
 obtain ⟨m,hm⟩:=zE2 (p:=isAt x.peer.addr) (l:=l) ⟨x,List.mem_of_getElem? hx,by simp [isAt]⟩
 rw [hm]
 obtain ⟨z,hz,hp,hlt,hb⟩:=zhz hm
 constructor
 ·intro h k y hk hy he
  have h':(m:Int)=n:=h
  have:=hb k y (by omega) hy
  rw [isAt,decide_eq_false_iff_not] at this
  exact this he
 ·intro h
  show (m:Int)=n
  rcases Nat.lt_trichotomy m n with hlt | he | hgt
  ·exact absurd (by simpa [isAt] using hp) (h m z hlt hz)
  ·rw [he]
  ·have:=hb n x hgt hx
   simp [isAt] at this
theorem zue {me:Peer} {l:List Entry}:(∀ n x,l[n]?=some x → zc3 me l n x) ↔ (∀ x,x ∈ l → 0 ≤ x.misses ∧ x.misses < 3 ∧ x.peer.addr ≠ me.addr) ∧ l.Pairwise (fun a b=>a.peer.addr ≠ b.peer.addr ∧ zcK me a.peer b.peer=true):=by
 constructor
 ·intro h
  refine ⟨fun x hx=>?_,List.pairwise_iff_getElem.2 fun i j hi hj hij=>?_⟩
  ·obtain ⟨n,hn⟩:=List.getElem?_of_mem hx
   obtain ⟨h1,h2,h3,_⟩:=h n x hn
   exact ⟨h1,h2,h3⟩
  ·have hj':=h j l[j] (List.getElem?_eq_getElem hj)
   refine ⟨(zzI (List.getElem?_eq_getElem hj)).1 hj'.2.2.2.1 i _ hij (List.getElem?_eq_getElem hi),?_⟩
   have key:∀ d (hd:i + 1 + d < l.length),zcK me l[i].peer (l[i + 1 + d]).peer=true:=by
    intro d
    induction d with
    | zero=>intro hd;exact (h (i + 1) _ (List.getElem?_eq_getElem hd)).2.2.2.2 i _ rfl (List.getElem?_eq_getElem hi)
    | succ d ih=>
     intro hd
     have h1:=ih (by omega)
     have h2:=(h (i + 1 + d + 1) _ (List.getElem?_eq_getElem (by omega))).2.2.2.2 (i + 1 + d) _ rfl (List.getElem?_eq_getElem (by omega))
     exact ztY h1 h2
   have:=key (j - (i + 1)) (by omega)
   simpa [show i + 1 + (j - (i + 1))=j by omega] using this
 ·rintro ⟨h1,h2⟩ n x hx
  obtain ⟨a1,a2,a3⟩:=h1 x (List.mem_of_getElem? hx)
  obtain ⟨hn,hxe⟩:=List.getElem?_eq_some_iff.1 hx
  rw [List.pairwise_iff_getElem] at h2
  refine ⟨a1,a2,a3,(zzI hx).2 fun k y hk hy=>?_,fun k y hk hy=>?_⟩
  ·obtain ⟨hk',hye⟩:=List.getElem?_eq_some_iff.1 hy
   have:=(h2 k n hk' hn hk).1
   rw [hye,hxe] at this;exact this
  ·obtain ⟨hk',hye⟩:=List.getElem?_eq_some_iff.1 hy
   have:=(h2 k n hk' hn (by omega)).2
   rw [hye,hxe] at this;exact this
theorem peers_Right_eq {me:Peer} {l:List Entry} (hl:l.length ≤ 1000):zk6 me l=some (dcd (RightP me l)):=zxP (by
 have h:=zpE zag (l:=l) (by omega) (p:=fun n x=>dcd (zc3 me l n x)) (L:=fun i=>zig me l i)
  (fun h=>zjr (by simp [zd1,h]))
  (fun n x r hx h1 h2 hp h=>zjr (by
   obtain ⟨a1,a2,a3,a4,a5⟩:=zmx.1 hp
   have s0:zih me l (n:Int) (n:Int) x.peer.id x.peer.addr x.misses=some (.inl ((n:Int),x.peer.id,x.peer.addr,x.misses)):=zm3 (by
    rw [zgd]
    cases n with
    | zero=>rfl
    | succ k=>
     have hk:k < l.length:=by have:=(List.getElem?_eq_some_iff.1 hx).1;omega
     have hg:xget zag l (Ops.std.isub .i64 ((k + 1:Nat):Int) 1)=some l[k]:=by
      rw [zyE (by omega) (by omega),show ((k + 1:Nat):Int) - 1=(k:Nat) by omega,zbd];exact List.getElem?_eq_getElem hk
     have:=a5 k _ rfl (List.getElem?_eq_getElem hk)
     simp only [iltT (show (0:Int) < ((k + 1:Nat):Int) by omega),cond_true,hg,Option.bind_some,zkz]
     rw [this];rfl)
   simp only [zd1,h1,h2,cond_true,Option.bind_some,iltF (show ¬ x.misses < 0 by omega),ileF (show ¬ 3 ≤ x.misses by omega),ieqF a3,cond_false,zkB hl,ieqT a4,s0]
   exact h))
  (fun n x hx h1 h2 hp=>zjr (by
   have hp':=zrT.1 hp
   simp only [zd1,h1,h2,cond_true,Option.bind_some,zaM,zb1,zaI,zas,zkB hl]
   split
   ·rfl
   ·split
    ·rfl
    ·split
     ·rfl
     ·split
      ·rename_i b1 b2 b3 b4
       cases n with
       | zero=>exact absurd ⟨by omega,by omega,b3,b4,fun k y hk=>by omega⟩ hp'
       | succ k=>
        have hk:k < l.length:=by have:=(List.getElem?_eq_some_iff.1 hx).1;omega
        have hg:xget zag l (Ops.std.isub .i64 ((k + 1:Nat):Int) 1)=some l[k]:=by
         rw [zyE (by omega) (by omega),show ((k + 1:Nat):Int) - 1=(k:Nat) by omega,zbd];exact List.getElem?_eq_getElem hk
        have ha:zcK me l[k].peer x.peer=false:=by
         cases ha:zcK me l[k].peer x.peer with
         | false=>rfl
         | true=>exact absurd ⟨by omega,by omega,b3,b4,fun k' y hk' hy=>by
           obtain rfl:k=k':=by omega
           rw [List.getElem?_eq_getElem hk] at hy
           cases hy;exact ha⟩ hp'
        have s0:zih me l ((k + 1:Nat):Int) ((k + 1:Nat):Int) x.peer.id x.peer.addr x.misses=some (.inr (x.peer.id,x.peer.addr,x.misses)):=zm3 (by
         rw [zgd]
         simp only [iltT (show (0:Int) < ((k + 1:Nat):Int) by omega),cond_true,hg,Option.bind_some,zkz,ha,cond_false])
        rw [s0];rfl
      ·rfl))
 rw [zlP,h]
 by_cases hr:∀ n x,l[n]?=some x → zc3 me l n x
 ·have hall:allI (fun n x=>dcd (zc3 me l n x)) 0 l=true:=zpD.2 fun i x hx=>zmx.2 (by simpa using hr i x hx)
  rw [hall,cond_true]
  simp only [Option.bind_some]
  congr 1
  rw [zaG,zb1]
  exact zCT (by unfold RightP;rw [← zue];exact ⟨fun h=>⟨by omega,hr⟩,fun h=>by have:=h.1;omega⟩)
 ·have hall:allI (fun n x=>dcd (zc3 me l n x)) 0 l=false:=by
   cases ha:allI (fun n x=>dcd (zc3 me l n x)) 0 l with
   | false=>rfl
   | true=>exact absurd (fun n x hx=>by have:=zpD.1 ha n x hx;rw [zmx] at this;simpa using this) hr
  rw [hall,cond_false,zrT.2 (fun h=>hr (zue.2 h.2))]
  rfl)
end Go.Ab.Tryz.Pe
namespace Go.Ab.Tryz.Pe
open Go.Ab.Tryz Go Go.Ab Go.Proofs
def EnOk (l:List Entry):Prop:=∀ x,x ∈ l → PeOk x.peer
def isAh (me p:Peer) (x:Entry):Bool:=zcK me p x.peer
def ins (me p:Peer):List Entry → List Entry
 | []=>[⟨p,0⟩]
 | x :: l=>bif isAh me p x then ⟨p,0⟩ :: x :: l else x :: ins me p l
def cut (l:List Entry):List Entry:=if 15 < l.length then l.take (l.length - 1) else l
def add (me:Peer) (l:List Entry) (p:Peer):List Entry:=
 if p.addr=me.addr then l else
 match fst (isAt p.addr) l with
 | none=>cut (ins me p (drp p.addr l))
 | some n=>match l[n]? with
  | none=>l
  | some x=>if x.peer=p then l.set n ⟨x.peer,0⟩ else cut (ins me p (drp p.addr l))
theorem zwu (me p:Peer) (l:List Entry):(ins me p l).length=l.length + 1:=by
 induction l with
 | nil=>rfl
 | cons x l ih=>rw [ins];cases isAh me p x <;> simp [ih]
theorem zxd (me p:Peer) (l:List Entry):ins me p l=match fst (isAh me p) l with | some n=>l.take n ++ ⟨p,0⟩ :: l.drop n | none=>l ++ [⟨p,0⟩]:=by
 induction l with
 | nil=>rfl
 | cons x l ih=>
  rw [ins,fst]
  cases isAh me p x with
  | true=>rfl
  | false=>
   rw [cond_false,cond_false,ih]
   cases fst (isAh me p) l with
   | none=>rfl
   | some n=>simp
theorem znm {me p:Peer} {l:List Entry} (hl:l.length ≤ 1000):zjO l me.id me.addr p.id p.addr=some (fstI (isAh me p) l):=ztW (by
 have hc:∀ x,zn0 x me.id me.addr p.id p.addr=some (isAh me p x):=fun x=>zxL (by
  rw [zlM,zkz];rfl)
 have h:=zdj zag (l:=l) (by omega) (p:=isAh me p) (L:=fun i=>zes l me.id me.addr p.id p.addr i) (fun h=>zf7 (by simp [zcw,h]))
  (fun n x _ h1 h2 hp=>zf7 (by simp [zcw,h1,h2,hc,hp]))
  (fun n x r _ h1 h2 hp h=>zf7 (by simp [zcw,h1,h2,hc,hp];exact h))
 rw [ziA,h]
 unfold fstI
 cases fst (isAh me p) l <;> rfl)
theorem znC {me p:Peer} {l r4:List Entry} {n:Nat} (hl:r4.length ≤ 1000) (hn:n ≤ r4.length):∃ t hi,zjW me l p (n:Int) r4=some (hi,t) ∧ xsub zag t 0 hi=some (cut (r4.take n ++ ⟨p,0⟩ :: r4.drop n)):=by
 have hroom:zaN zag 24 r4 [⟨p,0⟩]=true:=zaK zag (by simp;omega) (by omega)
 have hlen:(r4.take n ++ ([(⟨p,0⟩:Entry)] ++ r4.drop n)).length=r4.length + 1:=by simp;omega
 have e:r4.take n ++ ⟨p,0⟩ :: r4.drop n=r4.take n ++ ([(⟨p,0⟩:Entry)] ++ r4.drop n):=rfl
 rw [e]
 generalize hL:r4.take n ++ ([(⟨p,0⟩:Entry)] ++ r4.drop n)=L at hlen
 have hsub:∀ k:Nat,k ≤ L.length → xsub zag L 0 (k:Int)=some (L.take k):=fun k hk=>zdR L k hk
 have h1:Ops.std.isub .i64 (xlen zag L) 1=(r4.length:Int):=by rw [zaG,zyE (by omega) (by omega)];omega
 refine ⟨L,((if 15 < L.length then L.length - 1 else L.length:Nat):Int),zwB ?_,?_⟩
 ·simp only [zky,hroom,cond_true,zdR r4 n hn,zic r4 n hn,Option.bind_some,hL,h1]
  rw [zaG]
  by_cases h15:15 < L.length
  ·by_cases h14:L.length=16
   ·rw [iltF (by omega),cond_false,iltT (by omega),cond_true,if_pos h15]
    have:=hsub r4.length (by omega)
    rw [this,Option.bind_some];congr 2;omega
   ·rw [iltF (by omega),cond_false,iltT (by omega),cond_true,if_pos h15]
    have:=hsub r4.length (by omega)
    rw [this,Option.bind_some];congr 2;omega
  ·rw [iltT (by omega),cond_true,iltF (by omega),cond_false,if_neg h15]
   have:=hsub L.length (Nat.le_refl _)
   rw [this,Option.bind_some]
 ·rw [hsub _ (by split <;> omega)]
  unfold cut
  split
  ·rfl
  ·simp
theorem zvR {me p:Peer} {l:List Entry} (hl:l.length ≤ 900):∃ t hi,zhB me l p=some (hi,t) ∧ xsub zag t 0 hi=some (cut (ins me p (drp p.addr l))):=by
 have hd:=zy2 p.addr l
 rw [zxd]
 cases hf:fst (isAh me p) (drp p.addr l) with
 | none=>
  obtain ⟨t,hi,h1,h2⟩:=znC (me:=me) (p:=p) (l:=l) (r4:=drp p.addr l) (n:=(drp p.addr l).length) (by omega) (Nat.le_refl _)
  refine ⟨t,hi,zo9 ?_,by rw [h2];simp⟩
  simp only [zif,zq4 (l:=l) (by omega),Option.bind_some,znm (l:=drp p.addr l) (by omega),fstI,hf]
  have:Ops.std.ilt (-1) 0=true:=rfl
  simp only [this,cond_true,zaG,h1,Option.bind_some]
 | some n=>
  have hn:=(zhz hf).choose_spec.2.2.1
  obtain ⟨t,hi,h1,h2⟩:=znC (me:=me) (p:=p) (l:=l) (r4:=drp p.addr l) (n:=n) (by omega) (by omega)
  refine ⟨t,hi,zo9 ?_,h2⟩
  simp only [zif,zq4 (l:=l) (by omega),Option.bind_some,znm (l:=drp p.addr l) (by omega),fstI,hf,iltF (show ¬ (n:Int) < 0 by omega),cond_false,h1]
theorem peers_Add_eq {me p:Peer} {l:List Entry} (hl:l.length ≤ 900):zsh me l p=some (add me l p):=zAT (by
 have hroom:zaN zag 24 [] l=true:=zaK zag (by simp;omega) (by omega)
 obtain ⟨t,hi,h1,h2⟩:=zvR (me:=me) (p:=p) (l:=l) hl
 simp only [zn1,hroom,cond_true,zkB (l:=l) (by omega),Option.bind_some,zaI,zb1,zas,h1,h2,add]
 split
 ·rfl
 ·unfold zda fstI
  cases hf:fst (isAt p.addr) l with
  | none=>dsimp only;rw [if_neg (by omega)]
  | some n=>
   obtain ⟨x,hx,hp,hn,hb⟩:=zhz hf
   have hg:xget zag l (n:Int)=some x:=by rw [zbd,hx]
   dsimp only
   rw [if_pos (by omega)]
   simp only [hg,Option.bind_some,hx,Peer.ext',zHt]
   by_cases h3:x.peer.id=p.id
   ·by_cases h4:x.peer.addr=p.addr
    ·simp [h3,h4]
    ·simp [h3,h4]
   ·simp [h3])
theorem zxS {me p:Peer} {l:List Entry} (hl:l.length ≤ 900) (hm:PeOk me) (hp:PeOk p) (ho:EnOk l):zge me p l false 0 []=some (match fst (isAh me p) l with | some n=>(true,l.take n ++ ⟨p,0⟩ :: l.drop n) | none=>(false,l)):=by
 have h:=zbi (σ:=Bool × List Entry) zag (l:=l) (by omega) (L:=fun i s=>zge me p l s.1 i s.2) (res:=fun _ s rest=>bif s.1 then (true,s.2 ++ rest) else match fst (isAh me p) rest with | some n=>(true,s.2 ++ (rest.take n ++ ⟨p,0⟩ :: rest.drop n)) | none=>(false,s.2 ++ rest)) (Inv:=fun n s=>s.2.length ≤ n + (bif s.1 then 1 else 0))
  (fun s _ h=>zsy (by
   obtain ⟨b,acc⟩:=s
   cases b <;> simp [zhM,h,fst]))
  (fun n x rest s hi hn hx hd h1 h2 h3 ih=>zsy (by
   obtain ⟨b,acc⟩:=s
   have hi':acc.length ≤ n + (bif b then 1 else 0):=hi
   have hroom:∀ (a:List Entry) (y:Entry),a.length ≤ n + 2 → zaN zag 24 a [y]=true:=fun a y ha=>zaK zag (by simp;omega) (by omega)
   cases b with
   | true=>
    rw [cond_true] at hi'
    simp only [zhM,h1,h2,cond_true,Option.bind_some,hroom acc x (by omega),h3]
    have:=ih (true,acc ++ [x]) (by simp;omega)
    simpa using this
   | false=>
    rw [cond_false] at hi'
    simp only [zhM,h1,h2,cond_true,cond_false,Option.bind_some,zzS hm hp (ho x (List.mem_of_getElem? hx)),fst]
    have e:zcK me p x.peer=isAh me p x:=rfl
    rw [e]
    cases isAh me p x with
    | true=>
     simp only [cond_true,hroom acc ⟨p,0⟩ (by omega),hroom (acc ++ [⟨p,0⟩]) x (by simp;omega),h3]
     have:=ih (true,acc ++ [⟨p,0⟩] ++ [x]) (by simp;omega)
     simpa using this
    | false=>
     simp only [cond_false,hroom acc x (by omega),cond_true,h3]
     have:=ih (false,acc ++ [x]) (by simp;omega)
     simp only [cond_false] at this
     rw [this]
     cases fst (isAh me p) rest with
     | none=>simp
     | some m=>simp)) (false,[]) (by simp)
 simpa using h
theorem zxT {me p:Peer} {t:List Entry} (hl:t.length ≤ 1000):∃ r,zmq me p t=some r ∧ (match r with | .inl (hi,r3)=>(xsub zag r3 0 hi).bind fun ys=>some ys | .inr r3=>some r3)=some (cut t):=by
 by_cases h15:15 < t.length
 ·have h1:Ops.std.isub .i64 (xlen zag t) 1=((t.length - 1:Nat):Int):=by rw [zaG,zyE (by omega) (by omega)];omega
  refine ⟨.inl (((t.length - 1:Nat):Int),t),zsA ?_,?_⟩
  ·simp only [zj1,h1,zdR t (t.length - 1) (by omega),Option.bind_some]
   rw [zaG,iltT (by omega),cond_true]
  ·simp only [zdR t (t.length - 1) (by omega),Option.bind_some,cut,if_pos h15]
 ·refine ⟨.inr t,zsA ?_,by simp only [cut,if_neg h15]⟩
  rw [zj1,zaG,iltF (by omega),cond_false]
theorem zxU {me p:Peer} {l:List Entry} (hl:l.length ≤ 900) (hm:PeOk me) (hp:PeOk p) (ho:EnOk l):∃ r,zil me l p=some r ∧ (match r with | .inl (hi,r3)=>(xsub zag r3 0 hi).bind fun ys=>some ys | .inr r3=>some r3)=some (cut (ins me p (drp p.addr l))):=by
 have hd:=zy2 p.addr l
 have hod:EnOk (drp p.addr l):=fun x hx=>ho x (List.mem_filter.1 hx).1
 have hil:=zwu me p (drp p.addr l)
 obtain ⟨r,h1,h2⟩:=zxT (me:=me) (p:=p) (t:=ins me p (drp p.addr l)) (by omega)
 refine ⟨r,zzR ?_,h2⟩
 have hl1:=zxS (me:=me) (p:=p) (l:=drp p.addr l) (by omega) hm hp hod
 simp only [zm5,zA9 (l:=l) (addr:=p.addr) (by omega),Option.bind_some,hl1]
 rw [zxd] at h1
 cases hf:fst (isAh me p) (drp p.addr l) with
 | none=>
  rw [hf] at h1
  have hroom:zaN zag 24 (drp p.addr l) [⟨p,0⟩]=true:=zaK zag (by simp;omega) (by omega)
  simp only [Option.bind_some,cond_false,hroom,cond_true] at h1 ⊢
  rw [h1] <;> (rcases r with ⟨a,b⟩ | c <;> rfl)
 | some n=>
  rw [hf] at h1
  simp only [Option.bind_some,cond_true] at h1 ⊢
  rw [h1] <;> (rcases r with ⟨a,b⟩ | c <;> rfl)
theorem r27_Add_eq {me p:Peer} {l:List Entry} (hl:l.length ≤ 900) (hm:PeOk me) (hp:PeOk p) (ho:EnOk l):zwK me l p=some (add me l p):=zFD (by
 have hroom:zaN zag 24 [] l=true:=zaK zag (by simp;omega) (by omega)
 obtain ⟨r,h1,h2⟩:=zxU (l:=l) hl hm hp ho
 have s0:∀ at_,zgf me l p at_ false=some (.inr ()):=fun at_=>zsz (by rw [zj0,cond_false])
 rcases r with ⟨hi,t⟩ | t
 all_goals
  simp only [Option.bind_fun_some,Option.some.injEq] at h2
  simp only [zsx,zzT (l:=l) (addr:=p.addr) (by omega),Option.bind_some,zaI,zb1,zas,s0,h1,h2,add]
  split
  ·rfl
  ·unfold zda fstI
   cases hf:fst (isAt p.addr) l with
   | none=>dsimp only;rw [if_neg (by omega)]
   | some n=>
    obtain ⟨x,hx,hp,hn,hb⟩:=zhz hf
    have hg:xget zag l (n:Int)=some x:=by rw [zbd,hx]
    have s1:zgf me l p (n:Int) true=some (.inl (l.set n ⟨x.peer,0⟩)):=zsz (by
     rw [zj0,cond_true,hroom,cond_true,hg];rfl)
    dsimp only
    rw [if_pos (by omega)]
    simp only [hg,Option.bind_some,hx,Peer.ext',s1]
    by_cases h3:x.peer.id=p.id
    ·by_cases h4:x.peer.addr=p.addr
     ·simp [h3,h4]
     ·simp [h3,h4]
    ·simp [h3])
theorem add_le (me p:Peer) (l:List Entry):(add me l p).length ≤ l.length + 1:=by
 have hd:=zy2 p.addr l
 have hc:(cut (ins me p (drp p.addr l))).length ≤ l.length + 1:=by
  unfold cut
  have:=zwu me p (drp p.addr l)
  split
  ·rw [List.length_take];omega
  ·omega
 unfold add
 split
 ·omega
 ·split
  ·exact hc
  ·split
   ·omega
   ·split
    ·rw [List.length_set];omega
    ·exact hc
end Go.Ab.Tryz.Pe
namespace Go.Ab.Tryz
open Go Go.Ab Go.Proofs Go.Lib
def byt (s:ByteArray) (i:Nat):Nat:=(s.get! i).toNat
theorem zvr (s:ByteArray) (i:Nat):byt s i < 256:=(s.get! i).toNat_lt
theorem zJd (s:ByteArray) (i:Nat) (h:s.size ≤ i):byt s i=0:=by
 cases s with
 | mk d=>
  have h':d.size ≤ i:=h
  show (d[i]!).toNat=0
  rw [getElem!_neg d i (by omega)];rfl
theorem zib {s:ByteArray} {i:Nat} (h:i < s.size):zbZ s (i:Int)=some (byt s i:Int):=by
 show (if (0:Int) ≤ (i:Int) then (s[(i:Int).toNat]?).map fun c=>(c.toNat:Int) else none)=_
 rw [if_pos (by omega),Int.toNat_natCast]
 have e1:s[i]?=some (s[i]'h):=getElem?_pos s i h
 have e2:s.get! i=s[i]'h:=by
  cases s with
  | mk d=>exact getElem!_pos d i h
 rw [e1]
 show some ((s[i]'h).toNat:Int)=_
 rw [← e2];rfl
theorem ztM {a b:Nat} (h:a + b < 9223372036854775808):Ops.std.iadd .i64 (a:Int) (b:Int)=((a + b:Nat):Int):=by
 show IntKind.i64.wrap _=_
 unfold IntKind.wrap
 simp [IntKind.signed,IntKind.bits]
 omega
theorem zCr {a b:Nat} (h:b ≤ a) (h2:a < 9223372036854775808):Ops.std.isub .i64 (a:Int) (b:Int)=((a - b:Nat):Int):=by
 show IntKind.i64.wrap _=_
 unfold IntKind.wrap
 simp [IntKind.signed,IntKind.bits]
 omega
theorem zbf (s:ByteArray):Ops.std.slen s=(s.size:Int):=rfl
def wid (s:ByteArray) (i:Nat):Nat:=if Utf8.decode s i=(65533,1) then 0 else (Utf8.decode s i).2
def tl (b:Nat):Bool:=decide (128 ≤ b ∧ b ≤ 191)
theorem zoa (b:Nat):zhG (b:Int)=some (tl b):=zDr (by
 simp only [zqo,zb1,zas,tl]
 split
 ·rename_i h
  congr 1
  exact decide_eq_decide.2 ⟨fun h2=>⟨by omega,by omega⟩,fun h2=>by omega⟩
 ·rename_i h
  congr 1
  exact (decide_eq_false (by omega)).symm)
def wd3 (b0 b1:Nat) (t:Bool):Option Nat:=bif t then (if b0=224 then (if b1 < 160 then some 0 else some 3) else if b0=237 then (if 159 < b1 then some 0 else some 3) else some 3) else none
def wd4 (b0 b1:Nat) (t:Bool):Nat:=bif t then (if b0=240 then (if b1 < 144 then 0 else 4) else if b0=244 then (if 143 < b1 then 0 else 4) else 4) else 0
section
variable {s:ByteArray} {i:Nat} (hi:i < s.size) (hs:s.size < 4611686018427387904)
include hi hs
theorem zww:Ops.std.isub .i64 (Ops.std.slen s) (i:Int)=((s.size - i:Nat):Int):=zCr (by omega) (by omega)
theorem zno {k:Nat} (h:k < s.size - i) (hk:k < 8):zbZ s (Ops.std.iadd .i64 (i:Int) (k:Int))=some (byt s (i + k):Int):=by
 rw [ztM (by omega)];exact zib (by omega)
theorem s0_eq (h:1 < s.size - i) (b:Nat) (t:Bool):zdl s (i:Int) (b:Int) t=some (match wd3 b (byt s (i + 1)) t with | some n=>.inl (n:Int) | none=>.inr (b:Int)):=zpe (by
 have e1:zbZ s (Ops.std.iadd .i64 (i:Int) 1)=some (byt s (i + 1):Int):=zno (k:=1) hi hs h (by decide)
 unfold zkF
 cases t
 ·rfl
 ·simp only [cond_true,zaI,zaM,zas,wd3,e1,Option.bind_some]
  by_cases h1:b=224
  ·subst h1
   by_cases h2:byt s (i + 1) < 160
   ·simp [h2,show (byt s (i + 1):Int) < 160 by omega]
   ·simp [h2,show ¬ (byt s (i + 1):Int) < 160 by omega]
  ·by_cases h3:b=237
   ·subst h3
    by_cases h2:159 < byt s (i + 1)
    ·simp [h2,show (159:Int) < byt s (i + 1) by omega]
    ·simp [h2,show ¬ (159:Int) < byt s (i + 1) by omega]
   ·simp [h1,h3,show ¬ (b:Int)=224 by omega,show ¬ (b:Int)=237 by omega])
omit hi hs in
theorem zz5 (b:Nat):zdl s (i:Int) (b:Int) false=some (.inr (b:Int)):=zpe rfl
theorem s1_eq (h:1 < s.size - i) (b:Nat):zcB s (i:Int) (b:Int) true=some (.inl (wd4 b (byt s (i + 1)) true:Nat)):=zpf (by
 have e1:zbZ s (Ops.std.iadd .i64 (i:Int) 1)=some (byt s (i + 1):Int):=zno (k:=1) hi hs h (by decide)
 unfold zkG
 simp only [cond_true,zaI,zaM,zas,wd4,e1,Option.bind_some]
 by_cases h1:b=240
 ·subst h1
  by_cases h2:byt s (i + 1) < 144
  ·simp [h2,show (byt s (i + 1):Int) < 144 by omega]
  ·simp [h2,show ¬ (byt s (i + 1):Int) < 144 by omega]
 ·by_cases h3:b=244
  ·subst h3
   by_cases h2:143 < byt s (i + 1)
   ·simp [h2,show (143:Int) < byt s (i + 1) by omega]
   ·simp [h2,show ¬ (143:Int) < byt s (i + 1) by omega]
  ·simp [h1,h3,show ¬ (b:Int)=240 by omega,show ¬ (b:Int)=244 by omega])
omit hi hs in
theorem zz6 (b:Nat):zcB s (i:Int) (b:Int) false=some (.inr ()):=zpf rfl
theorem zIQ (b:Nat):zd4 s (i:Int) (b:Int)=some ((if 240 ≤ b ∧ b ≤ 244 ∧ 3 < s.size - i ∧ tl (byt s (i + 1))=true ∧ tl (byt s (i + 2))=true ∧ tl (byt s (i + 3))=true then wd4 b (byt s (i + 1)) true else 0:Nat):Int):=zwE (by
 unfold zkH
 simp only [zb1,zaM,zas,zww hi hs,zz6,Option.bind_some]
 split
 ·split
  ·split
   ·have e1:zbZ s (Ops.std.iadd .i64 (i:Int) 1)=some (byt s (i + 1):Int):=zno (k:=1) hi hs (by omega) (by decide)
    have e2:zbZ s (Ops.std.iadd .i64 (i:Int) 2)=some (byt s (i + 2):Int):=zno (k:=2) hi hs (by omega) (by decide)
    have e3:zbZ s (Ops.std.iadd .i64 (i:Int) 3)=some (byt s (i + 3):Int):=zno (k:=3) hi hs (by omega) (by decide)
    simp only [e1,e2,e3,Option.bind_some,zoa]
    cases t1:tl (byt s (i + 1))
    ·simp
    ·cases t2:tl (byt s (i + 2))
     ·simp
     ·cases t3:tl (byt s (i + 3))
      ·simp [zz6]
      ·simp only [cond_true,s1_eq hi hs (by omega:1 < s.size - i),Option.bind_some]
       rw [if_pos ⟨by omega,by omega,by omega,trivial,trivial,trivial⟩]
   ·rw [if_neg (by omega)];rfl
  ·rw [if_neg (by omega)];rfl
 ·rw [if_neg (by omega)];rfl)
theorem s3_eq (b:Nat):zfu s (i:Int) (b:Int)=some ((if 224 ≤ b ∧ b ≤ 239 ∧ 2 < s.size - i ∧ tl (byt s (i + 1))=true ∧ tl (byt s (i + 2))=true then (wd3 b (byt s (i + 1)) true).getD 0
  else if 240 ≤ b ∧ b ≤ 244 ∧ 3 < s.size - i ∧ tl (byt s (i + 1))=true ∧ tl (byt s (i + 2))=true ∧ tl (byt s (i + 3))=true then wd4 b (byt s (i + 1)) true else 0:Nat):Int):=zwF (by
 unfold zkI
 simp only [zb1,zaM,zas,zww hi hs,zz5,Option.bind_some,zIQ hi hs]
 split
 ·split
  ·split
   ·have e1:zbZ s (Ops.std.iadd .i64 (i:Int) 1)=some (byt s (i + 1):Int):=zno (k:=1) hi hs (by omega) (by decide)
    have e2:zbZ s (Ops.std.iadd .i64 (i:Int) 2)=some (byt s (i + 2):Int):=zno (k:=2) hi hs (by omega) (by decide)
    simp only [e1,e2,Option.bind_some,zoa]
    cases t1:tl (byt s (i + 1))
    ·simp
    ·cases t2:tl (byt s (i + 2))
     ·simp [zz5,zIQ hi hs,t1,t2]
     ·simp only [cond_true,s0_eq hi hs (by omega:1 < s.size - i),Option.bind_some]
      rw [if_pos ⟨by omega,by omega,by omega,trivial,trivial⟩]
      unfold wd3
      simp only [cond_true]
      repeat' split
      all_goals first | rfl | simp_all
   ·rw [if_neg (c:=224 ≤ b ∧ _) (by omega)]
  ·rw [if_neg (c:=224 ≤ b ∧ _) (by omega)]
 ·rw [if_neg (c:=224 ≤ b ∧ _) (by omega)])
def widN (n b0 b1 b2 b3:Nat):Nat:=
 if b0 < 128 then 1
 else if 194 ≤ b0 ∧ b0 ≤ 223 ∧ 1 < n ∧ tl b1=true then 2
 else if 224 ≤ b0 ∧ b0 ≤ 239 ∧ 2 < n ∧ tl b1=true ∧ tl b2=true then (wd3 b0 b1 true).getD 0
 else if 240 ≤ b0 ∧ b0 ≤ 244 ∧ 3 < n ∧ tl b1=true ∧ tl b2=true ∧ tl b3=true then wd4 b0 b1 true else 0
theorem zDY:zhF s (i:Int)=some (widN (s.size - i) (byt s i) (byt s (i + 1)) (byt s (i + 2)) (byt s (i + 3)):Int):=zA0 (by
 unfold zn9 widN
 simp only [zib hi,Option.bind_some,zb1,zaM,zas,zww hi hs,s3_eq hi hs]
 by_cases h1:byt s i < 128
 ·rw [if_pos (by omega),if_pos h1];rfl
 ·rw [if_neg (by omega),if_neg h1]
  split
  ·split
   ·split
    ·have e1:zbZ s (Ops.std.iadd .i64 (i:Int) 1)=some (byt s (i + 1):Int):=zno (k:=1) hi hs (by omega) (by decide)
     simp only [e1,Option.bind_some,zoa]
     cases t1:tl (byt s (i + 1))
     ·simp
     ·simp only [cond_true]
      rw [if_pos ⟨by omega,by omega,by omega,trivial⟩];rfl
    ·rw [if_neg (c:=194 ≤ byt s i ∧ _) (by omega)]
   ·rw [if_neg (c:=194 ≤ byt s i ∧ _) (by omega)]
  ·rw [if_neg (c:=194 ≤ byt s i ∧ _) (by omega)])
end
theorem zAl {b:Nat} (h:b < 256):tl b=true ↔ b / 64=2:=by unfold tl;rw [decide_eq_true_eq];omega
set_option maxRecDepth 100000 in
set_option maxHeartbeats 4000000 in
theorem zJW {n b0 b1 b2 b3:Nat} (h0:b0 < 256) (h1:b1 < 256) (h2:b2 < 256) (h3:b3 < 256):widN n b0 b1 b2 b3=if decodeN n b0 b1 b2 b3=(65533,1) then 0 else (decodeN n b0 b1 b2 b3).2:=by
 unfold widN wd3 wd4
 simp only [zAl h1,zAl h2,zAl h3,cond_true]
 unfold decodeN
 repeat' split
 all_goals first | rfl | omega | (simp_all;done) | (simp_all;omega)
theorem zul {s:ByteArray} {i:Nat} (hi:i < s.size) (hs:s.size < 4611686018427387904):zhF s (i:Int)=some (wid s i:Int):=by
 rw [zDY hi hs,zJW (zvr _ _) (zvr _ _) (zvr _ _) (zvr _ _)]
 unfold wid
 rw [decode_at];rfl
end Go.Ab.Tryz
namespace Go.Ab.Tryz.Pe
open Go.Ab.Tryz Go Go.Ab Go.Proofs
theorem peOk {p:Peer} (h:p.Ok):PeOk p:=⟨h.1.1,by have:=h.1.2;omega⟩
theorem enOk {l:List Entry} (h:OkL Entry.Ok l):EnOk l:=fun x hx=>peOk (h.1 x hx).1
abbrev Heads (me:Peer) (a b:Peer):Prop:=a.addr ≠ b.addr ∧ zcK me a b=true
theorem zDS {me:Peer} {l:List Entry}:RightP me l ↔ l.length ≤ 15 ∧ (∀ x,x ∈ l → 0 ≤ x.misses ∧ x.misses < 3 ∧ x.peer.addr ≠ me.addr) ∧ (l.map Entry.peer).Pairwise (Heads me):=by
 unfold RightP
 rw [List.pairwise_map]
theorem RightP.sub {me:Peer} {l l':List Entry} (h:RightP me l) (hs:l'.Sublist l):RightP me l':=
 ⟨Nat.le_trans hs.length_le h.1,fun x hx=>h.2.1 x (hs.subset hx),h.2.2.sublist hs⟩
theorem zzq {l:List Entry} {n:Nat} {x:Entry} (hx:l[n]?=some x) (m:Int):(l.set n ⟨x.peer,m⟩).map Entry.peer=l.map Entry.peer:=by
 rw [List.map_set]
 obtain ⟨hn,rfl⟩:=List.getElem?_eq_some_iff.1 hx
 have:l[n].peer=(l.map Entry.peer)[n]'(by simpa using hn):=by simp
 rw [this,List.set_getElem_self]
theorem RightP.set {me:Peer} {l:List Entry} (h:RightP me l) {n:Nat} {x:Entry} (hx:l[n]?=some x) {m:Int} (h0:0 ≤ m) (h3:m < 3):RightP me (l.set n ⟨x.peer,m⟩):=by
 rw [zDS] at h ⊢
 refine ⟨by simpa using h.1,fun y hy=>?_,by rw [zzq hx];exact h.2.2⟩
 rcases List.mem_or_eq_of_mem_set hy with hy | rfl
 ·exact h.2.1 y hy
 ·exact ⟨h0,h3,(h.2.1 x (List.mem_of_getElem? hx)).2.2⟩
theorem zFQ {me:Peer} {l:List Entry} (h:RightP me l) (addr:Int):RightP me (drp addr l):=h.sub List.filter_sublist
theorem zAt {me a b:Peer} (h:zcK me a b=false) (hne:a.addr ≠ b.addr):zcK me b a=true:=by
 simp only [zcK,decide_eq_true_eq,decide_eq_false_iff_not] at *
 omega
theorem zCs {me p:Peer} {l:List Entry} {x:Entry}:x ∈ ins me p l ↔ x=⟨p,0⟩ ∨ x ∈ l:=by
 induction l with
 | nil=>simp [ins]
 | cons y l ih=>
  rw [ins]
  cases isAh me p y with
  | true=>simp
  | false=>simp only [cond_false,List.mem_cons,ih];constructor <;> (rintro (h | h | h) <;> simp [h])
theorem zGN {me p:Peer} {l:List Entry} (h:l.Pairwise (fun a b=>a.peer.addr ≠ b.peer.addr ∧ zcK me a.peer b.peer=true)) (hp:∀ x,x ∈ l → x.peer.addr ≠ p.addr):(ins me p l).Pairwise (fun a b=>a.peer.addr ≠ b.peer.addr ∧ zcK me a.peer b.peer=true):=by
 induction l with
 | nil=>simp [ins]
 | cons y l ih=>
  rw [List.pairwise_cons] at h
  rw [ins]
  cases hy:isAh me p y with
  | true=>
   rw [cond_true,List.pairwise_cons]
   refine ⟨fun x hx=>?_,List.pairwise_cons.2 h⟩
   rcases List.mem_cons.1 hx with rfl | hx
   ·exact ⟨fun e=>hp x (by simp) e.symm,hy⟩
   ·exact ⟨fun e=>hp x (by simp [hx]) e.symm,ztY hy (h.1 x hx).2⟩
  | false=>
   rw [cond_false,List.pairwise_cons]
   refine ⟨fun x hx=>?_,ih h.2 fun x hx=>hp x (by simp [hx])⟩
   rcases zCs.1 hx with rfl | hx
   ·exact ⟨hp y (by simp),zAt hy fun e=>hp y (by simp) e.symm⟩
   ·exact h.1 x hx
theorem zLl {addr:Int} {l:List Entry}:∀ x,x ∈ drp addr l → x.peer.addr ≠ addr:=fun x hx=>by
 have:=(List.mem_filter.1 hx).2
 simpa [isAt] using this
theorem right_add {me p:Peer} {l:List Entry} (h:RightP me l):RightP me (add me l p):=by
 have hcut:p.addr ≠ me.addr → RightP me (cut (ins me p (drp p.addr l))):=fun hne=>by
  have hd:=zFQ h p.addr
  have hlen:=zwu me p (drp p.addr l)
  have hins:(∀ x,x ∈ ins me p (drp p.addr l) → 0 ≤ x.misses ∧ x.misses < 3 ∧ x.peer.addr ≠ me.addr):=fun x hx=>by
   rcases zCs.1 hx with rfl | hx
   ·exact ⟨Int.le_refl 0,by show (0:Int) < 3;omega,hne⟩
   ·exact hd.2.1 x hx
  have hp:=zGN hd.2.2 (fun x hx=>zLl x hx)
  have h15:=hd.1
  unfold cut
  split
  ·refine ⟨by rw [List.length_take];omega,fun x hx=>hins x (List.mem_of_mem_take hx),hp.sublist (List.take_sublist _ _)⟩
  ·exact ⟨by omega,hins,hp⟩
 unfold add
 split
 ·exact h
 ·rename_i hne
  split
  ·exact hcut hne
  ·split
   ·exact h
   ·rename_i x hx
    split
    ·exact h.set hx (Int.le_refl 0) (by omega)
    ·exact hcut hne
end Go.Ab.Tryz.Pe
namespace Go.Ab.Tryz
open Go Go.Ab Go.Proofs Go.Lib
def zeM (s:ByteArray) (i:Nat):Bool:=decide (Utf8.decode s i=(65533,1))
theorem znV {s:ByteArray} {i:Nat} (h:i < s.size):zqX s (i:Int)=some (((Utf8.decode s i).1:Int),((i + (Utf8.decode s i).2:Nat):Int)):=by
 show (if 0 ≤ (i:Int) ∧ (i:Int).toNat < s.size then some (((Utf8.decode s (i:Int).toNat).1:Int),(i:Int) + ((Utf8.decode s (i:Int).toNat).2:Int)) else none)=_
 rw [if_pos ⟨by omega,by simpa using h⟩,Int.toNat_natCast]
 simp
theorem zxA {s:ByteArray} {i:Nat} (h:¬ i < s.size):zqX s (i:Int)=none:=by
 show (if 0 ≤ (i:Int) ∧ (i:Int).toNat < s.size then some (((Utf8.decode s (i:Int).toNat).1:Int),(i:Int) + ((Utf8.decode s (i:Int).toNat).2:Int)) else none)=_
 rw [if_neg (by simpa using h)]
theorem zs2 {s:ByteArray} {i:Nat} (h:i < s.size):zs1 s (i:Int) ((Utf8.decode s i).1:Int)=some (zeM s i):=zBx (by
 unfold zoC
 simp only [zaI,zas]
 split
 ·rename_i h1
  have e1:ztU s (i:Int) (Ops.std.slen s)=some (s.extract i s.size):=by
   show (if 0 ≤ (i:Int) ∧ (i:Int) ≤ (s.size:Int) ∧ (s.size:Int) ≤ (s.size:Int) then some (s.extract (i:Int).toNat (s.size:Int).toNat) else none)=_
   rw [if_pos ⟨by omega,by omega,by omega⟩];simp
  have e2:zqX (s.extract i s.size) 0=some (((Utf8.decode s i).1:Int),((Utf8.decode s i).2:Int)):=by
   have:=znV (s:=s.extract i s.size) (i:=0) (by rw [tail_size];omega)
   rw [tail_decode] at this
   simpa using this
  rw [e1,Option.bind_some,e2]
  simp only [xopt,zeM]
  congr 1
  have h2:(Utf8.decode s i).1=65533:=by omega
  refine decide_eq_decide.2 ⟨fun h=>Prod.ext h2 (by show (Utf8.decode s i).2=1;omega),fun h=>by rw [h];rfl⟩
 ·rename_i h1
  congr 1
  exact (decide_eq_false (fun h=>h1 (by rw [h];rfl))).symm)
def poss (s:ByteArray):Nat → Nat → List Nat
 | 0,_=>[]
 | n + 1,i=>if i < s.size then i :: poss s n (i + (Utf8.decode s i).2) else []
theorem zHr (s:ByteArray):∀ (n i:Nat),s.size - i < n → ∃ r,zh6 s (i:Int)=some r ∧ (match r with | .inl _=>false | .inr _=>true)=(poss s n i).all fun j=>!zeM s j:=by
 intro n
 induction n with
 | zero=>intro i h;omega
 | succ n ih=>
  intro i h
  by_cases hi:i < s.size
  ·have hw:=width_pos s i
   cases hst:zeM s i
   ·obtain ⟨r,hr,he⟩:=ih (i + (Utf8.decode s i).2) (by omega)
    refine ⟨r,zkV (by simp only [zfT,znV hi,xopt,zs2 hi,Option.bind_some,hst,cond_false];exact hr),?_⟩
    rw [he];simp [poss,hi,hst]
   ·exact ⟨_,zkV (by simp only [zfT,znV hi,xopt,zs2 hi,Option.bind_some,hst,cond_true];rfl),by simp [poss,hi,hst]⟩
  ·exact ⟨_,zkV (by simp only [zfT,zxA hi,xopt];rfl),by simp [poss,hi]⟩
theorem zAq (s:ByteArray):zs0 s=some ((poss s (s.size + 1) 0).all fun j=>!zeM s j):=zBw (by
 obtain ⟨r,hr,he⟩:=zHr s (s.size + 1) 0 (by omega)
 have hr:zh6 s 0=some r:=hr
 simp only [zoB,hr,Option.bind_some]
 cases r <;> exact congrArg some he)
theorem zHe (s:ByteArray):∀ (n i:Nat),(poss s n i).length ≤ n:=by
 intro n
 induction n with
 | zero=>intro i;simp [poss]
 | succ n ih=>
  intro i
  unfold poss
  split
  ·have:=ih (i + (Utf8.decode s i).2);simp;omega
  ·simp
theorem zGo (s:ByteArray):∀ (n i k:Nat),s.size - i < n → k + n < 9223372036854775808 → ∃ a,zh5 s (k:Int) (i:Int)=some (((k + (poss s n i).length:Nat):Int),a):=by
 intro n
 induction n with
 | zero=>intro i k h;omega
 | succ n ih=>
  intro i k h hk
  by_cases hi:i < s.size
  ·have hw:=width_pos s i
   obtain ⟨a,ha⟩:=ih (i + (Utf8.decode s i).2) (k + 1) (by omega) (by omega)
   refine ⟨a,zpu ?_⟩
   have e1:Ops.std.iadd .i64 (k:Int) 1=((k + 1:Nat):Int):=ztM (b:=1) (by omega)
   simp only [zit,znV hi,xopt,e1,ha]
   simp [poss,hi];omega
  ·exact ⟨(i:Int),zpu (by simp only [zit,zxA hi,xopt];simp [poss,hi])⟩
theorem zAp {s:ByteArray} (hs:s.size < 4611686018427387904):zsZ s=some (((poss s (s.size + 1) 0).length:Nat):Int):=zBv (by
 obtain ⟨a,ha⟩:=zGo s (s.size + 1) 0 0 (by omega) (by omega)
 have ha:zh5 s 0 0=some (((0 + (poss s (s.size + 1) 0).length:Nat):Int),a):=ha
 simp only [zoA,ha,Option.bind_some,Nat.zero_add])
end Go.Ab.Tryz
namespace Go.Ab.Tryz
open Go Go.Ab Go.Proofs Go.Lib
def zeB (s:ByteArray) (i:Nat):ByteArray:=s.extract i (i + (Utf8.decode s i).2)
theorem zF6 (s:ByteArray) (i:Nat):(wid s i=0 ∧ (Utf8.decode s i).2=1) ∨ (wid s i ≠ 0 ∧ wid s i=(Utf8.decode s i).2):=by
 unfold wid
 split
 ·rename_i h;exact .inl ⟨rfl,by rw [h]⟩
 ·have:=width_pos s i;exact .inr ⟨by omega,rfl⟩
theorem zHb (s:ByteArray) (hs:s.size < 1000000):∀ (n i:Nat) (l:List ByteArray),s.size - i < n → l.length ≤ i → i ≤ s.size → (∀ j,j < s.size → j + (Utf8.decode s j).2 ≤ s.size) → zfn s (i:Int) l=some (l ++ (poss s n i).map (zeB s)):=by
 intro n
 induction n with
 | zero=>intro i l h;omega
 | succ n ih=>
  intro i l h hl hi0 hfit
  by_cases hi:i < s.size
  ·have hw:=width_pos s i
   have hf:=hfit i hi
   have hr:∀ z:ByteArray,zaN vT 16 l [z]=true:=fun z=>zaK vT (by simp;omega) (by omega)
   have hx:=ih (i + (Utf8.decode s i).2) (l ++ [zeB s i]) (by omega) (by simp;omega) hf hfit
   have hsub:∀ w:Nat,i + w ≤ s.size → ztU s (i:Int) ((i + w:Nat):Int)=some (s.extract i (i + w)):=fun w hwl=>by
    show (if 0 ≤ (i:Int) ∧ (i:Int) ≤ ((i + w:Nat):Int) ∧ ((i + w:Nat):Int) ≤ (s.size:Int) then some (s.extract (i:Int).toNat ((i + w:Nat):Int).toNat) else none)=_
    rw [if_pos ⟨by omega,by omega,by omega⟩,Int.toNat_natCast,Int.toNat_natCast]
   refine zpd ?_
   unfold zij
   simp only [zaM,zas,zbf,zul hi (by omega),Option.bind_some,zaI]
   rw [if_pos (by omega)]
   rcases zF6 s i with ⟨h1,h2⟩ | ⟨h1,h2⟩
   ·have e1:Ops.std.iadd .i64 (i:Int) 1=((i + 1:Nat):Int):=ztM (b:=1) (by omega)
    rw [if_pos (by omega),e1,hsub 1 (by omega),Option.bind_some,hr,cond_true]
    rw [h2] at hx
    simp only [poss,if_pos hi,List.map_cons,h2]
    rw [show s.extract i (i + 1)=zeB s i from by unfold zeB;rw [h2],hx]
    simp
   ·have e1:Ops.std.iadd .i64 (i:Int) (wid s i:Int)=((i + wid s i:Nat):Int):=ztM (by omega)
    rw [if_neg (by omega),e1,hsub _ (by omega),Option.bind_some,hr,cond_true]
    rw [← h2] at hx
    simp only [poss,if_pos hi,List.map_cons,← h2]
    rw [show s.extract i (i + wid s i)=zeB s i from by unfold zeB;rw [h2],hx]
    simp
  ·exact zpd (by
    unfold zij
    simp only [zaM,zas,zbf]
    rw [if_neg (by omega)]
    simp [poss,hi])
theorem fits {s:ByteArray} {i:Nat} (h:i < s.size):i + (Utf8.decode s i).2 ≤ s.size:=by
 rw [decode_at]
 have:∀ n b0 b1 b2 b3,1 ≤ n → (decodeN n b0 b1 b2 b3).2 ≤ n:=fun n b0 b1 b2 b3 hn=>by
  unfold decodeN
  repeat' split
  all_goals (simp only;omega)
 have:=this (s.size - i) (s.get! i).toNat (s.get! (i + 1)).toNat (s.get! (i + 2)).toNat (s.get! (i + 3)).toNat (by omega)
 omega
theorem zsn {s:ByteArray} (hs:s.size < 1000000):znG s=some ((poss s (s.size + 1) 0).map (zeB s)):=zAY (by
 have h:=zHb s hs (s.size + 1) 0 [] (by omega) (by simp) (by omega) (fun j hj=>fits hj)
 have h:zfn s 0 []=some ((poss s (s.size + 1) 0).map (zeB s)):=h
 simp only [zn7,h,Option.bind_some])
end Go.Ab.Tryz
namespace Go.Ab.Tryz
open Go Go.Ab Go.Proofs Go.Lib
set_option maxRecDepth 100000 in
set_option maxHeartbeats 4000000 in
theorem zGr {n b0 b1 b2 b3 r w:Nat} (hn:1 ≤ n) (hd:decodeN n b0 b1 b2 b3=(r,w)):decodeN w b0 (if 1 < w then b1 else 0) (if 2 < w then b2 else 0) (if 3 < w then b3 else 0)=(r,w):=by
 unfold decodeN at hd
 repeat' split at hd
 all_goals
  injection hd with e1 e2
  subst e1 e2
  unfold decodeN
  simp only [show ¬ 1 < 1 by omega,show ¬ 2 < 1 by omega,show ¬ 3 < 1 by omega,show 1 < 2 by omega,show ¬ 2 < 2 by omega,show ¬ 3 < 2 by omega,show 1 < 3 by omega,show 2 < 3 by omega,show ¬ 3 < 3 by omega,show 1 < 4 by omega,show 2 < 4 by omega,show 3 < 4 by omega,if_true,if_false,false_and,true_and,and_false]
  repeat' split
  all_goals first | rfl | (exfalso;omega)
end Go.Ab.Tryz
namespace Go.Ab.Tryz
open Go Go.Ab Go.Proofs Go.Lib
theorem zu2 (s:ByteArray) (i j:Nat) (h:j ≤ s.size):(s.extract i j).size=j - i:=by
 simp [ByteArray.size_extract];omega
theorem zIW (s:ByteArray) (i j k:Nat) (h:j ≤ s.size) (hk:i + k < j):byt (s.extract i j) k=byt s (i + k):=by
 have h1:k < (s.extract i j).size:=by rw [zu2 s i j h];omega
 have e1:=zib h1
 have e2:=zib (s:=s) (i:=i + k) (by omega)
 unfold byt
 have g1:(s.extract i j).get! k=(s.extract i j)[k]'h1:=by
  generalize s.extract i j=z at h1 ⊢
  cases z with
  | mk d=>exact getElem!_pos d k h1
 have g2:s.get! (i + k)=s[i + k]'(by omega):=by
  have h2:i + k < s.size:=by omega
  clear e1 e2 g1 h1
  cases s with
  | mk d=>exact getElem!_pos d (i + k) h2
 rw [g1,g2,ByteArray.getElem_extract]
theorem zxq {s:ByteArray} {i:Nat} (h:i < s.size):Utf8.decode (zeB s i) 0=Utf8.decode s i:=by
 have hf:=fits h
 have hw:=width_pos s i
 obtain ⟨r,w,hd⟩:∃ r w,Utf8.decode s i=(r,w):=⟨_,_,rfl⟩
 have hsz:(zeB s i).size=w:=by unfold zeB;rw [zu2 _ _ _ hf,hd];simp only;omega
 have hb:∀ k,byt (zeB s i) k=if k < w then byt s (i + k) else 0:=fun k=>by
  split
  ·rename_i hk
   unfold zeB
   rw [hd] at hf ⊢
   exact zIW s i (i + w) k hf (by omega)
  ·exact zJd _ _ (by omega)
 rw [hd] at hw ⊢
 rw [decode_at] at hd ⊢
 have b0:=hb 0;have b1:=hb 1;have b2:=hb 2;have b3:=hb 3
 unfold byt at b0 b1 b2 b3
 simp only [Nat.zero_add,Nat.sub_zero,Nat.add_zero] at b0 b1 b2 b3 ⊢
 rw [hsz,b0,b1,b2,b3,if_pos (show 0 < w from hw)]
 exact zGr (by omega) hd
end Go.Ab.Tryz
namespace Go.Ab.Tryz
open Go Go.Ab Go.Proofs Go.Lib
theorem zxy (s:ByteArray) (i:Nat):(wid s i=0) ↔ zeM s i=true:=by
 unfold wid zeM
 have:=width_pos s i
 split
 ·rename_i h;simp [h]
 ·rename_i h;simp [h];omega
theorem zJV {l:List ByteArray} (hl:l.length ≤ 4611686018427387904) (hb:∀ x,x ∈ l → 0 < x.size ∧ x.size < 1000000):zhE l 0=some (bif allI (fun _ x=>!zeM x 0) 0 l then .inr () else .inl ()):=
 zpE vT hl (L:=fun i=>zhE l i)
  (fun h=>zkE (by simp [zfp,h]))
  (fun n x r hx h1 h2 hp h=>zkE (by
   have hm:=hb x (List.mem_of_getElem? hx)
   have hw:zhF x 0=some (wid x 0:Int):=zul hm.1 (by omega)
   have hz:¬ (wid x 0=0):=fun h0=>by
    have:=(zxy x 0).1 h0;simp [this] at hp
   simp [zfp,h1,h2,hw,zaI,hz];exact h))
  (fun n x hx h1 h2 hp=>zkE (by
   have hm:=hb x (List.mem_of_getElem? hx)
   have hw:zhF x 0=some (wid x 0:Int):=zul hm.1 (by omega)
   have hz:wid x 0=0:=(zxy x 0).2 (by simpa using hp)
   simp [zfp,h1,h2,hw,zaI,hz]))
end Go.Ab.Tryz
namespace Go.Ab.Tryz
open Go Go.Ab Go.Proofs Go.Lib
theorem zwD (s:ByteArray):∀ (n i:Nat),∀ j,j ∈ poss s n i → j < s.size:=by
 intro n
 induction n with
 | zero=>intro i j h;simp [poss] at h
 | succ n ih=>
  intro i j h
  unfold poss at h
  split at h
  ·rename_i hi
   rcases List.mem_cons.1 h with rfl | h
   ·exact hi
   ·exact ih _ j h
  ·cases h
theorem zGd {l:List ByteArray} {p:ByteArray → Bool}:∀ n,allI (fun _ x=>p x) n l=l.all p:=by
 induction l with
 | nil=>intro n;rfl
 | cons x l ih=>intro n;simp [allI,ih]
theorem zzO {s:ByteArray} (hs:s.size < 1000000):zso s=some ((poss s (s.size + 1) 0).all fun j=>!zeM s j):=zAZ (by
 have hl:=zHe s (s.size + 1) 0
 have hb:∀ x,x ∈ (poss s (s.size + 1) 0).map (zeB s) → 0 < x.size ∧ x.size < 1000000:=fun x hx=>by
  obtain ⟨j,hj,rfl⟩:=List.mem_map.1 hx
  have h1:=zwD s _ _ j hj
  have h2:=fits h1
  have h3:=width_pos s j
  unfold zeB
  rw [zu2 _ _ _ h2];omega
 have hv:=zJV (l:=(poss s (s.size + 1) 0).map (zeB s)) (by simp;omega) hb
 rw [zGd] at hv
 have he:((poss s (s.size + 1) 0).map (zeB s)).all (fun x=>!zeM x 0)=(poss s (s.size + 1) 0).all fun j=>!zeM s j:=by
  rw [List.all_map]
  refine Bool.eq_iff_iff.2 ?_
  simp only [List.all_eq_true,Function.comp]
  refine ⟨fun h j hj=>?_,fun h j hj=>?_⟩
  ·have:=h j hj;unfold zeM at this ⊢;rwa [zxq (zwD s _ _ j hj)] at this
  ·have:=h j hj;unfold zeM at this ⊢;rwa [zxq (zwD s _ _ j hj)]
 rw [he] at hv
 simp only [zn8,zsn hs,Option.bind_some,hv]
 cases (poss s (s.size + 1) 0).all fun j=>!zeM s j <;> rfl)
end Go.Ab.Tryz
namespace Go.Ab.Tryz
open Go Go.Ab Go.Proofs Go.Lib
def zbG (s:ByteArray):Bool:=decide (0 < s.size ∧ s.size ≤ 96) && ((poss s (s.size + 1) 0).all fun j=>!zeM s j) && decide ((poss s (s.size + 1) 0).length ≤ 32)
theorem zqs {s:ByteArray} (hs:s.size < 1000000):zmB s=some (zbG s):=zFC (by
 simp only [zss,zaM,zas,zbf,zzO hs,zsn hs,Option.bind_some,zbG,zaG,List.length_map]
 by_cases h1:0 < s.size
 ·rw [if_pos (by omega)]
  by_cases h2:s.size ≤ 96
  ·rw [if_pos (by omega)]
   cases (poss s (s.size + 1) 0).all fun j=>!zeM s j
   ·simp
   ·simp [h1,h2];omega
  ·rw [if_neg (by omega)];simp [h2]
 ·rw [if_neg (by omega)];simp [h1])
theorem zjT {s:ByteArray} (hs:s.size < 1000000):zmA s=some (zbG s):=zFk (by
 have h0:Ops.std.seq s ⟨#[]⟩=true ↔ s.size=0:=by
  rw [zpp]
  constructor
  ·rintro rfl;rfl
  ·intro h
   cases s with
   | mk d=>
    have:d.size=0:=h
    rw [Array.eq_empty_of_size_eq_zero this]
 simp only [zr8,zb1,zas,zbf,zAq,zAp (show s.size < 4611686018427387904 by omega),Option.bind_some,zbG]
 by_cases h1:s.size=0
 ·rw [h0.2 h1];simp [h1]
 ·rw [Bool.eq_false_iff.2 (fun h=>h1 (h0.1 h)),cond_false]
  by_cases h2:s.size ≤ 96
  ·rw [if_pos (by omega)]
   cases (poss s (s.size + 1) 0).all fun j=>!zeM s j
   ·simp
   ·have h3:0 < s.size:=by omega
    simp only [cond_true,h2,h3,and_self,decide_true,Bool.true_and,Option.some.injEq]
    exact decide_eq_decide.2 ⟨fun h=>by omega,fun h=>by omega⟩
  ·rw [if_neg (by omega)];simp [h2])
end Go.Ab.Tryz
namespace Go.Ab.Tryz
open Go Go.Ab Go.Proofs Go.Lib
theorem iltT {a b:Int} (h:a < b):Ops.std.ilt a b=true:=decide_eq_true h
theorem iltF {a b:Int} (h:¬ a < b):Ops.std.ilt a b=false:=decide_eq_false h
theorem ieqT {a b:Int} (h:a=b):Ops.std.ieq a b=true:=decide_eq_true h
theorem ieqF {a b:Int} (h:¬ a=b):Ops.std.ieq a b=false:=decide_eq_false h
theorem zqU (a:ByteArray):Ops.std.seq a a=true:=zpp.2 rfl
theorem zyO (a b:Bool):Ops.std.beq a b=decide (a=b):=by cases a <;> cases b <;> rfl
def n64 (x:BitVec 64):Int:=(x.toNat:Int)
theorem zJv (x:BitVec 64):0 ≤ n64 x ∧ n64 x < 18446744073709551616:=by
 have:=x.isLt
 unfold n64;omega
theorem zAr (n:Nat):IntKind.u64.wrap (n:Int)=n64 (BitVec.ofNat 64 n):=by
 rw [znj];unfold n64;rw [BitVec.toNat_ofNat];omega
theorem zxz (x:BitVec 64):IntKind.u64.wrap (n64 x)=n64 x:=by
 have:=x.isLt
 rw [znj];unfold n64;omega
theorem zw2 (x y:BitVec 64):Ops.std.ibit .xor .u64 (n64 x) (n64 y)=n64 (x ^^^ y):=by
 show Go.bits .xor .u64 (n64 x) (n64 y)=_
 unfold n64
 simp only [Go.bits,IntKind.bits,BitVec.ofInt_natCast,BitVec.ofNat_toNat,BitVec.setWidth_eq]
 exact zxz (x ^^^ y)
theorem zwz (x y:BitVec 64):Ops.std.imul .u64 (n64 x) (n64 y)=n64 (x * y):=by
 show IntKind.u64.wrap (n64 x * n64 y)=_
 unfold n64
 rw [← Int.natCast_mul,zAr];unfold n64
 rw [BitVec.toNat_mul,BitVec.toNat_ofNat]
theorem zCH (x:BitVec 64) (k:Nat):n64 x / ((2 ^ k:Nat):Int)=n64 (x >>> k):=by
 unfold n64
 rw [BitVec.toNat_ushiftRight,Nat.shiftRight_eq_div_pow];exact (Int.natCast_ediv _ _).symm
theorem zwV (x:BitVec 64) (k:Nat) (hk:k ≤ 64):Ops.std.ishr .u64 (n64 x) (k:Int)=n64 (x >>> k):=by
 show Int.fdiv (n64 x) (2 ^ (min ((k:Int)).toNat IntKind.u64.bits))=_
 have e:min ((k:Int)).toNat IntKind.u64.bits=k:=by simp only [Int.toNat_natCast];exact Nat.min_eq_left hk
 have e2:((2:Int) ^ k)=((2 ^ k:Nat):Int):=(Int.natCast_pow 2 k).symm
 rw [e,e2,Int.fdiv_eq_ediv_of_nonneg _ (Int.natCast_nonneg _)]
 exact zCH x k
theorem zGH (x:BitVec 64):Ops.std.iquo .u64 (n64 x) 2=n64 (x >>> 1):=by
 show IntKind.u64.wrap (Int.tdiv (n64 x) 2)=_
 have h1:Int.tdiv (n64 x) 2=n64 x / 2:=by
  unfold n64;exact Int.tdiv_eq_ediv_of_nonneg (Int.natCast_nonneg _)
 have e:n64 x / (2:Int)=n64 (x >>> 1):=zCH x 1
 rw [h1,e,zxz]
def mc1:BitVec 64:=13787848793156543929#64
def mc2:BitVec 64:=10723151780598845931#64
def mixB (u:BitVec 64):BitVec 64:=
 let a:=(u ^^^ (u >>> 30)) * mc1
 let b:=(a ^^^ (a >>> 27)) * mc2
 b ^^^ (b >>> 31)
theorem sh30 (x:BitVec 64):Ops.std.ishr .u64 (n64 x) 30=n64 (x >>> 30):=zwV x 30 (by omega)
theorem sh27 (x:BitVec 64):Ops.std.ishr .u64 (n64 x) 27=n64 (x >>> 27):=zwV x 27 (by omega)
theorem sh31 (x:BitVec 64):Ops.std.ishr .u64 (n64 x) 31=n64 (x >>> 31):=zwV x 31 (by omega)
theorem zIL (x:BitVec 64):Ops.std.imul .u64 (n64 x) 13787848793156543929=n64 (x * mc1):=zwz x mc1
theorem zIM (x:BitVec 64):Ops.std.imul .u64 (n64 x) 10723151780598845931=n64 (x * mc2):=zwz x mc2
theorem zAF (u:BitVec 64):zuw (n64 u)=some (n64 (mixB u)):=zC2 (by
 have h1:Ops.std.ilt 30 0=false:=rfl
 have h2:Ops.std.ilt 27 0=false:=rfl
 have h3:Ops.std.ilt 31 0=false:=rfl
 simp only [zpY,h1,h2,h3,cond_false,sh30,sh27,sh31,zw2,zIL,zIM,mixB])
theorem zCo (by_:Nat) (hb:by_ ≤ 64):∀ (k i:Nat) (u:BitVec 64),i + k=by_ → zk9 (by_:Int) (n64 u) (i:Int)=some (n64 (u >>> k))
 | 0,i,u,h=>zq5 (by
  rw [ziZ,iltF (by omega)]
  rfl)
 | k + 1,i,u,h=>zq5 (by
  have h2:Ops.std.ieq 2 0=false:=rfl
  rw [ziZ,iltT (by omega),h2,zGH]
  have:=zCo by_ hb k (i + 1) (u >>> 1) (by omega)
  rw [cond_true,cond_false,show Ops.std.iadd .i64 (i:Int) 1=((i + 1:Nat):Int) from ze2 (by omega),this,← BitVec.shiftRight_add,Nat.add_comm 1 k])
theorem zoc (u:BitVec 64) (by_:Nat) (hb:by_ ≤ 64):zhI (n64 u) (by_:Int)=some (n64 (u >>> by_)):=zDt (zCo by_ hb by_ 0 u (by omega))
theorem zDs (u:BitVec 64):zwG (n64 u)=some (n64 (mixB u)):=zFA (by
 have d30:∀ x,zhI (n64 x) 30=some (n64 (x >>> 30)):=fun x=>zoc x 30 (by omega)
 have d27:∀ x,zhI (n64 x) 27=some (n64 (x >>> 27)):=fun x=>zoc x 27 (by omega)
 have d31:∀ x,zhI (n64 x) 31=some (n64 (x >>> 31)):=fun x=>zoc x 31 (by omega)
 simp only [zsp,d30,Option.bind_some,zw2,zIL,d27,zIM,d31,mixB])
def zwa (n:BitVec 64) (c:Nat):BitVec 64:=(n ^^^ BitVec.ofNat 64 c) * 1099511628211#64
theorem zAg (n:BitVec 64) (c:Nat):Ops.std.imul .u64 (Ops.std.ibit .xor .u64 (n64 n) (Ops.std.iwrap .u64 (c:Int))) 1099511628211=n64 (zwa n c):=by
 have e:Ops.std.iwrap .u64 (c:Int)=n64 (BitVec.ofNat 64 c):=zAr c
 rw [e,zw2]
 exact zwz _ 1099511628211#64
def zvE (f:BitVec 64 → Nat → BitVec 64):Nat → Nat → BitVec 64 → BitVec 64
 | 0,_,x=>x
 | d + 1,i,x=>zvE f d (i + 1) (f x i)
theorem zJm (f:BitVec 64 → Nat → BitVec 64) (i:Nat) (x:BitVec 64):zvE f 0 i x=x:=rfl
theorem zJn (f:BitVec 64 → Nat → BitVec 64) (d i:Nat) (x:BitVec 64):zvE f (d + 1) i x=zvE f d (i + 1) (f x i):=rfl
def sumB (s:ByteArray) (d i:Nat) (x:BitVec 64):BitVec 64:=zvE (fun x i=>zwa x (byt s i)) d i x
theorem zF1 (s:ByteArray) (i:Nat) (x:BitVec 64):sumB s 0 i x=x:=zJm _ i x
theorem zF2 (s:ByteArray) (d i:Nat) (x:BitVec 64):sumB s (d + 1) i x=sumB s d (i + 1) (zwa x (byt s i)):=zJn (fun x i=>zwa x (byt s i)) d i x
theorem zF3 {s:ByteArray} (hs:s.size < 4611686018427387904) (k:Nat):∀ (i:Nat) (n:BitVec 64),i + k=s.size → zk0 s (n64 n) (i:Int)=some (n64 (sumB s k i n)) ∧ zmp s (n64 n) (i:Int)=some (n64 (sumB s k i n)):=by
 induction k with
 | zero=>
  intro i n h
  have e:Ops.std.ilt (i:Int) (Ops.std.slen s)=false:=iltF (by rw [zbf];omega)
  refine ⟨zqZ ?_,zsr ?_⟩
  ·rw [ziT,e,cond_false,zF1]
  ·rw [zjY,e,cond_false,zF1]
 | succ k ih=>
  intro i n h
  have e:Ops.std.ilt (i:Int) (Ops.std.slen s)=true:=iltT (by rw [zbf];omega)
  have g:=zib (s:=s) (i:=i) (by omega)
  have a:Ops.std.iadd .i64 (i:Int) 1=((i + 1:Nat):Int):=ze2 (by omega)
  have ih:=ih (i + 1) (zwa n (byt s i)) (by omega)
  refine ⟨zqZ ?_,zsr ?_⟩
  ·rw [ziT,e,g,a,cond_true,Option.bind_some,zAg,zF2];exact ih.1
  ·rw [zjY,e,g,a,cond_true,Option.bind_some,zAg,zF2];exact ih.2
def zvq:BitVec 64:=14695981039346656037#64
theorem zEL:n64 zvq=14695981039346656037:=rfl
theorem zAk {s:ByteArray} (hs:s.size < 4611686018427387904):zux s=some (n64 (sumB s s.size 0 zvq)) ∧ zwH s=some (n64 (sumB s s.size 0 zvq)):=by
 have h:=zF3 hs s.size 0 zvq (by omega)
 rw [zEL] at h
 exact ⟨zC3 h.1,zFB h.2⟩
def zLO (s:ByteArray):BitVec 64:=mixB (sumB s s.size 0 zvq)
def zjP (s:ByteArray):Int:=n64 (zLO s)
theorem zp0 (s:ByteArray):0 ≤ zjP s ∧ zjP s < 18446744073709551616:=zJv _
theorem zqY {s:ByteArray} (hs:s.size < 4611686018427387904):zmj s=some (zjP s):=zzh (by
 rw [zmU,(zAk hs).1,Option.bind_some,zAF];rfl)
theorem zsq {s:ByteArray} (hs:s.size < 4611686018427387904):znH s=some (zjP s):=zA1 (by
 rw [zob,(zAk hs).2,Option.bind_some,zDs];rfl)
def upto (a x b:Int):Bool:=decide (a=b) || (decide (x=b) || (decide (x ≠ a) && decide ((x - a) % 18446744073709551616 < (b - a) % 18446744073709551616)))
theorem zGS (a b:Int):Ops.std.isub .u64 a b=(a - b) % 18446744073709551616:=znj _
theorem zm9 (a x b:Int):zhW a x b=some (upto a x b):=zBk (by
 have hd:∀ u v,zhV u v=some ((v - u) % 18446744073709551616):=fun u v=>zuf (by rw [zor,zGS])
 have hb:a ≠ b → zfM a x b=some (decide (x ≠ a) && decide ((x - a) % 18446744073709551616 < (b - a) % 18446744073709551616)):=fun h=>zpn (by
  simp only [zir,hd,Option.bind_some,zaI,zaM,decide_eq_false h,cond_false,zas]
  by_cases hx:x=a <;> simp [hx])
 simp only [zos,zaI,zas,upto]
 by_cases h1:a=b
 ·simp [h1]
 ·by_cases h2:x=b
  ·simp [h1,h2]
  ·simp [h1,h2,hb h1])
theorem zk8 {a x b:Int} (ha:0 ≤ a ∧ a < 18446744073709551616) (hx:0 ≤ x ∧ x < 18446744073709551616) (hb:0 ≤ b ∧ b < 18446744073709551616):zjt a x b=some (upto a x b):=zDq (by
 simp only [zqn,zaM,zb1,zas,upto]
 split
 ·split
  ·rename_i h1 h2
   congr 1
   rw [decide_eq_false (by omega:¬ a=b),Bool.false_or,Bool.eq_iff_iff]
   simp only [decide_eq_true_eq,Bool.or_eq_true,Bool.and_eq_true]
   omega
  ·rename_i h1 h2
   congr 1
   rw [decide_eq_false (by omega:¬ a=b),Bool.false_or]
   symm
   rw [Bool.eq_false_iff]
   intro h
   simp only [decide_eq_true_eq,Bool.or_eq_true,Bool.and_eq_true] at h
   omega
 ·split
  ·split
   ·rename_i h1 h2 h3
    congr 1
    symm
    simp only [decide_eq_true_eq,Bool.or_eq_true,Bool.and_eq_true]
    omega
   ·rename_i h1 h2 h3
    congr 1
    rw [Bool.eq_iff_iff]
    simp only [decide_eq_true_eq,Bool.or_eq_true,Bool.and_eq_true]
    omega
  ·congr 1
   symm
   simp only [decide_eq_true_eq,Bool.or_eq_true,Bool.and_eq_true]
   omega)
theorem zuq {s:ByteArray} {i:Nat} (h:i < s.size):∃ x,s.data.toList.drop i=x :: s.data.toList.drop (i + 1) ∧ byt s i=x.toNat:=by
 have hl:i < s.data.toList.length:=by simpa using h
 refine ⟨s.data.toList[i],List.drop_eq_getElem_cons hl,?_⟩
 unfold byt
 congr 1
 cases s with
 | mk d=>
  show d[i]! = _
  rw [Array.getElem_toList]
  exact getElem!_pos d i (by simpa using hl)
theorem znA (x y:UInt8) (a b:List UInt8):Op.bytesLess (x :: a) (y :: b)=(decide (x.toNat < y.toNat) || (decide (x.toNat=y.toNat) && Op.bytesLess a b)):=by
 show (decide (x < y) || (x == y && Op.bytesLess a b))=_
 have e:(x == y)=decide (x.toNat=y.toNat):=by
  rw [Bool.eq_iff_iff,beq_iff_eq,decide_eq_true_eq]
  exact ⟨fun h=>by rw [h],fun h=>UInt8.toNat_inj.1 h⟩
 rw [e]
 rfl
theorem zxk {a b:ByteArray} (ha:a.size < 4611686018427387904):∀ (k i:Nat),i + k=a.size → i ≤ b.size → ∃ r,ziH a b (i:Int)=some r ∧ (match r with | .inl t=>t | .inr _=>Ops.std.ilt (Ops.std.slen a) (Ops.std.slen b))=Op.bytesLess (a.data.toList.drop i) (b.data.toList.drop i)
 | 0,i,h,hi=>by
  refine ⟨.inr (),zi0 ?_,?_⟩
  ·have e:Ops.std.ilt (i:Int) (Ops.std.slen a)=false:=iltF (by rw [zbf];omega)
   rw [zel,e];rfl
  ·rw [List.drop_of_length_le (by simp;omega:a.data.toList.length ≤ i)]
   show decide ((a.size:Int) < (b.size:Int))=_
   by_cases hb:i < b.size
   ·obtain ⟨y,hy,_⟩:=zuq hb
    rw [hy,decide_eq_true (by omega)];rfl
   ·rw [List.drop_of_length_le (by simp;omega:b.data.toList.length ≤ i),decide_eq_false (by omega)];rfl
 | k + 1,i,h,hi=>by
  have e:Ops.std.ilt (i:Int) (Ops.std.slen a)=true:=iltT (by rw [zbf];omega)
  obtain ⟨x,hx,hxv⟩:=zuq (s:=a) (i:=i) (by omega)
  by_cases hb:i < b.size
  ·have e2:Ops.std.ilt (i:Int) (Ops.std.slen b)=true:=iltT (by rw [zbf];omega)
   obtain ⟨y,hy,hyv⟩:=zuq hb
   have g1:=zib (s:=a) (i:=i) (by omega)
   have g2:=zib hb
   have ad:Ops.std.iadd .i64 (i:Int) 1=((i + 1:Nat):Int):=ze2 (by omega)
   rw [hx,hy,znA,← hxv,← hyv]
   by_cases he:byt a i=byt b i
   ·obtain ⟨r,hr,hv⟩:=zxk (a:=a) (b:=b) ha k (i + 1) (by omega) (by omega)
    have hs0:zlc a b (i:Int)=some (.inl ((i + 1:Nat):Int)):=zq6 (by
     rw [zi1,g1,g2,ad]
     simp only [Option.bind_some,ieqT (show (byt a i:Int)=byt b i by omega),cond_true])
    refine ⟨r,zi0 ?_,?_⟩
    ·rw [zel,e,e2,hs0];exact hr
    ·rw [hv,he];simp
   ·have hs0:zlc a b (i:Int)=some (.inr (Ops.std.ilt (byt a i:Int) (byt b i:Int))):=zq6 (by
     rw [zi1,g1,g2,ad]
     simp only [Option.bind_some,ieqF (show ¬ (byt a i:Int)=byt b i by omega),cond_false])
    refine ⟨.inl (Ops.std.ilt (byt a i:Int) (byt b i:Int)),zi0 ?_,?_⟩
    ·rw [zel,e,e2,hs0];rfl
    ·simp only [decide_eq_false he,Bool.false_and,Bool.or_false]
     exact decide_eq_decide.2 ⟨fun h=>by omega,fun h=>by omega⟩
  ·have e2:Ops.std.ilt (i:Int) (Ops.std.slen b)=false:=iltF (by rw [zbf];omega)
   refine ⟨.inr (),zi0 (by rw [zel,e,e2];rfl),?_⟩
   rw [hx,List.drop_of_length_le (by simp;omega:b.data.toList.length ≤ i)]
   show decide ((a.size:Int) < (b.size:Int))=_
   rw [decide_eq_false (by omega)];rfl
def lt (a b:ByteArray):Bool:=Op.bytesLess a.data.toList b.data.toList
theorem zFW (a b:ByteArray):Ops.std.slt a b=lt a b:=rfl
theorem zA7 {a b:ByteArray} (ha:a.size < 4611686018427387904):zqw a b=some (lt a b):=zDy (by
 obtain ⟨r,hr,hv⟩:=zxk (a:=a) (b:=b) ha a.size 0 (by omega) (by omega)
 have hr':ziH a b 0=some r:=hr
 rw [zqx,hr',Option.bind_some]
 rw [List.drop_zero,List.drop_zero] at hv
 unfold lt
 rw [← hv]
 cases r <;> rfl)
theorem zvL:∀ {a b c:List UInt8},Op.bytesLess a b=true → Op.bytesLess b c=true → Op.bytesLess a c=true
 | _,[],_,h,_=>by simp [Op.bytesLess] at h
 | _,_ :: _,[],_,h=>by simp [Op.bytesLess] at h
 | [],_ :: _,_ :: _,_,_=>rfl
 | x :: a,y :: b,z :: c,h,h2=>by
  rw [znA,Bool.or_eq_true,Bool.and_eq_true,decide_eq_true_eq,decide_eq_true_eq] at h h2 ⊢
  rcases h with h | ⟨h,h'⟩
  ·rcases h2 with h2 | ⟨h2,_⟩
   ·exact .inl (by omega)
   ·exact .inl (by omega)
  ·rcases h2 with h2 | ⟨h2,h2'⟩
   ·exact .inl (by omega)
   ·exact .inr ⟨by omega,zvL h' h2'⟩
theorem zvK:∀ {a b:List UInt8},Op.bytesLess a b=false → a ≠ b → Op.bytesLess b a=true
 | [],[],_,h=>absurd rfl h
 | [],_ :: _,h,_=>by cases h
 | _ :: _,[],_,_=>rfl
 | x :: a,y :: b,h,hne=>by
  rw [znA,Bool.or_eq_false_iff,Bool.and_eq_false_iff,decide_eq_false_iff_not,decide_eq_false_iff_not] at h
  rw [znA,Bool.or_eq_true,Bool.and_eq_true,decide_eq_true_eq,decide_eq_true_eq]
  by_cases hxy:x.toNat=y.toNat
  ·refine .inr ⟨hxy.symm,zvK (h.2.resolve_left (fun h'=>h' hxy)) (fun e=>hne ?_)⟩
   rw [e,UInt8.toNat_inj.1 hxy]
  ·exact .inl (by omega)
theorem zxl {a b c:ByteArray} (h:lt a b=true) (h2:lt b c=true):lt a c=true:=zvL h h2
theorem zGX {a b:ByteArray} (h:lt a b=false) (hne:a ≠ b):lt b a=true:=zvK h (fun e=>hne (by
 cases a with | mk a=>cases b with | mk b=>exact congrArg ByteArray.mk (Array.toList_inj.1 e)))
end Go.Ab.Tryz
namespace Go.Ab.Tryz
open Go Go.Ab Go.Proofs Go.Lib
theorem zst {a b:List Pair} (hl:a.length ≤ 1000000):znI a b=some (eqb a b):=zA4 (by
 rw [zod,zaG,zaG]
 by_cases he:a.length=b.length
 ·have h:=zjK zae (l:=a) (l':=b) (by omega) he (L:=fun i=>zjZ a b i) (fun h=>zkK (by simp [zfx,h]))
   (fun n x r _ h1 h2 h3 h=>zkK (by simp [zfx,h1,h2,h3,zqU];exact h))
   (fun n x y _ h1 h2 h3 h=>zkK (by
    simp only [zfx,h1,h2,h3,ztS,zas,cond_true,Option.bind_some]
    rw [ne_eq,Pair.ext'] at h
    split
    ·split
     ·exact absurd ⟨‹_›,‹_›⟩ h
     ·rfl
    ·rfl))
  rw [ieqT (by omega),cond_true]
  rcases h with ⟨h1,h2⟩ | ⟨h1,h2⟩
  ·rw [h2,h1,zdZ] <;> rfl
  ·rw [h2,zgm h1] <;> rfl
 ·rw [ieqF (by omega),zgm (fun h=>he (by rw [h]))] <;> rfl)
def isAt (key:ByteArray) (p:Pair):Bool:=Ops.std.seq p.key key
theorem zGQ {key:ByteArray} {p:Pair}:isAt key p=true ↔ p.key=key:=zpp
theorem zJl {key:ByteArray} {p:Pair}:isAt key p=false ↔ p.key ≠ key:=by
 rw [← Bool.not_eq_true,zGQ]
def pl (l:List Pair) (key:ByteArray):Int:=fstI (isAt key) l
theorem zeC {l:List Pair} {key:ByteArray} (hl:l.length ≤ 1000):zeX l key=some (pl l key) ∧ zlD l key=some (pl l key):=by
 have e1:=zdj zae (l:=l) (by omega) (p:=isAt key) (L:=fun i=>zec l key i) (fun h=>ze9 (by simp [zcj,h]))
  (fun n x _ h1 h2 hp=>ze9 (by
   have:zji x key=some (isAt key x):=znR rfl
   simp [zcj,h1,h2,this,hp]))
  (fun n x r _ h1 h2 hp h=>ze9 (by
   have:zji x key=some (isAt key x):=znR rfl
   simp [zcj,h1,h2,this,hp];exact h))
 have e0:=zdj zae (l:=l) (by omega) (p:=isAt key) (L:=fun i=>zj7 l key i) (fun h=>zkO (by simp [zfJ,h]))
  (fun n x _ h1 h2 hp=>zkO (by
   have:Ops.std.seq x.key key=true:=hp
   simp [zfJ,h1,h2,this]))
  (fun n x r _ h1 h2 hp h=>zkO (by
   have:Ops.std.seq x.key key=false:=hp
   simp [zfJ,h1,h2,this];exact h))
 refine ⟨zyj (zrG ?_),zBf ?_⟩
 ·rw [zht,e1];unfold pl fstI;cases fst (isAt key) l <;> rfl
 ·rw [zok,e0];unfold pl fstI;cases fst (isAt key) l <;> rfl
def getP (l:List Pair) (key:ByteArray):ByteArray × Bool:=match l.find? (isAt key) with
 | some x=>(x.val,true)
 | none=>(⟨#[]⟩,false)
theorem zmS {p:Pair → Bool}:∀ {l:List Pair},match fst p l with
  | some n=>∃ x,l[n]?=some x ∧ l.find? p=some x ∧ p x=true ∧ n < l.length
  | none=>l.find? p=none
 | []=>rfl
 | x :: l=>by
  have ih:=zmS (p:=p) (l:=l)
  rw [fst,List.find?_cons]
  cases h:p x with
  | true=>exact ⟨x,rfl,rfl,h,by simp⟩
  | false=>
   cases hf:fst p l with
   | none=>rw [hf] at ih;exact ih
   | some n=>
    rw [hf] at ih
    obtain ⟨y,h1,h2,h3,h4⟩:=ih
    exact ⟨y,by simpa using h1,h2,h3,by simp;omega⟩
theorem zzf {l:List Pair} {key:ByteArray} (hl:l.length ≤ 1000):zsX l key=some (getP l key) ∧ zwM l key=some (getP l key):=by
 have h:=zmS (p:=isAt key) (l:=l)
 have h1:zlm l key=some (getP l key) ∧ znL l key=some (getP l key):=by
  rw [zlm,znL,(zeC hl).1,(zeC hl).2,Option.bind_some]
  unfold pl fstI getP
  cases hf:fst (isAt key) l with
  | none=>
   rw [hf] at h
   simp only [h,iltT (show (-1:Int) < 0 by omega),cond_true,and_self]
  | some n=>
   rw [hf] at h
   obtain ⟨x,h1,h2,h3,h4⟩:=h
   simp only [h2,iltF (show ¬ (n:Int) < 0 by omega),cond_false,zbd,h1,Option.bind_some,and_self]
 exact ⟨zBt h1.1,zFG h1.2⟩
def isUp (key:ByteArray) (p:Pair):Bool:=lt key p.key
def setP (key val:ByteArray):List Pair → List Pair
 | []=>[]
 | x :: l=>bif isAt key x then ⟨x.key,val⟩ :: l else x :: setP key val l
def insP (key val:ByteArray):List Pair → List Pair
 | []=>[⟨key,val⟩]
 | x :: l=>bif isUp key x then ⟨key,val⟩ :: x :: l else x :: insP key val l
def put (l:List Pair) (key val:ByteArray):List Pair × Int:=
 bif zbG key then
  (if 512 < val.size then (l,5) else
  if 0 ≤ pl l key then (setP key val l,0) else
  if 64 ≤ l.length then (l,10) else (insP key val l,0))
 else (l,7)
theorem zwU {key val:ByteArray}:∀ {l:List Pair} {n:Nat} {x:Pair},fst (isAt key) l=some n → l[n]?=some x → l.set n ⟨x.key,val⟩=setP key val l
 | [],n,x,h,_=>by cases h
 | y :: l,n,x,h,hx=>by
  rw [fst] at h
  rw [setP]
  cases hy:isAt key y with
  | true=>
   rw [hy] at h
   cases h
   cases hx
   rfl
  | false=>
   rw [hy,cond_false] at h
   cases hf:fst (isAt key) l with
   | none=>rw [hf] at h;cases h
   | some m=>
    rw [hf] at h
    cases h
    rw [cond_false,← zwU hf (by simpa using hx)]
    rfl
theorem zvC (key val:ByteArray) (l:List Pair):insP key val l=match fst (isUp key) l with | some n=>l.take n ++ ⟨key,val⟩ :: l.drop n | none=>l ++ [⟨key,val⟩]:=by
 induction l with
 | nil=>rfl
 | cons x l ih=>
  rw [insP,fst]
  cases isUp key x with
  | true=>rfl
  | false=>
   rw [cond_false,cond_false,ih]
   cases fst (isUp key) l with
   | none=>rfl
   | some n=>simp
theorem zzj (key val:ByteArray) (l:List Pair):(insP key val l).length=l.length + 1:=by
 induction l with
 | nil=>rfl
 | cons x l ih=>rw [insP];cases isUp key x <;> simp [ih]
theorem zAc (key val:ByteArray) (l:List Pair):(setP key val l).length=l.length:=by
 induction l with
 | nil=>rfl
 | cons x l ih=>rw [setP];cases isAt key x <;> simp [ih]
theorem zdt (l:List Pair) (key val:ByteArray):(put l key val).1.length ≤ max l.length 64:=by
 unfold put
 cases zbG key
 ·exact Nat.le_max_left _ _
 ·rw [cond_true]
  split
  ·exact Nat.le_max_left _ _
  ·split
   ·rw [zAc];exact Nat.le_max_left _ _
   ·split
    ·exact Nat.le_max_left _ _
    ·rw [zzj];omega
theorem zdR (l:List Pair) (n:Nat) (h:n ≤ l.length):xsub zae l 0 (n:Int)=some (l.take n):=by
 rw [zmD,if_pos (by omega)];simp
theorem zic (l:List Pair) (n:Nat) (h:n ≤ l.length):xsub zae l (n:Int) (xlen zae l)=some (l.drop n):=by
 rw [zmD,zaG,if_pos (by omega)];simp
theorem zyL {l:List Pair} {key:ByteArray} (hl:l.length ≤ 1000):zjk l key=some (fstI (isUp key) l):=zrF (by
 have hc:∀ x,zox x key=some (isUp key x):=fun x=>zyg rfl
 have h:=zdj zae (l:=l) (by omega) (p:=isUp key) (L:=fun i=>zeb l key i) (fun h=>ze8 (by simp [zch,h]))
  (fun n x _ h1 h2 hp=>ze8 (by simp [zch,h1,h2,hc,hp]))
  (fun n x r _ h1 h2 hp h=>ze8 (by simp [zch,h1,h2,hc,hp];exact h))
 rw [zhs,h]
 unfold fstI
 cases fst (isUp key) l <;> rfl)
theorem zwb {l:List Pair} {key val:ByteArray} (hl:l.length ≤ 1000):zng l key val=some (insP key val l):=zwX (by
 have hroom:zaN zae 32 l [⟨key,val⟩]=true:=zaK zae (by simp;omega) (by omega)
 have h0:xsub zae l 0 (xlen zae l)=some l:=by
  rw [zaG,zdR l l.length (Nat.le_refl _),List.take_length]
 have h1:xsub zae l (xlen zae l) (xlen zae l)=some []:=by
  have:=zic l l.length (Nat.le_refl _)
  rw [zaG] at this ⊢
  rw [this,List.drop_length]
 rw [zkT,zyL hl,Option.bind_some,hroom,zvC]
 have h:=zmS (p:=isUp key) (l:=l)
 unfold fstI
 cases hf:fst (isUp key) l with
 | none=>simp only [iltT (show (-1:Int) < 0 by omega),cond_true,h0,h1,Option.bind_some];simp
 | some n=>
  rw [hf] at h
  obtain ⟨x,hx,_,_,hn⟩:=h
  simp only [iltF (show ¬ (n:Int) < 0 by omega),cond_false,cond_true,zdR l n (by omega),zic l n (by omega),Option.bind_some];simp)
theorem zuI (l:List Pair) (key:ByteArray):(pl l key=-1 ∧ fst (isAt key) l=none ∧ l.find? (isAt key)=none) ∨ ∃ n x,pl l key=(n:Nat) ∧ fst (isAt key) l=some n ∧ l[n]?=some x ∧ n < l.length ∧ l.find? (isAt key)=some x:=by
 have h:=zmS (p:=isAt key) (l:=l)
 unfold pl fstI
 cases hf:fst (isAt key) l with
 | none=>rw [hf] at h;exact .inl ⟨rfl,rfl,h⟩
 | some n=>
  rw [hf] at h
  obtain ⟨x,h1,h2,h3,h4⟩:=h
  exact .inr ⟨n,x,rfl,rfl,h1,h4,h2⟩
theorem zvA {a:Int}:Ops.std.ile 0 a=decide (0 ≤ a):=rfl
theorem zh4 {l:List Pair} {key val:ByteArray} (hl:l.length ≤ 1000) (hk:key.size < 1000000):zh3 l key val=some (put l key val):=zBu (by
 have hroom:zaN zae 32 [] l=true:=zaK zae (by simp;omega) (by omega)
 rw [zoy,hroom,cond_true,(zeC hl).1,Option.bind_some,zjT hk,Option.bind_some]
 unfold put
 cases zbG key with
 | false=>rfl
 | true=>
  rw [cond_true,cond_true,zbf,zaM,zas]
  by_cases h5:512 < val.size
  ·rw [if_pos h5,if_pos (by omega)]
  ·rw [if_neg h5,if_neg (by omega),zvA,zas]
   rcases zuI l key with ⟨hp,hf,_⟩ | ⟨n,x,hp,hf,hx,hn,_⟩
   ·rw [hp,if_neg (by omega),if_neg (by omega),zaG,zb1,zas]
    by_cases h64:64 ≤ l.length
    ·rw [if_pos h64,if_pos (by omega)]
    ·rw [if_neg h64,if_neg (by omega),zwb hl];rfl
   ·rw [hp,if_pos (by omega),if_pos (by omega),zbd,hx,Option.bind_some]
    congr 2
    exact zwU hf hx)
theorem zxX {l:List Pair} {key val:ByteArray} (hl:l.length ≤ 1000) (hk:key.size < 1000000):zj5 l key val 0=some (match fst (isUp key) l with | some n=>(n:Int) | none=>(l.length:Int)):=by
 have hc:∀ x:Pair,zqw key x.key=some (isUp key x):=fun x=>zA7 (by omega)
 have:=zbi (σ:=Unit) zae (l:=l) (by omega) (L:=fun i _=>zj5 l key val i) (res:=fun n _ rest=>match fst (isUp key) rest with | some m=>((n + m:Nat):Int) | none=>((n + rest.length:Nat):Int)) (Inv:=fun _ _=>True)
  (fun _ _ h=>zsH (by rw [zj6,h];rfl))
  (fun n x rest s _ hn hx hd h1 h2 h3 ih=>zsH (by
   rw [zj6,h1,h2,cond_true,Option.bind_some,hc,Option.bind_some,fst]
   cases hp:isUp key x with
   | true=>rfl
   | false=>
    rw [cond_false,h3,cond_false]
    have:=ih () trivial
    rw [this]
    cases fst (isUp key) rest with
    | none=>simp only [Option.map_none,List.length_cons];congr 1;omega
    | some m=>simp only [Option.map_some];congr 1;omega)) () trivial
 rw [this]
 cases fst (isUp key) l <;> simp
theorem zqE {l:List Pair} {key val:ByteArray} (hl:l.length ≤ 1000) (hk:key.size < 1000000):zpj l key val=some (put l key val):=zFH (by
 have hroom:zaN zae 32 [] l=true:=zaK zae (by simp;omega) (by omega)
 rw [zsG,zqs hk,Option.bind_some]
 unfold put
 cases zbG key with
 | false=>rfl
 | true=>
  rw [cond_true,cond_true,zbf,zaM,zas]
  by_cases h5:512 < val.size
  ·rw [if_pos h5,if_pos (by omega)]
  ·rw [if_neg h5,if_neg (by omega),(zeC hl).2,Option.bind_some,zvA,zas]
   rcases zuI l key with ⟨hp,hf,_⟩ | ⟨n,x,hp,hf,hx,hn,_⟩
   ·rw [hp,if_neg (by omega),if_neg (by omega),zaG,zaM,zas]
    by_cases h64:64 ≤ l.length
    ·rw [if_pos h64,if_pos (by omega)]
    ·rw [if_neg h64,if_neg (by omega),zxX hl hk,Option.bind_some]
     have key2:∀ n:Nat,n ≤ l.length → ((xsub zae l 0 (n:Int)).bind fun ys=>bif zaN zae 32 [] ys then (bif zaN zae 32 ys [(⟨key,val⟩:Pair)] then (xsub zae l (n:Int) (xlen zae l)).bind fun ys1=>bif zaN zae 32 (ys ++ [(⟨key,val⟩:Pair)]) ys1 then some (((ys ++ [(⟨key,val⟩:Pair)]) ++ ys1),(0:Int)) else none else none) else none)=some (l.take n ++ ⟨key,val⟩ :: l.drop n,0):=fun n hn=>by
      rw [zdR l n hn,Option.bind_some,zaK zae (by simp;omega) (by omega),cond_true,zaK zae (by simp;omega) (by omega),cond_true,zic l n hn,Option.bind_some,zaK zae (by simp;omega) (by omega),cond_true]
      simp
     rw [zvC]
     have h:=zmS (p:=isUp key) (l:=l)
     rw [zaG] at key2
     cases hf2:fst (isUp key) l with
     | none=>
      have:=key2 l.length (Nat.le_refl _)
      rw [List.take_length,List.drop_length] at this
      simp only []
      exact this
     | some n=>
      rw [hf2] at h
      obtain ⟨x,hx,_,_,hn⟩:=h
      exact key2 n (by omega)
   ·rw [hp,if_pos (by omega),if_pos (by omega),hroom,cond_true,zbd,hx,Option.bind_some]
    congr 2
    exact zwU hf hx)
end Go.Ab.Tryz
namespace Go.Ab.Tryz
open Go Go.Ab Go.Proofs Go.Lib
def mer:List Pair → Int → List Pair → List Pair × Int
 | l,met,[]=>(l,met)
 | l,met,x :: r=>if 0 ≤ pl l x.key then mer l met r else if (put l x.key x.val).2=0 then mer (put l x.key x.val).1 met r else mer l (put l x.key x.val).2 r
def Keys (l:List Pair):Prop:=∀ p,p ∈ l → p.key.size < 1000000
theorem zCE {l:List Pair} {key val:ByteArray} (h:(put l key val).2 ≠ 0):(put l key val).1=l:=by
 unfold put at h ⊢
 cases hk:zbG key
 ·rfl
 ·rw [hk,cond_true] at h
  rw [cond_true]
  split
  ·rfl
  ·split
   ·rename_i h1 h2
    rw [if_neg h1,if_pos h2] at h
    exact absurd rfl h
   ·split
    ·rfl
    ·rename_i h1 h2 h3
     rw [if_neg h1,if_neg h2,if_neg h3] at h
     exact absurd rfl h
theorem zvZ {more:List Pair} (hm:more.length ≤ 1000) (hk:Keys more) {l:List Pair} {met:Int} (hl:l.length ≤ 200):zd6 more l met 0=some (mer l met more):=by
 have:=zbi (σ:=List Pair × Int) zae (l:=more) (by omega) (L:=fun i s=>zd6 more s.1 s.2 i) (res:=fun n s rest=>mer s.1 s.2 rest) (Inv:=fun _ s=>s.1.length ≤ 200)
  (fun s _ h=>zpi (by rw [zin,h];rfl))
  (fun n x rest s hi hn hx hd h1 h2 h3 ih=>zpi (by
   have hxk:=hk x (List.mem_of_getElem? hx)
   rw [zin,h1,h2,cond_true,Option.bind_some,(zeC (by omega)).2,Option.bind_some,mer,h3,zaM,zas]
   by_cases hp:0 ≤ pl s.1 x.key
   ·rw [if_neg (by omega),if_pos hp];exact ih s hi
   ·rw [if_pos (by omega),if_neg hp,zqE (by omega) hxk,Option.bind_some]
    have hle:=zdt s.1 x.key x.val
    have hbad:=zCE (l:=s.1) (key:=x.key) (val:=x.val)
    obtain ⟨⟨q,e⟩,hq⟩:∃ z,put s.1 x.key x.val=z:=⟨_,rfl⟩
    rw [hq] at hle hbad ⊢
    dsimp only at hle hbad ⊢
    by_cases he:e=0
    ·rw [if_pos he,ieqT he,cond_true]
     exact ih (q,s.2) (by show q.length ≤ 200;omega)
    ·rw [if_neg he,ieqF he,cond_false,hbad he]
     exact ih (s.1,e) hi)) (l,met) hl
 exact this
theorem zzV {l more:List Pair} (hl:l.length ≤ 200) (hm:more.length ≤ 1000) (hk:Keys more):zsF l more=some (mer l 0 more):=zBd (zvZ hm hk hl)
theorem zkl {l more:List Pair} (hm:more.length ≤ 1000) (hk:Keys more):∀ (k n:Nat),n + k=more.length → ∀ (out:List Pair) (met:Int),out.length ≤ 200 → zce l more out met (n:Int)=some (.inr (.inl (mer out met (more.drop n)))):=by
 intro k
 induction k with
 | zero=>
  intro n hn out met ho
  obtain rfl:n=more.length:=by omega
  have:Ops.std.ilt (more.length:Int) (xlen zae more)=false:=by rw [zcF];simp
  exact zlG (by rw [zeJ,this,List.drop_length];rfl)
 | succ k ih=>
  intro n hn out met ho
  have hlt:n < more.length:=by omega
  have h1:Ops.std.ilt (n:Int) (xlen zae more)=true:=by rw [zcF];simp [hlt]
  have h2:xget zae more (n:Int)=some more[n]:=by rw [zbd];exact List.getElem?_eq_getElem hlt
  have h3:Ops.std.iadd .i64 (n:Int) 1=((n + 1:Nat):Int):=ze2 (by omega)
  have hxk:=hk more[n] (List.getElem_mem hlt)
  have hle:=zdt out more[n].key more[n].val
  refine zlG ?_
  rw [zeJ,h1,h2,cond_true,Option.bind_some,(zeC (l:=out) (by omega)).1,Option.bind_some,List.drop_eq_getElem_cons hlt,mer,h3,zvA,zas]
  by_cases hp:0 ≤ pl out more[n].key
  ·rw [if_pos hp,if_pos hp];exact ih (n + 1) (by omega) out met ho
  ·rw [if_neg hp,if_neg hp,zh4 (l:=out) (by omega) hxk,Option.bind_some]
   obtain ⟨⟨q,e⟩,hq⟩:∃ z,put out more[n].key more[n].val=z:=⟨_,rfl⟩
   rw [hq] at hle ⊢
   dsimp only at hle ⊢
   by_cases he:e=0
   ·rw [ieqT he,cond_true,if_pos he];exact ih (n + 1) (by omega) _ met (by omega)
   ·rw [ieqF he,cond_false,if_neg he];exact ih (n + 1) (by omega) out _ ho
def un (l:List Pair):Unit ⊕ (((List Pair) × Int) ⊕ Int) → List Pair × Int
 | .inl ()=>(l,0)
 | .inr (.inl r)=>r
 | .inr (.inr met)=>(l,met)
theorem zrB {l more:List Pair} (hl:l.length ≤ 200) (hm:more.length ≤ 1000) (hk:Keys more):∀ (k n:Nat),n + k=more.length → ∀ (met:Int),∃ r,zd8 l more met (n:Int)=some r ∧ un l r=mer l met (more.drop n):=by
 intro k
 induction k with
 | zero=>
  intro n hn met
  obtain rfl:n=more.length:=by omega
  have:Ops.std.ilt (more.length:Int) (xlen zae more)=false:=by rw [zcF];simp
  exact ⟨.inr (.inr met),zlH (by rw [zeK,this];rfl),by rw [List.drop_length];rfl⟩
 | succ k ih=>
  intro n hn met
  have hlt:n < more.length:=by omega
  have h1:Ops.std.ilt (n:Int) (xlen zae more)=true:=by rw [zcF];simp [hlt]
  have h2:xget zae more (n:Int)=some more[n]:=by rw [zbd];exact List.getElem?_eq_getElem hlt
  have h3:Ops.std.iadd .i64 (n:Int) 1=((n + 1:Nat):Int):=ze2 (by omega)
  have hxk:=hk more[n] (List.getElem_mem hlt)
  have hle:=zdt l more[n].key more[n].val
  have hu:=fun r=>zlH (l:=l) (more:=more) (met:=met) (t16:=(n:Int)) (r:=r)
  rw [zeK,h1,h2,cond_true,Option.bind_some,(zeC (l:=l) (by omega)).1,Option.bind_some,h3,zvA,zas] at hu
  rw [List.drop_eq_getElem_cons hlt,mer]
  by_cases hp:0 ≤ pl l more[n].key
  ·rw [if_pos hp] at hu ⊢
   obtain ⟨r,hr,hv⟩:=ih (n + 1) (by omega) met
   exact ⟨r,hu _ hr,hv⟩
  ·rw [if_neg hp,zh4 (l:=l) (by omega) hxk,Option.bind_some] at hu
   rw [if_neg hp]
   obtain ⟨⟨q,e⟩,hq⟩:∃ z,put l more[n].key more[n].val=z:=⟨_,rfl⟩
   rw [hq] at hle hu ⊢
   dsimp only at hle hu ⊢
   by_cases he:e=0
   ·rw [ieqT he,cond_true] at hu
    rw [if_pos he]
    exact ⟨_,hu _ (zkl hm hk k (n + 1) (by omega) q met (by omega)),rfl⟩
   ·rw [ieqF he,cond_false] at hu
    rw [if_neg he]
    obtain ⟨r,hr,hv⟩:=ih (n + 1) (by omega) e
    exact ⟨r,hu _ hr,hv⟩
theorem zrA {l more:List Pair} (hl:l.length ≤ 200) (hm:more.length ≤ 1000) (hk:Keys more):∀ (k n:Nat),n + k=more.length → ∃ r,zfQ l more (n:Int)=some r ∧ un l r=mer l 0 (more.drop n):=by
 intro k
 induction k with
 | zero=>
  intro n hn
  obtain rfl:n=more.length:=by omega
  have:Ops.std.ilt (more.length:Int) (xlen zae more)=false:=by rw [zcF];simp
  exact ⟨.inl (),znf (by rw [zgi,this];rfl),by rw [List.drop_length];rfl⟩
 | succ k ih=>
  intro n hn
  have hlt:n < more.length:=by omega
  have h1:Ops.std.ilt (n:Int) (xlen zae more)=true:=by rw [zcF];simp [hlt]
  have h2:xget zae more (n:Int)=some more[n]:=by rw [zbd];exact List.getElem?_eq_getElem hlt
  have h3:Ops.std.iadd .i64 (n:Int) 1=((n + 1:Nat):Int):=ze2 (by omega)
  have hxk:=hk more[n] (List.getElem_mem hlt)
  have hle:=zdt l more[n].key more[n].val
  have hu:=fun r=>znf (l:=l) (more:=more) (t16:=(n:Int)) (r:=r)
  rw [zgi,h1,h2,cond_true,Option.bind_some,(zeC (l:=l) (by omega)).1,Option.bind_some,h3,zvA,zas] at hu
  rw [List.drop_eq_getElem_cons hlt,mer]
  by_cases hp:0 ≤ pl l more[n].key
  ·rw [if_pos hp] at hu ⊢
   obtain ⟨r,hr,hv⟩:=ih (n + 1) (by omega)
   exact ⟨r,hu _ hr,hv⟩
  ·rw [if_neg hp,zh4 (l:=l) (by omega) hxk,Option.bind_some] at hu
   rw [if_neg hp]
   obtain ⟨⟨q,e⟩,hq⟩:∃ z,put l more[n].key more[n].val=z:=⟨_,rfl⟩
   rw [hq] at hle hu ⊢
   dsimp only at hle hu ⊢
   by_cases he:e=0
   ·rw [ieqT he,cond_true] at hu
    rw [if_pos he]
    exact ⟨_,hu _ (zkl hm hk k (n + 1) (by omega) q 0 (by omega)),rfl⟩
   ·rw [ieqF he,cond_false] at hu
    rw [if_neg he]
    obtain ⟨r,hr,hv⟩:=zrB hl hm hk k (n + 1) (by omega) e
    exact ⟨r,hu _ hr,hv⟩
theorem zwW {l more:List Pair} (hl:l.length ≤ 200) (hm:more.length ≤ 1000) (hk:Keys more):zow l more=some (mer l 0 more):=zyf (by
 obtain ⟨r,hr,hu⟩:=zrA hl hm hk more.length 0 (by omega)
 have hr':zfQ l more 0=some r:=hr
 rw [zl7,zaK zae (by simp;omega) (by omega),cond_true,hr',Option.bind_some]
 rw [List.drop_zero] at hu
 rw [← hu]
 rcases r with _ | ⟨_,_⟩ | _ <;> rfl)
theorem zJu (more:List Pair):∀ (l:List Pair) (met:Int),(mer l met more).1.length ≤ max l.length 64:=by
 induction more with
 | nil=>intro l met;exact Nat.le_max_left _ _
 | cons x r ih=>
  intro l met
  rw [mer]
  split
  ·exact ih l met
  ·split
   ·have:=ih (put l x.key x.val).1 met
    have:=zdt l x.key x.val
    omega
   ·exact ih l _
def zc3 (l:List Pair) (n:Nat) (x:Pair):Bool:=zbG x.key && (decide (x.val.size ≤ 512) && (match n with | 0=>true | k + 1=>match l[k]? with | some y=>lt y.key x.key | none=>true))
def rightB (l:List Pair):Bool:=allI (zc3 l) 0 l && decide (l.length ≤ 64)
end Go.Ab.Tryz
namespace Go.Ab.Tryz
open Go Go.Ab Go.Proofs Go.Lib
def inP (a b:Int) (p:Pair):Bool:=upto a (zjP p.key) b
def outP (a b:Int) (p:Pair):Bool:=!inP a b p
def rng (l:List Pair) (a b:Int):List Pair:=l.filter (inP a b)
theorem zuW {a b:Int} {x:Pair} {l:List Pair}:rng (x :: l) a b=bif outP a b x then rng l a b else x :: rng l a b:=by
 unfold rng outP
 cases h:inP a b x <;> simp [h]
theorem zCF {a b:Int} {l:List Pair} (h:∀ x,x ∈ l → outP a b x=false):rng l a b=l:=by
 unfold rng
 rw [List.filter_eq_self]
 intro x hx
 have:=h x hx
 unfold outP at this
 simpa using this
theorem zjA {p:Pair} {a b:Int} (hk:p.key.size < 1000000):zjh p a b=some (outP a b p):=zwc (by
 rw [zkh,zqY (by omega),Option.bind_some,zm9,Option.bind_some];rfl)
theorem zxD {l:List Pair} {a b:Int} (hl:l.length ≤ 1000) (hk:Keys l):zkn l a b=some (fstI (outP a b) l):=zuj (by
 have h:=zdj zae (l:=l) (by omega) (p:=outP a b) (L:=fun i=>ze0 l a b i) (fun h=>zhb (by simp [zcN,h]))
  (fun n x hx h1 h2 hp=>zhb (by simp [zcN,h1,h2,zjA (hk x hx),hp]))
  (fun n x r hx h1 h2 hp h=>zhb (by simp [zcN,h1,h2,zjA (hk x hx),hp];exact h))
 rw [zjn,h]
 unfold fstI
 cases fst (outP a b) l <;> rfl)
theorem znX (a b:Int) (rest:List Pair):∀ (kept:List Pair) (j0:Pair) (jt:List Pair),Keys rest → kept.length + (jt.length + 1) + rest.length ≤ 1000 →
  ∃ junk,zcg a b (kept.length:Nat) ((kept ++ j0 :: jt).length:Nat) (kept ++ j0 :: jt ++ rest)=some ((((kept ++ rng rest a b).length:Nat):Int),kept ++ rng rest a b ++ junk):=by
 induction rest with
 | nil=>
  intro kept j0 jt hk h
  refine ⟨j0 :: jt,zdG ?_⟩
  have:Ops.std.ilt ((kept ++ j0 :: jt).length:Nat) (xlen zae (kept ++ j0 :: jt ++ []))=false:=by rw [zcF];simp
  rw [zbS,this]
  simp [rng]
 | cons x rest ih=>
  intro kept j0 jt hk h
  have hkr:Keys rest:=fun p hp=>hk p (List.mem_cons_of_mem _ hp)
  simp only [List.length_cons] at h
  have hlt:Ops.std.ilt ((kept ++ j0 :: jt).length:Nat) (xlen zae (kept ++ j0 :: jt ++ x :: rest))=true:=by rw [zcF];simp
  have hg:xget zae (kept ++ j0 :: jt ++ x :: rest) ((kept ++ j0 :: jt).length:Nat)=some x:=by rw [zbd];simp
  have hadd:Ops.std.iadd .i64 ((kept ++ j0 :: jt).length:Nat) 1=(((kept ++ j0 :: jt).length + 1:Nat):Int):=ze2 (by simp;omega)
  have hd:=zjA (p:=x) (a:=a) (b:=b) (hk x (List.mem_cons_self ..))
  rw [zuW]
  cases hx:outP a b x with
  | true=>
   obtain ⟨junk,h2⟩:=ih kept j0 (jt ++ [x]) hkr (by simp;omega)
   refine ⟨junk,zdG ?_⟩
   rw [zbS,hlt,hg,hadd]
   simp only [cond_true,Option.bind_some,hd,hx]
   simpa [Nat.add_assoc] using h2
  | false=>
   have hg0:xget zae (kept ++ j0 :: jt ++ x :: rest) (kept.length:Nat)=some j0:=by rw [zbd];simp
   have hadd2:Ops.std.iadd .i64 (kept.length:Nat) 1=((kept.length + 1:Nat):Int):=ze2 (by omega)
   have hset:xset (kept ++ j0 :: jt ++ x :: rest) (kept.length:Nat) x=(kept ++ [x]) ++ (jt ++ [x]) ++ rest:=by
    unfold xset;simp
   have go:zcg a b ((kept.length + 1:Nat):Int) (((kept ++ j0 :: jt).length + 1:Nat):Int) ((kept ++ [x]) ++ (jt ++ [x]) ++ rest)=zbS a b (kept.length:Nat) ((kept ++ j0 :: jt).length:Nat) (kept ++ j0 :: jt ++ x :: rest):=by
    rw [zbS,hlt,hg,hadd]
    simp only [cond_true,Option.bind_some,hd,hx,cond_false,hg0,hadd2,hset]
   cases jt with
   | nil=>
    obtain ⟨junk,h2⟩:=ih (kept ++ [x]) x [] hkr (by simp;omega)
    refine ⟨junk,zdG (go.symm.trans ?_)⟩
    simpa [Nat.add_assoc] using h2
   | cons j1 jt=>
    obtain ⟨junk,h2⟩:=ih (kept ++ [x]) j1 (jt ++ [x]) hkr (by simp at h ⊢;omega)
    refine ⟨junk,zdG (go.symm.trans ?_)⟩
    simpa [Nat.add_assoc] using h2
theorem zlI {l:List Pair} {a b:Int} (hl:l.length ≤ 1000) (hk:Keys l):zjL l a b=some (rng l a b):=ztV (by
 rw [zix,zxD hl hk,Option.bind_some]
 unfold fstI
 cases hf:fst (outP a b) l with
 | none=>
  have:Ops.std.ieq (-1) (-1)=true:=rfl
  simp [this,zCF (zmT hf)]
 | some n=>
  obtain ⟨x,hx,hp,hn,hb⟩:=zhz hf
  have h1:Ops.std.ieq (n:Int) (-1)=false:=ieqF (by omega)
  obtain ⟨hn',hxe⟩:=List.getElem?_eq_some_iff.1 hx
  have hsplit:l=l.take n ++ x :: l.drop (n + 1):=by
   rw [← hxe,← List.drop_eq_getElem_cons hn,List.take_append_drop]
  have hkl:(l.take n).length=n:=by simp;omega
  have hbefore:rng (l.take n) a b=l.take n:=zCF fun y hy=>by
   obtain ⟨i,hi,rfl⟩:=List.getElem_of_mem hy
   rw [hkl] at hi
   exact hb i _ hi (by rw [List.getElem_take];exact List.getElem?_eq_getElem _)
  have hdrp:rng l a b=l.take n ++ rng (l.drop (n + 1)) a b:=by
   conv=>lhs;rw [hsplit]
   show List.filter _ _=_
   rw [List.filter_append]
   show rng _ a b ++ rng (x :: _) a b=_
   rw [hbefore,zuW,hp,cond_true]
  obtain ⟨junk,hlo⟩:=znX a b (l.drop (n + 1)) (l.take n) x [] (fun p hp=>hk p (List.mem_of_mem_drop hp)) (by rw [hkl];simp;omega)
  rw [← hdrp,List.append_assoc,List.singleton_append,← hsplit,List.length_append,hkl,List.length_singleton] at hlo
  have hadd:Ops.std.iadd .i64 (n:Int) 1=((n + 1:Nat):Int):=ze2 (by omega)
  have hz:Ops.std.ieq 0 0=true:=rfl
  have hfil:xfil (rng l a b ++ junk) ((rng l a b).length:Nat) (xlen zae (rng l a b ++ junk)) ⟨⟨#[]⟩,⟨#[]⟩⟩=rng l a b ++ List.replicate junk.length ⟨⟨#[]⟩,⟨#[]⟩⟩:=by
   unfold xfil;rw [zaG];simp only [Int.toNat_natCast];simp
  simp only [h1,cond_false,hadd,hlo,Option.bind_some,zic (rng l a b ++ junk) (rng l a b).length (by simp),hfil,zdR (rng l a b ++ List.replicate junk.length ⟨⟨#[]⟩,⟨#[]⟩⟩) (rng l a b).length (by simp),hz,cond_true]
  simp)
theorem zwY {l:List Pair} {a b:Int} (hl:l.length ≤ 1000) (hk:Keys l):zoz l a b=some (rng l a b):=zyh (by
 rw [zl8,zaK zae (by simp;omega) (by omega),cond_true,zlI hl hk])
theorem zHi (a b:Int) (l:List Pair):(l.flatMap fun x=>bif inP a b x then [x] else [])=rng l a b:=by
 induction l with
 | nil=>rfl
 | cons x l ih=>rw [List.flatMap_cons,ih,zuW,outP];cases inP a b x <;> rfl
theorem zzW {l:List Pair} {a b:Int} (ha:0 ≤ a ∧ a < 18446744073709551616) (hb:0 ≤ b ∧ b < 18446744073709551616) (hl:l.length ≤ 1000) (hk:Keys l):zjJ l a b=some (rng l a b):=zBe (by
 have h:=zg1 zae (l:=l) (by omega) (f:=fun x=>bif inP a b x then [x] else []) (L:=fun i acc=>zhT l a b i acc) 1 (fun x _=>by cases inP a b x <;> simp)
  (fun acc h=>zpk (by simp [zio,h]))
  (fun n x acc r hac hn hx h1 h2 h=>zpk (by
   have hp:=zsq (s:=x.key) (by have:=hk x hx;omega)
   have hu:zjt a (zjP x.key) b=some (inP a b x):=zk8 ha (zp0 _) hb
   rw [zio,h1,h2,cond_true,Option.bind_some,hp,Option.bind_some,hu,Option.bind_some]
   cases hi:inP a b x with
   | true=>
    rw [hi,cond_true] at h
    rw [cond_true,zaK zae (by simp;omega) (by omega),cond_true];exact h
   | false=>
    rw [hi,cond_false,List.append_nil] at h
    rw [cond_false];exact h))
 rw [zoj,h,zHi])
theorem zGp {α β:Type} (f:α → β) (xs:List α):cut8 (xs.map f)=(cut8 xs).map (List.map f):=by
 unfold cut8
 rw [List.length_map,List.map_map]
 apply List.map_congr_left
 intro k _
 simp
theorem zJY {l:List Pair} (hl:l.length ≤ 1000000):xcut zae 78 l=some (cut8 l):=by
 refine zar ?_
 show (if (l.map zae).length ≤ 1000000 then some ((cut8 (l.map zae)).map (AV.lit 78 false)) else none)=_
 rw [if_pos (by rw [List.length_map];exact hl),zGp,List.map_map]
 rfl
theorem zwm {l:List Pair} {c:List Pair} (hc:c ∈ cut8 l):c.length ≤ 8:=by
 unfold cut8 at hc
 obtain ⟨k,_,rfl⟩:=List.mem_map.1 hc
 rw [List.length_take];omega
theorem zpP (l:List Pair):(cut8 l).length=(l.length + 7) / 8:=by
 unfold cut8;rw [List.length_map,List.length_range]
def zvH (l:List Pair):Bool:=decide (100 < l.length) || !allI (fun _ p=>decide (p.key.size ≤ 300) && decide (p.val.size ≤ 700)) 0 l
theorem zGU (l:List Pair):zs3 l=some (zvH l):=zBz (by
 rw [zoE,zaG]
 unfold zvH
 by_cases h1:100 < l.length
 ·rw [iltT (by omega),decide_eq_true h1];rfl
 ·have h:=zpE zae (l:=l) (by omega) (p:=fun _ p=>decide (p.key.size ≤ 300) && decide (p.val.size ≤ 700)) (L:=fun i=>zkj l i)
   (fun h=>zkW (by simp [zfW,h]))
   (fun n x r hx h1 h2 hp h=>zkW (by
    rw [Bool.and_eq_true,decide_eq_true_eq,decide_eq_true_eq] at hp
    rw [zfW,h1,h2,cond_true,Option.bind_some,zbf,zbf,iltF (by omega),iltF (by omega)];exact h))
   (fun n x hx h1 h2 hp=>zkW (by
    rw [Bool.and_eq_false_iff,decide_eq_false_iff_not,decide_eq_false_iff_not] at hp
    rw [zfW,h1,h2,cond_true,Option.bind_some,zbf,zbf]
    rcases hp with hp | hp
    ·rw [iltT (by omega)];rfl
    ·by_cases h3:300 < x.key.size
     ·rw [iltT (by omega)];rfl
     ·rw [iltF (by omega),cond_false,iltT (by omega)];rfl))
  rw [h,Option.bind_some,iltF (by omega),decide_eq_false h1,cond_false,Bool.false_or]
  cases allI (fun _ p=>decide (p.key.size ≤ 300) && decide (p.val.size ≤ 700)) 0 l <;> rfl)
theorem zFe {l:List Pair} (h:zvH l=false):l.length ≤ 100 ∧ Keys l:=by
 unfold zvH at h
 rw [Bool.or_eq_false_iff,decide_eq_false_iff_not,Bool.not_eq_false'] at h
 refine ⟨by omega,fun p hp=>?_⟩
 obtain ⟨i,hi⟩:=List.getElem?_of_mem hp
 have:=zpD.1 h.2 i p hi
 rw [Bool.and_eq_true,decide_eq_true_eq] at this
 omega
end Go.Ab.Tryz
namespace Go.Ab.Tryz
open Go Go.Ab Go.Proofs Go.Lib
theorem of_r {α:Type} {x y:Option α} (h:∀ r,y=some r → x=some r) (hn:y ≠ none):x=y:=by
 cases y with
 | none=>exact absurd rfl hn
 | some r=>exact h r rfl
theorem zmV (k:Int):(k < 1 ∨ 12 < k) ∨ k=1 ∨ k=2 ∨ k=3 ∨ k=4 ∨ k=5 ∨ k=6 ∨ k=7 ∨ k=8 ∨ k=9 ∨ k=10 ∨ k=11 ∨ k=12:=by omega
def kinds0:List Msg_kind:=[⟨⟨#[63]⟩,0,[]⟩,⟨⟨#[102,105,110,100]⟩,4,[2,12]⟩,⟨⟨#[104,111,112]⟩,18,[]⟩,⟨⟨#[97,115,107]⟩,0,[4]⟩,⟨⟨#[116,101,108,108]⟩,282,[]⟩,⟨⟨#[110,111,116,101]⟩,8,[6]⟩,⟨⟨#[111,107,97,121]⟩,0,[]⟩,⟨⟨#[112,117,116]⟩,96,[6,12]⟩,⟨⟨#[103,101,116]⟩,32,[9,12]⟩,⟨⟨#[103,111,116]⟩,322,[]⟩,⟨⟨#[109,111,118,101]⟩,130,[6]⟩,⟨⟨#[112,105,110,103]⟩,0,[6]⟩,⟨⟨#[110,97,121]⟩,1,[]⟩]
def kindOf (k:Int):Msg_kind:=kinds0[(if 1 ≤ k ∧ k ≤ 12 then k.toNat else 0)]?.getD ⟨⟨#[63]⟩,0,[]⟩
theorem zly {k:Int} (h:k < 1 ∨ 12 < k):kindOf k=⟨⟨#[63]⟩,0,[]⟩:=by
 unfold kindOf
 rw [if_neg (by omega)] <;> rfl
theorem zzt:zsa=some kinds0:=zAP rfl
theorem zsc (k:Int):zsb k=some (kindOf k):=zGZ (by
 have hx:∀ (n:Nat) (x:Msg_kind),kinds0[n]?=some x → xget zbm kinds0 (n:Int)=some x:=fun n x h=>by rw [zbd,h]
 have hlen:xlen zbm kinds0=13:=by rw [zaG] <;> rfl
 simp only [zuE,zzt,Option.bind_some,hlen,zaM,zb1,zas]
 rcases zmV k with h | h
 ·rw [zly h]
  have h0:=hx 0 _ rfl
  simp only [Int.natCast_zero,Int.cast_ofNat_Int] at h0
  split
  ·rw [h0] <;> rfl
  ·split
   ·rw [h0] <;> rfl
   ·have:k=0:=by omega
    subst this;rw [h0] <;> rfl
 ·rcases h with rfl | rfl | rfl | rfl | rfl | rfl | rfl | rfl | rfl | rfl | rfl | rfl
  ·exact (congrArg (·.bind some) (hx 1 _ rfl))
  ·exact (congrArg (·.bind some) (hx 2 _ rfl))
  ·exact (congrArg (·.bind some) (hx 3 _ rfl))
  ·exact (congrArg (·.bind some) (hx 4 _ rfl))
  ·exact (congrArg (·.bind some) (hx 5 _ rfl))
  ·exact (congrArg (·.bind some) (hx 6 _ rfl))
  ·exact (congrArg (·.bind some) (hx 7 _ rfl))
  ·exact (congrArg (·.bind some) (hx 8 _ rfl))
  ·exact (congrArg (·.bind some) (hx 9 _ rfl))
  ·exact (congrArg (·.bind some) (hx 10 _ rfl))
  ·exact (congrArg (·.bind some) (hx 11 _ rfl))
  ·exact (congrArg (·.bind some) (hx 12 _ rfl)))
theorem zAM (k:Int):zuB k=some (kindOf k).name:=zDd (by rw [zp9,zsc] <;> rfl)
def fl (k:Int) (has:Bool):Int:=if k=1 then 4 else if k=2 then 18 else if k=4 then (bif has then 26 else 18) else if k=5 then 8 else if k=7 then 96 else if k=8 then 32 else if k=9 then (bif has then 66 else 2) else if k=10 then 130 else if k=12 then 1 else 0
theorem zq0 (m:Msg):zmn m=some (fl m.kind m.has):=zzs (by
 rw [zmX,zsc,Option.bind_some]
 obtain ⟨k,rid,code,has,id,key,val,peer,peers,pairs⟩:=m
 simp only
 rcases zmV k with h | h
 ·rw [zly h]
  have:fl k has=0:=by unfold fl;repeat' (first | rw [if_neg (by omega)])
  rw [this] <;> rfl
 ·rcases h with rfl | rfl | rfl | rfl | rfl | rfl | rfl | rfl | rfl | rfl | rfl | rfl <;> cases has <;> rfl)
def bare (m:Msg):Msg:=
 if m.kind=1 then ⟨m.kind,m.rid,0,false,m.id,⟨#[]⟩,⟨#[]⟩,⟨0,0⟩,[],[]⟩ else
 if m.kind=2 then ⟨m.kind,m.rid,0,m.has,0,⟨#[]⟩,⟨#[]⟩,⟨0,0⟩,m.peers,[]⟩ else
 if m.kind=4 then ⟨m.kind,m.rid,0,m.has,0,⟨#[]⟩,⟨#[]⟩,bif m.has then m.peer else ⟨0,0⟩,m.peers,[]⟩ else
 if m.kind=5 then ⟨m.kind,m.rid,0,false,0,⟨#[]⟩,⟨#[]⟩,m.peer,[],[]⟩ else
 if m.kind=7 then ⟨m.kind,m.rid,0,false,0,m.key,m.val,⟨0,0⟩,[],[]⟩ else
 if m.kind=8 then ⟨m.kind,m.rid,0,false,0,m.key,⟨#[]⟩,⟨0,0⟩,[],[]⟩ else
 if m.kind=9 then ⟨m.kind,m.rid,0,m.has,0,⟨#[]⟩,bif m.has then m.val else ⟨#[]⟩,⟨0,0⟩,[],[]⟩ else
 if m.kind=10 then ⟨m.kind,m.rid,0,m.has,0,⟨#[]⟩,⟨#[]⟩,⟨0,0⟩,[],m.pairs⟩ else
 if m.kind=12 then ⟨m.kind,m.rid,m.code,false,0,⟨#[]⟩,⟨#[]⟩,⟨0,0⟩,[],[]⟩ else
 ⟨m.kind,m.rid,0,false,0,⟨#[]⟩,⟨#[]⟩,⟨0,0⟩,[],[]⟩
theorem zA2 {m:Msg} (hp:m.peers.length ≤ 1000) (hq:m.pairs.length ≤ 1000):zuL m=some (bare m):=zDv (by
 have h1:zaN zaf 16 [] m.peers=true:=zaK zaf (by simp;omega) (by omega)
 have h2:zaN zae 32 [] m.pairs=true:=zaK zae (by simp;omega) (by omega)
 simp only [zqr,h1,h2,cond_true,zaI,zas]
 unfold bare
 repeat' split
 all_goals (first | rfl | (rename_i h;rw [h] <;> rfl)  | (cases hh:m.has <;> simp_all) | simp_all))
theorem zAK {m:Msg} (hp:m.peers.length ≤ 1000) (hq:m.pairs.length ≤ 1000):zuz m=some (bare m):=zDb (by
 have h1:zaN zaf 16 [] m.peers=true:=zaK zaf (by simp;omega) (by omega)
 have h2:zaN zae 32 [] m.pairs=true:=zaK zae (by simp;omega) (by omega)
 have e0:∀ f a b c d p q,zk3 m f a b c d p q=zdx m f a b c d p q:=fun f a b c d p q=>of_r (fun r=>zxH) (by
  simp only [zdx,h1,h2,cond_true,zaI,zas]
  repeat' split
  all_goals exact Option.some_ne_none _)
 have e01:∀ f a b c d p q,ziV m f a b c d p q=zcz m f a b c d p q:=fun f a b c d p q=>of_r (fun r=>zvN) (by
  simp only [zcz,h1,h2,cond_true,zaI,zas]
  repeat' split
  all_goals exact Option.some_ne_none _)
 have e1:∀ f a b c p q,zg3 m f a b c p q=zek m f a b c p q:=fun f a b c p q=>of_r (fun r=>zxI) (by
  simp only [zek,e0,e01,zdx,zcz,h1,h2,cond_true,zaI,zas]
  by_cases q1:Ops.std.ibit .and .i64 f 16=0 <;> by_cases q2:Ops.std.ibit .and .i64 f 32=0 <;> by_cases q3:Ops.std.ibit .and .i64 f 64=0 <;> by_cases q4:Ops.std.ibit .and .i64 f 128=0 <;> simp [q1,q2,q3,q4])
 have e2:∀ f a b,zg4 m f a b=zgr m f a b:=fun f a b=>of_r (fun r=>zxJ) (by
  simp only [zgr,e1,zek,e0,e01,zdx,zcz,h1,h2,cond_true,zaI,zas]
  by_cases q1:Ops.std.ibit .and .i64 f 16=0 <;> by_cases q2:Ops.std.ibit .and .i64 f 32=0 <;> by_cases q3:Ops.std.ibit .and .i64 f 64=0 <;> by_cases q4:Ops.std.ibit .and .i64 f 128=0 <;> by_cases q5:Ops.std.ibit .and .i64 f 4=0 <;> by_cases q6:Ops.std.ibit .and .i64 f 8=0 <;> simp [q1,q2,q3,q4,q5,q6])
 rw [zp7,zq0,Option.bind_some]
 simp only [e2,zgr,e1,zek,e0,e01,zdx,zcz,h1,h2,cond_true,zaI,zas]
 obtain ⟨k,rid,code,has,id,key,val,⟨pi,pa⟩,peers,pairs⟩:=m
 simp only
 rcases zmV k with h | h
 ·have hf:fl k has=0:=by unfold fl;repeat' (first | rw [if_neg (by omega)])
  have hb:bare ⟨k,rid,code,has,id,key,val,⟨pi,pa⟩,peers,pairs⟩=⟨k,rid,0,false,0,⟨#[]⟩,⟨#[]⟩,⟨0,0⟩,[],[]⟩:=by unfold bare;simp only;repeat' (first | rw [if_neg (by omega)])
  rw [hf,hb] <;> rfl
 ·rcases h with rfl | rfl | rfl | rfl | rfl | rfl | rfl | rfl | rfl | rfl | rfl | rfl <;> cases has <;> first | rfl | (simp only [show ∀ h,fl 3 h=0 from fun _=>rfl,show ∀ h,fl 6 h=0 from fun _=>rfl,show ∀ h,fl 11 h=0 from fun _=>rfl];rfl) | (simp [fl,bare];done))
end Go.Ab.Tryz
namespace Go.Ab.Tryz
open Go Go.Ab Go.Proofs Go.Lib
theorem zsu {a b:List Peer} (hl:a.length ≤ 1000000):znJ a b=some (eqb a b):=zt5 (by
 rw [zlb,zaG,zaG]
 by_cases he:a.length=b.length
 ·have h:=zjK zaf (l:=a) (l':=b) (by omega) he (L:=fun i=>zhJ a b i) (fun h=>zdT (by simp [zcq,h]))
   (fun n x r _ h1 h2 h3 h=>zdT (by simp [zcq,h1,h2,h3,zaI];exact h))
   (fun n x y _ h1 h2 h3 h=>zdT (by
    simp only [zcq,h1,h2,h3,zaI,zas,cond_true,Option.bind_some]
    rw [ne_eq,Peer.ext'] at h
    split
    ·split
     ·exact absurd ⟨‹_›,‹_›⟩ h
     ·rfl
    ·rfl))
  rw [ieqT (by omega),cond_true]
  rcases h with ⟨h1,h2⟩ | ⟨h1,h2⟩
  ·rw [h2,h1,zdZ] <;> rfl
  ·rw [h2,zgm h1] <;> rfl
 ·rw [ieqF (by omega),zgm (fun h=>he (by rw [h]))] <;> rfl)
theorem zxC {a b:List Peer} (hl:a.length ≤ 1000000):zpC a b=some (eqb a b):=zyJ (by
 rw [zmF,zaG,zaG]
 by_cases he:a.length=b.length
 ·have h:=zjK zaf (l:=a) (l':=b) (by omega) he (L:=fun i=>ziO a b i) (fun h=>zjN (by simp [zeq,h]))
   (fun n x r _ h1 h2 h3 h=>zjN (by simp [zeq,h1,h2,h3,zaI];exact h))
   (fun n x y _ h1 h2 h3 h=>zjN (by
    simp only [zeq,h1,h2,h3,zaI,zas,cond_true,Option.bind_some]
    rw [ne_eq,Peer.ext'] at h
    split
    ·split
     ·exact absurd ⟨‹_›,‹_›⟩ h
     ·rfl
    ·rfl))
  rw [ieqT (by omega),cond_true]
  rcases h with ⟨h1,h2⟩ | ⟨h1,h2⟩
  ·rw [h2,h1,zdZ] <;> rfl
  ·rw [h2,zgm h1] <;> rfl
 ·rw [ieqF (by omega),zgm (fun h=>he (by rw [h]))] <;> rfl)
theorem zxB {a b:List Pair} (hl:a.length ≤ 1000000):zpB a b=some (eqb a b):=zyI (by
 rw [zmE,zaG,zaG]
 by_cases he:a.length=b.length
 ·have h:=zjK zae (l:=a) (l':=b) (by omega) he (L:=fun i=>ziN a b i) (fun h=>zjM (by simp [zeo,h]))
   (fun n x r _ h1 h2 h3 h=>zjM (by simp [zeo,h1,h2,h3,zqU];exact h))
   (fun n x y _ h1 h2 h3 h=>zjM (by
    simp only [zeo,h1,h2,h3,ztS,zas,cond_true,Option.bind_some]
    rw [ne_eq,Pair.ext'] at h
    split
    ·split
     ·exact absurd ⟨‹_›,‹_›⟩ h
     ·rfl
    ·rfl))
  rw [ieqT (by omega),cond_true]
  rcases h with ⟨h1,h2⟩ | ⟨h1,h2⟩
  ·rw [h2,h1,zdZ] <;> rfl
  ·rw [h2,zgm h1] <;> rfl
 ·rw [ieqF (by omega),zgm (fun h=>he (by rw [h]))] <;> rfl)
theorem zt6 {a b:Msg} (hp:a.peers.length ≤ 1000000) (hq:a.pairs.length ≤ 1000000):zqu a b=some (eqb a b):=zDx (by
 simp only [zqv,zsu hp,zst hq,Option.bind_some,zaI,zyO,ztS,zas]
 obtain ⟨k,rid,code,has,id,key,val,⟨pi,pa⟩,peers,pairs⟩:=a
 obtain ⟨k',rid',code',has',id',key',val',⟨pi',pa'⟩,peers',pairs'⟩:=b
 simp only [eqb,Msg.mk.injEq,Peer.mk.injEq]
 by_cases c1:k=k' <;> by_cases c2:rid=rid' <;> by_cases c3:code=code' <;> by_cases c4:has=has' <;> by_cases c5:id=id' <;> simp only [c1,c2,c3,c4,c5,if_true,if_false,false_and,and_false,decide_false,true_and] <;> first | rfl | skip
 all_goals (by_cases c6:key=key' <;> by_cases c7:val=val' <;> by_cases c8:pi=pi' <;> by_cases c9:pa=pa' <;> by_cases c10:peers=peers' <;> by_cases c11:pairs=pairs' <;> simp_all))
theorem zwy {a b:Msg} (hp:a.peers.length ≤ 1000000) (hq:a.pairs.length ≤ 1000000) (t:Bool):zeQ a b t=some (t && (eqb a.key b.key && (eqb a.val b.val && (eqb a.peer b.peer && (eqb a.peers b.peers && eqb a.pairs b.pairs))))):=zxK (by
 simp only [zlL,zxC hp,zxB hq,Option.bind_some,zaI,ztS,eqb,Peer.ext']
 cases t
 ·rfl
 ·simp only [cond_true,Bool.true_and]
  by_cases c6:a.key=b.key <;> by_cases c7:a.val=b.val <;> by_cases c8:a.peer.id=b.peer.id <;> by_cases c9:a.peer.addr=b.peer.addr <;> by_cases c10:a.peers=b.peers <;> by_cases c11:a.pairs=b.pairs <;> simp_all)
theorem zAO {a b:Msg} (hp:a.peers.length ≤ 1000000) (hq:a.pairs.length ≤ 1000000):zuC a b=some (eqb a b):=zDe (by
 simp only [zqa,zwy hp hq,Option.bind_some,zaI,zyO,zas,Bool.false_and]
 obtain ⟨k,rid,code,has,id,key,val,peer,peers,pairs⟩:=a
 obtain ⟨k',rid',code',has',id',key',val',peer',peers',pairs'⟩:=b
 simp only [eqb,Msg.mk.injEq]
 by_cases c1:k=k' <;> by_cases c2:rid=rid' <;> by_cases c3:code=code' <;> by_cases c4:has=has' <;> by_cases c5:id=id' <;> simp only [c1,c2,c3,c4,c5,if_true,if_false,false_and,and_false,decide_false,true_and,decide_true,Bool.true_and,Bool.false_and] <;> first | rfl | skip
 all_goals (by_cases c6:key=key' <;> by_cases c7:val=val' <;> by_cases c8:peer=peer' <;> by_cases c10:peers=peers' <;> by_cases c11:pairs=pairs' <;> simp_all))
def znz (m:Msg):Bool:=m.kind == 7 || m.kind == 8
def zdr (l:List Pair):Bool:=l.any fun p=>!zbG p.key
def zjS (l:List Pair):Bool:=l.any fun p=>decide (512 < p.val.size)
def zlw (m:Msg):Bool:=decide (512 < m.val.size) || decide (16 < m.peers.length) || decide (8 < m.pairs.length) || zjS m.pairs
def zie (m:Msg):Bool:=(decide (m.kind=2) && decide (m.peers.length=0)) || (decide (m.kind=10) && decide (m.pairs.length=0)) || (decide (m.kind=12) && decide (m.code=0))
def zm8 (m:Msg):Int:=
 if m.kind < 1 ∨ 12 < m.kind then 9 else bif eqb m (bare m) then
  bif (znz m && !zbG m.key) || zdr m.pairs then 7 else bif zlw m then 5 else bif zie m then 2 else 0
 else 1
structure Fit (m:Msg):Prop where
 key:m.key.size < 1000000
 val:m.val.size < 1000000
 peers:m.peers.length ≤ 1000
 pairs:m.pairs.length ≤ 1000
 keys:∀ p,p ∈ m.pairs → p.key.size < 1000000
theorem zCq {α:Type} {p:α → Bool} {l:List α}:decide (0 ≤ fstI p l)=l.any p:=by
 unfold fstI
 cases h:fst p l with
 | none=>
  have:=zmT h
  have e:l.any p=false:=by
   rw [List.any_eq_false];intro x hx;simp [this x hx]
  rw [e] <;> rfl
 | some n=>
  obtain ⟨x,hx,hp,_⟩:=zhz h
  rw [List.any_eq_true.2 ⟨x,List.mem_of_getElem? hx,hp⟩]
  exact decide_eq_true (show (0:Int) ≤ (n:Int) by omega)
theorem zq2 {p:Pair} (h:p.key.size < 1000000):zqd p=some (!zbG p.key):=zzw (by rw [zmZ,zjT h] <;> rfl)
theorem zq1 (p:Pair):zqb p=some (decide (512 < p.val.size)):=zzu (by
 rw [zmY,zbf,zaM];congr 1;exact decide_eq_decide.2 ⟨fun h=>by omega,fun h=>by omega⟩)
theorem zrs {l:List Pair} (hl:l.length ≤ 1000) (hk:∀ p,p ∈ l → p.key.size < 1000000):zjl l=some (fstI (fun p=>!zbG p.key) l):=zrH (by
 have h:=zdj zae (l:=l) (by omega) (p:=fun p=>!zbG p.key) (L:=fun i=>zed l i) (fun h=>zfa (by simp [zcl,h]))
  (fun n x hx h1 h2 hp=>zfa (by simp only [zcl,h1,h2,zq2 (hk x hx),hp,cond_true,Option.bind_some]))
  (fun n x r hx h1 h2 hp h=>zfa (by simp only [zcl,h1,h2,zq2 (hk x hx),hp,cond_true,cond_false,Option.bind_some];exact h))
 rw [zhu,h]
 unfold fstI
 cases fst (fun p:Pair=>!zbG p.key) l <;> rfl)
theorem zrt {l:List Pair} (hl:l.length ≤ 1000):zjm l=some (fstI (fun p=>decide (512 < p.val.size)) l):=zrI (by
 have h:=zdj zae (l:=l) (by omega) (p:=fun p=>decide (512 < p.val.size)) (L:=fun i=>zee l i) (fun h=>zfb (by simp [zcn,h]))
  (fun n x hx h1 h2 hp=>zfb (by simp only [zcn,h1,h2,zq1,hp,cond_true,Option.bind_some]))
  (fun n x r hx h1 h2 hp h=>zfb (by simp only [zcn,h1,h2,zq1,hp,cond_true,cond_false,Option.bind_some];exact h))
 rw [zhv,h]
 unfold fstI
 cases fst (fun p:Pair=>decide (512 < p.val.size)) l <;> rfl)
theorem zxh {k:Int}:Ops.std.seq (kindOf k).name ⟨#[63]⟩=decide (k < 1 ∨ 12 < k):=by
 rcases zmV k with h | h
 ·rw [zly h,decide_eq_true h] <;> rfl
 ·rcases h with rfl | rfl | rfl | rfl | rfl | rfl | rfl | rfl | rfl | rfl | rfl | rfl <;> rfl
theorem zLn (m:Msg):Ops.std.ieq (Ops.std.ibit .and .i64 (fl m.kind m.has) 32) 0=!znz m:=by
 unfold znz
 rcases zmV m.kind with h | h
 ·have:fl m.kind m.has=0:=by unfold fl;repeat' (first | rw [if_neg (by omega)])
  have h7:(m.kind == 7)=false:=by rw [beq_eq_false_iff_ne];omega
  have h8:(m.kind == 8)=false:=by rw [beq_eq_false_iff_ne];omega
  rw [this,h7,h8] <;> rfl
 ·rcases h with h | h | h | h | h | h | h | h | h | h | h | h <;> rw [h] <;> cases m.has <;> rfl
theorem zAS {m:Msg} (h:Fit m):zuF m (fl m.kind m.has)=some (!((znz m && !zbG m.key) || zdr m.pairs)):=zDg (by
 have hc:zeZ m.pairs=some (zdr m.pairs):=zrp (by
  rw [zg8,zrs h.pairs h.keys];exact congrArg some zCq)
 simp only [zqe,zLn,zjT h.key,hc,Option.bind_some]
 cases znz m <;> cases zbG m.key <;> simp)
theorem zAQ {m:Msg} (h:Fit m):zuD m=some (zlw m):=zDf (by
 have hc:zg7 m.pairs=some (zjS m.pairs):=zoF (by
  rw [ze7,zrt h.pairs];exact congrArg some zCq)
 simp only [zqc,hc,Option.bind_some,zbf,zaG,zaM,zas,zlw]
 by_cases h1:512 < m.val.size
 ·rw [if_pos (by omega)];simp [h1]
 ·by_cases h2:16 < m.peers.length
  ·rw [if_neg (by omega),if_pos (by omega)];simp [h2]
  ·by_cases h3:8 < m.pairs.length
   ·rw [if_neg (by omega),if_neg (by omega),if_pos (by omega)];simp [h3]
   ·rw [if_neg (by omega),if_neg (by omega),if_neg (by omega)];simp [h1,h2,h3])
theorem len0 {α:Type} {l:List α}:decide ((l.length:Int)=0)=decide (l.length=0):=decide_eq_decide.2 ⟨fun h=>by omega,fun h=>by omega⟩
theorem zzv (m:Msg):zsd m=some (zie m):=zAR (by
 simp only [znZ,zaG,zaI,zas,zie,len0]
 by_cases h1:m.kind=2
 ·have h2:¬ m.kind=10:=by omega
  have h3:¬ m.kind=12:=by omega
  simp [h1]
 ·by_cases h2:m.kind=10
  ·simp [h2]
  ·by_cases h3:m.kind=12
   ·simp [h3]
   ·simp [h1,h2,h3])
theorem zzr {m:Msg} (h:Fit m):zr9 m=some (zm8 m):=zAN (by
 have h1:=h.peers;have h2:=h.pairs
 simp only [znY,zq0,zAM,zxh,zAK h.peers h.pairs,zAO (a:=m) (b:=bare m) (by omega) (by omega),zAS h,zAQ h,zzv,Option.bind_some,zm8,zas]
 split
 ·rfl
 ·cases eqb m (bare m)
  ·rfl
  ·cases (znz m && !zbG m.key) || zdr m.pairs
   ·cases zlw m <;> cases zie m <;> rfl
   ·rfl)
theorem zzQ:zsw=some (kinds0.map (·.name)):=zA6 rfl
theorem zA3 (k:Int):zuM k=some (kindOf k).name:=zDw (by
 simp only [zqt,zaM,zas,zzQ,Option.bind_some]
 rcases zmV k with h | h
 ·rw [zly h]
  rcases h with h | h
  ·rw [if_pos h]
  ·rw [if_neg (by omega),if_pos h]
 ·have hx:∀ n:Nat,1 ≤ n → n ≤ 12 → xget vT (kinds0.map (·.name)) (n:Int)=some (kindOf n).name:=fun n hn hm=>by
   rw [zbd,List.getElem?_map]
   unfold kindOf
   rw [if_pos (by omega),Int.toNat_natCast]
   have hl:n < kinds0.length:=by show n < 13;omega
   rw [List.getElem?_eq_getElem hl] <;> rfl
  rw [if_neg (by omega),if_neg (by omega)]
  have:=hx k.toNat (by omega) (by omega)
  rw [show ((k.toNat:Nat):Int)=k by omega] at this
  rw [this] <;> rfl)
theorem zvW {m:Msg} (h:Fit m) (lo:Bool):zfA m lo 0=some (bif zdr m.pairs then .inl () else .inr (lo || zjS m.pairs)):=
 zbi (σ:=Bool) zae (l:=m.pairs) (by have:=h.pairs;omega) (L:=fun i s=>zfA m s i) (res:=fun n s rest=>bif zdr rest then .inl () else .inr (s || zjS rest)) (Inv:=fun _ _=>True)
  (fun s _ hh=>zpg (by simp [zik,hh,zdr,zjS]))
  (fun n x rest s _ hn hx hd h1 h2 h3 ih=>zpg (by
   have hm:x ∈ m.pairs:=List.mem_of_getElem? hx
   simp only [zik,h1,h2,h3,cond_true,Option.bind_some,zqs (h.keys x hm),zbf,zaM,zas,ih _ trivial,zdr,zjS,List.any_cons]
   cases zbG x.key
   ·rfl
   ·by_cases hv:512 < x.val.size
    ·rw [if_pos (by omega)];simp [hv]
    ·rw [if_neg (by omega)];simp [hv])) lo trivial
theorem zvX {m:Msg} (h:Fit m) (lo:Bool):zhK m lo=some (bif zdr m.pairs then 7 else bif lo || zjS m.pairs then 5 else bif zie m then 2 else 0):=zwI (by
 simp only [zkL,zvW h lo,Option.bind_some,zaG,zaI]
 cases zdr m.pairs
 ·cases lo || zjS m.pairs
  ·simp only [cond_false,zie,len0]
   by_cases h1:m.kind=2
   ·simp [h1];cases decide (m.peers=[]) <;> rfl
   ·by_cases h2:m.kind=10
    ·simp [h2];cases decide (m.pairs=[]) <;> rfl
    ·by_cases h3:m.kind=12
     ·simp [h3];cases decide (m.code=0) <;> rfl
     ·simp [h1,h2,h3]
  ·rfl
 ·rfl)
theorem zvY {m:Msg} (h:Fit m):zhL m=some (bif zdr m.pairs then 7 else bif zlw m then 5 else bif zie m then 2 else 0):=zwJ (by
 simp only [zkM,zvX h,Option.bind_some,zbf,zaG,zaM,zas,zlw]
 by_cases h1:512 < m.val.size
 ·rw [if_pos (by omega)];simp [h1]
 ·by_cases h2:16 < m.peers.length
  ·rw [if_neg (by omega),if_pos (by omega)];simp [h2]
  ·rw [if_neg (by omega),if_neg (by omega)]
   by_cases h3:8 < m.pairs.length
   ·have:(8:Int) < m.pairs.length:=by omega
    simp [h1,h2,h3,this]
   ·have:¬ (8:Int) < m.pairs.length:=by omega
    simp [h1,h2,h3,this])
theorem zzP {m:Msg} (h:Fit m):zsv m=some (zm8 m):=zA5 (by
 have h1:=h.peers;have h2:=h.pairs
 simp only [zoe,zA3,zxh,zA2 h.peers h.pairs,zt6 (a:=m) (b:=bare m) (by omega) (by omega),zqs h.key,zvY h,Option.bind_some,zm8,zas,zaI,znz]
 split
 ·rfl
 ·cases eqb m (bare m)
  ·rfl
  ·by_cases h7:m.kind=7
   ·rw [h7];cases zbG m.key <;> rfl
   ·by_cases h8:m.kind=8
    ·rw [h8];cases zbG m.key <;> rfl
    ·rw [if_neg h7,if_neg h8,beq_eq_false_iff_ne.2 h7,beq_eq_false_iff_ne.2 h8] <;> rfl)
end Go.Ab.Tryz
namespace Go.Ab.Tryz
open Go Go.Ab Go.Proofs Go.Lib
theorem eta2 {α β:Type} {x:Option (α × β)} {p:α × β} (h:x=some p):x=some (p.1,p.2):=h
structure Sz (n:Node):Prop where
 pred:n.pred.length ≤ 1000
 list:n.list.length ≤ 1000
 fingers:n.fingers.length ≤ 1000
 store:n.store.length ≤ 200
 pends:n.pends.length ≤ 1000
 jobs:n.jobs.length ≤ 1000
 results:n.results.length ≤ 1000
theorem zhD {n:Node} (h:Sz n):zhC n=some (n.me.id,n.me.addr,n.clock,n.joined,n.pred,n.list,n.fingers,n.store,n.pends,n.jobs,n.results,n.rid,n.jobID,n.nextBit):=zAW (by
 obtain ⟨h1,h2,h3,h4,h5,h6,h7⟩:=h
 rw [zn5,zaK zag (by simp;omega) (by omega),zaK zag (by simp;omega) (by omega),zaK zaU (by simp;omega) (by omega),zaK zae (by simp;omega) (by omega),zaK zbe (by simp;omega) (by omega),zaK eJob (by simp;omega) (by omega),zaK za7 (by simp;omega) (by omega)]
 rfl)
def now (n:Node):Int:=if 0 ≤ n.clock ∧ n.clock ≤ 1099511627776 then n.clock else 0
theorem zzz (n:Node):zuH n=some (now n) ∧ zwO n=some (now n):=by
 unfold now
 constructor
 ·refine zDl ?_
  simp only [zql,zaM,zas]
  (repeat' split) <;> first | rfl | (exfalso;omega)
 ·refine zFJ ?_
  simp only [zsJ,zaM,zb1,zas]
  (repeat' split) <;> first | rfl | (exfalso;omega) | (congr 1;omega)
theorem zAL {m:Msg} (hp:m.peers.length ≤ 1000000) (hq:m.pairs.length ≤ 1000000):zuA m=some m:=zDc (by
 rw [zp8,zaK zaf (by simpa using hp) (by omega),zaK zae (by simpa using hq) (by omega)]
 rfl)
def askN (n:Node) (to_:Peer) (m:Msg) (why job:Int):Node × List Out:=
 if 63 < n.pends.length then (n,[]) else
 (⟨n.me,n.clock,n.joined,n.pred,n.list,n.fingers,n.store,n.pends ++ [⟨Ops.std.iadd .u32 n.rid 1,m.kind,why,job,to_,Ops.std.iadd .i64 (now n) 8⟩],n.jobs,n.results,Ops.std.iadd .u32 n.rid 1,n.jobID,n.nextBit⟩,
  [⟨to_,⟨m.kind,Ops.std.iadd .u32 n.rid 1,m.code,m.has,m.id,m.key,m.val,m.peer,m.peers,m.pairs⟩⟩])
theorem zAV {n:Node} {to_:Peer} {m:Msg} {why job:Int} (h:Sz n) (hp:m.peers.length ≤ 1000000) (hq:m.pairs.length ≤ 1000000):zuG n to_ m why job=some (askN n to_ m why job):=zDk (by
 have h5:=h.pends
 rw [zqk,zhD h,Option.bind_some]
 dsimp only
 rw [zaG,zb1,zas,askN]
 by_cases hc:63 < n.pends.length
 ·rw [if_pos (by omega),if_pos hc]
 ·rw [if_neg (by omega),if_neg hc,zAL hp hq,Option.bind_some,(zzz _).1,Option.bind_some,zaK zbe (by simp;omega) (by omega)]
  rfl)
theorem zDE {n:Node} {to_:Peer} {m:Msg} {why job:Int} (h:Sz n):zwN n to_ m why job=some (askN n to_ m why job):=zFI (by
 have h5:=h.pends
 rw [zsI,zaG,zaM,zas,askN]
 by_cases hc:63 < n.pends.length
 ·rw [if_pos (by omega),if_pos hc]
 ·rw [if_neg (by omega),if_neg hc,zaK zbe (by simp;omega) (by omega),cond_true,(zzz _).2,Option.bind_some,zaK zbe (by simp;omega) (by omega)]
  rfl)
theorem zwf {n:Node} {to_:Peer} {m:Msg} {why job:Int} (h:Sz n):Sz (askN n to_ m why job).1 ∧ (askN n to_ m why job).2.length ≤ 1:=by
 unfold askN
 split
 ·exact ⟨h,by simp⟩
 ·exact ⟨⟨h.pred,h.list,h.fingers,h.store,by simp;omega,h.jobs,h.results⟩,by simp⟩
def ze4 (fresh:Bool) (c:List Pair):Msg:=⟨10,0,0,fresh,0,⟨#[]⟩,⟨#[]⟩,⟨0,0⟩,[],c⟩
def zdJ (to_:Peer) (fresh:Bool):List (List Pair) → Node → Node × List Out
 | [],n=>(n,[])
 | c :: cs,n=>((zdJ to_ fresh cs (askN n to_ (ze4 fresh c) 6 0).1).1,(askN n to_ (ze4 fresh c) 6 0).2 ++ (zdJ to_ fresh cs (askN n to_ (ze4 fresh c) 6 0).1).2)
theorem zuv (to_:Peer) (fresh:Bool):∀ (cs:List (List Pair)) {n:Node},Sz n → Sz (zdJ to_ fresh cs n).1 ∧ (zdJ to_ fresh cs n).2.length ≤ cs.length
 | [],n,h=>⟨h,by simp [zdJ]⟩
 | c :: cs,n,h=>by
  obtain ⟨h1,h2⟩:=zwf (to_:=to_) (m:=ze4 fresh c) (why:=6) (job:=0) h
  obtain ⟨h3,h4⟩:=zuv to_ fresh cs h1
  refine ⟨h3,?_⟩
  simp only [zdJ,List.length_append,List.length_cons]
  omega
def hand (n:Node) (to_:Peer) (l:List Pair) (fresh:Bool):Node × List Out:=zdJ to_ fresh (cut8 l) n
theorem zAs {l:List Pair} (hl:l.length ≤ 1000000):xcut zae 78 l=some (cut8 l):=zJY hl
theorem zrm {n:Node} {to_:Peer} {l:List Pair} {fresh:Bool} (h:Sz n) (hl:l.length ≤ 1000):zmv n to_ l fresh=some (hand n to_ l fresh):=zz7 (by
 have hc:(cut8 l).length ≤ 1000:=by rw [zpP];omega
 have hcs:∀ c,c ∈ cut8 l → c.length ≤ 8:=fun c hc=>zwm hc
 rw [znd,zhD h,Option.bind_some]
 dsimp only
 rw [zAs (by omega),Option.bind_some]
 have:=zbi (σ:=Node × List Out) (eL 78 zae) (l:=cut8 l) (by omega) (L:=fun i s=>zje to_ fresh (cut8 l) (xlen (eL 78 zae) (cut8 l)) i s.1 n.pred n.list n.fingers n.store n.pends n.jobs n.results s.2)
  (res:=fun k s rest=>((zdJ to_ fresh rest s.1).1,n.pred,n.list,n.fingers,n.store,n.pends,n.jobs,n.results,s.2 ++ (zdJ to_ fresh rest s.1).2)) (Inv:=fun k s=>Sz s.1 ∧ s.2.length ≤ k)
  (fun s hi h0=>znO (by rw [zhp,h0];simp [zdJ]))
  (fun k x rest s hi hn hx hd h1 h2 h3 ih=>znO (by
   have hx8:=hcs x (List.mem_of_getElem? hx)
   obtain ⟨h4,h5⟩:=zwf (to_:=to_) (m:=ze4 fresh x) (why:=6) (job:=0) hi.1
   have h6:=hi.2
   rw [zhp,h1,h2,cond_true,Option.bind_some]
   rw [show (⟨10,0,0,fresh,0,⟨#[]⟩,⟨#[]⟩,⟨0,0⟩,[],x⟩:Msg)=ze4 fresh x from rfl,eta2 (zAV hi.1 (by simp [ze4]) (by simp [ze4];omega)),Option.bind_some]
   dsimp only
   rw [zaK eOut (by omega) (by omega),cond_true,h3]
   rw [ih ((askN s.1 to_ (ze4 fresh x) 6 0).1,s.2 ++ (askN s.1 to_ (ze4 fresh x) 6 0).2) ⟨h4,by simp only [List.length_append];omega⟩]
   simp only [zdJ,List.append_assoc])) (n,[]) ⟨h,by simp⟩
 dsimp only at this
 have e:(⟨⟨n.me.id,n.me.addr⟩,n.clock,n.joined,n.pred,n.list,n.fingers,n.store,n.pends,n.jobs,n.results,n.rid,n.jobID,n.nextBit⟩:Node)=n:=rfl
 rw [e,this,Option.bind_some]
 simp [hand])
theorem zub {n:Node} {to_:Peer} {l:List Pair} {fresh:Bool} (h:Sz n) (hl:l.length ≤ 1000):zhU n to_ l fresh=some (hand n to_ l fresh):=zDK (by
 have hc:(cut8 l).length ≤ 1000:=by rw [zpP];omega
 rw [zqN,zAs (by omega),Option.bind_some]
 have:=zbi (σ:=Node × List Out) (eL 78 zae) (l:=cut8 l) (by omega) (L:=fun i s=>zlj to_ fresh (cut8 l) i s.1 s.2)
  (res:=fun k s rest=>((zdJ to_ fresh rest s.1).1,s.2 ++ (zdJ to_ fresh rest s.1).2)) (Inv:=fun k s=>Sz s.1 ∧ s.2.length ≤ k)
  (fun s hi h0=>zrh (by rw [zjb,h0];simp [zdJ]))
  (fun k x rest s hi hn hx hd h1 h2 h3 ih=>zrh (by
   obtain ⟨h4,h5⟩:=zwf (to_:=to_) (m:=ze4 fresh x) (why:=6) (job:=0) hi.1
   have h6:=hi.2
   rw [zjb,h1,h2,cond_true,Option.bind_some]
   rw [show (⟨10,0,0,fresh,0,⟨#[]⟩,⟨#[]⟩,⟨0,0⟩,[],x⟩:Msg)=ze4 fresh x from rfl,eta2 (zDE hi.1),Option.bind_some]
   dsimp only
   rw [zaK eOut (by omega) (by omega),cond_true,h3]
   rw [ih ((askN s.1 to_ (ze4 fresh x) 6 0).1,s.2 ++ (askN s.1 to_ (ze4 fresh x) 6 0).2) ⟨h4,by simp only [List.length_append];omega⟩]
   simp only [zdJ,List.append_assoc])) (n,[]) ⟨h,by simp⟩
 rw [this]
 simp [hand])
theorem zwr {n:Node} {to_:Peer} {l:List Pair} {fresh:Bool} (h:Sz n) (hl:l.length ≤ 1000):Sz (hand n to_ l fresh).1 ∧ (hand n to_ l fresh).2.length ≤ 126:=by
 obtain ⟨h1,h2⟩:=zuv to_ fresh (cut8 l) h
 exact ⟨h1,Nat.le_trans h2 (by rw [zpP];omega)⟩
def zcy (key val:ByteArray):List Peer → Node → Node × List Out
 | [],n=>(n,[])
 | p :: ps,n=>((zcy key val ps (hand n p [⟨key,val⟩] true).1).1,(hand n p [⟨key,val⟩] true).2 ++ (zcy key val ps (hand n p [⟨key,val⟩] true).1).2)
def zbq (n:Node) (l:List Pair):Node:=⟨n.me,n.clock,n.joined,n.pred,n.list,n.fingers,l,n.pends,n.jobs,n.results,n.rid,n.jobID,n.nextBit⟩
def zbW (n:Node) (key val:ByteArray):Node × List Out × Int:=
 if (put n.store key val).2=0 then ((zcy key val ((Pe.firms n.list).take 2) (zbq n (put n.store key val).1)).1,(zcy key val ((Pe.firms n.list).take 2) (zbq n (put n.store key val).1)).2,0)
 else (n,[],(put n.store key val).2)
theorem zuu {n:Node} {p:Peer} {q:Pair} {fresh:Bool} (h:Sz n):Sz (hand n p [q] fresh).1 ∧ (hand n p [q] fresh).2.length ≤ 1:=by
 obtain ⟨h1,h2⟩:=zuv p fresh (cut8 [q]) h
 exact ⟨h1,Nat.le_trans h2 (by rw [zpP];simp)⟩
theorem zzm (key val:ByteArray):∀ (ps:List Peer) {n:Node},Sz n → Sz (zcy key val ps n).1 ∧ (zcy key val ps n).2.length ≤ ps.length
 | [],n,h=>⟨h,by simp [zcy]⟩
 | p :: ps,n,h=>by
  obtain ⟨h1,h2⟩:=zuu (p:=p) (q:=⟨key,val⟩) (fresh:=true) h
  obtain ⟨h3,h4⟩:=zzm key val ps h1
  refine ⟨h3,?_⟩
  simp only [zcy,List.length_append,List.length_cons]
  omega
theorem zs7 {n:Node} {l:List Pair} (h:Sz n) (hl:l.length ≤ 200):Sz (zbq n l):=⟨h.pred,h.list,h.fingers,hl,h.pends,h.jobs,h.results⟩
theorem zzM {n:Node} (h:Sz n) (key val:ByteArray):Sz (zbq n (put n.store key val).1):=zs7 h (by have:=zdt n.store key val;have:=h.store;omega)
theorem zcE (l:List Peer) (n:Nat) (h:n ≤ l.length):xsub zaf l 0 (n:Int)=some (l.take n):=by
 rw [zmD,if_pos (by omega)];simp
theorem zx9 {n:Node} {key val:ByteArray} (h:Sz n) (hk:key.size < 1000000):zqV n key val=some (zbW n key val):=zz8 (by
 have hs:=h.store
 have hf:=Pe.firms_le n.list
 have hll:=h.list
 have hz:=zzM h key val
 rw [zne,zhD h,Option.bind_some]
 dsimp only
 rw [zh4 (by omega) hk,zbW]
 obtain ⟨⟨q,e⟩,hq⟩:∃ z,put n.store key val=z:=⟨_,rfl⟩
 rw [hq] at hz ⊢
 rw [Option.bind_some]
 dsimp only at hz ⊢
 by_cases he:e=0
 ·rw [if_pos he,ieqT he,cond_true,(Pe.some_eq hll).1,Option.bind_some]
  have loop:∀ (ys:List Peer),ys.length ≤ 2 → zem key val ys (xlen zaf ys) 0 (zbq n q) n.pred n.list n.fingers n.store n.pends n.jobs n.results (Pe.firms n.list) []=some ((zcy key val ys (zbq n q)).1,n.pred,n.list,n.fingers,n.store,n.pends,n.jobs,n.results,Pe.firms n.list,(zcy key val ys (zbq n q)).2):=fun ys hy=>by
   have:=zbi (σ:=Node × List Out) zaf (l:=ys) (by omega) (L:=fun i s=>zem key val ys (xlen zaf ys) i s.1 n.pred n.list n.fingers n.store n.pends n.jobs n.results (Pe.firms n.list) s.2)
    (res:=fun k s rest=>((zcy key val rest s.1).1,n.pred,n.list,n.fingers,n.store,n.pends,n.jobs,n.results,Pe.firms n.list,s.2 ++ (zcy key val rest s.1).2)) (Inv:=fun k s=>Sz s.1 ∧ s.2.length ≤ k)
    (fun s hi h0=>znP (by rw [zhq,h0];simp [zcy]))
    (fun k x rest s hi hn hx hd h1 h2 h3 ih=>znP (by
     obtain ⟨h4,h5⟩:=zuu (p:=x) (q:=⟨key,val⟩) (fresh:=true) hi.1
     have h6:=hi.2
     rw [zhq,h1,h2,cond_true,Option.bind_some,eta2 (zrm hi.1 (by simp)),Option.bind_some]
     dsimp only
     rw [zaK eOut (by omega) (by omega),cond_true,h3]
     rw [ih ((hand s.1 x [⟨key,val⟩] true).1,s.2 ++ (hand s.1 x [⟨key,val⟩] true).2) ⟨h4,by simp only [List.length_append];omega⟩]
     simp only [zcy,List.append_assoc])) (zbq n q,[]) ⟨hz,by simp⟩
   simpa using this
  have e0:(⟨⟨n.me.id,n.me.addr⟩,n.clock,n.joined,n.pred,n.list,n.fingers,q,n.pends,n.jobs,n.results,n.rid,n.jobID,n.nextBit⟩:Node)=zbq n q:=rfl
  rw [e0,zaG,zaM,zas]
  by_cases h2:2 < (Pe.firms n.list).length
  ·rw [if_pos (by omega),show (2:Int)=((2:Nat):Int) from rfl,zcE _ 2 (by omega),Option.bind_some,loop _ (by rw [List.length_take];omega),Option.bind_some]
  ·rw [if_neg (by omega),zcE _ _ (Nat.le_refl _),Option.bind_some,List.take_length,loop _ (by omega),Option.bind_some,List.take_of_length_le (by omega)]
 ·rw [if_neg he,ieqF he,cond_false])
theorem zBh {n:Node} {key val:ByteArray} (h:Sz n) (hk:key.size < 1000000):zuT n key val=some (zbW n key val):=zDL (by
 have hs:=h.store
 have hf:=Pe.firms_le n.list
 have hll:=h.list
 have hz:=zzM h key val
 rw [zqO,zqE (by omega) hk,zbW]
 obtain ⟨⟨q,e⟩,hq⟩:∃ z,put n.store key val=z:=⟨_,rfl⟩
 rw [hq] at hz ⊢
 rw [Option.bind_some]
 dsimp only at hz ⊢
 by_cases he:e=0
 ·rw [if_pos he,ieqT he,cond_true,(Pe.some_eq hll).2.1,Option.bind_some]
  have e0:(⟨n.me,n.clock,n.joined,n.pred,n.list,n.fingers,q,n.pends,n.jobs,n.results,n.rid,n.jobID,n.nextBit⟩:Node)=zbq n q:=rfl
  rw [e0]
  have loop:∀ (ps:List Peer) (k:Nat) (m:Node) (o:List Out),Sz m → o.length ≤ k → k ≤ 2 → (Pe.firms n.list).drop k=ps → zlk key val (k:Int) m o (Pe.firms n.list)=some ((zcy key val (ps.take (2 - k)) m).1,o ++ (zcy key val (ps.take (2 - k)) m).2,Pe.firms n.list):=by
   intro ps
   induction ps with
   | nil=>
    intro k m o hm ho hk2 hd
    have hle:(Pe.firms n.list).length ≤ k:=by simpa using hd
    refine zri ?_
    rw [zjc,zcF,zas,if_neg (by omega)]
    simp [zcy]
   | cons p ps ih=>
    intro k m o hm ho hk2 hd
    have hlt:k < (Pe.firms n.list).length:=by
     rcases Nat.lt_or_ge k (Pe.firms n.list).length with h1 | h1
     ·exact h1
     ·rw [List.drop_eq_nil_of_le h1] at hd;cases hd
    have hx:(Pe.firms n.list)[k]?=some p:=by
     have:((Pe.firms n.list).drop k)[0]?=some p:=by rw [hd];rfl
     simpa using this
    have hd2:(Pe.firms n.list).drop (k + 1)=ps:=by
     rw [← List.drop_drop,hd];rfl
    refine zri ?_
    rw [zjc,zcF,zas,if_pos hlt,zaM,zas]
    by_cases hk3:k < 2
    ·rw [if_pos (by omega)]
     obtain ⟨h4,h5⟩:=zuu (p:=p) (q:=⟨key,val⟩) (fresh:=true) hm
     have hs0:zop key val (k:Int) m o (Pe.firms n.list)=some (((k + 1:Nat):Int),(hand m p [⟨key,val⟩] true).1,o ++ (hand m p [⟨key,val⟩] true).2,Pe.firms n.list):=zx6 (by
      rw [zl4,zbd,hx,Option.bind_some,eta2 (zub hm (by simp)),Option.bind_some]
      dsimp only
      rw [zaK eOut (by omega) (by omega),cond_true]
      rw [show Ops.std.iadd .i64 (k:Int) 1=((k + 1:Nat):Int) from ze2 (by omega)])
     rw [hs0,Option.bind_some]
     dsimp only
     rw [ih (k + 1) _ _ h4 (by simp only [List.length_append];omega) (by omega) hd2,show 2 - k=(2 - (k + 1)) + 1 by omega]
     simp only [List.take_succ_cons,zcy,List.append_assoc]
    ·rw [if_neg (by omega),show 2 - k=0 by omega]
     simp [zcy]
  have:=loop (Pe.firms n.list) 0 (zbq n q) [] hz (by simp) (by omega) rfl
  rw [show ((0:Nat):Int)=0 from rfl] at this
  rw [this,Option.bind_some]
  simp
 ·rw [if_neg he,ieqF he,cond_false])
theorem zwv {n:Node} {key val:ByteArray} (h:Sz n):Sz (zbW n key val).1 ∧ (zbW n key val).2.1.length ≤ 2:=by
 unfold zbW
 split
 ·obtain ⟨h1,h2⟩:=zzm key val ((Pe.firms n.list).take 2) (zzM h key val)
  exact ⟨h1,Nat.le_trans h2 (by rw [List.length_take];omega)⟩
 ·exact ⟨h,by simp⟩
theorem zuo (a:Bool):Ops.std.beq a a=true:=by cases a <;> rfl
theorem zxW {l:List Finger} (hl:l.length ≤ 1000):zuP l l=some true:=zDD (by
 have:=zbi (σ:=Unit) zaU (l:=l) (by omega) (L:=fun i _=>zlf l l i) (res:=fun _ _ _=>.inr ()) (Inv:=fun _ _=>True)
  (fun _ _ h=>zrc (by rw [zi5,h];rfl))
  (fun n x rest s _ hn hx hd h1 h2 h3 ih=>zrc (by
   simp only [zi5,h1,h2,cond_true,Option.bind_some,ieqT,h3];exact ih () trivial)) () trivial
 rw [zqD,ieqT rfl,cond_true,this];rfl)
theorem zwP {l:List Pend} (hl:l.length ≤ 1000):zsK l l=some true:=zBg (by
 have:=zbi (σ:=Unit) zbe (l:=l) (by omega) (L:=fun i _=>zj8 l l i) (res:=fun _ _ _=>.inr ()) (Inv:=fun _ _=>True)
  (fun _ _ h=>zpl (by rw [zip,h];rfl))
  (fun n x rest s _ hn hx hd h1 h2 h3 ih=>zpl (by
   simp only [zip,h1,h2,cond_true,Option.bind_some,ieqT,h3];exact ih () trivial)) () trivial
 rw [zol,ieqT rfl,cond_true,this];rfl)
theorem zx2 {n:Node} (hj:n.jobs.length ≤ 1000) (hr:n.results.length ≤ 1000):zuR n n=some true:=zDH (by
 have e0:=zbi (σ:=Unit) eJob (l:=n.jobs) (by omega) (L:=fun i _=>zlh n n i) (res:=fun _ _ _=>.inr ()) (Inv:=fun _ _=>True)
  (fun _ _ h=>zrf (by rw [zi7,h];rfl))
  (fun k x rest s _ hn hx hd h1 h2 h3 ih=>zrf (by
   simp only [zi7,h1,h2,cond_true,Option.bind_some,ieqT,zqU,zuo,h3];exact ih () trivial)) () trivial
 have e1:=zbi (σ:=Unit) za7 (l:=n.results) (by omega) (L:=fun i _=>zli n n i) (res:=fun _ _ _=>.inr ()) (Inv:=fun _ _=>True)
  (fun _ _ h=>zrg (by rw [zi8,h];rfl))
  (fun k x rest s _ hn hx hd h1 h2 h3 ih=>zrg (by
   simp only [zi8,h1,h2,cond_true,Option.bind_some,ieqT,zqU,zuo,h3];exact ih () trivial)) () trivial
 rw [zqI,ieqT rfl,ieqT rfl,cond_true,cond_true]
 refine zx1 ?_
 rw [zl0,e0,Option.bind_some]
 dsimp only
 rw [e1];rfl)
theorem zre {n:Node} (h:Sz n):zqG n n=some true:=zDG (by
 have h1:zom n n=some true:=zxZ (by
  rw [zlY,zst (by have:=h.store;omega),Option.bind_some,zdZ,cond_true,zwP h.pends,Option.bind_some,cond_true,zx2 h.jobs h.results])
 have h2:zon n n=some true:=zx0 (by
  rw [zlZ,Pe.r27_Same_eq h.pred,Option.bind_some,zdZ,cond_true,Pe.r27_Same_eq h.list,Option.bind_some,zdZ,cond_true,zxW h.fingers,Option.bind_some,cond_true,h1])
 simp only [zqH,ieqT,zuo,cond_true,h2])
def zIT (l:List Out):Prop:=l.length ≤ 1000 ∧ ∀ o,o ∈ l → o.msg.peers.length ≤ 1000000 ∧ o.msg.pairs.length ≤ 1000000
theorem zxY {l:List Out} (h:zIT l):zuQ l l=some true:=zDF (by
 have:=zbi (σ:=Unit) eOut (l:=l) (by have:=h.1;omega) (L:=fun i _=>zlg l l i) (res:=fun _ _ _=>.inr ()) (Inv:=fun _ _=>True)
  (fun _ _ h=>zrd (by rw [zi6,h];rfl))
  (fun k x rest s _ hn hx hd h1 h2 h3 ih=>zrd (by
   obtain ⟨hp,hq⟩:=h.2 x (List.mem_of_getElem? hx)
   simp only [zi6,h1,h2,cond_true,Option.bind_some,ieqT,zt6 hp hq,zdZ,h3];exact ih () trivial)) () trivial
 rw [zqF,ieqT rfl,cond_true,this];rfl)
end Go.Ab.Tryz
namespace Go.Ab.Tryz
open Go Go.Ab Go.Proofs Go.Lib
open Pe (dist PeOk)
def btw (a x b:Int):Bool:=decide (x ≠ a) && (decide (a=b) || decide (dist a x < dist a b))
theorem znM (a x b:Int):zfM a x b=some (btw a x b):=zpn (by
 simp only [zir,Pe.ring_Dist_eq,Option.bind_some,zaI,zaM,zas,btw]
 by_cases h1:x=a <;> by_cases h2:a=b <;> simp [h1,h2]
 all_goals (by_cases h3:x=b <;> simp [h3]))
theorem zpc {a x b:Int} (ha:0 ≤ a ∧ a < 18446744073709551616) (hx:0 ≤ x ∧ x < 18446744073709551616) (hb:0 ≤ b ∧ b < 18446744073709551616):zk7 a x b=some (btw a x b):=zxQ (by
 simp only [zlQ,zk8 ha hx hb,zaI,zas,btw,upto,dist]
 by_cases h1:a=b
 ·subst h1;simp
 ·by_cases h2:x=b
  ·subst h2;simp [h1]
  ·simp [h1,h2]
   first | done | rfl | (congr 1;exact decide_eq_decide.2 Iff.rfl) | (congr 2))
def hLe (me:Peer) (x y:Peer):Bool:=!znx me.id (y.id,y.addr) (x.id,x.addr)
theorem zkv {me x y:Peer}:hLe me x y=true ↔ dist me.id y.id < dist me.id x.id ∨ (dist me.id x.id=dist me.id y.id ∧ x.addr ≤ y.addr):=by
 simp only [hLe,znx,dist,Bool.not_eq_true',Bool.or_eq_false_iff,Bool.and_eq_false_iff,decide_eq_false_iff_not]
 omega
def znw (me:Peer) (l:List Peer):List Peer:=l.mergeSort (hLe me)
theorem zzE:∀ {l:List Peer},(∀ p,p ∈ l → PeOk p) → zkq (l.map zaf)=some (l.map fun p=>(p.id,p.addr))
 | [],_=>rfl
 | p :: l,h=>by
  have hp:=h p (by simp)
  have ih:=zzE (l:=l) fun q hq=>h q (by simp [hq])
  have e:zu9 (zaf p)=some (p.id,p.addr):=by
   show (if 0 ≤ p.id ∧ p.id < 18446744073709551616 then some (p.id,p.addr) else none)=_
   exact if_pos hp
  simp only [List.map_cons,zkq,e,ih]
theorem zJ0 {me:Peer} {l:List Peer} (hl:l.length ≤ 1000000) (ho:∀ p,p ∈ l → PeOk p):xsrt zaf me.id l=some (znw me l):=by
 refine zar ?_
 show (match zkq (l.map zaf) with
  | some l=>if l.length ≤ 1000000 then some ((hopSort me.id l).map zdk) else none
  | none=>none)=_
 rw [zzE ho]
 simp only [List.length_map,hl,if_true]
 congr 1
 have hm:(l.mergeSort (hLe me)).map (fun p=>(p.id,p.addr))=(l.map fun p=>(p.id,p.addr)).mergeSort fun x y=>!znx me.id y x:=List.map_mergeSort (fun a _ b _=>rfl)
 rw [hopSort,← hm,List.map_map]
 rfl
def bef (me y p:Peer):Bool:=decide (dist me.id p.id < dist me.id y.id) || (decide (dist me.id y.id=dist me.id p.id) && decide (y.addr < p.addr))
def posH (me p:Peer):List Peer → Nat
 | []=>0
 | y :: r=>if bef me y p=true then posH me p r + 1 else 0
def insH (me p:Peer):List Peer → List Peer
 | []=>[p]
 | y :: r=>if bef me y p=true then y :: insH me p r else p :: y :: r
theorem zCD (me p:Peer):∀ l,posH me p l ≤ l.length
 | []=>Nat.le_refl _
 | y :: r=>by
  have:=zCD me p r
  simp only [posH];split <;> simp <;> omega
theorem zvB (me p:Peer):∀ l,l.take (posH me p l) ++ [p] ++ l.drop (posH me p l)=insH me p l
 | []=>rfl
 | y :: r=>by
  have ih:=zvB me p r
  simp only [posH,insH]
  split
  ·simp only [List.take_succ_cons,List.drop_succ_cons,List.cons_append,ih]
  ·rfl
theorem zlv (me p:Peer):∀ l,(insH me p l).Perm (p :: l)
 | []=>List.Perm.refl _
 | y :: r=>by
  simp only [insH]
  split
  ·exact ((zlv me p r).cons y).trans (List.Perm.swap p y r)
  ·exact List.Perm.refl _
theorem zt1 (me p:Peer):∀ {l},l.Pairwise (fun a b=>hLe me a b=true) → (insH me p l).Pairwise (fun a b=>hLe me a b=true)
 | [],_=>by simp [insH]
 | y :: r,h=>by
  rw [List.pairwise_cons] at h
  simp only [insH]
  split
  ·rename_i hb
   refine List.pairwise_cons.2 ⟨fun z hz=>?_,zt1 me p h.2⟩
   rcases List.mem_cons.1 ((zlv me p r).mem_iff.1 hz) with rfl | hz
   ·rw [zkv]
    simp only [bef,Bool.or_eq_true,Bool.and_eq_true,decide_eq_true_eq] at hb
    omega
   ·exact h.1 z hz
  ·rename_i hb
   have hpy:hLe me p y=true:=by
    rw [zkv]
    simp only [bef,Bool.or_eq_true,Bool.and_eq_true,decide_eq_true_eq] at hb
    omega
   refine List.pairwise_cons.2 ⟨fun z hz=>?_,List.pairwise_cons.2 h⟩
   rcases List.mem_cons.1 hz with rfl | hz
   ·exact hpy
   ·have:=h.1 z hz
    rw [zkv] at *
    omega
def ziG (me:Peer) (out cs:List Peer):List Peer:=cs.foldl (fun o p=>insH me p o) out
theorem zr0 (me:Peer):∀ (cs:List Peer) {out:List Peer},out.Pairwise (fun a b=>hLe me a b=true) → (ziG me out cs).Pairwise (fun a b=>hLe me a b=true) ∧ (ziG me out cs).Perm (out ++ cs)
 | [],out,h=>⟨h,by simp [ziG]⟩
 | p :: cs,out,h=>by
  obtain ⟨h1,h2⟩:=zr0 me cs (zt1 me p h)
  refine ⟨h1,h2.trans ?_⟩
  exact ((zlv me p out).append_right cs).trans ((List.perm_middle (l₁:=out) (l₂:=cs) (a:=p)).symm)
theorem zDW {me:Peer} (hm:PeOk me) {l:List Peer} (ho:∀ p,p ∈ l → PeOk p):ziG me [] l=znw me l:=by
 obtain ⟨h1,h2⟩:=zr0 me l (out:=[]) List.Pairwise.nil
 rw [List.nil_append] at h2
 have h3:(znw me l).Pairwise (fun a b=>hLe me a b=true):=List.pairwise_mergeSort (fun a b c hab hbc=>by rw [zkv] at *;omega) (fun a b=>by
  rw [Bool.or_eq_true,zkv,zkv];omega) l
 have h4:(znw me l).Perm l:=List.mergeSort_perm l (hLe me)
 refine List.Perm.eq_of_pairwise (le:=fun a b=>hLe me a b=true) (fun a b ha hb hab hba=>?_) h1 h3 (h2.trans h4.symm)
 have oa:=ho a (h2.mem_iff.1 ha)
 have ob:=ho b (h4.mem_iff.1 hb)
 rw [zkv] at hab hba
 have e1:dist me.id a.id=dist me.id b.id:=by omega
 have e2:a.addr=b.addr:=by omega
 have e3:a.id=b.id:=by
  simp only [dist,PeOk] at *
  omega
 obtain ⟨ai,aa⟩:=a
 obtain ⟨bi,ba⟩:=b
 simp only at e2 e3
 rw [e2,e3]
def has (l:List Peer) (a:Int):Bool:=l.any fun q=>decide (q.addr=a)
def filt (me:Peer) (key:Int):List Peer → List Peer → List Peer
 | _,[]=>[]
 | pre,p :: r=>if has pre p.addr=false ∧ p.addr ≠ me.addr ∧ btw me.id p.id key=true then p :: filt me key (pre ++ [p]) r else filt me key (pre ++ [p]) r
def zpN (me:Peer) (key:Int):List Peer → List Peer → List Peer
 | _,[]=>[]
 | met,p :: r=>if has met p.addr=true ∨ p.addr=me.addr then zpN me key met r else if btw me.id p.id key=true then p :: zpN me key (met ++ [p]) r else zpN me key (met ++ [p]) r
def metR (me:Peer):List Peer → List Peer → List Peer
 | met,[]=>met
 | met,p :: r=>if has met p.addr=true ∨ p.addr=me.addr then metR me met r else metR me (met ++ [p]) r
theorem ztK (l:List Peer) (p:Peer) (a:Int):has (l ++ [p]) a=(has l a || decide (p.addr=a)):=by simp [has]
theorem znp (me:Peer) (key:Int):∀ (l met pre:List Peer),(∀ a,a ≠ me.addr → has met a=has pre a) → zpN me key met l=filt me key pre l
 | [],_,_,_=>rfl
 | p :: r,met,pre,h=>by
  simp only [zpN,filt]
  by_cases hm:p.addr=me.addr
  ·rw [if_pos (.inr hm),if_neg (fun h=>h.2.1 hm)]
   refine znp me key r met _ fun a ha=>?_
   rw [ztK,h a ha]
   have:decide (p.addr=a)=false:=by rw [decide_eq_false_iff_not];omega
   rw [this,Bool.or_false]
  ·have hp:=h p.addr hm
   cases hh:has pre p.addr with
   | true=>
    rw [if_pos (.inl (hp.trans hh)),if_neg (fun h=>by cases h.1)]
    refine znp me key r met _ fun a ha=>?_
    rw [ztK,h a ha]
    by_cases hpa:p.addr=a
    ·rw [← hpa,hh];rfl
    ·rw [decide_eq_false hpa,Bool.or_false]
   | false=>
    have ih:=znp me key r (met ++ [p]) (pre ++ [p]) fun a ha=>by rw [ztK,ztK,h a ha]
    rw [if_neg (fun h2=>by rcases h2 with h2 | h2;rw [hp,hh] at h2;cases h2;exact hm h2)]
    by_cases hb:btw me.id p.id key=true
    ·rw [if_pos hb,if_pos ⟨rfl,hm,hb⟩,ih]
    ·rw [if_neg hb,if_neg (fun h=>hb h.2.2),ih]
theorem zpU (me:Peer) (key:Int):∀ (l pre:List Peer) (p:Peer),p ∈ filt me key pre l → p ∈ l
 | [],_,_,h=>by cases h
 | q :: r,pre,p,h=>by
  simp only [filt] at h
  split at h
  ·rcases List.mem_cons.1 h with rfl | h
   ·simp
   ·exact List.mem_cons_of_mem _ (zpU me key r _ p h)
  ·exact List.mem_cons_of_mem _ (zpU me key r _ p h)
theorem zza (me:Peer) (key:Int):∀ (l pre:List Peer),(filt me key pre l).length ≤ l.length
 | [],_=>Nat.le_refl _
 | q :: r,pre=>by
  have:=zza me key r (pre ++ [q])
  simp only [filt];split <;> simp <;> omega
theorem zE1 {all:List Peer} {n:Nat} {x:Peer} (hx:all[n]?=some x):fstI (fun q=>decide (q.addr=x.addr)) all=(n:Int) ↔ has (all.take n) x.addr=false:=by
 have hxm:=List.mem_of_getElem? hx
 obtain ⟨k,hk⟩:=zE2 (p:=fun q:Peer=>decide (q.addr=x.addr)) (l:=all) ⟨x,hxm,by simp⟩
 obtain ⟨y,hy,hpy,hkl,hbe⟩:=zhz hk
 have e:fstI (fun q:Peer=>decide (q.addr=x.addr)) all=(k:Int):=by unfold fstI;rw [hk]
 rw [e]
 constructor
 ·intro hkn
  have hkn:k=n:=by omega
  subst hkn
  rw [has,List.any_eq_false]
  intro q hq
  obtain ⟨i,hi⟩:=List.mem_iff_getElem?.1 hq
  rw [List.getElem?_take] at hi
  split at hi
  ·rename_i hlt
   have:=hbe i q hlt hi
   simpa using this
  ·cases hi
 ·intro hh
  rw [has,List.any_eq_false] at hh
  rcases Nat.lt_trichotomy k n with h1 | h1 | h1
  ·exfalso
   have hyt:y ∈ all.take n:=List.mem_iff_getElem?.2 ⟨k,by rw [List.getElem?_take,if_pos h1];exact hy⟩
   exact hh y hyt hpy
  ·omega
  ·exfalso
   have:=hbe n x h1 hx
   simp at this
theorem zwe {l:List Peer} {id addr:Int} (hl:l.length ≤ 10000):zko l id addr=some (fstI (fun q=>decide (q.addr=addr)) l):=zuk (by
 have hf:∀ x:Peer,zmQ x id addr=some (decide (x.addr=addr)):=fun x=>zwp rfl
 have:=zdj zaf (l:=l) (by omega) (p:=fun q=>decide (q.addr=addr)) (L:=fun i=>ze1 l id addr i) (fun h=>zhc (by simp [zcP,h]))
  (fun n x _ h1 h2 hp=>zhc (by simp [zcP,h1,h2,hf,hp]))
  (fun n x r _ h1 h2 hp h=>zhc (by simp [zcP,h1,h2,hf,hp,h]))
 rw [zjo,this]
 unfold fstI
 cases fst (fun q:Peer=>decide (q.addr=addr)) l <;> rfl)
def allP (l:List Entry) (f:List Finger):List Peer:=Pe.firms l ++ f.map Finger.peer
def hops (me:Peer) (l:List Entry) (f:List Finger) (key most:Int):List Peer:=(znw me (filt me key [] (allP l f))).take most.toNat
theorem zE6 (me:Peer) (l:List Peer):(znw me l).length=l.length:=List.length_mergeSort ..
theorem zxF {me:Peer} {l:List Entry} {f:List Finger} {key most:Int} (hl:l.length ≤ 1000) (hf:f.length ≤ 1000) (ho:∀ p,p ∈ allP l f → PeOk p) (hmost:most < 1000):zpV me l f key most=some (hops me l f key most):=zzb (by
 have hfl:=Pe.firms_le l
 rw [zmR,(Pe.some_eq hl).1,Option.bind_some]
 have e0:=zbi (σ:=List Peer) zaU (l:=f) (by omega) (L:=fun i s=>ziS me f key most i s) (res:=fun _ s rest=>s ++ rest.map Finger.peer) (Inv:=fun n s=>s.length ≤ (Pe.firms l).length + n)
  (fun s _ h=>znu (by rw [zhk,h];simp))
  (fun n x rest s hi hn hx hd h1 h2 h3 ih=>znu (by
   rw [zhk,h1,h2,cond_true,Option.bind_some,zaK zaf (by simp;omega) (by omega),cond_true,h3,ih _ (by simp;omega)]
   simp)) (Pe.firms l) (by omega)
 rw [e0,Option.bind_some]
 show ((zcI me key most (allP l f) (xlen zaf (allP l f)) 0 (allP l f) []).bind _)=_
 have hal:(allP l f).length ≤ 2000:=by simp only [allP,List.length_append,List.length_map];omega
 have e1:=zbi (σ:=List Peer) zaf (l:=allP l f) (by omega) (L:=fun i s=>zcI me key most (allP l f) (xlen zaf (allP l f)) i (allP l f) s)
  (res:=fun n s rest=>(allP l f,s ++ filt me key ((allP l f).take n) rest)) (Inv:=fun n s=>s.length ≤ n)
  (fun s _ h=>znv (by rw [zhl,h];simp [filt]))
  (fun n x rest s hi hn hx hd h1 h2 h3 ih=>znv (by
   have ht:(allP l f).take (n + 1)=(allP l f).take n ++ [x]:=by rw [List.take_add_one,hx];rfl
   rw [zhl,h1,h2,cond_true,Option.bind_some,zwe (by omega),Option.bind_some,h3,zaI,zas]
   have hfi:=zE1 hx
   simp only [filt]
   by_cases c1:has ((allP l f).take n) x.addr=false
   ·rw [if_pos (hfi.2 c1),zaI,zas]
    by_cases c2:x.addr=me.addr
    ·rw [if_pos c2,if_neg (fun h=>h.2.1 c2),ih s (by omega),ht]
    ·rw [if_neg c2,znM,Option.bind_some]
     cases c3:btw me.id x.id key with
     | true=>
      rw [cond_true,zaK zaf (by simp;omega) (by omega),cond_true,if_pos ⟨c1,c2,rfl⟩,ih _ (by simp;omega),ht]
      simp
     | false=>
      rw [cond_false,if_neg (fun h=>by cases h.2.2),ih s (by omega),ht]
   ·rw [if_neg (fun h=>c1 (hfi.1 h)),if_neg (fun h=>c1 h.1),ih s (by omega),ht])) [] (by simp)
 rw [e1,Option.bind_some]
 dsimp only
 rw [List.nil_append,List.take_zero]
 have hfo:∀ p,p ∈ filt me key [] (allP l f) → PeOk p:=fun p hp=>ho p (zpU me key _ _ p hp)
 have hfl2:=zza me key (allP l f) []
 rw [zJ0 (by omega) hfo,Option.bind_some,hops]
 have hsl:=zE6 me (filt me key [] (allP l f))
 obtain ⟨q,hq⟩:∃ q,znw me (filt me key [] (allP l f))=q:=⟨_,rfl⟩
 rw [hq] at hsl ⊢
 rw [zaM,zas,zaG,zaM,zas,zaM,zas]
 by_cases c1:most < 0
 ·rw [if_pos c1,show most.toNat=0 by omega,List.take_zero]
  by_cases c2:(0:Int) < (q.length:Int)
  ·rw [if_pos c2,show xsub zaf q 0 0=some (q.take 0) from zcE q 0 (Nat.zero_le _)];rfl
  ·rw [if_neg c2,zcE q _ (Nat.le_refl _),List.take_length]
   have:q=[]:=List.eq_nil_of_length_eq_zero (by omega)
   rw [this];rfl
 ·rw [if_neg c1]
  by_cases c2:most < (q.length:Int)
  ·rw [if_pos c2]
   obtain ⟨m,rfl⟩:∃ m:Nat,most=(m:Int):=⟨most.toNat,by omega⟩
   rw [zcE q m (by omega)];rfl
  ·rw [if_neg c2,zcE q _ (Nat.le_refl _),List.take_length,Option.bind_some,List.take_of_length_le (by omega)])
theorem zzU {l:List Peer} {a:Int} (hl:l.length ≤ 10000):zsE l a=some (has l a):=zBc (by
 have:=zbi (σ:=Unit) zaf (l:=l) (by omega) (L:=fun i _=>zj4 l a i) (res:=fun _ _ rest=>bif has rest a then .inl () else .inr ()) (Inv:=fun _ _=>True)
  (fun _ _ h=>zph (by rw [zim,h];rfl))
  (fun n x rest s _ hn hx hd h1 h2 h3 ih=>zph (by
   rw [zim,h1,h2,cond_true,Option.bind_some,zaI,zas,h3]
   by_cases c:x.addr=a
   ·rw [if_pos c];simp [has,c]
   ·rw [if_neg c,ih () trivial];simp [has,c])) () trivial
 rw [zoi,this,Option.bind_some]
 cases has l a <;> rfl)
theorem zHd {me p:Peer} {key most i:Int} {out r2 r3:List Peer} (hm:PeOk me) (ho:∀ q,q ∈ out → PeOk q) (hl:out.length ≤ 10000):
  zg5 me key most out i 0 (dist me.id p.id) r2 r3 p.id p.addr=some (out,i,(posH me p out:Int),r2,r3,p.id,p.addr):=by
 have:=zbi (σ:=Unit) zaf (l:=out) (by omega) (L:=fun k _=>zg5 me key most out i k (dist me.id p.id) r2 r3 p.id p.addr) (res:=fun n _ rest=>(out,i,((n + posH me p rest:Nat):Int),r2,r3,p.id,p.addr)) (Inv:=fun _ _=>True)
  (fun _ _ h=>zra (by rw [zi3,h];rfl))
  (fun n x rest s _ hn hx hd h1 h2 h3 ih=>zra (by
   have hxo:=ho x (List.mem_of_getElem? hx)
   rw [zi3,h1,h2,cond_true,Option.bind_some,Pe.r03_Dist_eq hm.1 hm.2 hxo.1 hxo.2,Option.bind_some,zaM,zas,zaI,zas,zaM,zas,h3]
   have ihh:=ih () trivial
   (try dsimp only at ihh)
   have e:((n + 1 + posH me p rest:Nat):Int)=((n + (posH me p rest + 1):Nat):Int):=by omega
   rw [e] at ihh
   simp only [posH,bef,Bool.or_eq_true,Bool.and_eq_true,decide_eq_true_eq]
   by_cases c1:dist me.id p.id < dist me.id x.id
   ·rw [if_pos c1,if_pos (.inl c1)];exact ihh
   ·rw [if_neg c1]
    by_cases c2:dist me.id x.id=dist me.id p.id
    ·rw [if_pos c2]
     by_cases c3:x.addr < p.addr
     ·rw [if_pos c3,if_pos (.inr ⟨c2,c3⟩)];exact ihh
     ·rw [if_neg c3,if_neg (by omega)];rfl
    ·rw [if_neg c2,if_neg (by omega)];rfl)) () trivial
 simpa using this
theorem zFF {me p:Peer} {key most i:Int} {out r2 r3:List Peer} (hm:PeOk me) (hp:PeOk p) (hk:0 ≤ key ∧ key < 18446744073709551616) (ho:∀ q,q ∈ out → PeOk q) (hl:out.length ≤ 5000) (h3:r3.length ≤ 5000):
  zoh me key most out i r2 r3 p.id p.addr=some (if btw me.id p.id key=true then .inl (insH me p out,i,r2,r3 ++ [p],p.id,p.addr) else .inr (out,i,r2,r3 ++ [p],p.id,p.addr)):=zxV (by
 have hpl:=zCD me p out
 rw [zlX,zaK zaf (by simp;omega) (by omega),cond_true,zpc hm hp hk,Option.bind_some]
 have ep:(⟨p.id,p.addr⟩:Peer)=p:=rfl
 rw [ep]
 cases hb:btw me.id p.id key with
 | false=>rfl
 | true=>
  rw [cond_true,Pe.r03_Dist_eq hm.1 hm.2 hp.1 hp.2,Option.bind_some,zHd hm ho (by omega),Option.bind_some]
  dsimp only
  have hxd:xsub zaf out ((posH me p out:Nat):Int) (xlen zaf out)=some (out.drop (posH me p out)):=by
   rw [zmD,zaG,if_pos (by omega)];simp
  rw [zcE out _ hpl,Option.bind_some,zaK zaf (by simp;omega) (by omega),cond_true,zaK zaf (by simp;omega) (by omega),cond_true,hxd,Option.bind_some,zaK zaf (by simp;omega) (by omega),cond_true,ep,zvB]
  rfl)
theorem zGK (me p:Peer) (l:List Peer):(insH me p l).length=l.length + 1:=by rw [(zlv me p l).length_eq];rfl
theorem zBb {me:Peer} {l:List Entry} {f:List Finger} {key most:Int} (hl:l.length ≤ 1000) (hf:f.length ≤ 1000) (hm:PeOk me) (hk:0 ≤ key ∧ key < 18446744073709551616) (ho:∀ p,p ∈ allP l f → PeOk p):zuO me l f key most=some (hops me l f key most):=zDC (by
 have hfl:=Pe.firms_le l
 rw [zqC,(Pe.some_eq hl).2.1,Option.bind_some]
 have e0:=zbi (σ:=List Peer) zaU (l:=f) (by omega) (L:=fun i s=>zle me f key most i s) (res:=fun _ s rest=>s ++ rest.map Finger.peer) (Inv:=fun n s=>s.length ≤ (Pe.firms l).length + n)
  (fun s _ h=>zq9 (by rw [zi2,h];simp))
  (fun n x rest s hi hn hx hd h1 h2 h3 ih=>zq9 (by
   rw [zi2,h1,h2,cond_true,Option.bind_some,zaK zaf (by simp;omega) (by omega),cond_true,h3,ih _ (by simp;omega)]
   simp)) (Pe.firms l) (by omega)
 rw [e0,Option.bind_some]
 show ((zdP me key most [] 0 (allP l f) []).bind _)=_
 have hal:(allP l f).length ≤ 2000:=by simp only [allP,List.length_append,List.length_map];omega
 have e1:=zbi (σ:=List Peer × List Peer) zaf (l:=allP l f) (by omega) (L:=fun i s=>zdP me key most s.1 i (allP l f) s.2)
  (res:=fun n s rest=>(ziG me s.1 (zpN me key s.2 rest),allP l f,metR me s.2 rest)) (Inv:=fun n s=>s.1.length ≤ n ∧ s.2.length ≤ n ∧ ∀ q,q ∈ s.1 → PeOk q)
  (fun s _ h=>zrb (by rw [zi4,h];rfl))
  (fun n x rest s hi hn hx hd h1 h2 h3 ih=>zrb (by
   obtain ⟨hi1,hi2,hi3⟩:=hi
   have hxo:=ho x (List.mem_of_getElem? hx)
   rw [zi4,h1,h2,cond_true,Option.bind_some,zzU (by omega),Option.bind_some,h3]
   simp only [zpN,metR]
   cases c1:has s.2 x.addr with
   | true=>rw [cond_true,if_pos (.inl rfl),if_pos (.inl rfl)];exact ih s ⟨by omega,by omega,hi3⟩
   | false=>
    rw [cond_false,zaI,zas]
    by_cases c2:x.addr=me.addr
    ·rw [if_pos c2,if_pos (.inr c2),if_pos (.inr c2)];exact ih s ⟨by omega,by omega,hi3⟩
    ·have hno:¬ (false=true ∨ x.addr=me.addr):=fun h=>h.elim (fun h=>by cases h) c2
     rw [if_neg c2,if_neg hno,if_neg hno,zFF hm hxo hk hi3 (by omega) (by omega),Option.bind_some]
     by_cases c3:btw me.id x.id key=true
     ·rw [if_pos c3,if_pos c3]
      dsimp only
      rw [h3]
      exact ih (insH me x s.1,s.2 ++ [x]) ⟨by rw [zGK];omega,by simp;omega,fun q hq=>by
       rcases List.mem_cons.1 ((zlv me x s.1).mem_iff.1 hq) with rfl | hq
       ·exact hxo
       ·exact hi3 q hq⟩
     ·rw [if_neg c3,if_neg c3]
      dsimp only
      rw [h3]
      exact ih (s.1,s.2 ++ [x]) ⟨by show s.1.length ≤ _;omega,by simp;omega,hi3⟩)) ([],[]) ⟨by simp,by simp,fun q hq=>by cases hq⟩
 dsimp only at e1
 rw [e1,Option.bind_some]
 dsimp only
 have hfo:∀ p,p ∈ filt me key [] (allP l f) → PeOk p:=fun p hp=>ho p (zpU me key _ _ p hp)
 rw [znp me key (allP l f) [] [] (fun _ _=>rfl),zDW hm hfo,hops]
 obtain ⟨q,hq⟩:∃ q,znw me (filt me key [] (allP l f))=q:=⟨_,rfl⟩
 rw [hq,zaM,zas,zaG,zaM,zas]
 by_cases c1:most < 0
 ·rw [if_pos c1,show most.toNat=0 by omega,List.take_zero]
 ·rw [if_neg c1]
  by_cases c2:most < (q.length:Int)
  ·rw [if_pos c2]
   obtain ⟨m,rfl⟩:∃ m:Nat,most=(m:Int):=⟨most.toNat,by omega⟩
   rw [zcE q m (by omega)];rfl
  ·rw [if_neg c2,List.take_of_length_le (by omega)])
end Go.Ab.Tryz
namespace Go.Ab.Tryz
open Go Go.Ab Go.Proofs Go.Lib
open Pe (dist PeOk EnOk)
structure NOk (n:Node):Prop where
 me:PeOk n.me
 pred:EnOk n.pred
 list:EnOk n.list
 fingers:∀ x,x ∈ n.fingers → PeOk x.peer
theorem zzc {l:List Entry} (h:EnOk l):∀ p,p ∈ Pe.firms l → PeOk p:=fun p hp=>by
 unfold Pe.firms at hp
 obtain ⟨x,hx,hpx⟩:=List.mem_flatMap.1 hp
 cases hb:Ops.std.ile x.misses 0 <;> rw [hb] at hpx
 ·cases hpx
 ·simp only [cond_true,List.mem_singleton] at hpx
  subst hpx;exact h x hx
theorem zBB {n:Node} (h:NOk n):∀ p,p ∈ allP n.list n.fingers → PeOk p:=fun p hp=>by
 rcases List.mem_append.1 hp with hp | hp
 ·exact zzc h.list p hp
 ·obtain ⟨x,hx,rfl⟩:=List.mem_map.1 hp;exact h.fingers x hx
def zej (n:Node) (key:Int):Bool:=match n.pred with
 | []=>false
 | x :: _=>decide (x.misses ≤ 0) && upto x.peer.id key n.me.id
theorem zv4 (n:Node) (key:Int):znc n key=some (zej n key):=zwQ (by
 rw [zkQ,zaG,zaM,zas,zej]
 cases hp:n.pred with
 | nil=>rfl
 | cons x r=>
  rw [if_pos (by simp <;> omega),show (0:Int)=((0:Nat):Int) from rfl,zbd]
  show (bif Ops.std.ile x.misses 0 then zhW x.peer.id key n.me.id else some false)=_
  rw [zb1,zas,zm9]
  by_cases c:x.misses ≤ 0 <;> simp [c])
def zml (n:Node) (key:Int):Peer × List Peer × Bool:=if (hops n.me n.list n.fingers key 4).length=0 then (n.me,[],true) else (⟨0,0⟩,hops n.me n.list n.fingers key 4,false)
def zbH (n:Node) (key:Int):Peer × List Peer × Bool:=match Pe.firms n.list with
 | []=>(n.me,[],true)
 | f :: _=>if key=n.me.id then (n.me,[],true) else if upto n.me.id key f.id=true then (f,[],true) else if zej n key=true then (n.me,[],true) else zml n key
theorem zrk {n:Node} {key:Int} (h:Sz n) (ok:NOk n):zms n key=some (zbH n key):=zz3 (by
 have hl:=h.list
 rw [znb,(Pe.some_eq hl).1,Option.bind_some,zaG,zaI,zas,zaI,zas,zbH]
 cases hf:Pe.firms n.list with
 | nil=>rfl
 | cons f r=>
  rw [if_neg (by simp <;> omega)]
  dsimp only
  by_cases c1:key=n.me.id
  ·rw [if_pos c1,if_pos c1]
  ·rw [if_neg c1,if_neg c1]
   have e:zl6 n key (f :: r)=some (if upto n.me.id key f.id=true then .inl (f.id,f.addr,f :: r) else if zej n key=true then .inl (n.me.id,n.me.addr,f :: r) else if (hops n.me n.list n.fingers key 4).length=0 then .inl (n.me.id,n.me.addr,f :: r) else .inr (hops n.me n.list n.fingers key 4,f :: r)):=zv3 (by
    rw [zkb,show (0:Int)=((0:Nat):Int) from rfl,zbd]
    show (zhW n.me.id key f.id).bind _=_
    rw [zm9,Option.bind_some,zv4,Option.bind_some,zxF hl h.fingers (zBB ok) (by omega),Option.bind_some,zaG,zaM]
    cases upto n.me.id key f.id
    ·cases zej n key
     ·by_cases c:(hops n.me n.list n.fingers key 4).length=0
      ·rw [decide_eq_false (by omega)];simp [c]
      ·rw [decide_eq_true (by omega)];simp [c]
     ·rfl
    ·rfl)
   rw [e,Option.bind_some,zml]
   by_cases c2:upto n.me.id key f.id=true
   ·rw [if_pos c2,if_pos c2]
   ·rw [if_neg c2,if_neg c2]
    by_cases c3:zej n key=true
    ·rw [if_pos c3,if_pos c3]
    ·rw [if_neg c3,if_neg c3]
     by_cases c4:(hops n.me n.list n.fingers key 4).length=0
     ·rw [if_pos c4,if_pos c4]
     ·rw [if_neg c4,if_neg c4])
theorem zua {n:Node} {key:Int} (h:Sz n) (ok:NOk n) (hk:0 ≤ key ∧ key < 18446744073709551616):zqK n key=some (zbH n key):=zDJ (by
 have hl:=h.list
 have hfo:=zzc ok.list
 rw [zqL,(Pe.some_eq hl).2.1,Option.bind_some,zaG,zaI,zas,zaI,zas,zbH]
 cases hf:Pe.firms n.list with
 | nil=>rfl
 | cons f r=>
  rw [hf] at hfo
  have hfp:=hfo f (by simp)
  rw [if_neg (by simp <;> omega)]
  dsimp only
  by_cases c1:key=n.me.id
  ·rw [if_pos c1,if_pos c1]
  ·rw [if_neg c1,if_neg c1]
   have e0:zg6 n key (f :: r)=some (if (hops n.me n.list n.fingers key 4).length=0 then .inl (f :: r) else .inr (hops n.me n.list n.fingers key 4,f :: r)):=zx3 (by
    rw [zl2,zBb hl h.fingers ok.me hk (zBB ok),Option.bind_some,zaG,zaI,zas]
    by_cases c:(hops n.me n.list n.fingers key 4).length=0
    ·rw [if_pos (by omega),if_pos c]
    ·rw [if_neg (by omega),if_neg c])
   obtain ⟨w,hw,hwz⟩:∃ w,zg6 n key (f :: r)=some w ∧ (match w with | .inl _=>((n.me,[],true):Peer × List Peer × Bool) | .inr (t,_)=>(⟨0,0⟩,t,false))=zml n key:=by
    by_cases c:(hops n.me n.list n.fingers key 4).length=0
    ·exact ⟨.inl (f :: r),by rw [e0,if_pos c],by rw [zml,if_pos c]⟩
    ·exact ⟨.inr (hops n.me n.list n.fingers key 4,f :: r),by rw [e0,if_neg c],by rw [zml,if_neg c]⟩
   have e:∃ z,zoo n key (f :: r)=some z ∧ (match z with | .inl (a,b,_)=>((⟨a,b⟩,[],true):Peer × List Peer × Bool) | .inr (t,_)=>(⟨0,0⟩,t,false))=(if upto n.me.id key f.id=true then (f,[],true) else if zej n key=true then (n.me,[],true) else zml n key):=by
    refine Exists.elim (?_:∃ z,zi9 n key (f :: r)=some z ∧ _) fun z hz=>⟨z,zx4 hz.1,hz.2⟩
    have hx0:xget zaf (f :: r) 0=some f:=zbd zaf (f :: r) 0
    rw [zi9,hx0,Option.bind_some,zk8 ok.me hk hfp,Option.bind_some]
    cases hu:upto n.me.id key f.id with
    | true=>exact ⟨_,rfl,rfl⟩
    | false=>
     rw [cond_false,hw,Option.bind_some,if_neg (by simp),zaG,zaM,zas]
     cases hp:n.pred with
     | nil=>
      have hb:zej n key=false:=by rw [zej,hp]
      rw [if_neg (by simp),hb,if_neg (by simp)]
      rcases w with a | ⟨t,b⟩ <;> exact ⟨_,rfl,hwz⟩
     | cons x rr=>
      have hb:zej n key=(decide (x.misses ≤ 0) && upto x.peer.id key n.me.id):=by rw [zej,hp]
      have hxo:=ok.pred x (by rw [hp];simp)
      have hx1:xget zag (x :: rr) 0=some x:=zbd zag (x :: rr) 0
      rw [if_pos (by simp <;> omega),hx1,Option.bind_some,zaM,zas]
      by_cases c2:x.misses < 1
      ·rw [decide_eq_true (by omega:x.misses ≤ 0),Bool.true_and] at hb
       rw [if_pos c2,zk8 hxo hk ok.me,Option.bind_some,hb]
       cases upto x.peer.id key n.me.id with
       | true=>exact ⟨_,rfl,rfl⟩
       | false=>
        rw [cond_false,if_neg (by simp)]
        rcases w with a | ⟨t,b⟩ <;> exact ⟨_,rfl,hwz⟩
      ·rw [decide_eq_false (by omega:¬ x.misses ≤ 0),Bool.false_and] at hb
       rw [if_neg c2,hb,if_neg (by simp)]
       rcases w with a | ⟨t,b⟩ <;> exact ⟨_,rfl,hwz⟩
   obtain ⟨z,hz,hzz⟩:=e
   rw [hz,Option.bind_some,← hzz]
   rcases z with ⟨a,b,c⟩ | ⟨a,b⟩ <;> rfl)
def zp5 (n:Node) (key:Int):Bool:=(zbH n key).2.2 && (decide ((zbH n key).1.id=n.me.id) && decide ((zbH n key).1.addr=n.me.addr))
theorem zxm {n:Node} {key:Int} (h:Sz n) (ok:NOk n) (hk:0 ≤ key ∧ key < 18446744073709551616):zqS n key=some (zp5 n key) ∧ zuS n key=some (zp5 n key):=by
 constructor
 ·refine zz2 ?_
  rw [zna,zrk h ok,Option.bind_some,zp5]
  obtain ⟨p,l,b⟩:=zbH n key
  dsimp only
  rw [zaI,zaI]
  cases b <;> cases decide (p.id=n.me.id) <;> cases decide (p.addr=n.me.addr) <;> rfl
 ·refine zDI ?_
  rw [zqJ,zua h ok hk,Option.bind_some,zp5]
  obtain ⟨p,l,b⟩:=zbH n key
  dsimp only
  rw [zaI,zaI]
  cases b <;> cases decide (p.id=n.me.id) <;> cases decide (p.addr=n.me.addr) <;> rfl
theorem zeR {n:Node} {b:Bool} (h:n.joined=b):(⟨n.me,n.clock,b,n.pred,n.list,n.fingers,n.store,n.pends,n.jobs,n.results,n.rid,n.jobID,n.nextBit⟩:Node)=n:=by subst h;rfl
def zet (k:Int):Bool:=decide (k=1 ∨ k=3 ∨ k=5 ∨ k=7 ∨ k=8 ∨ k=10 ∨ k=11)
theorem zAJ (k:Int):zuy k=some (zet k):=zDa (by
 rw [zp6,zsc,Option.bind_some,zaG,zaM,zet]
 congr 1
 rcases zmV k with h | h
 ·rw [zly h,decide_eq_false (by omega:¬ (k=1 ∨ k=3 ∨ k=5 ∨ k=7 ∨ k=8 ∨ k=10 ∨ k=11))]
  rfl
 ·rcases h with rfl | rfl | rfl | rfl | rfl | rfl | rfl | rfl | rfl | rfl | rfl | rfl <;> rfl)
def ansB (k r:Int):Bool:=if k=1 then decide (r=2 ∨ r=12) else if k=3 then decide (r=4) else if k=5 ∨ k=10 ∨ k=11 then decide (r=6) else if k=7 then decide (r=6 ∨ r=12) else if k=8 then decide (r=9 ∨ r=12) else false
theorem zFx (p q:Prop) [Decidable p] [Decidable q]:(bif decide p then some true else some (decide q))=some (decide (p ∨ q)):=by by_cases p <;> simp [*]
theorem zkJ (k r:Int):zla k r=some (ansB k r):=zxR (by
 have e:∀ t,zfw k r t=some (if t=true then decide (r=6) else if k=7 then decide (r=6 ∨ r=12) else if k=8 then decide (r=9 ∨ r=12) else false):=fun t=>zuK (by
  simp only [zju,zaI,zFx]
  cases t
  ·by_cases c1:k=7
   ·simp [c1]
   ·by_cases c2:k=8 <;> simp [c1,c2]
  ·rfl)
 simp only [zlR,e,zaI,zFx,ansB]
 by_cases c1:k=1
 ·simp [c1]
 ·by_cases c2:k=3
  ·simp [c2]
  ·by_cases c3:k=5
   ·simp [c3]
   ·by_cases c4:k=10
    ·simp [c4]
    ·by_cases c5:k=11 <;> simp [c1,c2,c3,c4,c5])
theorem zt4 (k:Int):zqp k=some (zet k):=zDu (by
 have st:∀ (i:Nat) (z:Unit ⊕ Unit),i < 13 → zeS k ((i + 1:Nat):Int)=some z → zeS k (i:Int)=some (if ansB k i=true then .inl () else z):=fun i z hi hz=>by
  by_cases c:ansB k i=true
  ·rw [if_pos c]
   exact zlS (by rw [zgx,zaM,decide_eq_true (by omega),cond_true,zkJ,Option.bind_some,c];rfl)
  ·rw [if_neg c]
   exact zlS (by rw [zgx,zaM,decide_eq_true (by omega),cond_true,zkJ,Option.bind_some,Bool.eq_false_iff.2 c,cond_false,ze2 (by omega)];exact hz)
 have e13:zeS k ((13:Nat):Int)=some (.inr ()):=zlS (by rw [zgx];rfl)
 have e0:=st 1 _ (by omega) (st 2 _ (by omega) (st 3 _ (by omega) (st 4 _ (by omega) (st 5 _ (by omega) (st 6 _ (by omega) (st 7 _ (by omega) (st 8 _ (by omega) (st 9 _ (by omega) (st 10 _ (by omega) (st 11 _ (by omega) (st 12 _ (by omega) e13)))))))))))
 have e1:zeS k 1=some (if zet k=true then .inl () else .inr ()):=by
  refine e0.trans ?_
  congr 1
  simp only [ansB,zet]
  by_cases c1:k=1
  ·simp [c1]
  ·by_cases c2:k=3
   ·simp [c2]
   ·by_cases c3:k=5
    ·simp [c3]
    ·by_cases c4:k=7
     ·simp [c4]
     ·by_cases c5:k=8
      ·simp [c5]
      ·by_cases c6:k=10
       ·simp [c6]
       ·by_cases c7:k=11 <;> simp [c1,c2,c3,c4,c5,c6,c7]
 rw [zqq,e1,Option.bind_some]
 cases zet k <;> rfl)
end Go.Ab.Tryz
namespace Go.Ab.Tryz
open Go Go.Ab Go.Proofs Go.Lib
open Pe (dist PeOk EnOk)
def zbB (from_ rid:Int) (m:Msg):Out:=⟨⟨0,from_⟩,⟨m.kind,rid,m.code,m.has,m.id,m.key,m.val,m.peer,m.peers,m.pairs⟩⟩
theorem zb8 (from_ rid:Int) (m:Msg):zc2 from_ rid m=some [zbB from_ rid m]:=zDO rfl
theorem zen {m M:Msg} {n:Node} {from_:Int} {r:List Out} (hr:r.length ≤ 1000):zbu m n from_ M r=some (r ++ [zbB from_ M.rid m]):=zrz (by
 rw [zhg,zaK eOut (by simp <;> omega) (by omega)];rfl)
def okM:Msg:=⟨6,0,0,false,0,⟨#[]⟩,⟨#[]⟩,⟨0,0⟩,[],[]⟩
def nayM (e:Int):Msg:=⟨12,0,Ops.std.iwrap .u8 e,false,0,⟨#[]⟩,⟨#[]⟩,⟨0,0⟩,[],[]⟩
theorem zjf {M:Msg} {n:Node} {from_:Int} {r:List Out} (hr:r.length ≤ 1000):zcG n from_ M r=some (r ++ [zbB from_ M.rid okM]):=zry (zen hr)
theorem zkg {M:Msg} {n:Node} {from_ e:Int} {r:List Out} (hr:r.length ≤ 1000):zc4 e n from_ M r=some (r ++ [zbB from_ M.rid (nayM e)]):=zsU (zen hr)
def zmi (n:Node) (key:Int):Msg:=⟨2,0,0,(zbH n key).2.2,0,⟨#[]⟩,⟨#[]⟩,⟨0,0⟩,if (zbH n key).2.2=true then [(zbH n key).1] else (zbH n key).2.1,[]⟩
theorem zya {M:Msg} {n:Node} {from_:Int} (h:Sz n) (ok:NOk n):ziB n from_ M []=some (n,[zbB from_ M.rid (if n.joined=true then zmi n M.id else nayM 17)]):=zru (by
 rw [zhd]
 cases hj:n.joined with
 | true=>
  rw [zeR hj,cond_true,zrk h ok,Option.bind_some,if_pos rfl,zmi]
  obtain ⟨p,l,b⟩:=zbH n M.id
  cases b <;> (dsimp only [cond_true,cond_false];rw [zen (by simp)];rfl)
 | false=>
  rw [zeR hj,cond_false,if_neg (by simp),zkg (by simp)]
  rfl)
def ziY (n:Node):Bool × Peer:=match n.pred with
 | []=>(false,⟨0,0⟩)
 | x :: _=>(true,x.peer)
def askM (n:Node):Msg:=⟨4,0,0,(ziY n).1,0,⟨#[]⟩,⟨#[]⟩,(ziY n).2,(n.list.map Entry.peer).take 16,[]⟩
theorem zz9 {M:Msg} {n:Node} {from_:Int} (h:Sz n):zjx n from_ M []=some [zbB from_ M.rid (askM n)]:=zsR (by
 have hl:=h.list
 have e:∀ ys:List Peer,zeg n from_ M [] ys=some ([zbB from_ M.rid ⟨4,0,0,(ziY n).1,0,⟨#[]⟩,⟨#[]⟩,(ziY n).2,ys,[]⟩],(ziY n).1,(ziY n).2.id,(ziY n).2.addr,ys):=fun ys=>zpq (by
  rw [zfO,zaG,zaM,zas,ziY]
  cases hp:n.pred with
  | nil=>rw [if_neg (by simp),zen (by simp)];rfl
  | cons x r=>
   rw [if_pos (by simp <;> omega),show (0:Int)=((0:Nat):Int) from rfl,zbd]
   show (zbu _ _ _ _ _).bind _=_
   rw [zen (by simp)];rfl)
 rw [zhZ,(Pe.some_eq hl).2.2.1,Option.bind_some,zaG,zaM,zas,askM]
 by_cases c:(16:Int) < ((n.list.map Entry.peer).length:Int)
 ·rw [if_pos c,show (16:Int)=((16:Nat):Int) from rfl,zcE _ 16 (by omega),Option.bind_some,e];rfl
 ·rw [if_neg c,zcE _ _ (Nat.le_refl _),Option.bind_some,e,List.take_length,List.take_of_length_le (by omega)];rfl)
def ln (n:Node) (p:Peer):Node:=⟨n.me,n.clock,n.joined,n.pred,Pe.add n.me n.list p,n.fingers,n.store,n.pends,n.jobs,n.results,n.rid,n.jobID,n.nextBit⟩
def pn (n:Node) (p:Peer):Node:=⟨n.me,n.clock,n.joined,[⟨p,0⟩],Pe.add n.me n.list p,n.fingers,n.store,n.pends,n.jobs,n.results,n.rid,n.jobID,n.nextBit⟩
def zdL (n:Node) (from_:Int) (p:Peer):Node × List Out:=
 if p.addr=from_ ∧ p.addr ≠ n.me.addr then
  (match n.pred with
  | []=>hand (pn n p) p (rng n.store n.me.id p.id) false
  | x :: _=>if x.peer.addr=p.addr ∨ btw x.peer.id p.id n.me.id=true then (if x.peer.id=p.id ∧ x.peer.addr=p.addr then (pn n p,[]) else hand (pn n p) p (rng n.store n.me.id p.id) false) else (ln n p,[]))
 else (n,[])
theorem zyF {n:Node} {p:Peer} (h:Sz n) (hl:n.list.length ≤ 900):Sz (ln n p) ∧ Sz (pn n p):=by
 have h1:=Pe.add_le n.me p n.list
 exact ⟨⟨h.pred,by show (Pe.add n.me n.list p).length ≤ 1000;omega,h.fingers,h.store,h.pends,h.jobs,h.results⟩,⟨by simp [pn],by show (Pe.add n.me n.list p).length ≤ 1000;omega,h.fingers,h.store,h.pends,h.jobs,h.results⟩⟩
theorem ztR (l:List Pair) (a b:Int):(rng l a b).length ≤ l.length:=List.length_filter_le _ _
theorem zBj {n:Node} {from_:Int} {p:Peer} (h:Sz n) (ok:NOk n) (hl:n.list.length ≤ 900) (hk:Keys n.store) (hp:PeOk p):zuV n from_ p=some (zdL n from_ p):=zDN (by
 have hs:=h.store
 obtain ⟨hz1,hz2⟩:=zyF (p:=p) h hl
 have hr:=ztR n.store n.me.id p.id
 have hh:zhU (pn n p) p (rng n.store n.me.id p.id) false=some (hand (pn n p) p (rng n.store n.me.id p.id) false):=zub hz2 (by omega)
 have hrange:=zzW (l:=n.store) (a:=n.me.id) (b:=p.id) ok.me hp (by omega) hk
 rw [zqQ,zaI,zas,zaI,zas,zdL]
 by_cases c1:p.addr=from_
 ·rw [if_pos c1]
  by_cases c2:p.addr=n.me.addr
  ·rw [if_pos c2,if_neg (fun h=>h.2 c2)]
  ·rw [if_neg c2,if_pos ⟨c1,c2⟩,Pe.r27_Add_eq hl ok.me hp ok.list,Option.bind_some,zaG,zaM,zas,hrange]
   cases hpd:n.pred with
   | nil=>
    rw [if_neg (by simp),Option.bind_some]
    exact hh
   | cons x r=>
    have hxo:=ok.pred x (by rw [hpd];simp)
    rw [if_pos (by simp <;> omega),show (0:Int)=((0:Nat):Int) from rfl,zbd]
    show (bif Ops.std.ieq x.peer.addr p.addr then _ else _)=_
    dsimp only
    rw [zaI,zas]
    by_cases c3:x.peer.addr=p.addr
    ·rw [if_pos c3,if_pos (.inl c3),zaI,zas]
     by_cases c4:x.peer.id=p.id
     ·rw [if_pos c4,if_pos ⟨c4,c3⟩];rfl
     ·rw [if_neg c4,if_neg (fun h=>c4 h.1),Option.bind_some];exact hh
    ·rw [if_neg c3,zpc hxo hp ok.me,Option.bind_some]
     cases c5:btw x.peer.id p.id n.me.id with
     | true=>
      rw [cond_true,if_pos (.inr rfl),if_neg (fun h=>c3 h.2),zaI,zas]
      by_cases c4:x.peer.id=p.id
      ·rw [if_pos c4,Option.bind_some];exact hh
      ·rw [if_neg c4,Option.bind_some];exact hh
     | false=>
      rw [cond_false,if_neg (fun h=>h.elim c3 (fun h=>by cases h))]
      show some (_,_)=_
      rw [← hpd];rfl
 ·rw [if_neg c1,if_neg (fun h=>c1 h.1)])
theorem zzy {n:Node} {from_:Int} {p:Peer} (h:Sz n) (hl:n.list.length ≤ 900):(zdL n from_ p).2.length ≤ 126:=by
 obtain ⟨hz1,hz2⟩:=zyF (p:=p) h hl
 have hs:=h.store
 have hr:=ztR n.store n.me.id p.id
 have hh:=(zwr (to_:=p) (l:=rng n.store n.me.id p.id) (fresh:=false) hz2 (by omega)).2
 unfold zdL
 (repeat' split) <;> first | exact hh | simp
theorem zyb {n:Node} {to_:Peer} {l:List Pair} {from_:Int} {M:Msg} {r:List Out} (h:Sz n) (hl:l.length ≤ 1000) (hr:r.length ≤ 1000):ziC to_ l n from_ M r=some ((hand n to_ l false).1,r ++ (hand n to_ l false).2):=zrv (by
 have:=(zwr (to_:=to_) (l:=l) (fresh:=false) h hl).2
 rw [zhe,eta2 (zrm h hl),Option.bind_some]
 dsimp only
 rw [zaK eOut (by omega) (by omega)];rfl)
theorem zyd {n:Node} {from_:Int} {M:Msg} (h:Sz n) (ok:NOk n) (hl:n.list.length ≤ 900) (hk:Keys n.store):ziE n from_ M []=some ((zdL n from_ M.peer).1,zbB from_ M.rid okM :: (zdL n from_ M.peer).2):=zrx (by
 have hs:=h.store
 obtain ⟨hz1,hz2⟩:=zyF (p:=M.peer) h hl
 have hr:=ztR n.store n.me.id M.peer.id
 have hs1:∀ (q:Node) (a b:Int),q.me=n.me → q.store=n.store → (⟨q.me,q.clock,q.joined,[⟨M.peer,0⟩],q.list,q.fingers,q.store,q.pends,q.jobs,q.results,q.rid,q.jobID,q.nextBit⟩:Node)=pn n M.peer →
   zcD from_ M q [zbB from_ M.rid okM] a b=some ((hand (pn n M.peer) M.peer (rng n.store n.me.id M.peer.id) false).1,zbB from_ M.rid okM :: (hand (pn n M.peer) M.peer (rng n.store n.me.id M.peer.id) false).2,a,b):=fun q a b e1 e2 e3=>zou (by
  have hR:=zwY (l:=n.store) (a:=n.me.id) (b:=M.peer.id) (by omega) hk
  rw [zeV,e3,e1,e2,hR,Option.bind_some,zyb hz2 (by omega) (by simp)]
  rfl)
 rw [zhf,zjf (by simp),Option.bind_some,zaI,zas,zaI,zas,zdL,List.nil_append]
 by_cases c1:M.peer.addr=from_
 ·rw [if_pos c1]
  by_cases c2:M.peer.addr=n.me.addr
  ·rw [if_pos c2,if_neg (fun h=>h.2 c2)]
  ·rw [if_neg c2,if_pos ⟨c1,c2⟩]
   have e:∃ z,zgh n from_ M [zbB from_ M.rid okM]=some z ∧ (match z with | .inl (a,b)=>((a,b):Node × List Out) | .inr (a,b)=>(a,b))=((match n.pred with
     | []=>hand (pn n M.peer) M.peer (rng n.store n.me.id M.peer.id) false
     | x :: _=>if x.peer.addr=M.peer.addr ∨ btw x.peer.id M.peer.id n.me.id=true then (if x.peer.id=M.peer.id ∧ x.peer.addr=M.peer.addr then (pn n M.peer,[]) else hand (pn n M.peer) M.peer (rng n.store n.me.id M.peer.id) false) else (ln n M.peer,[]):Node × List Out).1,
     zbB from_ M.rid okM :: (match n.pred with
     | []=>hand (pn n M.peer) M.peer (rng n.store n.me.id M.peer.id) false
     | x :: _=>if x.peer.addr=M.peer.addr ∨ btw x.peer.id M.peer.id n.me.id=true then (if x.peer.id=M.peer.id ∧ x.peer.addr=M.peer.addr then (pn n M.peer,[]) else hand (pn n M.peer) M.peer (rng n.store n.me.id M.peer.id) false) else (ln n M.peer,[]):Node × List Out).2):=by
    refine Exists.elim (?_:∃ z,zdd n from_ M [zbB from_ M.rid okM]=some z ∧ _) fun z hz=>⟨z,zov hz.1,hz.2⟩
    have s0:∀ (q:Node) (a b:Int),(⟨q.me,q.clock,q.joined,[⟨M.peer,0⟩],q.list,q.fingers,q.store,q.pends,q.jobs,q.results,q.rid,q.jobID,q.nextBit⟩:Node)=pn n M.peer → zdN from_ M q [zbB from_ M.rid okM] a b=some (if a=M.peer.id ∧ b=M.peer.addr then .inl (pn n M.peer,[zbB from_ M.rid okM],a,b) else .inr (pn n M.peer,[zbB from_ M.rid okM],a,b)):=fun q a b e=>zot (by
     rw [zeU,zaI,zas,zaI,zas,e]
     by_cases d1:a=M.peer.id
     ·by_cases d2:b=M.peer.addr
      ·rw [if_pos d1,if_pos d2,if_pos ⟨d1,d2⟩]
      ·rw [if_pos d1,if_neg d2,if_neg (fun h=>d2 h.2)]
     ·rw [if_neg d1,if_neg (fun h=>d1 h.1)])
    rw [zdd,Pe.peers_Add_eq hl,Option.bind_some,zaG,zaM,zas]
    cases hpd:n.pred with
    | nil=>
     rw [if_neg (by simp),hs1 ⟨n.me,n.clock,n.joined,[],Pe.add n.me n.list M.peer,n.fingers,n.store,n.pends,n.jobs,n.results,n.rid,n.jobID,n.nextBit⟩ 0 0 rfl rfl rfl,Option.bind_some]
     exact ⟨_,rfl,rfl⟩
    | cons x r=>
     rw [if_pos (by simp <;> omega),show (0:Int)=((0:Nat):Int) from rfl,zbd]
     show ∃ z,(bif Ops.std.ieq x.peer.addr M.peer.addr then _ else _)=some z ∧ _
     dsimp only
     rw [zaI,zas]
     by_cases c3:x.peer.addr=M.peer.addr
     ·rw [if_pos c3,if_pos (.inl c3),s0 ⟨n.me,n.clock,n.joined,x :: r,Pe.add n.me n.list M.peer,n.fingers,n.store,n.pends,n.jobs,n.results,n.rid,n.jobID,n.nextBit⟩ x.peer.id x.peer.addr rfl,Option.bind_some]
      by_cases c4:x.peer.id=M.peer.id ∧ x.peer.addr=M.peer.addr
      ·rw [if_pos c4,if_pos c4];exact ⟨_,rfl,rfl⟩
      ·rw [if_neg c4,if_neg c4]
       dsimp only
       rw [hs1 (pn n M.peer) _ _ rfl rfl rfl]
       exact ⟨_,rfl,rfl⟩
     ·rw [if_neg c3,znM,Option.bind_some]
      cases c5:btw x.peer.id M.peer.id n.me.id with
      | true=>
       rw [cond_true,if_pos (.inr rfl),s0 ⟨n.me,n.clock,n.joined,x :: r,Pe.add n.me n.list M.peer,n.fingers,n.store,n.pends,n.jobs,n.results,n.rid,n.jobID,n.nextBit⟩ x.peer.id x.peer.addr rfl,Option.bind_some,if_neg (fun h=>c3 h.2),if_neg (fun h=>c3 h.2)]
       dsimp only
       rw [hs1 (pn n M.peer) _ _ rfl rfl rfl]
       exact ⟨_,rfl,rfl⟩
      | false=>
       rw [cond_false,if_neg (fun h=>h.elim c3 (fun h=>by cases h))]
       refine ⟨_,rfl,?_⟩
       show ((_,_):Node × List Out)=_
       rw [← hpd];rfl
   obtain ⟨z,hz,hzz⟩:=e
   rw [hz,Option.bind_some,← hzz]
   rcases z with ⟨a,b⟩ | ⟨a,b⟩ <;> rfl
 ·rw [if_neg c1,if_neg (fun h=>c1 h.1)])
def mayN (n:Node) (key:ByteArray):Int:=if n.joined=true then (if zp5 n (zjP key)=true then 0 else 14) else 17
theorem zpm {n:Node} {key:ByteArray} (h:Sz n) (ok:NOk n) (hk:key.size < 1000000):zoq n key=some (mayN n key):=zx7 (by
 rw [zl5,mayN]
 cases hj:n.joined with
 | true=>
  rw [zeR hj,cond_true,if_pos rfl,zsq (by omega),Option.bind_some,(zxm h ok (zp0 key)).2,Option.bind_some]
  cases zp5 n (zjP key) <;> rfl
 | false=>rfl)
theorem zsW {n:Node} {from_:Int} {M:Msg} (h:Sz n) (ok:NOk n) (hk:M.key.size < 1000000):zgg n from_ M []=some (if mayN n M.key=0 then (true,n,[]) else (false,n,[zbB from_ M.rid (nayM (mayN n M.key))])):=zsT (by
 rw [zh1,mayN]
 cases hj:n.joined with
 | true=>
  rw [zeR hj,cond_true,if_pos rfl,zqY (by omega),Option.bind_some,(zxm h ok (zp0 M.key)).1,Option.bind_some]
  cases zp5 n (zjP M.key) with
  | true=>rfl
  | false=>rw [cond_false,zkg (by simp)];rfl
 | false=>rw [zeR hj,cond_false,zkg (by simp)];rfl)
def putN (n:Node) (from_:Int) (M:Msg):Node × List Out:=
 if mayN n M.key=0 then (if (zbW n M.key M.val).2.2=0 then ((zbW n M.key M.val).1,zbB from_ M.rid okM :: (zbW n M.key M.val).2.1) else (n,[zbB from_ M.rid (nayM (zbW n M.key M.val).2.2)]))
 else (n,[zbB from_ M.rid (nayM (mayN n M.key))])
theorem zAb {n:Node} {from_:Int} {M:Msg} (h:Sz n) (ok:NOk n) (hk:M.key.size < 1000000):zjz n from_ M []=some (putN n from_ M):=zsV (by
 have hks:=(zwv (key:=M.key) (val:=M.val) h).2
 rw [zh2,zsW h ok hk,Option.bind_some,putN]
 by_cases c:mayN n M.key=0
 ·rw [if_pos c,if_pos c]
  dsimp only
  rw [cond_true,zx9 h hk,Option.bind_some]
  obtain ⟨⟨a,o,e⟩,hq⟩:∃ z,zbW n M.key M.val=z:=⟨_,rfl⟩
  rw [hq] at hks ⊢
  dsimp only at hks ⊢
  by_cases he:e=0
  ·rw [if_pos he,ieqT he,cond_true,zjf (by simp),Option.bind_some,zaK eOut (by simp <;> omega) (by omega)];rfl
  ·rw [if_neg he,ieqF he,cond_false,zkg (by simp)];rfl
 ·rw [if_neg c,if_neg c];rfl)
def gotM (n:Node) (key:ByteArray):Msg:=⟨9,0,0,(getP n.store key).2,0,⟨#[]⟩,(getP n.store key).1,⟨0,0⟩,[],[]⟩
def getN (n:Node) (from_:Int) (M:Msg):Node × List Out:=
 (n,[zbB from_ M.rid (if mayN n M.key=0 then gotM n M.key else nayM (mayN n M.key))])
theorem zAa {n:Node} {from_:Int} {M:Msg} (h:Sz n) (ok:NOk n) (hk:M.key.size < 1000000):zjy n from_ M []=some (getN n from_ M):=zsS (by
 have hs:=h.store
 rw [zh0,zsW h ok hk,Option.bind_some,getN]
 by_cases c:mayN n M.key=0
 ·rw [if_pos c,if_pos c]
  dsimp only
  rw [cond_true,(zzf (by omega)).1,Option.bind_some,zen (by simp)];rfl
 ·rw [if_neg c,if_neg c];rfl)
def zlC:List Pair → List Pair → List Pair
 | l,[]=>l
 | l,p :: r=>zlC (put l p.key p.val).1 r
def zk2 (l more:List Pair) (fresh:Bool):List Pair:=if fresh=true then zlC l more else (mer l 0 more).1
theorem zuJ (l:List Pair) (key val:ByteArray) (h:l.length ≤ 200):(put l key val).1.length ≤ 200:=by have:=zdt l key val;omega
theorem zvU:∀ (more:List Pair) {l:List Pair},l.length ≤ 200 → (zlC l more).length ≤ 200
 | [],l,h=>h
 | p :: r,l,h=>zvU r (zuJ l p.key p.val h)
theorem zFj {l more:List Pair} {fresh:Bool} (h:l.length ≤ 200):(zk2 l more fresh).length ≤ 200:=by
 unfold zk2
 split
 ·exact zvU more h
 ·have:=zJu more l 0;omega
theorem zBi {l more:List Pair} {fresh:Bool} (hl:l.length ≤ 200) (hm:more.length ≤ 1000) (hk:Keys more):zuU l more fresh=some (zk2 l more fresh):=zDM (by
 rw [zqP,zk2]
 cases fresh with
 | true=>
  rw [cond_true,if_pos rfl]
  exact zbi (σ:=List Pair) zae (l:=more) (by omega) (L:=fun i s=>zll more s i) (res:=fun _ s rest=>zlC s rest) (Inv:=fun _ s=>s.length ≤ 200)
   (fun s _ h=>zrj (by rw [zjd,h];rfl))
   (fun n x rest s hi hn hx hd h1 h2 h3 ih=>zrj (by
    rw [zjd,h1,h2,cond_true,Option.bind_some,zqE (by omega) (hk x (List.mem_of_getElem? hx)),Option.bind_some,h3]
    exact ih (put s x.key x.val).1 (zuJ s x.key x.val hi))) l hl
 | false=>rw [cond_false,zzV hl hm hk];rfl)
theorem zu0 {n:Node} {from_:Int} {M:Msg} {R:List Out} {l:List Pair} (hl:l.length ≤ 200) (hm:M.pairs.length ≤ 1000) (hk:Keys M.pairs):zbX from_ M 0 (zbq n l) R=some (zbq n (zlC l M.pairs),R):=
 zbi (σ:=List Pair) zae (l:=M.pairs) (by omega) (L:=fun i s=>zbX from_ M i (zbq n s) R) (res:=fun _ s rest=>(zbq n (zlC s rest),R)) (Inv:=fun _ s=>s.length ≤ 200)
  (fun s _ h=>ziL (by rw [zdc,h];rfl))
  (fun k x rest s hi hn hx hd h1 h2 h3 ih=>ziL (by
   have hp:=zh4 (l:=s) (key:=x.key) (val:=x.val) (by omega) (hk x (List.mem_of_getElem? hx))
   have hz:=zuJ s x.key x.val hi
   have hb:=@zCE s x.key x.val
   have ih':=ih (put s x.key x.val).1 hz
   rw [zdc,h1,h2,cond_true,Option.bind_some]
   rw [show (zbq n s).store=s from rfl,hp,Option.bind_some,zlC,← ih']
   obtain ⟨⟨q,e⟩,hq⟩:∃ z,put s x.key x.val=z:=⟨_,rfl⟩
   rw [hq] at hz hb ⊢
   dsimp only at hz hb ⊢
   by_cases he:e=0
   ·rw [ieqT he,cond_true,zaK zae (by simp <;> omega) (by omega),cond_true,h3];rfl
   ·rw [ieqF he,cond_false,h3,hb he])) l hl
theorem zyc {n:Node} {from_:Int} {M:Msg} (h:Sz n) (hm:M.pairs.length ≤ 1000) (hk:Keys M.pairs):∃ b,ziD n from_ M []=some (zbq n (zk2 n.store M.pairs M.has),b,[zbB from_ M.rid okM]):=by
 refine Exists.elim (?_:∃ b,zeh n from_ M []=some (zbq n (zk2 n.store M.pairs M.has),b,[zbB from_ M.rid okM])) fun b hb=>⟨b,zrw hb⟩
 have hs:=h.store
 rw [zeh,zjf (by simp),Option.bind_some,zk2,List.nil_append]
 cases hb:M.has with
 | true=>
  have hl0:=zu0 (n:=n) (from_:=from_) (M:=M) (R:=[zbB from_ M.rid okM]) (l:=n.store) hs hm hk
  rw [show zbq n n.store=n from rfl] at hl0
  rw [cond_true,if_pos rfl,hl0]
  exact ⟨_,rfl⟩
 | false=>
  rw [cond_false,if_neg (by simp),zwW hs hm hk]
  exact ⟨_,rfl⟩
end Go.Ab.Tryz
namespace Go.Ab.Tryz
open Go Go.Ab Go.Proofs Go.Lib
open Pe (dist PeOk EnOk)
def zjQ (n:Node) (from_:Int) (M:Msg):Node × List Out:=
 if M.kind=1 then (n,[zbB from_ M.rid (if n.joined=true then zmi n M.id else nayM 17)])
 else if M.kind=3 then (n,[zbB from_ M.rid (askM n)])
 else if M.kind=5 then ((zdL n from_ M.peer).1,zbB from_ M.rid okM :: (zdL n from_ M.peer).2)
 else if M.kind=7 then putN n from_ M
 else if M.kind=8 then getN n from_ M
 else if M.kind=10 then (zbq n (zk2 n.store M.pairs M.has),[zbB from_ M.rid okM])
 else (n,[zbB from_ M.rid okM])
def zbI (n:Node) (from_:Int) (M:Msg):Node × List Out:=if zet M.kind=true then zjQ n from_ M else (n,[])
theorem zrL {k:Int}:zet k=true ↔ (k=1 ∨ k=3 ∨ k=5 ∨ k=7 ∨ k=8 ∨ k=10 ∨ k=11):=by unfold zet;exact decide_eq_true_iff
structure MSz (M:Msg):Prop where
 key:M.key.size < 1000000
 pairs:M.pairs.length ≤ 1000
 keys:Keys M.pairs
theorem znN {n:Node} {from_:Int} {M:Msg} (h:Sz n) (ok:NOk n) (hl:n.list.length ≤ 900) (hks:Keys n.store) (hM:MSz M):zkd n from_ M=some (zbI n from_ M):=zwT (by
 have e:(⟨⟨n.me.id,n.me.addr⟩,n.clock,n.joined,n.pred,n.list,n.fingers,n.store,n.pends,n.jobs,n.results,n.rid,n.jobID,n.nextBit⟩:Node)=n:=rfl
 rw [zkR,zhD h,Option.bind_some]
 dsimp only
 rw [zAJ,Option.bind_some,zbI]
 cases ha:zet M.kind with
 | false=>rw [cond_false,if_neg (by simp)]
 | true=>
  rw [cond_true,if_pos rfl,zjQ]
  rcases zrL.1 ha with hk | hk | hk | hk | hk | hk | hk <;> rw [hk]
  ·rw [ieqT rfl,cond_true,if_pos rfl,zya h ok]
  ·rw [ieqF (by decide),cond_false,ieqT rfl,cond_true,if_neg (by decide),if_pos rfl,zz9 h];rfl
  ·rw [ieqF (by decide),cond_false,ieqF (by decide),cond_false,ieqT rfl,cond_true,if_neg (by decide),if_neg (by decide),if_pos rfl,zyd h ok hl hks]
  ·rw [ieqF (by decide),cond_false,ieqF (by decide),cond_false,ieqF (by decide),cond_false,ieqT rfl,cond_true,if_neg (by decide),if_neg (by decide),if_neg (by decide),if_pos rfl,zAb h ok hM.key]
  ·rw [ieqF (by decide),cond_false,ieqF (by decide),cond_false,ieqF (by decide),cond_false,ieqF (by decide),cond_false,ieqT rfl,cond_true,if_neg (by decide),if_neg (by decide),if_neg (by decide),if_neg (by decide),if_pos rfl,zAa h ok hM.key]
  ·obtain ⟨b,hb⟩:=zyc (from_:=from_) h hM.pairs hM.keys
   rw [ieqF (by decide),cond_false,ieqF (by decide),cond_false,ieqF (by decide),cond_false,ieqF (by decide),cond_false,ieqF (by decide),cond_false,ieqT rfl,cond_true,if_neg (by decide),if_neg (by decide),if_neg (by decide),if_neg (by decide),if_neg (by decide),if_pos rfl,hb]
   rfl
  ·rw [ieqF (by decide),cond_false,ieqF (by decide),cond_false,ieqF (by decide),cond_false,ieqF (by decide),cond_false,ieqF (by decide),cond_false,ieqF (by decide),cond_false,if_neg (by decide),if_neg (by decide),if_neg (by decide),if_neg (by decide),if_neg (by decide),if_neg (by decide),zjf (by simp)]
   rfl)
def prj:zhn → Node × List Out
 | .inl (_,n,_,_,_,o)=>(n,o)
 | .inr (.inl (_,n,_,_,_,_,_,o))=>(n,o)
 | .inr (.inr (.inl (_,n,_,_,_,_,_,o)))=>(n,o)
 | .inr (.inr (.inr (.inl (_,n,o))))=>(n,o)
 | .inr (.inr (.inr (.inr (.inl (_,n,_,o)))))=>(n,o)
 | .inr (.inr (.inr (.inr (.inr (_,n,_,_,o)))))=>(n,o)
structure MPl (M:Msg):Prop where
 id:0 ≤ M.id ∧ M.id < 18446744073709551616
 peer:PeOk M.peer
theorem zxs {n:Node} {from_:Int} {M:Msg} (h:Sz n) (ok:NOk n) (hl:n.list.length ≤ 900) (hks:Keys n.store) (hM:MSz M) (hP:MPl M) (hj:M.kind=1 → n.joined=true) (ha:zet M.kind=true):∃ z,zja from_ M n [zbB from_ M.rid okM]=some z ∧ prj z=zjQ n from_ M:=by
 refine Exists.elim (?_:∃ z,zho from_ M n [zbB from_ M.rid okM]=some z ∧ prj z=zjQ n from_ M) fun z hz=>⟨z,zv0 hz.1,hz.2⟩
 have hs:=h.store
 have hlist:=h.list
 rw [zho,zjQ]
 rcases zrL.1 ha with hk | hk | hk | hk | hk | hk | hk <;> rw [hk]
 ·rw [ieqT rfl,cond_true,if_pos rfl,zua h ok hP.id,Option.bind_some,if_pos (hj hk),zmi]
  obtain ⟨p,l,b⟩:=zbH n M.id
  cases b <;> (dsimp only [cond_true,cond_false];rw [zb8];(refine ⟨_,rfl,?_⟩;rfl))
 ·rw [ieqF (by decide),cond_false,ieqT rfl,cond_true,if_neg (by decide),if_pos rfl,(Pe.some_eq hlist).2.2.2,Option.bind_some,zaG,zaM,zas,zaG,zaM,zas,askM,ziY]
  have hz:xget zag n.pred 0=n.pred[0]?:=by rw [show (0:Int)=((0:Nat):Int) from rfl,zbd]
  by_cases c:(16:Int) < ((n.list.map Entry.peer).length:Int)
  ·rw [if_pos c,show (16:Int)=((16:Nat):Int) from rfl,zcE _ 16 (by omega),Option.bind_some,zas]
   cases hp:n.pred with
   | nil=>rw [if_neg (by simp),zb8];(refine ⟨_,rfl,?_⟩;rfl)
   | cons x r=>
    rw [hp] at hz
    rw [if_pos (by simp <;> omega),hz]
    simp only [List.getElem?_cons_zero,Option.bind_some]
    rw [zb8];(refine ⟨_,rfl,?_⟩;rfl)
  ·rw [if_neg c,List.take_of_length_le (by omega)]
   cases hp:n.pred with
   | nil=>rw [if_neg (by simp),zb8];(refine ⟨_,rfl,?_⟩;rfl)
   | cons x r=>
    rw [hp] at hz
    rw [if_pos (by simp <;> omega),hz]
    simp only [List.getElem?_cons_zero,Option.bind_some]
    rw [zb8];(refine ⟨_,rfl,?_⟩;rfl)
 ·rw [ieqF (by decide),cond_false,ieqF (by decide),cond_false,ieqT rfl,cond_true,if_neg (by decide),if_neg (by decide),if_pos rfl,zBj h ok hl hks hP.peer,Option.bind_some]
  have hn:=zzy (from_:=from_) (p:=M.peer) h hl
  obtain ⟨⟨a,o⟩,hq⟩:∃ z,zdL n from_ M.peer=z:=⟨_,rfl⟩
  rw [hq] at hn ⊢
  dsimp only at hn ⊢
  rw [zaK eOut (by simp <;> omega) (by omega)]
  (refine ⟨_,rfl,?_⟩;rfl)
 ·rw [ieqF (by decide),cond_false,ieqF (by decide),cond_false,ieqF (by decide),cond_false,ieqF (by decide),cond_false,ieqF (by decide),cond_false,if_neg (by decide),if_neg (by decide),if_neg (by decide),if_pos rfl,zpm h ok hM.key,Option.bind_some,putN]
  have hks:=(zwv (key:=M.key) (val:=M.val) h).2
  by_cases c:mayN n M.key=0
  ·rw [if_pos c,ieqT c,cond_true,ieqF (by decide),cond_false,zBh h hM.key,Option.bind_some]
   obtain ⟨⟨a,o,e⟩,hq⟩:∃ z,zbW n M.key M.val=z:=⟨_,rfl⟩
   rw [hq] at hks ⊢
   dsimp only at hks ⊢
   by_cases he:e=0
   ·rw [if_pos he,ieqT he,cond_true,zaK eOut (by simp <;> omega) (by omega)];(refine ⟨_,rfl,?_⟩;rfl)
   ·rw [if_neg he,ieqF he,cond_false,show (⟨12,0,Ops.std.iwrap .u8 e,false,0,⟨#[]⟩,⟨#[]⟩,⟨0,0⟩,[],[]⟩:Msg)=nayM e from rfl,zb8];(refine ⟨_,rfl,?_⟩;rfl)
  ·rw [if_neg c,ieqF c,cond_false,show (⟨12,0,Ops.std.iwrap .u8 (mayN n M.key),false,0,⟨#[]⟩,⟨#[]⟩,⟨0,0⟩,[],[]⟩:Msg)=nayM (mayN n M.key) from rfl,zb8];(refine ⟨_,rfl,?_⟩;rfl)
 ·rw [ieqF (by decide),cond_false,ieqF (by decide),cond_false,ieqF (by decide),cond_false,ieqF (by decide),cond_false,ieqF (by decide),cond_false,if_neg (by decide),if_neg (by decide),if_neg (by decide),if_neg (by decide),if_pos rfl,zpm h ok hM.key,Option.bind_some,getN]
  by_cases c:mayN n M.key=0
  ·rw [if_pos c,ieqT c,cond_true,ieqT rfl,cond_true,(zzf (by omega)).2,Option.bind_some]
   dsimp only
   rw [zb8];(refine ⟨_,rfl,?_⟩;rfl)
  ·rw [if_neg c,ieqF c,cond_false,show (⟨12,0,Ops.std.iwrap .u8 (mayN n M.key),false,0,⟨#[]⟩,⟨#[]⟩,⟨0,0⟩,[],[]⟩:Msg)=nayM (mayN n M.key) from rfl,zb8];(refine ⟨_,rfl,?_⟩;rfl)
 ·rw [ieqF (by decide),cond_false,ieqF (by decide),cond_false,ieqF (by decide),cond_false,ieqT rfl,cond_true,if_neg (by decide),if_neg (by decide),if_neg (by decide),if_neg (by decide),if_neg (by decide),if_pos rfl,zBi hs hM.pairs hM.keys]
  (refine ⟨_,rfl,?_⟩;rfl)
 ·rw [ieqF (by decide),cond_false,ieqF (by decide),cond_false,ieqF (by decide),cond_false,ieqF (by decide),cond_false,ieqT rfl,cond_true,if_neg (by decide),if_neg (by decide),if_neg (by decide),if_neg (by decide),if_neg (by decide),if_neg (by decide)]
  (refine ⟨_,rfl,?_⟩;rfl)
theorem zx5 {n:Node} {from_:Int} {M:Msg} (h:Sz n) (ok:NOk n) (hl:n.list.length ≤ 900) (hks:Keys n.store) (hM:MSz M) (hP:MPl M):zqM n from_ M=some (zbI n from_ M):=zzX (by
 rw [zm7,zt4,Option.bind_some,zbI]
 cases ha:zet M.kind with
 | false=>rw [cond_false,if_neg (by simp)]
 | true=>
  rw [cond_true,if_pos rfl,show (⟨6,0,0,false,0,⟨#[]⟩,⟨#[]⟩,⟨0,0⟩,[],[]⟩:Msg)=okM from rfl,zb8,Option.bind_some,zaI,zas]
  by_cases hk:M.kind=1
  ·rw [if_pos hk]
   cases hj:n.joined with
   | true=>
    obtain ⟨z,hz,hp⟩:=zxs (from_:=from_) h ok hl hks hM hP (fun _=>hj) ha
    rw [cond_true,zeR hj,hz,Option.bind_some,← hp]
    rcases z with _ | _ | _ | _ | _ | _ <;> rfl
   | false=>
    rw [cond_false,zeR hj,zjQ,if_pos hk,hj,if_neg (by simp),show (⟨12,0,17,false,0,⟨#[]⟩,⟨#[]⟩,⟨0,0⟩,[],[]⟩:Msg)=nayM 17 from rfl,zb8]
    rfl
  ·obtain ⟨z,hz,hp⟩:=zxs (from_:=from_) h ok hl hks hM hP (fun h=>absurd h hk) ha
   rw [if_neg hk,hz,Option.bind_some,← hp]
   rcases z with _ | _ | _ | _ | _ | _ <;> rfl)
end Go.Ab.Tryz
namespace Go.Ab.Tryz
open Go Go.Ab Go.Proofs Go.Lib
open Pe (dist PeOk EnOk)
def MFit (m:Msg):Prop:=m.peers.length ≤ 1000000 ∧ m.pairs.length ≤ 1000000
def AFit (l:List Out):Prop:=∀ o,o ∈ l → MFit o.msg
theorem AFit.nil:AFit []:=fun o ho=>by cases ho
theorem AFit.one {o:Out} (h:MFit o.msg):AFit [o]:=fun q hq=>by rw [List.mem_singleton.1 hq];exact h
theorem AFit.cons {o:Out} {l:List Out} (h:MFit o.msg) (hl:AFit l):AFit (o :: l):=fun q hq=>by
 rcases List.mem_cons.1 hq with e | e
 ·rw [e];exact h
 ·exact hl q e
theorem AFit.app {a b:List Out} (ha:AFit a) (hb:AFit b):AFit (a ++ b):=fun q hq=>(List.mem_append.1 hq).elim (ha q) (hb q)
theorem zgj {from_ rid:Int} {m:Msg} (h:MFit m):AFit [zbB from_ rid m]:=AFit.one h
theorem zvO:MFit okM:=⟨Nat.zero_le _,Nat.zero_le _⟩
theorem ztP {e:Int}:MFit (nayM e):=⟨Nat.zero_le _,Nat.zero_le _⟩
theorem zGf {n:Node} {to_:Peer} {m:Msg} {why job:Int} (h:MFit m):AFit (askN n to_ m why job).2:=by
 unfold askN
 split
 ·exact AFit.nil
 ·exact AFit.one h
theorem zxb (to_:Peer) (fresh:Bool):∀ (cs:List (List Pair)) (n:Node),(∀ c,c ∈ cs → c.length ≤ 1000000) → AFit (zdJ to_ fresh cs n).2
 | [],n,h=>AFit.nil
 | c :: cs,n,h=>AFit.app (zGf ⟨Nat.zero_le _,h c (by simp)⟩) (zxb to_ fresh cs _ fun x hx=>h x (by simp [hx]))
theorem zzg {n:Node} {to_:Peer} {l:List Pair} {fresh:Bool}:AFit (hand n to_ l fresh).2:=zxb to_ fresh (cut8 l) n fun c hc=>by have:=zwm hc;omega
theorem zxf (key val:ByteArray):∀ (ps:List Peer) (n:Node),AFit (zcy key val ps n).2
 | [],n=>AFit.nil
 | p :: ps,n=>AFit.app zzg (zxf key val ps _)
theorem zGT {n:Node} {key val:ByteArray}:AFit (zbW n key val).2.1:=by
 unfold zbW
 split
 ·exact zxf key val _ _
 ·exact AFit.nil
theorem zG2 {n:Node} {from_:Int} {p:Peer}:AFit (zdL n from_ p).2:=by
 unfold zdL
 (repeat' split) <;> first | exact zzg | exact AFit.nil
theorem zGJ (me:Peer) (l:List Entry) (f:List Finger) (key most:Int):(hops me l f key most).length ≤ most.toNat:=List.length_take_le ..
theorem zAf (n:Node) (key:Int):(zbH n key).2.1.length ≤ 4:=by
 unfold zbH zml
 (repeat' split) <;> first | exact zGJ _ _ _ _ _ | exact Nat.zero_le _
theorem zGB {n:Node} {key:Int}:MFit (zmi n key):=by
 have:=zAf n key
 refine ⟨?_,Nat.zero_le _⟩
 show List.length (if _ then _ else _) ≤ _
 split
 ·simp
 ·omega
theorem zIU {n:Node}:MFit (askM n):=⟨Nat.le_trans (List.length_take_le ..) (by omega),Nat.zero_le _⟩
theorem zJe {n:Node} {key:ByteArray}:MFit (gotM n key):=⟨Nat.zero_le _,Nat.zero_le _⟩
theorem zCK {n:Node} {from_:Int} {M:Msg}:AFit (zbI n from_ M).2:=by
 unfold zbI zjQ putN getN
 split
 ·split
  ·split
   ·exact zgj zGB
   ·exact zgj ztP
  ·split
   ·exact zgj zIU
   ·split
    ·exact AFit.cons zvO zG2
    ·split
     ·split
      ·split
       ·exact AFit.cons zvO zGT
       ·exact zgj ztP
      ·exact zgj ztP
     ·split
      ·dsimp only
       split
       ·exact zgj zJe
       ·exact zgj ztP
      ·split
       ·exact zgj zvO
       ·exact zgj zvO
 ·exact AFit.nil
theorem zw4 {n:Node} {from_:Int} {M:Msg} (h:Sz n) (hl:n.list.length ≤ 900):Sz (zbI n from_ M).1 ∧ (zbI n from_ M).2.length ≤ 127:=by
 obtain ⟨hz1,hz2⟩:=zyF (p:=M.peer) h hl
 have hs:=h.store
 have hr:=ztR n.store n.me.id M.peer.id
 have hh:=zwr (to_:=M.peer) (l:=rng n.store n.me.id M.peer.id) (fresh:=false) hz2 (by omega)
 have hnl:=zzy (from_:=from_) (p:=M.peer) h hl
 have hnz:Sz (zdL n from_ M.peer).1:=by
  unfold zdL
  (repeat' split) <;> first | exact hh.1 | exact hz1 | exact hz2 | exact h
 have hk:=zwv (key:=M.key) (val:=M.val) h
 unfold zbI zjQ putN getN
 split
 ·split
  ·exact ⟨h,by simp⟩
  ·split
   ·exact ⟨h,by simp⟩
   ·split
    ·exact ⟨hnz,by simp;omega⟩
    ·split
     ·split
      ·split
       ·exact ⟨hk.1,by simp;omega⟩
       ·exact ⟨h,by simp⟩
      ·exact ⟨h,by simp⟩
     ·split
      ·exact ⟨h,by simp⟩
      ·split
       ·exact ⟨zs7 h (zFj hs),by simp⟩
       ·exact ⟨h,by simp⟩
 ·exact ⟨h,by simp⟩
def bigJ (x:Job):Bool:=decide (300 < x.key.size) || decide (700 < x.val.size)
def bigR (x:Result):Bool:=decide (300 < x.key.size) || decide (700 < x.val.size)
theorem zFn {n:Node} (h:n.jobs.length ≤ 1000):zh8 n 0=some (bif n.jobs.any bigJ then .inl () else .inr ()):=
 zbi (σ:=Unit) eJob (l:=n.jobs) (by omega) (L:=fun i _=>zh8 n i) (res:=fun _ _ rest=>bif rest.any bigJ then .inl () else .inr ()) (Inv:=fun _ _=>True)
  (fun _ _ hh=>zpw (by rw [ziv,hh] <;> rfl))
  (fun k x rest s _ hn hx hd h1 h2 h3 ih=>zpw (by
   rw [ziv,h1,cond_true,h2,Option.bind_some,zbf,zbf,List.any_cons,bigJ]
   by_cases a:300 < x.key.size
   ·rw [iltT (by omega),decide_eq_true a] <;> rfl
   ·rw [iltF (by omega),decide_eq_false a,cond_false]
    by_cases b:700 < x.val.size
    ·rw [iltT (by omega),decide_eq_true b] <;> rfl
    ·rw [iltF (by omega),decide_eq_false b,cond_false,h3,ih () trivial] <;> rfl)) () trivial
theorem zFo {n:Node} (h:n.results.length ≤ 1000):zh9 n 0=some (bif n.results.any bigR then .inl () else .inr ()):=
 zbi (σ:=Unit) za7 (l:=n.results) (by omega) (L:=fun i _=>zh9 n i) (res:=fun _ _ rest=>bif rest.any bigR then .inl () else .inr ()) (Inv:=fun _ _=>True)
  (fun _ _ hh=>zpx (by rw [ziw,hh] <;> rfl))
  (fun k x rest s _ hn hx hd h1 h2 h3 ih=>zpx (by
   rw [ziw,h1,cond_true,h2,Option.bind_some,zbf,zbf,List.any_cons,bigR]
   by_cases a:300 < x.key.size
   ·rw [iltT (by omega),decide_eq_true a] <;> rfl
   ·rw [iltF (by omega),decide_eq_false a,cond_false]
    by_cases b:700 < x.val.size
    ·rw [iltT (by omega),decide_eq_true b] <;> rfl
    ·rw [iltF (by omega),decide_eq_false b,cond_false,h3,ih () trivial] <;> rfl)) () trivial
structure Sm (n:Node):Prop where
 pred:n.pred.length ≤ 5
 list:n.list.length ≤ 40
 fingers:n.fingers.length ≤ 80
 pends:n.pends.length ≤ 100
 jobs:n.jobs.length ≤ 20
 results:n.results.length ≤ 40
 store:n.store.length ≤ 100
 keys:Keys n.store
theorem Sm.sz {n:Node} (h:Sm n):Sz n:=by
 obtain ⟨h1,h2,h3,h4,h5,h6,h7,_⟩:=h
 exact ⟨by omega,by omega,by omega,by omega,by omega,by omega,by omega⟩
theorem zxo (n:Node):∃ b,znU n=some b ∧ (b=false → Sm n):=by
 refine Exists.elim (?_:∃ b,zlo n=some b ∧ (b=false → Sm n)) fun b hb=>⟨b,zBA hb.1,hb.2⟩
 rw [zlo,zaG,zaG,zaG,zaG,zaG,zaG,zaM,zaM,zaM,zaM,zaM,zaM,zas,zas,zas,zas,zas,zas,zGU,Option.bind_some]
 have no:∃ b,some true=some b ∧ (b=false → Sm n):=⟨true,rfl,fun h=>by cases h⟩
 by_cases h1:(5:Int) < (n.pred.length:Int)
 ·rw [if_pos h1];exact no
 rw [if_neg h1]
 by_cases h2:(40:Int) < (n.list.length:Int)
 ·rw [if_pos h2];exact no
 rw [if_neg h2]
 by_cases h3:(80:Int) < (n.fingers.length:Int)
 ·rw [if_pos h3];exact no
 rw [if_neg h3]
 by_cases h4:(100:Int) < (n.pends.length:Int)
 ·rw [if_pos h4];exact no
 rw [if_neg h4]
 by_cases h5:(20:Int) < (n.jobs.length:Int)
 ·rw [if_pos h5];exact no
 rw [if_neg h5]
 by_cases h6:(40:Int) < (n.results.length:Int)
 ·rw [if_pos h6];exact no
 rw [if_neg h6]
 cases h7:zvH n.store with
 | true=>exact no
 | false=>
  obtain ⟨h8,h9⟩:=zFe h7
  have e:znk n=some (bif n.jobs.any bigJ then true else bif n.results.any bigR then true else false):=zw1 (by
   rw [zkX,zFn (by omega),Option.bind_some]
   cases n.jobs.any bigJ
   ·dsimp only [cond_false]
    rw [zFo (by omega),Option.bind_some]
    cases n.results.any bigR <;> rfl
   ·rfl)
  rw [cond_false,e]
  exact ⟨_,rfl,fun _=>⟨by omega,by omega,by omega,by omega,by omega,by omega,h8,h9⟩⟩
def zo8 (m:Msg):Bool:=decide (300 < m.key.size) || (decide (700 < m.val.size) || (decide (40 < m.peers.length) || (decide (20 < m.pairs.length) || m.pairs.any fun p=>decide (300 < p.key.size) || decide (700 < p.val.size))))
theorem zFi {m:Msg} (h:m.pairs.length ≤ 1000):zh7 m 0=some (bif m.pairs.any fun p=>decide (300 < p.key.size) || decide (700 < p.val.size) then .inl () else .inr ()):=
 zbi (σ:=Unit) zae (l:=m.pairs) (by omega) (L:=fun i _=>zh7 m i) (res:=fun _ _ rest=>bif rest.any fun p=>decide (300 < p.key.size) || decide (700 < p.val.size) then .inl () else .inr ()) (Inv:=fun _ _=>True)
  (fun _ _ hh=>zpv (by rw [ziu,hh] <;> rfl))
  (fun n x rest s _ hn hx hd h1 h2 h3 ih=>zpv (by
   rw [ziu,h1,cond_true,h2,Option.bind_some,zbf,zbf,List.any_cons]
   by_cases a:300 < x.key.size
   ·rw [iltT (by omega),decide_eq_true a] <;> rfl
   ·rw [iltF (by omega),decide_eq_false a,cond_false]
    by_cases b:700 < x.val.size
    ·rw [iltT (by omega),decide_eq_true b] <;> rfl
    ·rw [iltF (by omega),decide_eq_false b,cond_false,h3,ih () trivial] <;> rfl)) () trivial
theorem zxn (m:Msg):znT m=some (zo8 m):=zBy (by
 rw [zoD,zbf,zbf,zaG,zaG,zo8]
 by_cases h1:300 < m.key.size
 ·rw [iltT (by omega),decide_eq_true h1] <;> rfl
 ·rw [iltF (by omega),decide_eq_false h1,cond_false,Bool.false_or]
  by_cases h2:700 < m.val.size
  ·rw [iltT (by omega),decide_eq_true h2] <;> rfl
  ·rw [iltF (by omega),decide_eq_false h2,cond_false,Bool.false_or]
   by_cases h3:40 < m.peers.length
   ·rw [iltT (by omega),decide_eq_true h3] <;> rfl
   ·rw [iltF (by omega),decide_eq_false h3,cond_false,Bool.false_or]
    by_cases h4:20 < m.pairs.length
    ·rw [iltT (by omega),decide_eq_true h4] <;> rfl
    ·rw [iltF (by omega),decide_eq_false h4,cond_false,Bool.false_or,zFi (by omega),Option.bind_some]
     cases m.pairs.any fun p=>decide (300 < p.key.size) || decide (700 < p.val.size) <;> rfl)
structure MSm (m:Msg):Prop where
 key:m.key.size ≤ 300
 val:m.val.size ≤ 700
 peers:m.peers.length ≤ 40
 pairs:m.pairs.length ≤ 20
 all:∀ p,p ∈ m.pairs → p.key.size ≤ 300 ∧ p.val.size ≤ 700
theorem zFl {m:Msg} (h:zo8 m=false):MSm m:=by
 simp only [zo8,Bool.or_eq_false_iff,decide_eq_false_iff_not,List.any_eq_false,Bool.or_eq_true,decide_eq_true_eq,not_or] at h
 obtain ⟨h1,h2,h3,h4,h5⟩:=h
 exact ⟨by omega,by omega,by omega,by omega,fun p hp=>by have:=h5 p hp;omega⟩
theorem MSm.msz {m:Msg} (h:MSm m):MSz m:=⟨by have:=h.key;omega,by have:=h.pairs;omega,fun p hp=>by have:=(h.all p hp).1;omega⟩
theorem zta:zdp=some true:=zar ((zLv 60).call _ _ _ _ (by kernel_rfl))
theorem law_Answers {n:Node} {from_:Int} {m:Msg} (ok:NOk n) (hP:MPl m):znl n from_ m=some true:=zs4 (by
 obtain ⟨b,hb,hs⟩:=zxo n
 rw [zia,hb,Option.bind_some,zta,zxn,Option.bind_some]
 cases hbb:b with
 | true=>rfl
 | false=>
  cases hm:zo8 m with
  | true=>rfl
  | false=>
   have sm:=hs hbb
   have h:=sm.sz
   have hl:n.list.length ≤ 900:=by have:=sm.list;omega
   have hM:=(zFl hm).msz
   obtain ⟨hz,hol⟩:=zw4 (from_:=from_) (M:=m) h hl
   have e:(⟨⟨n.me.id,n.me.addr⟩,n.clock,n.joined,n.pred,n.list,n.fingers,n.store,n.pends,n.jobs,n.results,n.rid,n.jobID,n.nextBit⟩:Node)=n:=rfl
   have e0:zhh n from_ m=some (true,n.pred,n.list,n.fingers,n.store,n.pends,n.jobs,n.results):=zpy (by
    rw [zf2,zhD h,Option.bind_some]
    dsimp only
    rw [e,znN h ok hl sm.keys hM,Option.bind_some,zx5 h ok hl sm.keys hM hP,Option.bind_some]
    have hf:=zCK (n:=n) (from_:=from_) (M:=m)
    obtain ⟨⟨a,o⟩,hq⟩:∃ z,zbI n from_ m=z:=⟨_,rfl⟩
    rw [hq] at hz hol hf ⊢
    dsimp only at hz hol hf ⊢
    rw [zre hz,Option.bind_some,cond_true,zxY ⟨by omega,hf⟩,Option.bind_some,cond_true,zre h,Option.bind_some,cond_true,zta]
    rfl)
   rw [cond_false,cond_false,e0];rfl)
end Go.Ab.Tryz
namespace Go.Ab.Tryz
open Go Go.Ab Go.Proofs Go.Lib
def Asc (l:List Pair):Prop:=(l.map Pair.key).Pairwise (fun a b=>lt a b=true)
def FitP (p:Pair):Prop:=zbG p.key=true ∧ p.val.size ≤ 512
theorem zw5:∀ {l:List Pair},(∀ k x y,l[k]?=some x → l[k + 1]?=some y → lt x.key y.key=true) → Asc l
 | [],_=>List.Pairwise.nil
 | [x],_=>List.pairwise_singleton _ _
 | x :: y :: l,h=>by
  have ih:=zw5 (l:=y :: l) (fun k a b ha hb=>h (k + 1) a b ha hb)
  have h0:=h 0 x y rfl rfl
  refine List.pairwise_cons.2 ⟨fun z hz=>?_,ih⟩
  rcases List.mem_cons.1 hz with rfl | hz'
  ·exact h0
  ·exact zxl h0 ((List.pairwise_cons.1 ih).1 z hz')
theorem zlE {l:List Pair}:rightB l=true ↔ l.length ≤ 64 ∧ (∀ p,p ∈ l → FitP p) ∧ Asc l:=by
 unfold rightB
 rw [Bool.and_eq_true,decide_eq_true_eq,zpD]
 constructor
 ·rintro ⟨h,hl⟩
  refine ⟨hl,fun p hp=>?_,zw5 fun k x y hx hy=>?_⟩
  ·obtain ⟨i,hi⟩:=List.getElem?_of_mem hp
   have:=h i p hi
   unfold zc3 at this
   rw [Bool.and_eq_true,Bool.and_eq_true,decide_eq_true_eq] at this
   exact ⟨this.1,this.2.1⟩
  ·have:=h (k + 1) y hy
   rw [Nat.zero_add] at this
   unfold zc3 at this
   rw [Bool.and_eq_true,Bool.and_eq_true] at this
   have h3:=this.2.2
   dsimp only at h3
   rw [hx] at h3
   exact h3
 ·rintro ⟨hl,hf,ha⟩
  refine ⟨fun i x hx=>?_,hl⟩
  obtain ⟨h1,h2⟩:=hf x (List.mem_of_getElem? hx)
  rw [Nat.zero_add]
  unfold zc3
  rw [h1,decide_eq_true h2,Bool.true_and,Bool.true_and]
  cases i with
  | zero=>rfl
  | succ k=>
   have hk:k + 1 < l.length:=(List.getElem?_eq_some_iff.1 hx).1
   dsimp only
   rw [List.getElem?_eq_getElem (by omega:k < l.length)]
   dsimp only
   have:=List.pairwise_iff_getElem.1 ha k (k + 1) (by simp;omega) (by simp;omega) (by omega)
   rw [List.getElem_map,List.getElem_map] at this
   rw [(List.getElem?_eq_some_iff.1 hx).2] at this
   exact this
theorem zFS (key val:ByteArray) (l:List Pair):(setP key val l).map Pair.key=l.map Pair.key:=by
 induction l with
 | nil=>rfl
 | cons x l ih=>rw [setP];cases isAt key x <;> simp [ih]
theorem zHm {key val:ByteArray} {l:List Pair} {p:Pair}:p ∈ setP key val l → p ∈ l ∨ (p.val=val ∧ ∃ q,q ∈ l ∧ p.key=q.key):=by
 induction l with
 | nil=>intro h;cases h
 | cons x l ih=>
  rw [setP]
  cases isAt key x with
  | true=>
   intro h
   rcases List.mem_cons.1 h with rfl | h
   ·exact .inr ⟨rfl,x,List.mem_cons_self ..,rfl⟩
   ·exact .inl (List.mem_cons_of_mem _ h)
  | false=>
   intro h
   rcases List.mem_cons.1 h with rfl | h
   ·exact .inl (List.mem_cons_self ..)
   ·rcases ih h with h | ⟨h,q,hq,he⟩
    ·exact .inl (List.mem_cons_of_mem _ h)
    ·exact .inr ⟨h,q,List.mem_cons_of_mem _ hq,he⟩
theorem zzk {key val:ByteArray} {l:List Pair} {p:Pair}:p ∈ insP key val l → p=⟨key,val⟩ ∨ p ∈ l:=by
 induction l with
 | nil=>intro h;exact .inl (by simpa [insP] using h)
 | cons x l ih=>
  rw [insP]
  cases isUp key x with
  | true=>intro h;rcases List.mem_cons.1 h with h | h;exact .inl h;exact .inr h
  | false=>
   intro h
   rcases List.mem_cons.1 h with rfl | h
   ·exact .inr (List.mem_cons_self ..)
   ·rcases ih h with h | h
    ·exact .inl h
    ·exact .inr (List.mem_cons_of_mem _ h)
theorem zGL {key val:ByteArray} {l:List Pair} (h:Asc l) (hn:∀ p,p ∈ l → p.key ≠ key):Asc (insP key val l):=by
 induction l with
 | nil=>exact List.pairwise_singleton _ _
 | cons x l ih=>
  obtain ⟨h1,h2⟩:=List.pairwise_cons.1 h
  rw [insP]
  cases hx:isUp key x with
  | true=>
   refine List.pairwise_cons.2 ⟨fun z hz=>?_,h⟩
   rcases List.mem_cons.1 hz with rfl | hz
   ·exact hx
   ·exact zxl hx (h1 z hz)
  | false=>
   refine List.pairwise_cons.2 ⟨fun z hz=>?_,ih h2 (fun p hp=>hn p (List.mem_cons_of_mem _ hp))⟩
   obtain ⟨q,hq,rfl⟩:=List.mem_map.1 hz
   rcases zzk hq with rfl | hq
   ·exact zGX hx (fun e=>hn x (List.mem_cons_self ..) e.symm)
   ·exact h1 _ (List.mem_map_of_mem hq)
theorem zJJ {l:List Pair} {key:ByteArray} (h:¬ 0 ≤ pl l key):(∀ p,p ∈ l → p.key ≠ key) ∧ l.find? (isAt key)=none:=by
 rcases zuI l key with ⟨_,hf,hn⟩ | ⟨n,x,hp,_⟩
 ·exact ⟨fun p hp=>zJl.1 (zmT hf p hp),hn⟩
 ·omega
theorem zsm {l:List Pair} {key val:ByteArray} (h:rightB l=true):rightB (put l key val).1=true:=by
 have h':=zlE.1 h
 obtain ⟨hl,hf,ha⟩:=h'
 unfold put
 cases hk:zbG key with
 | false=>exact h
 | true=>
  rw [cond_true]
  split
  ·exact h
  ·rename_i h5
   split
   ·refine zlE.2 ⟨by rw [zAc];exact hl,fun p hp=>?_,by unfold Asc;rw [zFS];exact ha⟩
    rcases zHm hp with hp | ⟨hv,q,hq,he⟩
    ·exact hf p hp
    ·exact ⟨by rw [he];exact (hf q hq).1,by rw [hv];omega⟩
   ·rename_i hp
    split
    ·exact h
    ·rename_i h64
     refine zlE.2 ⟨by rw [zzj];omega,fun p hp=>?_,zGL ha (zJJ hp).1⟩
     rcases zzk hp with rfl | hp
     ·exact ⟨hk,by show val.size ≤ 512;omega⟩
     ·exact hf p hp
theorem zFh (more:List Pair):∀ {l:List Pair} {met:Int},rightB l=true → rightB (mer l met more).1=true:=by
 induction more with
 | nil=>intro l met h;exact h
 | cons x r ih=>
  intro l met h
  rw [mer]
  split
  ·exact ih h
  ·split
   ·exact ih (zsm h)
   ·exact ih h
end Go.Ab.Tryz
namespace Go.Ab.Tryz
open Go Go.Ab Go.Proofs Go.Lib
open Pe (dist PeOk EnOk)
structure Like (a n:Node):Prop where
 me:a.me=n.me
 joined:a.joined=n.joined
 pred:a.pred=n.pred
 list:a.list=n.list
 fingers:a.fingers=n.fingers
theorem Like.rfl' {n:Node}:Like n n:=⟨rfl,rfl,rfl,rfl,rfl⟩
theorem Like.trans {a b c:Node} (h:Like a b) (k:Like b c):Like a c:=⟨h.me.trans k.me,h.joined.trans k.joined,h.pred.trans k.pred,h.list.trans k.list,h.fingers.trans k.fingers⟩
theorem Like.step {a n:Node} (h:Like a n) (key:Int):zbH a key=zbH n key:=by
 unfold zbH zml zej
 rw [h.me,h.pred,h.list,h.fingers]
theorem Like.ok {a n:Node} (h:Like a n) (ok:NOk n):NOk a:=⟨by rw [h.me];exact ok.me,by rw [h.pred];exact ok.pred,by rw [h.list];exact ok.list,by rw [h.fingers];exact ok.fingers⟩
theorem zD0 {n:Node} {to_:Peer} {m:Msg} {why job:Int}:Like (askN n to_ m why job).1 n ∧ (askN n to_ m why job).1.store=n.store:=by
 unfold askN
 split <;> exact ⟨⟨rfl,rfl,rfl,rfl,rfl⟩,rfl⟩
theorem zpX (to_:Peer) (fresh:Bool):∀ (cs:List (List Pair)) (n:Node),Like (zdJ to_ fresh cs n).1 n ∧ (zdJ to_ fresh cs n).1.store=n.store
 | [],n=>⟨Like.rfl',rfl⟩
 | c :: cs,n=>by
  obtain ⟨h1,h2⟩:=zD0 (n:=n) (to_:=to_) (m:=ze4 fresh c) (why:=6) (job:=0)
  obtain ⟨h3,h4⟩:=zpX to_ fresh cs (askN n to_ (ze4 fresh c) 6 0).1
  exact ⟨h3.trans h1,h4.trans h2⟩
theorem zvG (key val:ByteArray):∀ (ps:List Peer) (n:Node),Like (zcy key val ps n).1 n ∧ (zcy key val ps n).1.store=n.store
 | [],n=>⟨Like.rfl',rfl⟩
 | p :: ps,n=>by
  obtain ⟨h1,h2⟩:=zpX p true (cut8 [⟨key,val⟩]) n
  obtain ⟨h3,h4⟩:=zvG key val ps (hand n p [⟨key,val⟩] true).1
  exact ⟨h3.trans h1,h4.trans h2⟩
theorem zFc {n:Node} {key val:ByteArray} (h:(zbW n key val).2.2=0):Like (zbW n key val).1 n ∧ (zbW n key val).1.store=(put n.store key val).1 ∧ (put n.store key val).2=0:=by
 unfold zbW at h ⊢
 by_cases c:(put n.store key val).2=0
 ·rw [if_pos c]
  obtain ⟨h1,h2⟩:=zvG key val ((Pe.firms n.list).take 2) (zbq n (put n.store key val).1)
  exact ⟨h1.trans ⟨rfl,rfl,rfl,rfl,rfl⟩,h2,c⟩
 ·rw [if_neg c] at h
  exact absurd h c
theorem zFz (l:List Pair) (key val:ByteArray):(put l key val).2=0 ∨ (put l key val).2=5 ∨ (put l key val).2=10 ∨ (put l key val).2=7:=by
 unfold put
 cases zbG key with
 | false=>exact .inr (.inr (.inr rfl))
 | true=>
  rw [cond_true]
  split
  ·exact .inr (.inl rfl)
  ·split
   ·exact .inl rfl
   ·split
    ·exact .inr (.inr (.inl rfl))
    ·exact .inl rfl
theorem zC8 (n:Node) (key:ByteArray):mayN n key=0 ∨ mayN n key=14 ∨ mayN n key=17:=by
 unfold mayN
 split
 ·split
  ·exact .inl rfl
  ·exact .inr (.inl rfl)
 ·exact .inr (.inr rfl)
theorem zxe {s:ByteArray} (h:zbG s=true):s.size ≤ 96:=by
 unfold zbG at h
 rw [Bool.and_eq_true,Bool.and_eq_true,decide_eq_true_eq] at h
 exact h.1.1.2
end Go.Ab.Tryz
namespace Go.Ab.Tryz
open Go Go.Ab
open Pe (PeOk EnOk)
theorem peOk {p:Peer} (h:p.Ok):PeOk p:=⟨h.1.1,by have:=h.1.2;omega⟩
theorem enOk {l:List Entry} (h:OkL Entry.Ok l):EnOk l:=fun x hx=>peOk (h.1 x hx).1
theorem nodeOk {n:Node} (h:n.Ok):NOk n:=by
 obtain ⟨h1,h2,h3,h4,h5,h6,h7⟩:=h
 exact ⟨peOk h1,enOk h4,enOk h5,fun x hx=>peOk (h6.1 x hx).2⟩
theorem msgOk {m:Msg} (h:m.Ok):MPl m:=by
 obtain ⟨h1,h2,h3,h4,h5,h6,h7,h8,h9,h10⟩:=h
 exact ⟨⟨h5.1,by have:=h5.2;omega⟩,peOk h8⟩
end Go.Ab.Tryz
namespace Go.Ab.Tryz
open Go Go.Ab Go.Proofs Go.Lib
open Pe (dist PeOk EnOk RightP)
theorem zps {l:List Pair} (hl:l.length ≤ 1000) (hk:Keys l):zln l=some (rightB l):=by
 have hprev:∀ {k:Nat} {x:Pair},l[k + 1]?=some x → ∃ y,l[k]?=some y ∧ xget zae l (Ops.std.isub .i64 ((k + 1:Nat):Int) 1)=some y:=fun {k x} hx=>by
  have hk':k < l.length:=by have:=(List.getElem?_eq_some_iff.1 hx).1;omega
  refine ⟨l[k],List.getElem?_eq_getElem hk',?_⟩
  have:=zCr (a:=k + 1) (b:=1) (by omega) (by omega)
  rw [show ((1:Nat):Int)=1 from rfl] at this
  rw [this,zbd,show k + 1 - 1=k by omega];exact List.getElem?_eq_getElem hk'
 have hb:∀ (n:Nat) (x:Pair),l[n]?=some x → ∀ {β:Type} (a b:Option β),(bif zbG x.key then bif Ops.std.ilt 512 (Ops.std.slen x.val) then b else bif Ops.std.ilt 0 (n:Int) then (xget zae l (Ops.std.isub .i64 (n:Int) 1)).bind fun x1=>bif lt x1.key x.key then a else b else a else b)=bif zc3 l n x then a else b:=fun n x hx {β} a b=>by
  unfold zc3
  cases zbG x.key with
  | false=>rfl
  | true=>
   rw [cond_true,Bool.true_and,zbf,zaM,zas]
   by_cases h5:512 < x.val.size
   ·rw [if_pos (by omega),decide_eq_false (by omega)];rfl
   ·rw [if_neg (by omega),decide_eq_true (by omega),Bool.true_and]
    cases n with
    | zero=>rfl
    | succ k=>
     obtain ⟨y,hy,hg⟩:=hprev hx
     rw [iltT (by omega),cond_true,hg,Option.bind_some]
     dsimp only
     rw [hy]
 have e1:=zpE zae (l:=l) (by omega) (p:=zc3 l) (L:=fun i=>zc5 l i)
  (fun h=>zjB (by simp [zd9,h]))
  (fun n x r hx h1 h2 hp h=>zjB (by
   have:=hb n x hx (zc5 l (Ops.std.iadd .i64 (n:Int) 1)) (some (.inl ()))
   rw [zd9,h1,h2,cond_true,Option.bind_some,zjT (hk x (List.mem_of_getElem? hx)),Option.bind_some]
   simp only [zFW]
   rw [this,hp,cond_true];exact h))
  (fun n x hx h1 h2 hp=>zjB (by
   have:=hb n x hx (zc5 l (Ops.std.iadd .i64 (n:Int) 1)) (some (.inl ()))
   rw [zd9,h1,h2,cond_true,Option.bind_some,zjT (hk x (List.mem_of_getElem? hx)),Option.bind_some]
   simp only [zFW]
   rw [this,hp,cond_false]))
 refine zyi ?_
 rw [zl9,e1,Option.bind_some,rightB,zaG,zb1,show decide ((l.length:Int) ≤ 64)=decide (l.length ≤ 64) from decide_eq_decide.2 ⟨fun h=>by omega,fun h=>by omega⟩]
 cases allI (zc3 l) 0 l <;> rfl
def good (m:Msg):Prop:=zm8 m=0 ∧ Fit m
theorem zmz {k rid code id:Int} {has:Bool} {key val:ByteArray} {peer:Peer} {peers:List Peer} {pairs:List Pair} (hk:¬ (k < 1 ∨ 12 < k)) (hb:bare ⟨k,rid,code,has,id,key,val,peer,peers,pairs⟩=⟨k,rid,code,has,id,key,val,peer,peers,pairs⟩)
  (n7:k ≠ 7) (n8:k ≠ 8) (hp:∀ p,p ∈ pairs → FitP p) (h1:val.size ≤ 512) (h2:peers.length ≤ 16) (h3:pairs.length ≤ 8) (s1:k=2 → peers.length ≠ 0) (s2:k=10 → pairs.length ≠ 0) (s3:k=12 → code ≠ 0) (hks:key.size < 1000000):good ⟨k,rid,code,has,id,key,val,peer,peers,pairs⟩:=by
 have e0:zdr pairs=false:=by
  unfold zdr
  rw [List.any_eq_false]
  intro p hp'
  rw [(hp p hp').1];simp
 have e4:zjS pairs=false:=by
  unfold zjS
  rw [List.any_eq_false]
  intro p hp'
  have:=(hp p hp').2
  simp only [decide_eq_true_eq];omega
 have e1:znz ⟨k,rid,code,has,id,key,val,peer,peers,pairs⟩=false:=by
  show (k == 7 || k == 8)=false
  rw [beq_eq_false_iff_ne.2 n7,beq_eq_false_iff_ne.2 n8];rfl
 have e2:zlw ⟨k,rid,code,has,id,key,val,peer,peers,pairs⟩=false:=by
  show (decide (512 < val.size) || decide (16 < peers.length) || decide (8 < pairs.length) || zjS pairs)=false
  rw [decide_eq_false (by omega),decide_eq_false (by omega),decide_eq_false (by omega),e4];rfl
 have e3:zie ⟨k,rid,code,has,id,key,val,peer,peers,pairs⟩=false:=by
  show ((decide (k=2) && decide (peers.length=0)) || (decide (k=10) && decide (pairs.length=0)) || (decide (k=12) && decide (code=0)))=false
  simp only [Bool.or_eq_false_iff,Bool.and_eq_false_iff,decide_eq_false_iff_not]
  refine ⟨⟨?_,?_⟩,?_⟩
  ·by_cases c:k=2
   ·exact .inr (s1 c)
   ·exact .inl c
  ·by_cases c:k=10
   ·exact .inr (s2 c)
   ·exact .inl c
  ·by_cases c:k=12
   ·exact .inr (s3 c)
   ·exact .inl c
 refine ⟨?_,⟨hks,by show val.size < _;omega,by show peers.length ≤ _;omega,by show pairs.length ≤ _;omega,fun p hp'=>by have:=zxe (hp p hp').1;omega⟩⟩
 rw [zm8,if_neg hk,hb,zdZ,cond_true,e1,Bool.false_and,Bool.false_or]
 show (bif zdr pairs then (7:Int) else bif zlw _ then 5 else bif zie _ then 2 else 0)=0
 rw [e0,e2,e3];rfl
theorem zo6:∀ p,p ∈ ([]:List Pair) → FitP p:=fun p h=>by cases h
theorem ztJ (rid:Int):good ⟨6,rid,0,false,0,⟨#[]⟩,⟨#[]⟩,⟨0,0⟩,[],[]⟩:=zmz (by decide) rfl (by decide) (by decide) zo6 (by decide) (by decide) (by decide) (fun h=>absurd h (by decide)) (fun h=>absurd h (by decide)) (fun h=>absurd h (by decide)) (by decide)
theorem zpW (rid:Int) {code:Int} (h:code ≠ 0):good ⟨12,rid,code,false,0,⟨#[]⟩,⟨#[]⟩,⟨0,0⟩,[],[]⟩:=zmz (by decide) rfl (by decide) (by decide) zo6 (by decide) (by decide) (by decide) (fun h=>absurd h (by decide)) (fun h=>absurd h (by decide)) (fun _=>h) (by decide)
theorem zF0 {n:Node} {key:Int} (h:(zbH n key).2.2=false):(zbH n key).2.1.length ≠ 0:=by
 revert h
 unfold zbH zml
 (repeat' split) <;> first | (intro h;cases h;done) | (intro _;assumption)
theorem zE4 (n:Node) (key rid:Int):good ⟨2,rid,0,(zmi n key).has,0,⟨#[]⟩,⟨#[]⟩,⟨0,0⟩,(zmi n key).peers,[]⟩:=by
 have h1:=zAf n key
 have h2:(zmi n key).peers.length ≤ 16 ∧ (zmi n key).peers.length ≠ 0:=by
  show List.length (if (zbH n key).2.2=true then [(zbH n key).1] else (zbH n key).2.1) ≤ 16 ∧ List.length (if (zbH n key).2.2=true then [(zbH n key).1] else (zbH n key).2.1) ≠ 0
  by_cases c:(zbH n key).2.2=true
  ·rw [if_pos c];exact ⟨by simp,by simp⟩
  ·rw [if_neg c];exact ⟨by omega,zF0 (by simpa using c)⟩
 exact zmz (by decide) rfl (by decide) (by decide) zo6 (by decide) h2.1 (by decide) (fun _=>h2.2) (fun h=>absurd h (by decide)) (fun h=>absurd h (by decide)) (by decide)
theorem zGF (n:Node) (rid:Int):good ⟨4,rid,0,(askM n).has,0,⟨#[]⟩,⟨#[]⟩,(askM n).peer,(askM n).peers,[]⟩:=by
 have hb:∀ (b:Bool) (p:Peer) (ps:List Peer),(b=false → p=⟨0,0⟩) → bare ⟨4,rid,0,b,0,⟨#[]⟩,⟨#[]⟩,p,ps,[]⟩=⟨4,rid,0,b,0,⟨#[]⟩,⟨#[]⟩,p,ps,[]⟩:=fun b p ps h=>by
  cases b with
  | true=>rfl
  | false=>rw [h rfl];rfl
 refine zmz (by decide) (hb _ _ _ ?_) (by decide) (by decide) zo6 (by decide) (List.length_take_le ..) (by decide) (fun h=>absurd h (by decide)) (fun h=>absurd h (by decide)) (fun h=>absurd h (by decide)) (by decide)
 show (ziY n).1=false → (ziY n).2=⟨0,0⟩
 unfold ziY
 cases n.pred with
 | nil=>exact fun _=>rfl
 | cons x r=>exact fun h=>by cases h
theorem zGG (n:Node) (key:ByteArray) (rid:Int) (h:∀ p,p ∈ n.store → FitP p):good ⟨9,rid,0,(gotM n key).has,0,⟨#[]⟩,(gotM n key).val,⟨0,0⟩,[],[]⟩:=by
 have hb:∀ (b:Bool) (v:ByteArray),(b=false → v=⟨#[]⟩) → bare ⟨9,rid,0,b,0,⟨#[]⟩,v,⟨0,0⟩,[],[]⟩=⟨9,rid,0,b,0,⟨#[]⟩,v,⟨0,0⟩,[],[]⟩:=fun b v h=>by
  cases b with
  | true=>rfl
  | false=>rw [h rfl];rfl
 have hg:((getP n.store key).2=false → (getP n.store key).1=⟨#[]⟩) ∧ (getP n.store key).1.size ≤ 512:=by
  unfold getP
  cases hf:n.store.find? (isAt key) with
  | none=>exact ⟨fun _=>rfl,by decide⟩
  | some p=>exact ⟨(fun e=>by cases e),(h p (List.mem_of_find?_eq_some hf)).2⟩
 exact zmz (by decide) (hb _ _ hg.1) (by decide) (by decide) zo6 hg.2 (by decide) (by decide) (fun h=>absurd h (by decide)) (fun h=>absurd h (by decide)) (fun h=>absurd h (by decide)) (by decide)
theorem zE5 (rid:Int) (fresh:Bool) {c:List Pair} (h:∀ p,p ∈ c → FitP p) (h8:c.length ≤ 8) (h0:c.length ≠ 0):good ⟨10,rid,0,fresh,0,⟨#[]⟩,⟨#[]⟩,⟨0,0⟩,[],c⟩:=zmz (by decide) rfl (by decide) (by decide) h (by decide) (by decide) h8 (fun h=>absurd h (by decide)) (fun _=>h0) (fun h=>absurd h (by decide)) (by decide)
def AGood (l:List Out):Prop:=∀ o,o ∈ l → good o.msg
theorem AGood.nil:AGood []:=fun o ho=>by cases ho
theorem AGood.one {o:Out} (h:good o.msg):AGood [o]:=fun q hq=>by rw [List.mem_singleton.1 hq];exact h
theorem AGood.cons {o:Out} {l:List Out} (h:good o.msg) (hl:AGood l):AGood (o :: l):=fun q hq=>by
 rcases List.mem_cons.1 hq with e | e
 ·rw [e];exact h
 ·exact hl q e
theorem AGood.app {a b:List Out} (ha:AGood a) (hb:AGood b):AGood (a ++ b):=fun q hq=>(List.mem_append.1 hq).elim (ha q) (hb q)
theorem zy1 {l c:List Pair} (hc:c ∈ cut8 l):(∀ p,p ∈ c → p ∈ l) ∧ c.length ≠ 0:=by
 unfold cut8 at hc
 obtain ⟨k,hk,rfl⟩:=List.mem_map.1 hc
 have hk:=List.mem_range.1 hk
 refine ⟨fun p hp=>List.mem_of_mem_drop (List.mem_of_mem_take hp),?_⟩
 rw [List.length_take,List.length_drop]
 omega
theorem zvx (to_:Peer) (fresh:Bool):∀ (cs:List (List Pair)) (n:Node),(∀ c,c ∈ cs → (∀ p,p ∈ c → FitP p) ∧ c.length ≤ 8 ∧ c.length ≠ 0) → AGood (zdJ to_ fresh cs n).2
 | [],n,h=>AGood.nil
 | c :: cs,n,h=>by
  obtain ⟨h1,h2,h3⟩:=h c (by simp)
  refine AGood.app ?_ (zvx to_ fresh cs _ fun x hx=>h x (by simp [hx]))
  unfold askN
  split
  ·exact AGood.nil
  ·exact AGood.one (zE5 _ fresh h1 h2 h3)
theorem zxc {n:Node} {to_:Peer} {l:List Pair} {fresh:Bool} (h:∀ p,p ∈ l → FitP p):AGood (hand n to_ l fresh).2:=
 zvx to_ fresh (cut8 l) n fun c hc=>⟨fun p hp=>h p ((zy1 hc).1 p hp),zwm hc,(zy1 hc).2⟩
theorem zvF {key val:ByteArray} (h:FitP ⟨key,val⟩):∀ (ps:List Peer) (n:Node),AGood (zcy key val ps n).2
 | [],n=>AGood.nil
 | p :: ps,n=>AGood.app (zxc fun q hq=>by rw [List.mem_singleton.1 hq];exact h) (zvF h ps _)
theorem zJK {l:List Pair} {key val:ByteArray} (h:(put l key val).2=0):FitP ⟨key,val⟩:=by
 unfold put at h
 cases hk:zbG key with
 | false=>rw [hk] at h;exact absurd h (by show ¬ ((7:Int)=0);decide)
 | true=>
  rw [hk,cond_true] at h
  by_cases c:512 < val.size
  ·rw [if_pos c] at h;exact absurd h (by show ¬ ((5:Int)=0);decide)
  ·exact ⟨hk,by show val.size ≤ 512;omega⟩
theorem zFb {n:Node} {key val:ByteArray}:AGood (zbW n key val).2.1:=by
 unfold zbW
 split
 ·rename_i h;exact zvF (zJK h) _ _
 ·exact AGood.nil
theorem zFq {n:Node} {from_:Int} {p:Peer} (h:∀ q,q ∈ n.store → FitP q):AGood (zdL n from_ p).2:=by
 have hh:AGood (hand (pn n p) p (rng n.store n.me.id p.id) false).2:=zxc fun q hq=>h q (List.mem_filter.1 hq).1
 unfold zdL
 (repeat' split) <;> first | exact hh | exact AGood.nil
theorem zI5 {n:Node} {key val:ByteArray} (h:(zbW n key val).2.2 ≠ 0):Ops.std.iwrap .u8 (zbW n key val).2.2 ≠ 0:=by
 unfold zbW at h ⊢
 by_cases c:(put n.store key val).2=0
 ·rw [if_pos c] at h;exact absurd rfl h
 ·rw [if_neg c]
  show Ops.std.iwrap .u8 (put n.store key val).2 ≠ 0
  rcases zFz n.store key val with e | e | e | e
  ·exact absurd e c
  ·rw [e];decide
  ·rw [e];decide
  ·rw [e];decide
theorem zFg {n:Node} {key:ByteArray} (h:mayN n key ≠ 0):Ops.std.iwrap .u8 (mayN n key) ≠ 0:=by
 rcases zC8 n key with e | e | e
 ·exact absurd e h
 ·rw [e];decide
 ·rw [e];decide
structure Ans (n:Node) (from_:Int) (M:Msg) (r:Node × List Out):Prop where
 list:RightP n.me r.1.list
 store:rightB r.1.store=true
 all:AGood r.2
 first:∃ x rest,r.2=x :: rest ∧ x.to_=⟨0,from_⟩ ∧ x.msg.rid=M.rid ∧ ansB M.kind x.msg.kind=true
theorem zsl:∀ (more:List Pair) {l:List Pair},rightB l=true → rightB (zlC l more)=true
 | [],l,h=>h
 | p :: r,l,h=>zsl r (zsm h)
theorem zAI {l more:List Pair} {fresh:Bool} (h:rightB l=true):rightB (zk2 l more fresh)=true:=by
 unfold zk2
 split
 ·exact zsl more h
 ·exact zFh more h
theorem zDh {n:Node} {from_:Int} {p:Peer} (rl:RightP n.me n.list) (rs:rightB n.store=true):RightP n.me (zdL n from_ p).1.list ∧ rightB (zdL n from_ p).1.store=true:=by
 have ha:=Pe.right_add (p:=p) rl
 obtain ⟨h1,h2⟩:=zpX p false (cut8 (rng n.store n.me.id p.id)) (pn n p)
 have hh:RightP n.me (hand (pn n p) p (rng n.store n.me.id p.id) false).1.list ∧ rightB (hand (pn n p) p (rng n.store n.me.id p.id) false).1.store=true:=by
  unfold hand
  rw [h1.list,h2];exact ⟨ha,rs⟩
 unfold zdL
 (repeat' split) <;> first | exact hh | exact ⟨ha,rs⟩ | exact ⟨rl,rs⟩
theorem zyM {n:Node} {from_:Int} {M:Msg} (rl:RightP n.me n.list) (rs:rightB n.store=true) (ha:zet M.kind=true):Ans n from_ M (zjQ n from_ M):=by
 have hst:∀ p,p ∈ n.store → FitP p:=(zlE.1 rs).2.1
 rw [zjQ]
 rcases zrL.1 ha with hk | hk | hk | hk | hk | hk | hk
 ·rw [if_pos hk]
  refine ⟨rl,rs,AGood.one ?_,_,_,rfl,rfl,rfl,?_⟩
  ·by_cases c:n.joined=true
   ·rw [if_pos c];exact zE4 n M.id M.rid
   ·rw [if_neg c];exact zpW M.rid (by decide)
  ·rw [hk]
   by_cases c:n.joined=true
   ·rw [if_pos c];rfl
   ·rw [if_neg c];rfl
 ·rw [if_neg (by rw [hk];decide),if_pos hk]
  exact ⟨rl,rs,AGood.one (zGF n M.rid),_,_,rfl,rfl,rfl,by rw [hk];rfl⟩
 ·rw [if_neg (by rw [hk];decide),if_neg (by rw [hk];decide),if_pos hk]
  obtain ⟨h1,h2⟩:=zDh (from_:=from_) (p:=M.peer) rl rs
  exact ⟨h1,h2,AGood.cons (ztJ M.rid) (zFq hst),_,_,rfl,rfl,rfl,by rw [hk];rfl⟩
 ·rw [if_neg (by rw [hk];decide),if_neg (by rw [hk];decide),if_neg (by rw [hk];decide),if_pos hk,putN]
  by_cases c1:mayN n M.key=0
  ·rw [if_pos c1]
   by_cases c2:(zbW n M.key M.val).2.2=0
   ·rw [if_pos c2]
    obtain ⟨h1,h2,h3⟩:=zFc c2
    exact ⟨by show RightP n.me (zbW n M.key M.val).1.list;rw [h1.list];exact rl,by show rightB (zbW n M.key M.val).1.store=true;rw [h2];exact zsm rs,AGood.cons (ztJ M.rid) zFb,_,_,rfl,rfl,rfl,by rw [hk];rfl⟩
   ·rw [if_neg c2]
    exact ⟨rl,rs,AGood.one (zpW M.rid (zI5 c2)),_,_,rfl,rfl,rfl,by rw [hk];rfl⟩
  ·rw [if_neg c1]
   exact ⟨rl,rs,AGood.one (zpW M.rid (zFg c1)),_,_,rfl,rfl,rfl,by rw [hk];rfl⟩
 ·rw [if_neg (by rw [hk];decide),if_neg (by rw [hk];decide),if_neg (by rw [hk];decide),if_neg (by rw [hk];decide),if_pos hk,getN]
  by_cases c1:mayN n M.key=0
  ·rw [if_pos c1]
   exact ⟨rl,rs,AGood.one (zGG n M.key M.rid hst),_,_,rfl,rfl,rfl,by rw [hk];rfl⟩
  ·rw [if_neg c1]
   exact ⟨rl,rs,AGood.one (zpW M.rid (zFg c1)),_,_,rfl,rfl,rfl,by rw [hk];rfl⟩
 ·rw [if_neg (by rw [hk];decide),if_neg (by rw [hk];decide),if_neg (by rw [hk];decide),if_neg (by rw [hk];decide),if_neg (by rw [hk];decide),if_pos hk]
  exact ⟨rl,zAI rs,AGood.one (ztJ M.rid),_,_,rfl,rfl,rfl,by rw [hk];rfl⟩
 ·rw [if_neg (by rw [hk];decide),if_neg (by rw [hk];decide),if_neg (by rw [hk];decide),if_neg (by rw [hk];decide),if_neg (by rw [hk];decide),if_neg (by rw [hk];decide)]
  exact ⟨rl,rs,AGood.one (ztJ M.rid),_,_,rfl,rfl,rfl,by rw [hk];rfl⟩
theorem zHh {n:Node} {from_:Int} {m:Msg} {out:List Out} {b:Node} (hl:out.length ≤ 1000) (h:AGood out):zdF n from_ m out 0 b=some (.inr (out,b)):=
 zbi (σ:=Unit) eOut (l:=out) (by omega) (L:=fun i _=>zdF n from_ m out i b) (res:=fun _ _ _=>.inr (out,b)) (Inv:=fun _ _=>True)
  (fun _ _ hh=>zkm (by rw [zei,hh];rfl))
  (fun k x rest s _ hn hx hd h1 h2 h3 ih=>zkm (by
   obtain ⟨g1,g2⟩:=h x (List.mem_of_getElem? hx)
   rw [zei,h1,cond_true,h2,Option.bind_some,zzP g2,Option.bind_some,g1,ieqT rfl,cond_true,h3]
   exact ih () trivial)) () trivial
theorem zz1 {n a:Node} {from_:Int} {m:Msg} {out:List Out} (hl:out.length ≤ 1000) (hg:AGood out) (h0:zet m.kind=false → out=[])
  (h1:zet m.kind=true → ∃ x rest,out=x :: rest ∧ x.to_=⟨0,from_⟩ ∧ x.msg.rid=m.rid ∧ ansB m.kind x.msg.kind=true):ze6 n from_ m out a=some (true,a):=zrC (by
 rw [zhi,zHh hl hg,Option.bind_some]
 dsimp only
 rw [zt4,Option.bind_some,zta]
 cases ha:zet m.kind with
 | false=>
  rw [cond_false,h0 ha,zaG,ieqT (by simp),cond_true];rfl
 | true=>
  obtain ⟨x,rest,rfl,e1,e2,e3⟩:=h1 ha
  have hx:xget eOut (x :: rest) 0=some x:=zbd eOut (x :: rest) 0
  rw [cond_true,zaG,zaM,decide_eq_true (by simp <;> omega),cond_true,hx,Option.bind_some,e1]
  dsimp only
  rw [ieqT rfl,cond_true,ieqT rfl,cond_true,ieqT e2,cond_true,zkJ,Option.bind_some,e3,cond_true]
  rfl)
theorem law_Right {n:Node} {from_:Int} {m:Msg} (ok:NOk n) (hP:MPl m):zpz n from_ m=some true:=zu4 (by
 obtain ⟨b,hb,hs⟩:=zxo n
 rw [zjC,hb,Option.bind_some,zta,zxn,Option.bind_some]
 cases hbb:b with
 | true=>rfl
 | false=>
  cases hm:zo8 m with
  | true=>rfl
  | false=>
   have sm:=hs hbb
   have h:=sm.sz
   have hl:n.list.length ≤ 900:=by have:=sm.list;omega
   have mm:=zFl hm
   have hM:=mm.msz
   have hfit:Fit m:=⟨by have:=mm.key;omega,by have:=mm.val;omega,by have:=mm.peers;omega,by have:=mm.pairs;omega,fun p hp=>by have:=(mm.all p hp).1;omega⟩
   rw [cond_false,cond_false,Pe.peers_Right_eq (by omega),Option.bind_some]
   cases hr:dcd (RightP n.me n.list) with
   | false=>rfl
   | true=>
    have rl:=zmx.1 hr
    rw [cond_true,zps (by have:=h.store;omega) sm.keys,Option.bind_some]
    cases hrs:rightB n.store with
    | false=>rfl
    | true=>
     rw [cond_true,zzr hfit,Option.bind_some,zaI,zas]
     by_cases c:zm8 m=0
     ·rw [if_pos c]
      refine zrD ?_
      have hz:=zw4 (from_:=from_) (M:=m) h hl
      have key:RightP n.me (zbI n from_ m).1.list ∧ rightB (zbI n from_ m).1.store=true ∧ ze6 n from_ m (zbI n from_ m).2 (zbI n from_ m).1=some (true,(zbI n from_ m).1):=by
       cases ha:zet m.kind with
       | false=>
        have e:zbI n from_ m=(n,[]):=by rw [zbI,ha];rfl
        rw [e]
        exact ⟨rl,hrs,zz1 (Nat.zero_le _) AGood.nil (fun _=>rfl) (fun h=>by rw [ha] at h;cases h)⟩
       | true=>
        have e:zbI n from_ m=zjQ n from_ m:=by rw [zbI,ha];rfl
        have A:=zyM (from_:=from_) (M:=m) rl hrs ha
        rw [e] at hz ⊢
        exact ⟨A.list,A.store,zz1 (by omega) A.all (fun h=>by rw [ha] at h;cases h) (fun _=>A.first)⟩
      have hks:Keys (zbI n from_ m).1.store:=fun p hp=>by have:=zxe ((zlE.1 key.2.1).2.1 p hp).1;omega
      have e1:=znN (from_:=from_) h ok hl sm.keys hM
      obtain ⟨⟨a,o⟩,hq⟩:∃ z,zbI n from_ m=z:=⟨_,rfl⟩
      rw [hq] at hz key hks e1
      dsimp only at hz key hks
      rw [zhj,e1,Option.bind_some]
      dsimp only
      rw [Pe.peers_Right_eq hz.1.list,Option.bind_some,zmx.2 key.1,cond_true,zps (by have:=hz.1.store;omega) hks,Option.bind_some,key.2.1,cond_true,key.2.2]
      rfl
     ·rw [if_neg c])
end Go.Ab.Tryz
