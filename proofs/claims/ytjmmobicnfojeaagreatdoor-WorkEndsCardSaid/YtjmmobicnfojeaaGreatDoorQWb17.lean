/- Our texts for this statement, merged: what its theorem leads to. -/
import Derived.Lib.DecodeN
import Derived.Lib.RuneCountTail
import Derived.Lib.TrimU
import Derived.Test.YtjmmobicnfojeaaGreatDoorQWb10
import Derived.Test.YtjmmobicnfojeaaGreatDoorQWb11
import Derived.Test.YtjmmobicnfojeaaGreatDoorQWb12
import Derived.Test.YtjmmobicnfojeaaGreatDoorQWb13
import Derived.Test.YtjmmobicnfojeaaGreatDoorQWb14
import Derived.Test.YtjmmobicnfojeaaGreatDoorQWb15
import Derived.Test.YtjmmobicnfojeaaGreatDoorQWb16
set_option linter.unusedVariables false
set_option linter.unusedSimpArgs false
noncomputable section
namespace Go.Ab.Tryz.Pe
open Go.Ab.Tryz Go Go.Ab Go.Proofs
def PeOk (p:Peer):Prop:=0 ≤ p.id ∧ p.id < 18446744073709551616
def dist (a b:Int):Int:=(b - a) % 18446744073709551616
theorem ring_Dist_eq (a b:Int):zlB a b=some (dist a b):=zt9 (by
 show some (IntKind.u64.wrap (b - a))=_
 rw [zfY];rfl)
theorem r03_Dist_eq {a b:Int} (ha:0 ≤ a) (ha2:a < 18446744073709551616) (hb:0 ≤ b) (hb2:b < 18446744073709551616):zql a b=some (dist a b):=zC7 (by
 unfold zqm
 show (bif Ops.std.ile a b then some (IntKind.u64.wrap (b - a)) else some (IntKind.u64.wrap (IntKind.u64.wrap (18446744073709551615 - IntKind.u64.wrap (a - b)) + 1)))=_
 simp only [zfY,dist,zbv,zaf]
 split
 ·rfl
 ·congr 1;omega)
def ahead (me a b:Peer):Bool:=decide (dist me.id a.id < dist me.id b.id ∨ dist me.id a.id=dist me.id b.id ∧ a.addr < b.addr)
def isAt (addr:Int) (e:Entry):Bool:=decide (e.peer.addr=addr)
def zqk (l:List Entry) (addr:Int):Int:=fstI (isAt addr) l
def drp (addr:Int) (l:List Entry):List Entry:=l.filter fun e=>!isAt addr e
theorem zn6 (l:List Entry) (n:Nat) (h:n ≤ l.length):xsub zat l 0 (n:Int)=some (l.take n):=by
 rw [zim,if_pos (by omega)];simp
theorem zn5 (l:List Entry) (n:Nat) (h:n ≤ l.length):xsub zat l (n:Int) (xlen zat l)=some (l.drop n):=by
 rw [zim,zaS,if_pos (by omega)];simp
def firms (l:List Entry):List Peer:=l.flatMap fun x=>bif Ops.std.ile x.misses 0 then [x.peer] else []
theorem some_eq {l:List Entry} (hl:l.length ≤ 1000):zjK l=some (firms l) ∧ zmT l=some (firms l) ∧ True:=by
 have h1:=ztW zat (l:=l) (by omega) (f:=fun x=>bif Ops.std.ile x.misses 0 then [x.peer] else []) (L:=fun i acc=>zeq l i acc) 1 (fun x _=>by cases Ops.std.ile x.misses 0 <;> simp)
  (fun acc h=>zl4 (by simp [zdz,h]))
  (fun n x acc r ha hn _ h1 h2 h=>zl4 (by
   have hf:zqg x=some (Ops.std.ile x.misses 0):=zzr rfl
   cases hx:Ops.std.ile x.misses 0 with
   | false=>simp only [hx,cond_false,List.append_nil] at h;simp [zdz,h1,h2,hf,hx,h]
   | true=>simp only [hx,cond_true] at h;simp [zdz,h1,h2,hf,hx,h,zaP zai (b:=16) (l:=acc) (l':=[x.peer]) (by simp;omega) (by omega)]))
 have h2:=ztW zat (l:=l) (by omega) (f:=fun x=>bif Ops.std.ile x.misses 0 then [x.peer] else []) (L:=fun i acc=>ziy l i acc) 1 (fun x _=>by cases Ops.std.ile x.misses 0 <;> simp)
  (fun acc h=>zrf (by simp [zgg,h]))
  (fun n x acc r ha hn _ h1 h2 h=>zrf (by
   have hf:Ops.std.ilt x.misses 1=Ops.std.ile x.misses 0:=by rw [zaA,zbv];exact decide_eq_decide.2 (by omega)
   cases hx:Ops.std.ile x.misses 0 with
   | false=>simp only [hx,cond_false,List.append_nil] at h;simp [zgg,h1,h2,hf,hx,h]
   | true=>simp only [hx,cond_true] at h;simp [zgg,h1,h2,hf,hx,h,zaP zai (b:=16) (l:=acc) (l':=[x.peer]) (by simp;omega) (by omega)]))
 refine ⟨zzo ?_,zDe ?_,trivial⟩
 ·simp [zmQ,zwB (l:=l) (r:=firms l) (by simp [zkB,h1,firms])]
 ·simp [zqs,h2,firms]
theorem firms_le (l:List Entry):(firms l).length ≤ l.length:=by
 unfold firms
 induction l with
 | nil=>exact Nat.le_refl _
 | cons x l ih=>rw [List.flatMap_cons,List.length_append,List.length_cons];cases Ops.std.ile x.misses 0 <;> simp only [cond_true,cond_false,List.length_cons,List.length_nil] <;> omega
theorem Entry.ext3 {a b:Entry}:a=b ↔ a.peer.id=b.peer.id ∧ a.peer.addr=b.peer.addr ∧ a.misses=b.misses:=by
 rw [Entry.ext',Peer.ext',and_assoc]
theorem r27_Same_eq {a b:List Entry} (hl:a.length ≤ 1000):zqt a b=some (eqb a b):=zDf (by
 rw [zqu,zaS,zaS]
 by_cases he:a.length=b.length
 ·have h:=znW zat (l:=a) (l':=b) (by omega) he (L:=fun i=>zk9 a b i) (fun h=>zlM (by simp [zgi,h]))
   (fun n x r _ h1 h2 h3 h=>zlM (by simp [zgi,h1,h2,h3,zap];exact h))
   (fun n x y _ h1 h2 h3 h=>zlM (by
    simp only [zgi,h1,h2,h3,zap,zaf,cond_true,Option.bind_some]
    rw [ne_eq,Entry.ext3] at h
    split
    ·split
     ·split
      ·exact absurd ⟨‹_›,‹_›,‹_›⟩ h
      ·rfl
     ·rfl
    ·rfl))
  rw [ieqT (by omega),cond_true]
  rcases h with ⟨h1,h2⟩ | ⟨h1,h2⟩
  ·rw [h2,h1,zhk];rfl
  ·rw [h2,zls h1];rfl
 ·rw [ieqF (by omega),zls (fun h=>he (by rw [h]))];rfl)
theorem zsr {a b:List Peer} (hl:a.length ≤ 1000):znP a b=some (eqb a b):=zt3 (by
 rw [zk7,zaS,zaS]
 by_cases he:a.length=b.length
 ·have h:=znW zai (l:=a) (l':=b) (by omega) he (L:=fun i=>zhr a b i) (fun h=>zdM (by simp [zck,h]))
   (fun n x r _ h1 h2 h3 h=>zdM (by simp [zck,h1,h2,h3,zap];exact h))
   (fun n x y _ h1 h2 h3 h=>zdM (by
    simp only [zck,h1,h2,h3,zap,zaf,cond_true,Option.bind_some]
    rw [ne_eq,Peer.ext'] at h
    split
    ·split
     ·exact absurd ⟨‹_›,‹_›⟩ h
     ·rfl
    ·rfl))
  rw [ieqT (by omega),cond_true]
  rcases h with ⟨h1,h2⟩ | ⟨h1,h2⟩
  ·rw [h2,h1,zhk];rfl
  ·rw [h2,zls h1];rfl
 ·rw [ieqF (by omega),zls (fun h=>he (by rw [h]))];rfl)
def owner (key:Int):Peer → List Peer → Peer
 | best,[]=>best
 | best,p :: l=>if dist key p.id < dist key best.id then owner key p l else owner key best l
end Go.Ab.Tryz.Pe
namespace Go.Ab.Tryz.Pe
open Go.Ab.Tryz Go Go.Ab Go.Proofs
def EnOk (l:List Entry):Prop:=∀ x,x ∈ l → PeOk x.peer
def isAh (me p:Peer) (x:Entry):Bool:=ahead me p x.peer
def ins (me p:Peer):List Entry → List Entry
 | []=>[⟨p,0⟩]
 | x :: l=>bif isAh me p x then ⟨p,0⟩ :: x :: l else x :: ins me p l
def cut (l:List Entry):List Entry:=if 15 < l.length then l.take (l.length - 1) else l
def add (me:Peer) (l:List Entry) (p:Peer):List Entry:=
 if p.addr=me.addr then l else
 match fst (isAt p.addr) l with
 | none=>cut (ins me p (drp p.addr l))
 | some n=>match l[n]? with
  | none=>l
  | some x=>if x.peer=p then l.set n ⟨x.peer,0⟩ else cut (ins me p (drp p.addr l))
end Go.Ab.Tryz.Pe
namespace Go.Ab.Tryz
open Go Go.Ab Go.Proofs Go.Lib
def byt (s:ByteArray) (i:Nat):Nat:=(s.get! i).toNat
theorem zvq (s:ByteArray) (i:Nat):byt s i < 256:=(s.get! i).toNat_lt
theorem zI2 (s:ByteArray) (i:Nat) (h:s.size ≤ i):byt s i=0:=by
 cases s with
 | mk d=>
  have h':d.size ≤ i:=h
  show (d[i]!).toNat=0
  rw [getElem!_neg d i (by omega)];rfl
theorem zhX {s:ByteArray} {i:Nat} (h:i < s.size):zb3 s (i:Int)=some (byt s i:Int):=by
 show (if (0:Int) ≤ (i:Int) then (s[(i:Int).toNat]?).map fun c=>(c.toNat:Int) else none)=_
 rw [if_pos (by omega),Int.toNat_natCast]
 have e1:s[i]?=some (s[i]'h):=getElem?_pos s i h
 have e2:s.get! i=s[i]'h:=by
  cases s with
  | mk d=>exact getElem!_pos d i h
 rw [e1]
 show some ((s[i]'h).toNat:Int)=_
 rw [← e2];rfl
theorem ztG {a b:Nat} (h:a + b < 9223372036854775808):Ops.std.iadd .i64 (a:Int) (b:Int)=((a + b:Nat):Int):=by
 show IntKind.i64.wrap _=_
 unfold IntKind.wrap
 simp [IntKind.signed,IntKind.bits]
 omega
theorem zI5 {a b:Nat} (h:b ≤ a) (h2:a < 9223372036854775808):Ops.std.isub .i64 (a:Int) (b:Int)=((a - b:Nat):Int):=by
 show IntKind.i64.wrap _=_
 unfold IntKind.wrap
 simp [IntKind.signed,IntKind.bits]
 omega
theorem zbc (s:ByteArray):Ops.std.slen s=(s.size:Int):=rfl
def wid (s:ByteArray) (i:Nat):Nat:=if Utf8.decode s i=(65533,1) then 0 else (Utf8.decode s i).2
def tl (b:Nat):Bool:=decide (128 ≤ b ∧ b ≤ 191)
theorem zor (b:Nat):zho (b:Int)=some (tl b):=zC9 (by
 simp only [zqo,zbv,zaf,tl]
 split
 ·rename_i h
  congr 1
  exact decide_eq_decide.2 ⟨fun h2=>⟨by omega,by omega⟩,fun h2=>by omega⟩
 ·rename_i h
  congr 1
  exact (decide_eq_false (by omega)).symm)
def wd3 (b0 b1:Nat) (t:Bool):Option Nat:=bif t then (if b0=224 then (if b1 < 160 then some 0 else some 3) else if b0=237 then (if 159 < b1 then some 0 else some 3) else some 3) else none
def wd4 (b0 b1:Nat) (t:Bool):Nat:=bif t then (if b0=240 then (if b1 < 144 then 0 else 4) else if b0=244 then (if 143 < b1 then 0 else 4) else 4) else 0
section
variable {s:ByteArray} {i:Nat} (hi:i < s.size) (hs:s.size < 4611686018427387904)
include hi hs
theorem zwx:Ops.std.isub .i64 (Ops.std.slen s) (i:Int)=((s.size - i:Nat):Int):=zI5 (by omega) (by omega)
theorem znr {k:Nat} (h:k < s.size - i) (hk:k < 8):zb3 s (Ops.std.iadd .i64 (i:Int) (k:Int))=some (byt s (i + k):Int):=by
 rw [ztG (by omega)];exact zhX (by omega)
theorem s0_eq (h:1 < s.size - i) (b:Nat) (t:Bool):zc5 s (i:Int) (b:Int) t=some (match wd3 b (byt s (i + 1)) t with | some n=>.inl (n:Int) | none=>.inr (b:Int)):=zpp (by
 have e1:zb3 s (Ops.std.iadd .i64 (i:Int) 1)=some (byt s (i + 1):Int):=znr (k:=1) hi hs h (by decide)
 unfold zkE
 cases t
 ·rfl
 ·simp only [cond_true,zap,zaA,zaf,wd3,e1,Option.bind_some]
  by_cases h1:b=224
  ·subst h1
   by_cases h2:byt s (i + 1) < 160
   ·simp [h2,show (byt s (i + 1):Int) < 160 by omega]
   ·simp [h2,show ¬ (byt s (i + 1):Int) < 160 by omega]
  ·by_cases h3:b=237
   ·subst h3
    by_cases h2:159 < byt s (i + 1)
    ·simp [h2,show (159:Int) < byt s (i + 1) by omega]
    ·simp [h2,show ¬ (159:Int) < byt s (i + 1) by omega]
   ·simp [h1,h3,show ¬ (b:Int)=224 by omega,show ¬ (b:Int)=237 by omega])
omit hi hs in
theorem zzQ (b:Nat):zc5 s (i:Int) (b:Int) false=some (.inr (b:Int)):=zpp rfl
theorem s1_eq (h:1 < s.size - i) (b:Nat):zcw s (i:Int) (b:Int) true=some (.inl (wd4 b (byt s (i + 1)) true:Nat)):=zpq (by
 have e1:zb3 s (Ops.std.iadd .i64 (i:Int) 1)=some (byt s (i + 1):Int):=znr (k:=1) hi hs h (by decide)
 unfold zkF
 simp only [cond_true,zap,zaA,zaf,wd4,e1,Option.bind_some]
 by_cases h1:b=240
 ·subst h1
  by_cases h2:byt s (i + 1) < 144
  ·simp [h2,show (byt s (i + 1):Int) < 144 by omega]
  ·simp [h2,show ¬ (byt s (i + 1):Int) < 144 by omega]
 ·by_cases h3:b=244
  ·subst h3
   by_cases h2:143 < byt s (i + 1)
   ·simp [h2,show (143:Int) < byt s (i + 1) by omega]
   ·simp [h2,show ¬ (143:Int) < byt s (i + 1) by omega]
  ·simp [h1,h3,show ¬ (b:Int)=240 by omega,show ¬ (b:Int)=244 by omega])
omit hi hs in
theorem zzR (b:Nat):zcw s (i:Int) (b:Int) false=some (.inr ()):=zpq rfl
theorem zIF (b:Nat):zdR s (i:Int) (b:Int)=some ((if 240 ≤ b ∧ b ≤ 244 ∧ 3 < s.size - i ∧ tl (byt s (i + 1))=true ∧ tl (byt s (i + 2))=true ∧ tl (byt s (i + 3))=true then wd4 b (byt s (i + 1)) true else 0:Nat):Int):=zwF (by
 unfold zkG
 simp only [zbv,zaA,zaf,zwx hi hs,zzR,Option.bind_some]
 split
 ·split
  ·split
   ·have e1:zb3 s (Ops.std.iadd .i64 (i:Int) 1)=some (byt s (i + 1):Int):=znr (k:=1) hi hs (by omega) (by decide)
    have e2:zb3 s (Ops.std.iadd .i64 (i:Int) 2)=some (byt s (i + 2):Int):=znr (k:=2) hi hs (by omega) (by decide)
    have e3:zb3 s (Ops.std.iadd .i64 (i:Int) 3)=some (byt s (i + 3):Int):=znr (k:=3) hi hs (by omega) (by decide)
    simp only [e1,e2,e3,Option.bind_some,zor]
    cases t1:tl (byt s (i + 1))
    ·simp
    ·cases t2:tl (byt s (i + 2))
     ·simp
     ·cases t3:tl (byt s (i + 3))
      ·simp [zzR]
      ·simp only [cond_true,s1_eq hi hs (by omega:1 < s.size - i),Option.bind_some]
       rw [if_pos ⟨by omega,by omega,by omega,trivial,trivial,trivial⟩]
   ·rw [if_neg (by omega)];rfl
  ·rw [if_neg (by omega)];rfl
 ·rw [if_neg (by omega)];rfl)
theorem s3_eq (b:Nat):zfg s (i:Int) (b:Int)=some ((if 224 ≤ b ∧ b ≤ 239 ∧ 2 < s.size - i ∧ tl (byt s (i + 1))=true ∧ tl (byt s (i + 2))=true then (wd3 b (byt s (i + 1)) true).getD 0
  else if 240 ≤ b ∧ b ≤ 244 ∧ 3 < s.size - i ∧ tl (byt s (i + 1))=true ∧ tl (byt s (i + 2))=true ∧ tl (byt s (i + 3))=true then wd4 b (byt s (i + 1)) true else 0:Nat):Int):=zwG (by
 unfold zkH
 simp only [zbv,zaA,zaf,zwx hi hs,zzQ,Option.bind_some,zIF hi hs]
 split
 ·split
  ·split
   ·have e1:zb3 s (Ops.std.iadd .i64 (i:Int) 1)=some (byt s (i + 1):Int):=znr (k:=1) hi hs (by omega) (by decide)
    have e2:zb3 s (Ops.std.iadd .i64 (i:Int) 2)=some (byt s (i + 2):Int):=znr (k:=2) hi hs (by omega) (by decide)
    simp only [e1,e2,Option.bind_some,zor]
    cases t1:tl (byt s (i + 1))
    ·simp
    ·cases t2:tl (byt s (i + 2))
     ·simp [zzQ,zIF hi hs,t1,t2]
     ·simp only [cond_true,s0_eq hi hs (by omega:1 < s.size - i),Option.bind_some]
      rw [if_pos ⟨by omega,by omega,by omega,trivial,trivial⟩]
      unfold wd3
      simp only [cond_true]
      repeat' split
      all_goals first | rfl | simp_all
   ·rw [if_neg (c:=224 ≤ b ∧ _) (by omega)]
  ·rw [if_neg (c:=224 ≤ b ∧ _) (by omega)]
 ·rw [if_neg (c:=224 ≤ b ∧ _) (by omega)])
def widN (n b0 b1 b2 b3:Nat):Nat:=
 if b0 < 128 then 1
 else if 194 ≤ b0 ∧ b0 ≤ 223 ∧ 1 < n ∧ tl b1=true then 2
 else if 224 ≤ b0 ∧ b0 ≤ 239 ∧ 2 < n ∧ tl b1=true ∧ tl b2=true then (wd3 b0 b1 true).getD 0
 else if 240 ≤ b0 ∧ b0 ≤ 244 ∧ 3 < n ∧ tl b1=true ∧ tl b2=true ∧ tl b3=true then wd4 b0 b1 true else 0
theorem zDO:zhn s (i:Int)=some (widN (s.size - i) (byt s i) (byt s (i + 1)) (byt s (i + 2)) (byt s (i + 3)):Int):=zAJ (by
 unfold zoq widN
 simp only [zhX hi,Option.bind_some,zbv,zaA,zaf,zwx hi hs,s3_eq hi hs]
 by_cases h1:byt s i < 128
 ·rw [if_pos (by omega),if_pos h1];rfl
 ·rw [if_neg (by omega),if_neg h1]
  split
  ·split
   ·split
    ·have e1:zb3 s (Ops.std.iadd .i64 (i:Int) 1)=some (byt s (i + 1):Int):=znr (k:=1) hi hs (by omega) (by decide)
     simp only [e1,Option.bind_some,zor]
     cases t1:tl (byt s (i + 1))
     ·simp
     ·simp only [cond_true]
      rw [if_pos ⟨by omega,by omega,by omega,trivial⟩];rfl
    ·rw [if_neg (c:=194 ≤ byt s i ∧ _) (by omega)]
   ·rw [if_neg (c:=194 ≤ byt s i ∧ _) (by omega)]
  ·rw [if_neg (c:=194 ≤ byt s i ∧ _) (by omega)])
end
theorem zz2 {b:Nat} (h:b < 256):tl b=true ↔ b / 64=2:=by unfold tl;rw [decide_eq_true_eq];omega
set_option maxRecDepth 100000 in
set_option maxHeartbeats 4000000 in
theorem zJM {n b0 b1 b2 b3:Nat} (h0:b0 < 256) (h1:b1 < 256) (h2:b2 < 256) (h3:b3 < 256):widN n b0 b1 b2 b3=if decodeN n b0 b1 b2 b3=(65533,1) then 0 else (decodeN n b0 b1 b2 b3).2:=by
 unfold widN wd3 wd4
 simp only [zz2 h1,zz2 h2,zz2 h3,cond_true]
 unfold decodeN
 repeat' split
 all_goals first | rfl | omega | (simp_all;done) | (simp_all;omega)
theorem zuh {s:ByteArray} {i:Nat} (hi:i < s.size) (hs:s.size < 4611686018427387904):zhn s (i:Int)=some (wid s i:Int):=by
 rw [zDO hi hs,zJM (zvq _ _) (zvq _ _) (zvq _ _) (zvq _ _)]
 unfold wid
 rw [decode_at];rfl
end Go.Ab.Tryz
namespace Go.Ab.Tryz
open Go Go.Ab Go.Proofs Go.Lib
def zeA (s:ByteArray) (i:Nat):Bool:=decide (Utf8.decode s i=(65533,1))
theorem zn4 {s:ByteArray} {i:Nat} (h:i < s.size):zq1 s (i:Int)=some (((Utf8.decode s i).1:Int),((i + (Utf8.decode s i).2:Nat):Int)):=by
 show (if 0 ≤ (i:Int) ∧ (i:Int).toNat < s.size then some (((Utf8.decode s (i:Int).toNat).1:Int),(i:Int) + ((Utf8.decode s (i:Int).toNat).2:Int)) else none)=_
 rw [if_pos ⟨by omega,by simpa using h⟩,Int.toNat_natCast]
 simp
theorem zxz {s:ByteArray} {i:Nat} (h:¬ i < s.size):zq1 s (i:Int)=none:=by
 show (if 0 ≤ (i:Int) ∧ (i:Int).toNat < s.size then some (((Utf8.decode s (i:Int).toNat).1:Int),(i:Int) + ((Utf8.decode s (i:Int).toNat).2:Int)) else none)=_
 rw [if_neg (by simpa using h)]
theorem zsY {s:ByteArray} {i:Nat} (h:i < s.size):zsX s (i:Int) ((Utf8.decode s i).1:Int)=some (zeA s i):=zBc (by
 unfold zoO
 simp only [zap,zaf]
 split
 ·rename_i h1
  have e1:ztP s (i:Int) (Ops.std.slen s)=some (s.extract i s.size):=by
   show (if 0 ≤ (i:Int) ∧ (i:Int) ≤ (s.size:Int) ∧ (s.size:Int) ≤ (s.size:Int) then some (s.extract (i:Int).toNat (s.size:Int).toNat) else none)=_
   rw [if_pos ⟨by omega,by omega,by omega⟩];simp
  have e2:zq1 (s.extract i s.size) 0=some (((Utf8.decode s i).1:Int),((Utf8.decode s i).2:Int)):=by
   have:=zn4 (s:=s.extract i s.size) (i:=0) (by rw [tail_size];omega)
   rw [tail_decode] at this
   simpa using this
  rw [e1,Option.bind_some,e2]
  simp only [xopt,zeA]
  congr 1
  have h2:(Utf8.decode s i).1=65533:=by omega
  refine decide_eq_decide.2 ⟨fun h=>Prod.ext h2 (by show (Utf8.decode s i).2=1;omega),fun h=>by rw [h];rfl⟩
 ·rename_i h1
  congr 1
  exact (decide_eq_false (fun h=>h1 (by rw [h];rfl))).symm)
def poss (s:ByteArray):Nat → Nat → List Nat
 | 0,_=>[]
 | n + 1,i=>if i < s.size then i :: poss s n (i + (Utf8.decode s i).2) else []
theorem zHi (s:ByteArray):∀ (n i:Nat),s.size - i < n → ∃ r,zhK s (i:Int)=some r ∧ (match r with | .inl _=>false | .inr _=>true)=(poss s n i).all fun j=>!zeA s j:=by
 intro n
 induction n with
 | zero=>intro i h;omega
 | succ n ih=>
  intro i h
  by_cases hi:i < s.size
  ·have hw:=width_pos s i
   cases hst:zeA s i
   ·obtain ⟨r,hr,he⟩:=ih (i + (Utf8.decode s i).2) (by omega)
    refine ⟨r,zkT (by simp only [zfz,zn4 hi,xopt,zsY hi,Option.bind_some,hst,cond_false];exact hr),?_⟩
    rw [he];simp [poss,hi,hst]
   ·exact ⟨_,zkT (by simp only [zfz,zn4 hi,xopt,zsY hi,Option.bind_some,hst,cond_true];rfl),by simp [poss,hi,hst]⟩
  ·exact ⟨_,zkT (by simp only [zfz,zxz hi,xopt];rfl),by simp [poss,hi]⟩
theorem zz7 (s:ByteArray):zsW s=some ((poss s (s.size + 1) 0).all fun j=>!zeA s j):=zBb (by
 obtain ⟨r,hr,he⟩:=zHi s (s.size + 1) 0 (by omega)
 have hr:zhK s 0=some r:=hr
 simp only [zoN,hr,Option.bind_some]
 cases r <;> exact congrArg some he)
theorem zG0 (s:ByteArray):∀ (n i:Nat),(poss s n i).length ≤ n:=by
 intro n
 induction n with
 | zero=>intro i;simp [poss]
 | succ n ih=>
  intro i
  unfold poss
  split
  ·have:=ih (i + (Utf8.decode s i).2);simp;omega
  ·simp
theorem zGd (s:ByteArray):∀ (n i k:Nat),s.size - i < n → k + n < 9223372036854775808 → ∃ a,zhJ s (k:Int) (i:Int)=some (((k + (poss s n i).length:Nat):Int),a):=by
 intro n
 induction n with
 | zero=>intro i k h;omega
 | succ n ih=>
  intro i k h hk
  by_cases hi:i < s.size
  ·have hw:=width_pos s i
   obtain ⟨a,ha⟩:=ih (i + (Utf8.decode s i).2) (k + 1) (by omega) (by omega)
   refine ⟨a,zpy ?_⟩
   have e1:Ops.std.iadd .i64 (k:Int) 1=((k + 1:Nat):Int):=ztG (b:=1) (by omega)
   simp only [zig,zn4 hi,xopt,e1,ha]
   simp [poss,hi];omega
  ·exact ⟨(i:Int),zpy (by simp only [zig,zxz hi,xopt];simp [poss,hi])⟩
theorem zz6 {s:ByteArray} (hs:s.size < 4611686018427387904):zsV s=some (((poss s (s.size + 1) 0).length:Nat):Int):=zBa (by
 obtain ⟨a,ha⟩:=zGd s (s.size + 1) 0 0 (by omega) (by omega)
 have ha:zhJ s 0 0=some (((0 + (poss s (s.size + 1) 0).length:Nat):Int),a):=ha
 simp only [zoM,ha,Option.bind_some,Nat.zero_add])
end Go.Ab.Tryz
namespace Go.Ab.Tryz
open Go Go.Ab Go.Proofs Go.Lib
def zer (s:ByteArray) (i:Nat):ByteArray:=s.extract i (i + (Utf8.decode s i).2)
theorem zFQ (s:ByteArray) (i:Nat):(wid s i=0 ∧ (Utf8.decode s i).2=1) ∨ (wid s i ≠ 0 ∧ wid s i=(Utf8.decode s i).2):=by
 unfold wid
 split
 ·rename_i h;exact .inl ⟨rfl,by rw [h]⟩
 ·have:=width_pos s i;exact .inr ⟨by omega,rfl⟩
theorem zGX (s:ByteArray) (hs:s.size < 1000000):∀ (n i:Nat) (l:List ByteArray),s.size - i < n → l.length ≤ i → i ≤ s.size → (∀ j,j < s.size → j + (Utf8.decode s j).2 ≤ s.size) → ze9 s (i:Int) l=some (l ++ (poss s n i).map (zer s)):=by
 intro n
 induction n with
 | zero=>intro i l h;omega
 | succ n ih=>
  intro i l h hl hi0 hfit
  by_cases hi:i < s.size
  ·have hw:=width_pos s i
   have hf:=hfit i hi
   have hr:∀ z:ByteArray,zaV vT 16 l [z]=true:=fun z=>zaP vT (by simp;omega) (by omega)
   have hx:=ih (i + (Utf8.decode s i).2) (l ++ [zer s i]) (by omega) (by simp;omega) hf hfit
   have hsub:∀ w:Nat,i + w ≤ s.size → ztP s (i:Int) ((i + w:Nat):Int)=some (s.extract i (i + w)):=fun w hwl=>by
    show (if 0 ≤ (i:Int) ∧ (i:Int) ≤ ((i + w:Nat):Int) ∧ ((i + w:Nat):Int) ≤ (s.size:Int) then some (s.extract (i:Int).toNat ((i + w:Nat):Int).toNat) else none)=_
    rw [if_pos ⟨by omega,by omega,by omega⟩,Int.toNat_natCast,Int.toNat_natCast]
   refine zpo ?_
   unfold zh4
   simp only [zaA,zaf,zbc,zuh hi (by omega),Option.bind_some,zap]
   rw [if_pos (by omega)]
   rcases zFQ s i with ⟨h1,h2⟩ | ⟨h1,h2⟩
   ·have e1:Ops.std.iadd .i64 (i:Int) 1=((i + 1:Nat):Int):=ztG (b:=1) (by omega)
    rw [if_pos (by omega),e1,hsub 1 (by omega),Option.bind_some,hr,cond_true]
    rw [h2] at hx
    simp only [poss,if_pos hi,List.map_cons,h2]
    rw [show s.extract i (i + 1)=zer s i from by unfold zer;rw [h2],hx]
    simp
   ·have e1:Ops.std.iadd .i64 (i:Int) (wid s i:Int)=((i + wid s i:Nat):Int):=ztG (by omega)
    rw [if_neg (by omega),e1,hsub _ (by omega),Option.bind_some,hr,cond_true]
    rw [← h2] at hx
    simp only [poss,if_pos hi,List.map_cons,← h2]
    rw [show s.extract i (i + wid s i)=zer s i from by unfold zer;rw [h2],hx]
    simp
  ·exact zpo (by
    unfold zh4
    simp only [zaA,zaf,zbc]
    rw [if_neg (by omega)]
    simp [poss,hi])
theorem fits {s:ByteArray} {i:Nat} (h:i < s.size):i + (Utf8.decode s i).2 ≤ s.size:=by
 rw [decode_at]
 have:∀ n b0 b1 b2 b3,1 ≤ n → (decodeN n b0 b1 b2 b3).2 ≤ n:=fun n b0 b1 b2 b3 hn=>by
  unfold decodeN
  repeat' split
  all_goals (simp only;omega)
 have:=this (s.size - i) (s.get! i).toNat (s.get! (i + 1)).toNat (s.get! (i + 2)).toNat (s.get! (i + 3)).toNat (by omega)
 omega
theorem zsl {s:ByteArray} (hs:s.size < 1000000):znM s=some ((poss s (s.size + 1) 0).map (zer s)):=zAH (by
 have h:=zGX s hs (s.size + 1) 0 [] (by omega) (by simp) (by omega) (fun j hj=>fits hj)
 have h:ze9 s 0 []=some ((poss s (s.size + 1) 0).map (zer s)):=h
 simp only [zoo,h,Option.bind_some])
end Go.Ab.Tryz
namespace Go.Ab.Tryz
open Go Go.Ab Go.Proofs Go.Lib
set_option maxRecDepth 100000 in
set_option maxHeartbeats 4000000 in
theorem zGg {n b0 b1 b2 b3 r w:Nat} (hn:1 ≤ n) (hd:decodeN n b0 b1 b2 b3=(r,w)):decodeN w b0 (if 1 < w then b1 else 0) (if 2 < w then b2 else 0) (if 3 < w then b3 else 0)=(r,w):=by
 unfold decodeN at hd
 repeat' split at hd
 all_goals
  injection hd with e1 e2
  subst e1 e2
  unfold decodeN
  simp only [show ¬ 1 < 1 by omega,show ¬ 2 < 1 by omega,show ¬ 3 < 1 by omega,show 1 < 2 by omega,show ¬ 2 < 2 by omega,show ¬ 3 < 2 by omega,show 1 < 3 by omega,show 2 < 3 by omega,show ¬ 3 < 3 by omega,show 1 < 4 by omega,show 2 < 4 by omega,show 3 < 4 by omega,if_true,if_false,false_and,true_and,and_false]
  repeat' split
  all_goals first | rfl | (exfalso;omega)
end Go.Ab.Tryz
namespace Go.Ab.Tryz
open Go Go.Ab Go.Proofs Go.Lib
theorem zuP (s:ByteArray) (i j:Nat) (h:j ≤ s.size):(s.extract i j).size=j - i:=by
 simp [ByteArray.size_extract];omega
theorem zIL (s:ByteArray) (i j k:Nat) (h:j ≤ s.size) (hk:i + k < j):byt (s.extract i j) k=byt s (i + k):=by
 have h1:k < (s.extract i j).size:=by rw [zuP s i j h];omega
 have e1:=zhX h1
 have e2:=zhX (s:=s) (i:=i + k) (by omega)
 unfold byt
 have g1:(s.extract i j).get! k=(s.extract i j)[k]'h1:=by
  generalize s.extract i j=z at h1 ⊢
  cases z with
  | mk d=>exact getElem!_pos d k h1
 have g2:s.get! (i + k)=s[i + k]'(by omega):=by
  have h2:i + k < s.size:=by omega
  clear e1 e2 g1 h1
  cases s with
  | mk d=>exact getElem!_pos d (i + k) h2
 rw [g1,g2,ByteArray.getElem_extract]
theorem zxn {s:ByteArray} {i:Nat} (h:i < s.size):Utf8.decode (zer s i) 0=Utf8.decode s i:=by
 have hf:=fits h
 have hw:=width_pos s i
 obtain ⟨r,w,hd⟩:∃ r w,Utf8.decode s i=(r,w):=⟨_,_,rfl⟩
 have hsz:(zer s i).size=w:=by unfold zer;rw [zuP _ _ _ hf,hd];simp only;omega
 have hb:∀ k,byt (zer s i) k=if k < w then byt s (i + k) else 0:=fun k=>by
  split
  ·rename_i hk
   unfold zer
   rw [hd] at hf ⊢
   exact zIL s i (i + w) k hf (by omega)
  ·exact zI2 _ _ (by omega)
 rw [hd] at hw ⊢
 rw [decode_at] at hd ⊢
 have b0:=hb 0;have b1:=hb 1;have b2:=hb 2;have b3:=hb 3
 unfold byt at b0 b1 b2 b3
 simp only [Nat.zero_add,Nat.sub_zero,Nat.add_zero] at b0 b1 b2 b3 ⊢
 rw [hsz,b0,b1,b2,b3,if_pos (show 0 < w from hw)]
 exact zGg (by omega) hd
end Go.Ab.Tryz
namespace Go.Ab.Tryz
open Go Go.Ab Go.Proofs Go.Lib
theorem zxx (s:ByteArray) (i:Nat):(wid s i=0) ↔ zeA s i=true:=by
 unfold wid zeA
 have:=width_pos s i
 split
 ·rename_i h;simp [h]
 ·rename_i h;simp [h];omega
theorem zJL {l:List ByteArray} (hl:l.length ≤ 4611686018427387904) (hb:∀ x,x ∈ l → 0 < x.size ∧ x.size < 1000000):zhm l 0=some (bif allI (fun _ x=>!zeA x 0) 0 l then .inr () else .inl ()):=
 zyH vT hl (L:=fun i=>zhm l i)
  (fun h=>zkD (by simp [zfb,h]))
  (fun n x r hx h1 h2 hp h=>zkD (by
   have hm:=hb x (List.mem_of_getElem? hx)
   have hw:zhn x 0=some (wid x 0:Int):=zuh hm.1 (by omega)
   have hz:¬ (wid x 0=0):=fun h0=>by
    have:=(zxx x 0).1 h0;simp [this] at hp
   simp [zfb,h1,h2,hw,zap,hz];exact h))
  (fun n x hx h1 h2 hp=>zkD (by
   have hm:=hb x (List.mem_of_getElem? hx)
   have hw:zhn x 0=some (wid x 0:Int):=zuh hm.1 (by omega)
   have hz:wid x 0=0:=(zxx x 0).2 (by simpa using hp)
   simp [zfb,h1,h2,hw,zap,hz]))
end Go.Ab.Tryz
namespace Go.Ab.Tryz
open Go Go.Ab Go.Proofs Go.Lib
theorem zwC (s:ByteArray):∀ (n i:Nat),∀ j,j ∈ poss s n i → j < s.size:=by
 intro n
 induction n with
 | zero=>intro i j h;simp [poss] at h
 | succ n ih=>
  intro i j h
  unfold poss at h
  split at h
  ·rename_i hi
   rcases List.mem_cons.1 h with rfl | h
   ·exact hi
   ·exact ih _ j h
  ·cases h
theorem zFY {l:List ByteArray} {p:ByteArray → Bool}:∀ n,allI (fun _ x=>p x) n l=l.all p:=by
 induction l with
 | nil=>intro n;rfl
 | cons x l ih=>intro n;simp [allI,ih]
theorem zzz {s:ByteArray} (hs:s.size < 1000000):zsm s=some ((poss s (s.size + 1) 0).all fun j=>!zeA s j):=zAI (by
 have hl:=zG0 s (s.size + 1) 0
 have hb:∀ x,x ∈ (poss s (s.size + 1) 0).map (zer s) → 0 < x.size ∧ x.size < 1000000:=fun x hx=>by
  obtain ⟨j,hj,rfl⟩:=List.mem_map.1 hx
  have h1:=zwC s _ _ j hj
  have h2:=fits h1
  have h3:=width_pos s j
  unfold zer
  rw [zuP _ _ _ h2];omega
 have hv:=zJL (l:=(poss s (s.size + 1) 0).map (zer s)) (by simp;omega) hb
 rw [zFY] at hv
 have he:((poss s (s.size + 1) 0).map (zer s)).all (fun x=>!zeA x 0)=(poss s (s.size + 1) 0).all fun j=>!zeA s j:=by
  rw [List.all_map]
  refine Bool.eq_iff_iff.2 ?_
  simp only [List.all_eq_true,Function.comp]
  refine ⟨fun h j hj=>?_,fun h j hj=>?_⟩
  ·have:=h j hj;unfold zeA at this ⊢;rwa [zxn (zwC s _ _ j hj)] at this
  ·have:=h j hj;unfold zeA at this ⊢;rwa [zxn (zwC s _ _ j hj)]
 rw [he] at hv
 simp only [zop,zsl hs,Option.bind_some,hv]
 cases (poss s (s.size + 1) 0).all fun j=>!zeA s j <;> rfl)
end Go.Ab.Tryz
namespace Go.Ab.Tryz
open Go Go.Ab Go.Proofs Go.Lib
def zcn (s:ByteArray):Bool:=decide (0 < s.size ∧ s.size ≤ 96) && ((poss s (s.size + 1) 0).all fun j=>!zeA s j) && decide ((poss s (s.size + 1) 0).length ≤ 32)
theorem zml {s:ByteArray} (hs:s.size < 1000000):zkI s=some (zcn s):=zxp (by
 simp only [znN,zaA,zaf,zbc,zzz hs,zsl hs,Option.bind_some,zcn,zaS,List.length_map]
 by_cases h1:0 < s.size
 ·rw [if_pos (by omega)]
  by_cases h2:s.size ≤ 96
  ·rw [if_pos (by omega)]
   cases (poss s (s.size + 1) 0).all fun j=>!zeA s j
   ·simp
   ·simp [h1,h2];omega
  ·rw [if_neg (by omega)];simp [h2]
 ·rw [if_neg (by omega)];simp [h1])
theorem zvI {s:ByteArray} (hs:s.size < 1000000):ztK s=some (zcn s):=zE3 (by
 have h0:Ops.std.seq s ⟨#[]⟩=true ↔ s.size=0:=by
  rw [zif]
  constructor
  ·rintro rfl;rfl
  ·intro h
   cases s with
   | mk d=>
    have:d.size=0:=h
    rw [Array.eq_empty_of_size_eq_zero this]
 simp only [zsd,zbv,zaf,zbc,zz7,zz6 (show s.size < 4611686018427387904 by omega),Option.bind_some,zcn]
 by_cases h1:s.size=0
 ·rw [h0.2 h1];simp [h1]
 ·rw [Bool.eq_false_iff.2 (fun h=>h1 (h0.1 h)),cond_false]
  by_cases h2:s.size ≤ 96
  ·rw [if_pos (by omega)]
   cases (poss s (s.size + 1) 0).all fun j=>!zeA s j
   ·simp
   ·have h3:0 < s.size:=by omega
    simp only [cond_true,h2,h3,and_self,decide_true,Bool.true_and,Option.some.injEq]
    exact decide_eq_decide.2 ⟨fun h=>by omega,fun h=>by omega⟩
  ·rw [if_neg (by omega)];simp [h2])
end Go.Ab.Tryz
namespace Go.Ab.Tryz
open Go Go.Ab Go.Proofs Go.Lib
theorem iltT {a b:Int} (h:a < b):Ops.std.ilt a b=true:=decide_eq_true h
theorem iltF {a b:Int} (h:¬ a < b):Ops.std.ilt a b=false:=decide_eq_false h
theorem ieqT {a b:Int} (h:a=b):Ops.std.ieq a b=true:=decide_eq_true h
theorem ieqF {a b:Int} (h:¬ a=b):Ops.std.ieq a b=false:=decide_eq_false h
theorem zuL (a:ByteArray):Ops.std.seq a a=true:=zif.2 rfl
theorem zF4 (a b:Bool):Ops.std.beq a b=decide (a=b):=by cases a <;> cases b <;> rfl
def n64 (x:BitVec 64):Int:=(x.toNat:Int)
theorem zJl (x:BitVec 64):0 ≤ n64 x ∧ n64 x < 18446744073709551616:=by
 have:=x.isLt
 unfold n64;omega
theorem zAh (n:Nat):IntKind.u64.wrap (n:Int)=n64 (BitVec.ofNat 64 n):=by
 rw [zfY];unfold n64;rw [BitVec.toNat_ofNat];omega
theorem zxy (x:BitVec 64):IntKind.u64.wrap (n64 x)=n64 x:=by
 have:=x.isLt
 rw [zfY];unfold n64;omega
theorem zw5 (x y:BitVec 64):Ops.std.ibit .xor .u64 (n64 x) (n64 y)=n64 (x ^^^ y):=by
 show Go.bits .xor .u64 (n64 x) (n64 y)=_
 unfold n64
 simp only [Go.bits,IntKind.bits,BitVec.ofInt_natCast,BitVec.ofNat_toNat,BitVec.setWidth_eq]
 exact zxy (x ^^^ y)
theorem zwz (x y:BitVec 64):Ops.std.imul .u64 (n64 x) (n64 y)=n64 (x * y):=by
 show IntKind.u64.wrap (n64 x * n64 y)=_
 unfold n64
 rw [← Int.natCast_mul,zAh];unfold n64
 rw [BitVec.toNat_mul,BitVec.toNat_ofNat]
theorem zCo (x:BitVec 64) (k:Nat):n64 x / ((2 ^ k:Nat):Int)=n64 (x >>> k):=by
 unfold n64
 rw [BitVec.toNat_ushiftRight,Nat.shiftRight_eq_div_pow];exact (Int.natCast_ediv _ _).symm
theorem zwX (x:BitVec 64) (k:Nat) (hk:k ≤ 64):Ops.std.ishr .u64 (n64 x) (k:Int)=n64 (x >>> k):=by
 show Int.fdiv (n64 x) (2 ^ (min ((k:Int)).toNat IntKind.u64.bits))=_
 have e:min ((k:Int)).toNat IntKind.u64.bits=k:=by simp only [Int.toNat_natCast];exact Nat.min_eq_left hk
 have e2:((2:Int) ^ k)=((2 ^ k:Nat):Int):=(Int.natCast_pow 2 k).symm
 rw [e,e2,Int.fdiv_eq_ediv_of_nonneg _ (Int.natCast_nonneg _)]
 exact zCo x k
theorem zGx (x:BitVec 64):Ops.std.iquo .u64 (n64 x) 2=n64 (x >>> 1):=by
 show IntKind.u64.wrap (Int.tdiv (n64 x) 2)=_
 have h1:Int.tdiv (n64 x) 2=n64 x / 2:=by
  unfold n64;exact Int.tdiv_eq_ediv_of_nonneg (Int.natCast_nonneg _)
 have e:n64 x / (2:Int)=n64 (x >>> 1):=zCo x 1
 rw [h1,e,zxy]
def mc1:BitVec 64:=13787848793156543929#64
def mc2:BitVec 64:=10723151780598845931#64
def mixB (u:BitVec 64):BitVec 64:=
 let a:=(u ^^^ (u >>> 30)) * mc1
 let b:=(a ^^^ (a >>> 27)) * mc2
 b ^^^ (b >>> 31)
theorem sh30 (x:BitVec 64):Ops.std.ishr .u64 (n64 x) 30=n64 (x >>> 30):=zwX x 30 (by omega)
theorem sh27 (x:BitVec 64):Ops.std.ishr .u64 (n64 x) 27=n64 (x >>> 27):=zwX x 27 (by omega)
theorem sh31 (x:BitVec 64):Ops.std.ishr .u64 (n64 x) 31=n64 (x >>> 31):=zwX x 31 (by omega)
theorem zIA (x:BitVec 64):Ops.std.imul .u64 (n64 x) 13787848793156543929=n64 (x * mc1):=zwz x mc1
theorem zIB (x:BitVec 64):Ops.std.imul .u64 (n64 x) 10723151780598845931=n64 (x * mc2):=zwz x mc2
theorem zAw (u:BitVec 64):zuq (n64 u)=some (n64 (mixB u)):=zCM (by
 have h1:Ops.std.ilt 30 0=false:=rfl
 have h2:Ops.std.ilt 27 0=false:=rfl
 have h3:Ops.std.ilt 31 0=false:=rfl
 simp only [zpY,h1,h2,h3,cond_false,sh30,sh27,sh31,zw5,zIA,zIB,mixB])
theorem zB8 (by_:Nat) (hb:by_ ≤ 64):∀ (k i:Nat) (u:BitVec 64),i + k=by_ → zk6 (by_:Int) (n64 u) (i:Int)=some (n64 (u >>> k))
 | 0,i,u,h=>zrd (by
  rw [ziM,iltF (by omega)]
  rfl)
 | k + 1,i,u,h=>zrd (by
  have h2:Ops.std.ieq 2 0=false:=rfl
  rw [ziM,iltT (by omega),h2,zGx]
  have:=zB8 by_ hb k (i + 1) (u >>> 1) (by omega)
  rw [cond_true,cond_false,show Ops.std.iadd .i64 (i:Int) 1=((i + 1:Nat):Int) from zh0 (by omega),this,← BitVec.shiftRight_add,Nat.add_comm 1 k])
theorem zot (u:BitVec 64) (by_:Nat) (hb:by_ ≤ 64):zhq (n64 u) (by_:Int)=some (n64 (u >>> by_)):=zDb (zB8 by_ hb by_ 0 u (by omega))
theorem zDa (u:BitVec 64):zwH (n64 u)=some (n64 (mixB u)):=zFf (by
 have d30:∀ x,zhq (n64 x) 30=some (n64 (x >>> 30)):=fun x=>zot x 30 (by omega)
 have d27:∀ x,zhq (n64 x) 27=some (n64 (x >>> 27)):=fun x=>zot x 27 (by omega)
 have d31:∀ x,zhq (n64 x) 31=some (n64 (x >>> 31)):=fun x=>zot x 31 (by omega)
 simp only [zsn,d30,Option.bind_some,zw5,zIA,d27,zIB,d31,mixB])
def zv0 (n:BitVec 64) (c:Nat):BitVec 64:=(n ^^^ BitVec.ofNat 64 c) * 1099511628211#64
theorem zzW (n:BitVec 64) (c:Nat):Ops.std.imul .u64 (Ops.std.ibit .xor .u64 (n64 n) (Ops.std.iwrap .u64 (c:Int))) 1099511628211=n64 (zv0 n c):=by
 have e:Ops.std.iwrap .u64 (c:Int)=n64 (BitVec.ofNat 64 c):=zAh c
 rw [e,zw5]
 exact zwz _ 1099511628211#64
def zvC (f:BitVec 64 → Nat → BitVec 64):Nat → Nat → BitVec 64 → BitVec 64
 | 0,_,x=>x
 | d + 1,i,x=>zvC f d (i + 1) (f x i)
theorem zJb (f:BitVec 64 → Nat → BitVec 64) (i:Nat) (x:BitVec 64):zvC f 0 i x=x:=rfl
theorem zJc (f:BitVec 64 → Nat → BitVec 64) (d i:Nat) (x:BitVec 64):zvC f (d + 1) i x=zvC f d (i + 1) (f x i):=rfl
def sumB (s:ByteArray) (d i:Nat) (x:BitVec 64):BitVec 64:=zvC (fun x i=>zv0 x (byt s i)) d i x
theorem zFK (s:ByteArray) (i:Nat) (x:BitVec 64):sumB s 0 i x=x:=zJb _ i x
theorem zFL (s:ByteArray) (d i:Nat) (x:BitVec 64):sumB s (d + 1) i x=sumB s d (i + 1) (zv0 x (byt s i)):=zJc (fun x i=>zv0 x (byt s i)) d i x
theorem zFM {s:ByteArray} (hs:s.size < 4611686018427387904) (k:Nat):∀ (i:Nat) (n:BitVec 64),i + k=s.size → zk4 s (n64 n) (i:Int)=some (n64 (sumB s k i n)) ∧ zmk s (n64 n) (i:Int)=some (n64 (sumB s k i n)):=by
 induction k with
 | zero=>
  intro i n h
  have e:Ops.std.ilt (i:Int) (Ops.std.slen s)=false:=iltF (by rw [zbc];omega)
  refine ⟨zra ?_,zsp ?_⟩
  ·rw [ziI,e,cond_false,zFK]
  ·rw [zjM,e,cond_false,zFK]
 | succ k ih=>
  intro i n h
  have e:Ops.std.ilt (i:Int) (Ops.std.slen s)=true:=iltT (by rw [zbc];omega)
  have g:=zhX (s:=s) (i:=i) (by omega)
  have a:Ops.std.iadd .i64 (i:Int) 1=((i + 1:Nat):Int):=zh0 (by omega)
  have ih:=ih (i + 1) (zv0 n (byt s i)) (by omega)
  refine ⟨zra ?_,zsp ?_⟩
  ·rw [ziI,e,g,a,cond_true,Option.bind_some,zzW,zFL];exact ih.1
  ·rw [zjM,e,g,a,cond_true,Option.bind_some,zzW,zFL];exact ih.2
def zvp:BitVec 64:=14695981039346656037#64
theorem zEy:n64 zvp=14695981039346656037:=rfl
theorem zz1 {s:ByteArray} (hs:s.size < 4611686018427387904):zur s=some (n64 (sumB s s.size 0 zvp)) ∧ zwI s=some (n64 (sumB s s.size 0 zvp)):=by
 have h:=zFM hs s.size 0 zvp (by omega)
 rw [zEy] at h
 exact ⟨zCN h.1,zFg h.2⟩
def zLA (s:ByteArray):BitVec 64:=mixB (sumB s s.size 0 zvp)
def zjF (s:ByteArray):Int:=n64 (zLA s)
theorem zCP (s:ByteArray):0 ≤ zjF s ∧ zjF s < 18446744073709551616:=zJl _
theorem zq9 {s:ByteArray} (hs:s.size < 4611686018427387904):zmf s=some (zjF s):=zzc (by
 rw [zmM,(zz1 hs).1,Option.bind_some,zAw];rfl)
theorem zzA {s:ByteArray} (hs:s.size < 4611686018427387904):zso s=some (zjF s):=zAK (by
 rw [zos,(zz1 hs).2,Option.bind_some,zDa];rfl)
def upto (a x b:Int):Bool:=decide (a=b) || (decide (x=b) || (decide (x ≠ a) && decide ((x - a) % 18446744073709551616 < (b - a) % 18446744073709551616)))
theorem zp2 (a b:Int):Ops.std.isub .u64 a b=(a - b) % 18446744073709551616:=zfY _
theorem zsO (a x b:Int):zjA a x b=some (upto a x b):=zAZ (by
 have hd:∀ u v,zlB u v=some ((v - u) % 18446744073709551616):=fun u v=>zt9 (by rw [zoI,zp2])
 have hb:a ≠ b → zhG a x b=some (decide (x ≠ a) && decide ((x - a) % 18446744073709551616 < (b - a) % 18446744073709551616)):=fun h=>zpu (by
  simp only [zid,hd,Option.bind_some,zap,zaA,decide_eq_false h,cond_false,zaf]
  by_cases hx:x=a <;> simp [hx])
 simp only [zoJ,zap,zaf,upto]
 by_cases h1:a=b
 ·simp [h1]
 ·by_cases h2:x=b
  ·simp [h1,h2]
  ·simp [h1,h2,hb h1])
theorem zon {a x b:Int} (ha:0 ≤ a ∧ a < 18446744073709551616) (hx:0 ≤ x ∧ x < 18446744073709551616) (hb:0 ≤ b ∧ b < 18446744073709551616):zmS a x b=some (upto a x b):=zC8 (by
 simp only [zqn,zaA,zbv,zaf,upto]
 split
 ·split
  ·rename_i h1 h2
   congr 1
   rw [decide_eq_false (by omega:¬ a=b),Bool.false_or,Bool.eq_iff_iff]
   simp only [decide_eq_true_eq,Bool.or_eq_true,Bool.and_eq_true]
   omega
  ·rename_i h1 h2
   congr 1
   rw [decide_eq_false (by omega:¬ a=b),Bool.false_or]
   symm
   rw [Bool.eq_false_iff]
   intro h
   simp only [decide_eq_true_eq,Bool.or_eq_true,Bool.and_eq_true] at h
   omega
 ·split
  ·split
   ·rename_i h1 h2 h3
    congr 1
    symm
    simp only [decide_eq_true_eq,Bool.or_eq_true,Bool.and_eq_true]
    omega
   ·rename_i h1 h2 h3
    congr 1
    rw [Bool.eq_iff_iff]
    simp only [decide_eq_true_eq,Bool.or_eq_true,Bool.and_eq_true]
    omega
  ·congr 1
   symm
   simp only [decide_eq_true_eq,Bool.or_eq_true,Bool.and_eq_true]
   omega)
theorem zuk {s:ByteArray} {i:Nat} (h:i < s.size):∃ x,s.data.toList.drop i=x :: s.data.toList.drop (i + 1) ∧ byt s i=x.toNat:=by
 have hl:i < s.data.toList.length:=by simpa using h
 refine ⟨s.data.toList[i],List.drop_eq_getElem_cons hl,?_⟩
 unfold byt
 congr 1
 cases s with
 | mk d=>
  show d[i]! = _
  rw [Array.getElem_toList]
  exact getElem!_pos d i (by simpa using hl)
theorem zE1 (x y:UInt8) (a b:List UInt8):Op.bytesLess (x :: a) (y :: b)=(decide (x.toNat < y.toNat) || (decide (x.toNat=y.toNat) && Op.bytesLess a b)):=by
 show (decide (x < y) || (x == y && Op.bytesLess a b))=_
 have e:(x == y)=decide (x.toNat=y.toNat):=by
  rw [Bool.eq_iff_iff,beq_iff_eq,decide_eq_true_eq]
  exact ⟨fun h=>by rw [h],fun h=>UInt8.toNat_inj.1 h⟩
 rw [e]
 rfl
theorem zxl {a b:ByteArray} (ha:a.size < 4611686018427387904):∀ (k i:Nat),i + k=a.size → i ≤ b.size → ∃ r,zix a b (i:Int)=some r ∧ (match r with | .inl t=>t | .inr _=>Ops.std.ilt (Ops.std.slen a) (Ops.std.slen b))=Op.bytesLess (a.data.toList.drop i) (b.data.toList.drop i)
 | 0,i,h,hi=>by
  refine ⟨.inr (),ziN ?_,?_⟩
  ·have e:Ops.std.ilt (i:Int) (Ops.std.slen a)=false:=iltF (by rw [zbc];omega)
   rw [zd8,e];rfl
  ·rw [List.drop_of_length_le (by simp;omega:a.data.toList.length ≤ i)]
   show decide ((a.size:Int) < (b.size:Int))=_
   by_cases hb:i < b.size
   ·obtain ⟨y,hy,_⟩:=zuk hb
    rw [hy,decide_eq_true (by omega)];rfl
   ·rw [List.drop_of_length_le (by simp;omega:b.data.toList.length ≤ i),decide_eq_false (by omega)];rfl
 | k + 1,i,h,hi=>by
  have e:Ops.std.ilt (i:Int) (Ops.std.slen a)=true:=iltT (by rw [zbc];omega)
  obtain ⟨x,hx,hxv⟩:=zuk (s:=a) (i:=i) (by omega)
  by_cases hb:i < b.size
  ·have e2:Ops.std.ilt (i:Int) (Ops.std.slen b)=true:=iltT (by rw [zbc];omega)
   obtain ⟨y,hy,hyv⟩:=zuk hb
   have g1:=zhX (s:=a) (i:=i) (by omega)
   have g2:=zhX hb
   have ad:Ops.std.iadd .i64 (i:Int) 1=((i + 1:Nat):Int):=zh0 (by omega)
   rw [hx,hy,zE1,← hxv,← hyv]
   by_cases he:byt a i=byt b i
   ·obtain ⟨r,hr,hv⟩:=zxl (a:=a) (b:=b) ha k (i + 1) (by omega) (by omega)
    have hs0:zk8 a b (i:Int)=some (.inl ((i + 1:Nat):Int)):=zre (by
     rw [ziO,g1,g2,ad]
     simp only [Option.bind_some,ieqT (show (byt a i:Int)=byt b i by omega),cond_true])
    refine ⟨r,ziN ?_,?_⟩
    ·rw [zd8,e,e2,hs0];exact hr
    ·rw [hv,he];simp
   ·have hs0:zk8 a b (i:Int)=some (.inr (Ops.std.ilt (byt a i:Int) (byt b i:Int))):=zre (by
     rw [ziO,g1,g2,ad]
     simp only [Option.bind_some,ieqF (show ¬ (byt a i:Int)=byt b i by omega),cond_false])
    refine ⟨.inl (Ops.std.ilt (byt a i:Int) (byt b i:Int)),ziN ?_,?_⟩
    ·rw [zd8,e,e2,hs0];rfl
    ·simp only [decide_eq_false he,Bool.false_and,Bool.or_false]
     exact decide_eq_decide.2 ⟨fun h=>by omega,fun h=>by omega⟩
  ·have e2:Ops.std.ilt (i:Int) (Ops.std.slen b)=false:=iltF (by rw [zbc];omega)
   refine ⟨.inr (),ziN (by rw [zd8,e,e2];rfl),?_⟩
   rw [hx,List.drop_of_length_le (by simp;omega:b.data.toList.length ≤ i)]
   show decide ((a.size:Int) < (b.size:Int))=_
   rw [decide_eq_false (by omega)];rfl
def lt (a b:ByteArray):Bool:=Op.bytesLess a.data.toList b.data.toList
theorem zAN {a b:ByteArray} (ha:a.size < 4611686018427387904):zqq a b=some (lt a b):=zDd (by
 obtain ⟨r,hr,hv⟩:=zxl (a:=a) (b:=b) ha a.size 0 (by omega) (by omega)
 have hr':zix a b 0=some r:=hr
 rw [zqr,hr',Option.bind_some]
 rw [List.drop_zero,List.drop_zero] at hv
 unfold lt
 rw [← hv]
 cases r <;> rfl)
end Go.Ab.Tryz
namespace Go.Ab.Tryz
open Go Go.Ab Go.Proofs Go.Lib
theorem zsq {a b:List Pair} (hl:a.length ≤ 1000000):znO a b=some (eqb a b):=zAL (by
 rw [zou,zaS,zaS]
 by_cases he:a.length=b.length
 ·have h:=znW zan (l:=a) (l':=b) (by omega) he (L:=fun i=>zjN a b i) (fun h=>zkJ (by simp [zfi,h]))
   (fun n x r _ h1 h2 h3 h=>zkJ (by simp [zfi,h1,h2,h3,zuL];exact h))
   (fun n x y _ h1 h2 h3 h=>zkJ (by
    simp only [zfi,h1,h2,h3,zCn,zaf,cond_true,Option.bind_some]
    rw [ne_eq,Pair.ext'] at h
    split
    ·split
     ·exact absurd ⟨‹_›,‹_›⟩ h
     ·rfl
    ·rfl))
  rw [ieqT (by omega),cond_true]
  rcases h with ⟨h1,h2⟩ | ⟨h1,h2⟩
  ·rw [h2,h1,zhk] <;> rfl
  ·rw [h2,zls h1] <;> rfl
 ·rw [ieqF (by omega),zls (fun h=>he (by rw [h]))] <;> rfl)
def isAt (key:ByteArray) (p:Pair):Bool:=Ops.std.seq p.key key
def pl (l:List Pair) (key:ByteArray):Int:=fstI (isAt key) l
theorem zmj {l:List Pair} {key:ByteArray} (hl:l.length ≤ 1000):zlk l key=some (pl l key) ∧ znT l key=some (pl l key):=by
 have e1:=zdI zan (l:=l) (by omega) (p:=isAt key) (L:=fun i=>zd2 l key i) (fun h=>zeV (by simp [zcg,h]))
  (fun n x _ h1 h2 hp=>zeV (by
   have:zi2 x key=some (isAt key x):=zn0 rfl
   simp [zcg,h1,h2,this,hp]))
  (fun n x r _ h1 h2 hp h=>zeV (by
   have:zi2 x key=some (isAt key x):=zn0 rfl
   simp [zcg,h1,h2,this,hp];exact h))
 have e0:=zdI zan (l:=l) (by omega) (p:=isAt key) (L:=fun i=>zjS l key i) (fun h=>zkK (by simp [zfn,h]))
  (fun n x _ h1 h2 hp=>zkK (by
   have:Ops.std.seq x.key key=true:=hp
   simp [zfn,h1,h2,this]))
  (fun n x r _ h1 h2 hp h=>zkK (by
   have:Ops.std.seq x.key key=false:=hp
   simp [zfn,h1,h2,this];exact h))
 refine ⟨zya (zrG ?_),zAQ ?_⟩
 ·rw [zha,e1];unfold pl fstI;cases fst (isAt key) l <;> rfl
 ·rw [zox,e0];unfold pl fstI;cases fst (isAt key) l <;> rfl
def getP (l:List Pair) (key:ByteArray):ByteArray × Bool:=match l.find? (isAt key) with
 | some x=>(x.val,true)
 | none=>(⟨#[]⟩,false)
theorem zmL {p:Pair → Bool}:∀ {l:List Pair},match fst p l with
  | some n=>∃ x,l[n]?=some x ∧ l.find? p=some x ∧ p x=true ∧ n < l.length
  | none=>l.find? p=none
 | []=>rfl
 | x :: l=>by
  have ih:=zmL (p:=p) (l:=l)
  rw [fst,List.find?_cons]
  cases h:p x with
  | true=>exact ⟨x,rfl,rfl,h,by simp⟩
  | false=>
   cases hf:fst p l with
   | none=>rw [hf] at ih;exact ih
   | some n=>
    rw [hf] at ih
    obtain ⟨y,h1,h2,h3,h4⟩:=ih
    exact ⟨y,by simpa using h1,h2,h3,by simp;omega⟩
theorem zza {l:List Pair} {key:ByteArray} (hl:l.length ≤ 1000):zsS l key=some (getP l key) ∧ zwL l key=some (getP l key):=by
 have h:=zmL (p:=isAt key) (l:=l)
 have h1:zlj l key=some (getP l key) ∧ znS l key=some (getP l key):=by
  rw [zlj,znS,(zmj hl).1,(zmj hl).2,Option.bind_some]
  unfold pl fstI getP
  cases hf:fst (isAt key) l with
  | none=>
   rw [hf] at h
   simp only [h,iltT (show (-1:Int) < 0 by omega),cond_true,and_self]
  | some n=>
   rw [hf] at h
   obtain ⟨x,h1,h2,h3,h4⟩:=h
   simp only [h2,iltF (show ¬ (n:Int) < 0 by omega),cond_false,za9,h1,Option.bind_some,and_self]
 exact ⟨zA8 h1.1,zFj h1.2⟩
def isUp (key:ByteArray) (p:Pair):Bool:=lt key p.key
def setP (key val:ByteArray):List Pair → List Pair
 | []=>[]
 | x :: l=>bif isAt key x then ⟨x.key,val⟩ :: l else x :: setP key val l
def insP (key val:ByteArray):List Pair → List Pair
 | []=>[⟨key,val⟩]
 | x :: l=>bif isUp key x then ⟨key,val⟩ :: x :: l else x :: insP key val l
def put (l:List Pair) (key val:ByteArray):List Pair × Int:=
 bif zcn key then
  (if 512 < val.size then (l,5) else
  if 0 ≤ pl l key then (setP key val l,0) else
  if 64 ≤ l.length then (l,10) else (insP key val l,0))
 else (l,7)
theorem zwW {key val:ByteArray}:∀ {l:List Pair} {n:Nat} {x:Pair},fst (isAt key) l=some n → l[n]?=some x → l.set n ⟨x.key,val⟩=setP key val l
 | [],n,x,h,_=>by cases h
 | y :: l,n,x,h,hx=>by
  rw [fst] at h
  rw [setP]
  cases hy:isAt key y with
  | true=>
   rw [hy] at h
   cases h
   cases hx
   rfl
  | false=>
   rw [hy,cond_false] at h
   cases hf:fst (isAt key) l with
   | none=>rw [hf] at h;cases h
   | some m=>
    rw [hf] at h
    cases h
    rw [cond_false,← zwW hf (by simpa using hx)]
    rfl
theorem zvz (key val:ByteArray) (l:List Pair):insP key val l=match fst (isUp key) l with | some n=>l.take n ++ ⟨key,val⟩ :: l.drop n | none=>l ++ [⟨key,val⟩]:=by
 induction l with
 | nil=>rfl
 | cons x l ih=>
  rw [insP,fst]
  cases isUp key x with
  | true=>rfl
  | false=>
   rw [cond_false,cond_false,ih]
   cases fst (isUp key) l with
   | none=>rfl
   | some n=>simp
theorem zGC (key val:ByteArray) (l:List Pair):(insP key val l).length=l.length + 1:=by
 induction l with
 | nil=>rfl
 | cons x l ih=>rw [insP];cases isUp key x <;> simp [ih]
theorem zHb (key val:ByteArray) (l:List Pair):(setP key val l).length=l.length:=by
 induction l with
 | nil=>rfl
 | cons x l ih=>rw [setP];cases isAt key x <;> simp [ih]
theorem zjy (l:List Pair) (key val:ByteArray):(put l key val).1.length ≤ max l.length 64:=by
 unfold put
 cases zcn key
 ·exact Nat.le_max_left _ _
 ·rw [cond_true]
  split
  ·exact Nat.le_max_left _ _
  ·split
   ·rw [zHb];exact Nat.le_max_left _ _
   ·split
    ·exact Nat.le_max_left _ _
    ·rw [zGC];omega
theorem zn6 (l:List Pair) (n:Nat) (h:n ≤ l.length):xsub zan l 0 (n:Int)=some (l.take n):=by
 rw [zim,if_pos (by omega)];simp
theorem zn5 (l:List Pair) (n:Nat) (h:n ≤ l.length):xsub zan l (n:Int) (xlen zan l)=some (l.drop n):=by
 rw [zim,zaS,if_pos (by omega)];simp
theorem zyF {l:List Pair} {key:ByteArray} (hl:l.length ≤ 1000):zi8 l key=some (fstI (isUp key) l):=zrF (by
 have hc:∀ x,zoK x key=some (isUp key x):=fun x=>zx9 rfl
 have h:=zdI zan (l:=l) (by omega) (p:=isUp key) (L:=fun i=>zd1 l key i) (fun h=>zeU (by simp [zce,h]))
  (fun n x _ h1 h2 hp=>zeU (by simp [zce,h1,h2,hc,hp]))
  (fun n x r _ h1 h2 hp h=>zeU (by simp [zce,h1,h2,hc,hp];exact h))
 rw [zg9,h]
 unfold fstI
 cases fst (isUp key) l <;> rfl)
theorem zv1 {l:List Pair} {key val:ByteArray} (hl:l.length ≤ 1000):zna l key val=some (insP key val l):=zwY (by
 have hroom:zaV zan 32 l [⟨key,val⟩]=true:=zaP zan (by simp;omega) (by omega)
 have h0:xsub zan l 0 (xlen zan l)=some l:=by
  rw [zaS,zn6 l l.length (Nat.le_refl _),List.take_length]
 have h1:xsub zan l (xlen zan l) (xlen zan l)=some []:=by
  have:=zn5 l l.length (Nat.le_refl _)
  rw [zaS] at this ⊢
  rw [this,List.drop_length]
 rw [zkR,zyF hl,Option.bind_some,hroom,zvz]
 have h:=zmL (p:=isUp key) (l:=l)
 unfold fstI
 cases hf:fst (isUp key) l with
 | none=>simp only [iltT (show (-1:Int) < 0 by omega),cond_true,h0,h1,Option.bind_some];simp
 | some n=>
  rw [hf] at h
  obtain ⟨x,hx,_,_,hn⟩:=h
  simp only [iltF (show ¬ (n:Int) < 0 by omega),cond_false,cond_true,zn6 l n (by omega),zn5 l n (by omega),Option.bind_some];simp)
theorem zzs (l:List Pair) (key:ByteArray):(pl l key=-1 ∧ fst (isAt key) l=none ∧ l.find? (isAt key)=none) ∨ ∃ n x,pl l key=(n:Nat) ∧ fst (isAt key) l=some n ∧ l[n]?=some x ∧ n < l.length ∧ l.find? (isAt key)=some x:=by
 have h:=zmL (p:=isAt key) (l:=l)
 unfold pl fstI
 cases hf:fst (isAt key) l with
 | none=>rw [hf] at h;exact .inl ⟨rfl,rfl,h⟩
 | some n=>
  rw [hf] at h
  obtain ⟨x,h1,h2,h3,h4⟩:=h
  exact .inr ⟨n,x,rfl,rfl,h1,h4,h2⟩
theorem zIw {a:Int}:Ops.std.ile 0 a=decide (0 ≤ a):=rfl
theorem zzY {l:List Pair} {key val:ByteArray} (hl:l.length ≤ 1000) (hk:key.size < 1000000):zsT l key val=some (put l key val):=zA9 (by
 have hroom:zaV zan 32 [] l=true:=zaP zan (by simp;omega) (by omega)
 rw [zoL,hroom,cond_true,(zmj hl).1,Option.bind_some,zvI hk,Option.bind_some]
 unfold put
 cases zcn key with
 | false=>rfl
 | true=>
  rw [cond_true,cond_true,zbc,zaA,zaf]
  by_cases h5:512 < val.size
  ·rw [if_pos h5,if_pos (by omega)]
  ·rw [if_neg h5,if_neg (by omega),zIw,zaf]
   rcases zzs l key with ⟨hp,hf,_⟩ | ⟨n,x,hp,hf,hx,hn,_⟩
   ·rw [hp,if_neg (by omega),if_neg (by omega),zaS,zbv,zaf]
    by_cases h64:64 ≤ l.length
    ·rw [if_pos h64,if_pos (by omega)]
    ·rw [if_neg h64,if_neg (by omega),zv1 hl];rfl
   ·rw [hp,if_pos (by omega),if_pos (by omega),za9,hx,Option.bind_some]
    congr 2
    exact zwW hf hx)
theorem zxP {l:List Pair} {key val:ByteArray} (hl:l.length ≤ 1000) (hk:key.size < 1000000):zjQ l key val 0=some (match fst (isUp key) l with | some n=>(n:Int) | none=>(l.length:Int)):=by
 have hc:∀ x:Pair,zqq key x.key=some (isUp key x):=fun x=>zAN (by omega)
 have:=zbb (σ:=Unit) zan (l:=l) (by omega) (L:=fun i _=>zjQ l key val i) (res:=fun n _ rest=>match fst (isUp key) rest with | some m=>((n + m:Nat):Int) | none=>((n + rest.length:Nat):Int)) (Inv:=fun _ _=>True)
  (fun _ _ h=>zsv (by rw [zjR,h];rfl))
  (fun n x rest s _ hn hx hd h1 h2 h3 ih=>zsv (by
   rw [zjR,h1,h2,cond_true,Option.bind_some,hc,Option.bind_some,fst]
   cases hp:isUp key x with
   | true=>rfl
   | false=>
    rw [cond_false,h3,cond_false]
    have:=ih () trivial
    rw [this]
    cases fst (isUp key) rest with
    | none=>simp only [Option.map_none,List.length_cons];congr 1;omega
    | some m=>simp only [Option.map_some];congr 1;omega)) () trivial
 rw [this]
 cases fst (isUp key) l <;> simp
theorem zDl {l:List Pair} {key val:ByteArray} (hl:l.length ≤ 1000) (hk:key.size < 1000000):zwM l key val=some (put l key val):=zFk (by
 have hroom:zaV zan 32 [] l=true:=zaP zan (by simp;omega) (by omega)
 rw [zsu,zml hk,Option.bind_some]
 unfold put
 cases zcn key with
 | false=>rfl
 | true=>
  rw [cond_true,cond_true,zbc,zaA,zaf]
  by_cases h5:512 < val.size
  ·rw [if_pos h5,if_pos (by omega)]
  ·rw [if_neg h5,if_neg (by omega),(zmj hl).2,Option.bind_some,zIw,zaf]
   rcases zzs l key with ⟨hp,hf,_⟩ | ⟨n,x,hp,hf,hx,hn,_⟩
   ·rw [hp,if_neg (by omega),if_neg (by omega),zaS,zaA,zaf]
    by_cases h64:64 ≤ l.length
    ·rw [if_pos h64,if_pos (by omega)]
    ·rw [if_neg h64,if_neg (by omega),zxP hl hk,Option.bind_some]
     have key2:∀ n:Nat,n ≤ l.length → ((xsub zan l 0 (n:Int)).bind fun ys=>bif zaV zan 32 [] ys then (bif zaV zan 32 ys [(⟨key,val⟩:Pair)] then (xsub zan l (n:Int) (xlen zan l)).bind fun ys1=>bif zaV zan 32 (ys ++ [(⟨key,val⟩:Pair)]) ys1 then some (((ys ++ [(⟨key,val⟩:Pair)]) ++ ys1),(0:Int)) else none else none) else none)=some (l.take n ++ ⟨key,val⟩ :: l.drop n,0):=fun n hn=>by
      rw [zn6 l n hn,Option.bind_some,zaP zan (by simp;omega) (by omega),cond_true,zaP zan (by simp;omega) (by omega),cond_true,zn5 l n hn,Option.bind_some,zaP zan (by simp;omega) (by omega),cond_true]
      simp
     rw [zvz]
     have h:=zmL (p:=isUp key) (l:=l)
     rw [zaS] at key2
     cases hf2:fst (isUp key) l with
     | none=>
      have:=key2 l.length (Nat.le_refl _)
      rw [List.take_length,List.drop_length] at this
      simp only []
      exact this
     | some n=>
      rw [hf2] at h
      obtain ⟨x,hx,_,_,hn⟩:=h
      exact key2 n (by omega)
   ·rw [hp,if_pos (by omega),if_pos (by omega),hroom,cond_true,za9,hx,Option.bind_some]
    congr 2
    exact zwW hf hx)
end Go.Ab.Tryz
namespace Go.Ab.Tryz
open Go Go.Ab Go.Proofs Go.Lib
def Keys (l:List Pair):Prop:=∀ p,p ∈ l → p.key.size < 1000000
def un (l:List Pair):Unit ⊕ (((List Pair) × Int) ⊕ Int) → List Pair × Int
 | .inl ()=>(l,0)
 | .inr (.inl r)=>r
 | .inr (.inr met)=>(l,met)
end Go.Ab.Tryz
namespace Go.Ab.Tryz
open Go Go.Ab Go.Proofs Go.Lib
def inP (a b:Int) (p:Pair):Bool:=upto a (zjF p.key) b
def rng (l:List Pair) (a b:Int):List Pair:=l.filter (inP a b)
theorem zGe {α β:Type} (f:α → β) (xs:List α):cut8 (xs.map f)=(cut8 xs).map (List.map f):=by
 unfold cut8
 rw [List.length_map,List.map_map]
 apply List.map_congr_left
 intro k _
 simp
theorem zJO {l:List Pair} (hl:l.length ≤ 1000000):xcut zan 78 l=some (cut8 l):=by
 refine zau ?_
 show (if (l.map zan).length ≤ 1000000 then some ((cut8 (l.map zan)).map (AV.lit 78 false)) else none)=_
 rw [if_pos (by rw [List.length_map];exact hl),zGe,List.map_map]
 rfl
theorem zB4 {l:List Pair} {c:List Pair} (hc:c ∈ cut8 l):c.length ≤ 8:=by
 unfold cut8 at hc
 obtain ⟨k,_,rfl⟩:=List.mem_map.1 hc
 rw [List.length_take];omega
theorem zul (l:List Pair):(cut8 l).length=(l.length + 7) / 8:=by
 unfold cut8;rw [List.length_map,List.length_range]
def zvE (l:List Pair):Bool:=decide (100 < l.length) || !allI (fun _ p=>decide (p.key.size ≤ 300) && decide (p.val.size ≤ 700)) 0 l
theorem zGJ (l:List Pair):zsZ l=some (zvE l):=zBd (by
 rw [zoP,zaS]
 unfold zvE
 by_cases h1:100 < l.length
 ·rw [iltT (by omega),decide_eq_true h1];rfl
 ·have h:=zyH zan (l:=l) (by omega) (p:=fun _ p=>decide (p.key.size ≤ 300) && decide (p.val.size ≤ 700)) (L:=fun i=>zj7 l i)
   (fun h=>zkU (by simp [zfB,h]))
   (fun n x r hx h1 h2 hp h=>zkU (by
    rw [Bool.and_eq_true,decide_eq_true_eq,decide_eq_true_eq] at hp
    rw [zfB,h1,h2,cond_true,Option.bind_some,zbc,zbc,iltF (by omega),iltF (by omega)];exact h))
   (fun n x hx h1 h2 hp=>zkU (by
    rw [Bool.and_eq_false_iff,decide_eq_false_iff_not,decide_eq_false_iff_not] at hp
    rw [zfB,h1,h2,cond_true,Option.bind_some,zbc,zbc]
    rcases hp with hp | hp
    ·rw [iltT (by omega)];rfl
    ·by_cases h3:300 < x.key.size
     ·rw [iltT (by omega)];rfl
     ·rw [iltF (by omega),cond_false,iltT (by omega)];rfl))
  rw [h,Option.bind_some,iltF (by omega),decide_eq_false h1,cond_false,Bool.false_or]
  cases allI (fun _ p=>decide (p.key.size ≤ 300) && decide (p.val.size ≤ 700)) 0 l <;> rfl)
theorem zE0 {l:List Pair} (h:zvE l=false):l.length ≤ 100 ∧ Keys l:=by
 unfold zvE at h
 rw [Bool.or_eq_false_iff,decide_eq_false_iff_not,Bool.not_eq_false'] at h
 refine ⟨by omega,fun p hp=>?_⟩
 obtain ⟨i,hi⟩:=List.getElem?_of_mem hp
 have:=zFZ.1 h.2 i p hi
 rw [Bool.and_eq_true,decide_eq_true_eq] at this
 omega
end Go.Ab.Tryz
namespace Go.Ab.Tryz
open Go Go.Ab Go.Proofs Go.Lib
def fl (k:Int) (has:Bool):Int:=if k=1 then 4 else if k=2 then 18 else if k=4 then (bif has then 26 else 18) else if k=5 then 8 else if k=7 then 96 else if k=8 then 32 else if k=9 then (bif has then 66 else 2) else if k=10 then 130 else if k=12 then 1 else 0
end Go.Ab.Tryz
namespace Go.Ab.Tryz
open Go Go.Ab Go.Proofs Go.Lib
theorem zsr {a b:List Peer} (hl:a.length ≤ 1000000):znP a b=some (eqb a b):=zt3 (by
 rw [zk7,zaS,zaS]
 by_cases he:a.length=b.length
 ·have h:=znW zai (l:=a) (l':=b) (by omega) he (L:=fun i=>zhr a b i) (fun h=>zdM (by simp [zck,h]))
   (fun n x r _ h1 h2 h3 h=>zdM (by simp [zck,h1,h2,h3,zap];exact h))
   (fun n x y _ h1 h2 h3 h=>zdM (by
    simp only [zck,h1,h2,h3,zap,zaf,cond_true,Option.bind_some]
    rw [ne_eq,Peer.ext'] at h
    split
    ·split
     ·exact absurd ⟨‹_›,‹_›⟩ h
     ·rfl
    ·rfl))
  rw [ieqT (by omega),cond_true]
  rcases h with ⟨h1,h2⟩ | ⟨h1,h2⟩
  ·rw [h2,h1,zhk] <;> rfl
  ·rw [h2,zls h1] <;> rfl
 ·rw [ieqF (by omega),zls (fun h=>he (by rw [h]))] <;> rfl)
theorem zAM {a b:Msg} (hp:a.peers.length ≤ 1000000) (hq:a.pairs.length ≤ 1000000):zuw a b=some (eqb a b):=zDc (by
 simp only [zqp,zsr hp,zsq hq,Option.bind_some,zap,zF4,zCn,zaf]
 obtain ⟨k,rid,code,has,id,key,val,⟨pi,pa⟩,peers,pairs⟩:=a
 obtain ⟨k',rid',code',has',id',key',val',⟨pi',pa'⟩,peers',pairs'⟩:=b
 simp only [eqb,Msg.mk.injEq,Peer.mk.injEq]
 by_cases c1:k=k' <;> by_cases c2:rid=rid' <;> by_cases c3:code=code' <;> by_cases c4:has=has' <;> by_cases c5:id=id' <;> simp only [c1,c2,c3,c4,c5,if_true,if_false,false_and,and_false,decide_false,true_and] <;> first | rfl | skip
 all_goals (by_cases c6:key=key' <;> by_cases c7:val=val' <;> by_cases c8:pi=pi' <;> by_cases c9:pa=pa' <;> by_cases c10:peers=peers' <;> by_cases c11:pairs=pairs' <;> simp_all))
structure Fit (m:Msg):Prop where
 key:m.key.size < 1000000
 val:m.val.size < 1000000
 peers:m.peers.length ≤ 1000
 pairs:m.pairs.length ≤ 1000
 keys:∀ p,p ∈ m.pairs → p.key.size < 1000000
theorem zws {α:Type} {p:α → Bool} {l:List α}:decide (0 ≤ fstI p l)=l.any p:=by
 unfold fstI
 cases h:fst p l with
 | none=>
  have:=zpX h
  have e:l.any p=false:=by
   rw [List.any_eq_false];intro x hx;simp [this x hx]
  rw [e] <;> rfl
 | some n=>
  obtain ⟨x,hx,hp,_⟩:=zkw h
  rw [List.any_eq_true.2 ⟨x,List.mem_of_getElem? hx,hp⟩]
  exact decide_eq_true (show (0:Int) ≤ (n:Int) by omega)
end Go.Ab.Tryz
namespace Go.Ab.Tryz
open Go Go.Ab Go.Proofs Go.Lib
theorem eta2 {α β:Type} {x:Option (α × β)} {p:α × β} (h:x=some p):x=some (p.1,p.2):=h
structure Sz (n:Node):Prop where
 pred:n.pred.length ≤ 1000
 list:n.list.length ≤ 1000
 fingers:n.fingers.length ≤ 1000
 store:n.store.length ≤ 200
 pends:n.pends.length ≤ 1000
 jobs:n.jobs.length ≤ 1000
 results:n.results.length ≤ 1000
theorem zbK {n:Node} (h:Sz n):zcj n=some (n.me.id,n.me.addr,n.clock,n.joined,n.pred,n.list,n.fingers,n.store,n.pends,n.jobs,n.results,n.rid,n.jobID,n.nextBit):=zAE (by
 obtain ⟨h1,h2,h3,h4,h5,h6,h7⟩:=h
 rw [zoj,zaP zat (by simp;omega) (by omega),zaP zat (by simp;omega) (by omega),zaP zae (by simp;omega) (by omega),zaP zan (by simp;omega) (by omega),zaP zaX (by simp;omega) (by omega),zaP eJob (by simp;omega) (by omega),zaP zal (by simp;omega) (by omega)]
 rfl)
def now (n:Node):Int:=if 0 ≤ n.clock ∧ n.clock ≤ 1099511627776 then n.clock else 0
theorem zqe (n:Node):zqi n=some (now n) ∧ ztL n=some (now n):=by
 unfold now
 constructor
 ·refine zC3 ?_
  simp only [zqj,zaA,zaf]
  (repeat' split) <;> first | rfl | (exfalso;omega)
 ·refine zFm ?_
  simp only [zsx,zaA,zbv,zaf]
  (repeat' split) <;> first | rfl | (exfalso;omega) | (congr 1;omega)
theorem zAD {m:Msg} (hp:m.peers.length ≤ 1000000) (hq:m.pairs.length ≤ 1000000):zuu m=some m:=zCZ (by
 rw [zqa,zaP zai (by simpa using hp) (by omega),zaP zan (by simpa using hq) (by omega)]
 rfl)
def askN (n:Node) (to_:Peer) (m:Msg) (why job:Int):Node × List Out:=
 if 63 < n.pends.length then (n,[]) else
 (⟨n.me,n.clock,n.joined,n.pred,n.list,n.fingers,n.store,n.pends ++ [⟨Ops.std.iadd .u32 n.rid 1,m.kind,why,job,to_,Ops.std.iadd .i64 (now n) 8⟩],n.jobs,n.results,Ops.std.iadd .u32 n.rid 1,n.jobID,n.nextBit⟩,
  [⟨to_,⟨m.kind,Ops.std.iadd .u32 n.rid 1,m.code,m.has,m.id,m.key,m.val,m.peer,m.peers,m.pairs⟩⟩])
theorem zoh {n:Node} {to_:Peer} {m:Msg} {why job:Int} (h:Sz n) (hp:m.peers.length ≤ 1000000) (hq:m.pairs.length ≤ 1000000):zmR n to_ m why job=some (askN n to_ m why job):=zC2 (by
 have h5:=h.pends
 rw [zqh,zbK h,Option.bind_some]
 dsimp only
 rw [zaS,zbv,zaf,askN]
 by_cases hc:63 < n.pends.length
 ·rw [if_pos (by omega),if_pos hc]
 ·rw [if_neg (by omega),if_neg hc,zAD hp hq,Option.bind_some,(zqe _).1,Option.bind_some,zaP zaX (by simp;omega) (by omega)]
  rfl)
theorem zmm {n:Node} {to_:Peer} {m:Msg} {why job:Int} (h:Sz n):zmt n to_ m why job=some (askN n to_ m why job):=zFl (by
 have h5:=h.pends
 rw [zsw,zaS,zaA,zaf,askN]
 by_cases hc:63 < n.pends.length
 ·rw [if_pos (by omega),if_pos hc]
 ·rw [if_neg (by omega),if_neg hc,zaP zaX (by simp;omega) (by omega),cond_true,(zqe _).2,Option.bind_some,zaP zaX (by simp;omega) (by omega)]
  rfl)
theorem zjp {n:Node} {to_:Peer} {m:Msg} {why job:Int} (h:Sz n):Sz (askN n to_ m why job).1 ∧ (askN n to_ m why job).2.length ≤ 1:=by
 unfold askN
 split
 ·exact ⟨h,by simp⟩
 ·exact ⟨⟨h.pred,h.list,h.fingers,h.store,by simp;omega,h.jobs,h.results⟩,by simp⟩
def zfW (fresh:Bool) (c:List Pair):Msg:=⟨10,0,0,fresh,0,⟨#[]⟩,⟨#[]⟩,⟨0,0⟩,[],c⟩
def zen (to_:Peer) (fresh:Bool):List (List Pair) → Node → Node × List Out
 | [],n=>(n,[])
 | c :: cs,n=>((zen to_ fresh cs (askN n to_ (zfW fresh c) 6 0).1).1,(askN n to_ (zfW fresh c) 6 0).2 ++ (zen to_ fresh cs (askN n to_ (zfW fresh c) 6 0).1).2)
theorem zzb (to_:Peer) (fresh:Bool):∀ (cs:List (List Pair)) {n:Node},Sz n → Sz (zen to_ fresh cs n).1 ∧ (zen to_ fresh cs n).2.length ≤ cs.length
 | [],n,h=>⟨h,by simp [zen]⟩
 | c :: cs,n,h=>by
  obtain ⟨h1,h2⟩:=zjp (to_:=to_) (m:=zfW fresh c) (why:=6) (job:=0) h
  obtain ⟨h3,h4⟩:=zzb to_ fresh cs h1
  refine ⟨h3,?_⟩
  simp only [zen,List.length_append,List.length_cons]
  omega
def hand (n:Node) (to_:Peer) (l:List Pair) (fresh:Bool):Node × List Out:=zen to_ fresh (cut8 l) n
theorem zAi {l:List Pair} (hl:l.length ≤ 1000000):xcut zan 78 l=some (cut8 l):=zJO hl
theorem zx6 {n:Node} {to_:Peer} {l:List Pair} {fresh:Bool} (h:Sz n) (hl:l.length ≤ 1000):zqS n to_ l fresh=some (hand n to_ l fresh):=zzS (by
 have hc:(cut8 l).length ≤ 1000:=by rw [zul];omega
 have hcs:∀ c,c ∈ cut8 l → c.length ≤ 8:=fun c hc=>zB4 hc
 rw [zm7,zbK h,Option.bind_some]
 dsimp only
 rw [zAi (by omega),Option.bind_some]
 have:=zbb (σ:=Node × List Out) (eL 78 zan) (l:=cut8 l) (by omega) (L:=fun i s=>zi0 to_ fresh (cut8 l) (xlen (eL 78 zan) (cut8 l)) i s.1 n.pred n.list n.fingers n.store n.pends n.jobs n.results s.2)
  (res:=fun k s rest=>((zen to_ fresh rest s.1).1,n.pred,n.list,n.fingers,n.store,n.pends,n.jobs,n.results,s.2 ++ (zen to_ fresh rest s.1).2)) (Inv:=fun k s=>Sz s.1 ∧ s.2.length ≤ k)
  (fun s hi h0=>znX (by rw [zg0,h0];simp [zen]))
  (fun k x rest s hi hn hx hd h1 h2 h3 ih=>znX (by
   have hx8:=hcs x (List.mem_of_getElem? hx)
   obtain ⟨h4,h5⟩:=zjp (to_:=to_) (m:=zfW fresh x) (why:=6) (job:=0) hi.1
   have h6:=hi.2
   rw [zg0,h1,h2,cond_true,Option.bind_some]
   rw [show (⟨10,0,0,fresh,0,⟨#[]⟩,⟨#[]⟩,⟨0,0⟩,[],x⟩:Msg)=zfW fresh x from rfl,eta2 (zoh hi.1 (by simp [zfW]) (by simp [zfW];omega)),Option.bind_some]
   dsimp only
   rw [zaP eOut (by omega) (by omega),cond_true,h3]
   rw [ih ((askN s.1 to_ (zfW fresh x) 6 0).1,s.2 ++ (askN s.1 to_ (zfW fresh x) 6 0).2) ⟨h4,by simp only [List.length_append];omega⟩]
   simp only [zen,List.append_assoc])) (n,[]) ⟨h,by simp⟩
 dsimp only at this
 have e:(⟨⟨n.me.id,n.me.addr⟩,n.clock,n.joined,n.pred,n.list,n.fingers,n.store,n.pends,n.jobs,n.results,n.rid,n.jobID,n.nextBit⟩:Node)=n:=rfl
 rw [e,this,Option.bind_some]
 simp [hand])
theorem zAU {n:Node} {to_:Peer} {l:List Pair} {fresh:Bool} (h:Sz n) (hl:l.length ≤ 1000):zuC n to_ l fresh=some (hand n to_ l fresh):=zDt (by
 have hc:(cut8 l).length ≤ 1000:=by rw [zul];omega
 rw [zqG,zAi (by omega),Option.bind_some]
 have:=zbb (σ:=Node × List Out) (eL 78 zan) (l:=cut8 l) (by omega) (L:=fun i s=>zlg to_ fresh (cut8 l) i s.1 s.2)
  (res:=fun k s rest=>((zen to_ fresh rest s.1).1,s.2 ++ (zen to_ fresh rest s.1).2)) (Inv:=fun k s=>Sz s.1 ∧ s.2.length ≤ k)
  (fun s hi h0=>zrr (by rw [ziY,h0];simp [zen]))
  (fun k x rest s hi hn hx hd h1 h2 h3 ih=>zrr (by
   obtain ⟨h4,h5⟩:=zjp (to_:=to_) (m:=zfW fresh x) (why:=6) (job:=0) hi.1
   have h6:=hi.2
   rw [ziY,h1,h2,cond_true,Option.bind_some]
   rw [show (⟨10,0,0,fresh,0,⟨#[]⟩,⟨#[]⟩,⟨0,0⟩,[],x⟩:Msg)=zfW fresh x from rfl,eta2 (zmm hi.1),Option.bind_some]
   dsimp only
   rw [zaP eOut (by omega) (by omega),cond_true,h3]
   rw [ih ((askN s.1 to_ (zfW fresh x) 6 0).1,s.2 ++ (askN s.1 to_ (zfW fresh x) 6 0).2) ⟨h4,by simp only [List.length_append];omega⟩]
   simp only [zen,List.append_assoc])) (n,[]) ⟨h,by simp⟩
 rw [this]
 simp [hand])
def zcC (key val:ByteArray):List Peer → Node → Node × List Out
 | [],n=>(n,[])
 | p :: ps,n=>((zcC key val ps (hand n p [⟨key,val⟩] true).1).1,(hand n p [⟨key,val⟩] true).2 ++ (zcC key val ps (hand n p [⟨key,val⟩] true).1).2)
def zcl (n:Node) (l:List Pair):Node:=⟨n.me,n.clock,n.joined,n.pred,n.list,n.fingers,l,n.pends,n.jobs,n.results,n.rid,n.jobID,n.nextBit⟩
def zco (n:Node) (key val:ByteArray):Node × List Out × Int:=
 if (put n.store key val).2=0 then ((zcC key val ((Pe.firms n.list).take 2) (zcl n (put n.store key val).1)).1,(zcC key val ((Pe.firms n.list).take 2) (zcl n (put n.store key val).1)).2,0)
 else (n,[],(put n.store key val).2)
theorem zup {n:Node} {p:Peer} {q:Pair} {fresh:Bool} (h:Sz n):Sz (hand n p [q] fresh).1 ∧ (hand n p [q] fresh).2.length ≤ 1:=by
 obtain ⟨h1,h2⟩:=zzb p fresh (cut8 [q]) h
 exact ⟨h1,Nat.le_trans h2 (by rw [zul];simp)⟩
theorem zzg (key val:ByteArray):∀ (ps:List Peer) {n:Node},Sz n → Sz (zcC key val ps n).1 ∧ (zcC key val ps n).2.length ≤ ps.length
 | [],n,h=>⟨h,by simp [zcC]⟩
 | p :: ps,n,h=>by
  obtain ⟨h1,h2⟩:=zup (p:=p) (q:=⟨key,val⟩) (fresh:=true) h
  obtain ⟨h3,h4⟩:=zzg key val ps h1
  refine ⟨h3,?_⟩
  simp only [zcC,List.length_append,List.length_cons]
  omega
theorem zz8 {n:Node} {l:List Pair} (h:Sz n) (hl:l.length ≤ 200):Sz (zcl n l):=⟨h.pred,h.list,h.fingers,hl,h.pends,h.jobs,h.results⟩
theorem zzw {n:Node} (h:Sz n) (key val:ByteArray):Sz (zcl n (put n.store key val).1):=zz8 h (by have:=zjy n.store key val;have:=h.store;omega)
theorem zeK (l:List Peer) (n:Nat) (h:n ≤ l.length):xsub zai l 0 (n:Int)=some (l.take n):=by
 rw [zim,if_pos (by omega)];simp
theorem zx7 {n:Node} {key val:ByteArray} (h:Sz n) (hk:key.size < 1000000):zqT n key val=some (zco n key val):=zzT (by
 have hs:=h.store
 have hf:=Pe.firms_le n.list
 have hll:=h.list
 have hz:=zzw h key val
 rw [zm8,zbK h,Option.bind_some]
 dsimp only
 rw [zzY (by omega) hk,zco]
 obtain ⟨⟨q,e⟩,hq⟩:∃ z,put n.store key val=z:=⟨_,rfl⟩
 rw [hq] at hz ⊢
 rw [Option.bind_some]
 dsimp only at hz ⊢
 by_cases he:e=0
 ·rw [if_pos he,ieqT he,cond_true,(Pe.some_eq hll).1,Option.bind_some]
  have loop:∀ (ys:List Peer),ys.length ≤ 2 → zea key val ys (xlen zai ys) 0 (zcl n q) n.pred n.list n.fingers n.store n.pends n.jobs n.results (Pe.firms n.list) []=some ((zcC key val ys (zcl n q)).1,n.pred,n.list,n.fingers,n.store,n.pends,n.jobs,n.results,Pe.firms n.list,(zcC key val ys (zcl n q)).2):=fun ys hy=>by
   have:=zbb (σ:=Node × List Out) zai (l:=ys) (by omega) (L:=fun i s=>zea key val ys (xlen zai ys) i s.1 n.pred n.list n.fingers n.store n.pends n.jobs n.results (Pe.firms n.list) s.2)
    (res:=fun k s rest=>((zcC key val rest s.1).1,n.pred,n.list,n.fingers,n.store,n.pends,n.jobs,n.results,Pe.firms n.list,s.2 ++ (zcC key val rest s.1).2)) (Inv:=fun k s=>Sz s.1 ∧ s.2.length ≤ k)
    (fun s hi h0=>znY (by rw [zg1,h0];simp [zcC]))
    (fun k x rest s hi hn hx hd h1 h2 h3 ih=>znY (by
     obtain ⟨h4,h5⟩:=zup (p:=x) (q:=⟨key,val⟩) (fresh:=true) hi.1
     have h6:=hi.2
     rw [zg1,h1,h2,cond_true,Option.bind_some,eta2 (zx6 hi.1 (by simp)),Option.bind_some]
     dsimp only
     rw [zaP eOut (by omega) (by omega),cond_true,h3]
     rw [ih ((hand s.1 x [⟨key,val⟩] true).1,s.2 ++ (hand s.1 x [⟨key,val⟩] true).2) ⟨h4,by simp only [List.length_append];omega⟩]
     simp only [zcC,List.append_assoc])) (zcl n q,[]) ⟨hz,by simp⟩
   simpa using this
  have e0:(⟨⟨n.me.id,n.me.addr⟩,n.clock,n.joined,n.pred,n.list,n.fingers,q,n.pends,n.jobs,n.results,n.rid,n.jobID,n.nextBit⟩:Node)=zcl n q:=rfl
  rw [e0,zaS,zaA,zaf]
  by_cases h2:2 < (Pe.firms n.list).length
  ·rw [if_pos (by omega),show (2:Int)=((2:Nat):Int) from rfl,zeK _ 2 (by omega),Option.bind_some,loop _ (by rw [List.length_take];omega),Option.bind_some]
  ·rw [if_neg (by omega),zeK _ _ (Nat.le_refl _),Option.bind_some,List.take_length,loop _ (by omega),Option.bind_some,List.take_of_length_le (by omega)]
 ·rw [if_neg he,ieqF he,cond_false])
theorem zt5 {n:Node} {key val:ByteArray} (h:Sz n) (hk:key.size < 1000000):zuD n key val=some (zco n key val):=zDu (by
 have hs:=h.store
 have hf:=Pe.firms_le n.list
 have hll:=h.list
 have hz:=zzw h key val
 rw [zqH,zDl (by omega) hk,zco]
 obtain ⟨⟨q,e⟩,hq⟩:∃ z,put n.store key val=z:=⟨_,rfl⟩
 rw [hq] at hz ⊢
 rw [Option.bind_some]
 dsimp only at hz ⊢
 by_cases he:e=0
 ·rw [if_pos he,ieqT he,cond_true,(Pe.some_eq hll).2.1,Option.bind_some]
  have e0:(⟨n.me,n.clock,n.joined,n.pred,n.list,n.fingers,q,n.pends,n.jobs,n.results,n.rid,n.jobID,n.nextBit⟩:Node)=zcl n q:=rfl
  rw [e0]
  have loop:∀ (ps:List Peer) (k:Nat) (m:Node) (o:List Out),Sz m → o.length ≤ k → k ≤ 2 → (Pe.firms n.list).drop k=ps → zlh key val (k:Int) m o (Pe.firms n.list)=some ((zcC key val (ps.take (2 - k)) m).1,o ++ (zcC key val (ps.take (2 - k)) m).2,Pe.firms n.list):=by
   intro ps
   induction ps with
   | nil=>
    intro k m o hm ho hk2 hd
    have hle:(Pe.firms n.list).length ≤ k:=by simpa using hd
    refine zrs ?_
    rw [ziZ,zgK,zaf,if_neg (by omega)]
    simp [zcC]
   | cons p ps ih=>
    intro k m o hm ho hk2 hd
    have hlt:k < (Pe.firms n.list).length:=by
     rcases Nat.lt_or_ge k (Pe.firms n.list).length with h1 | h1
     ·exact h1
     ·rw [List.drop_eq_nil_of_le h1] at hd;cases hd
    have hx:(Pe.firms n.list)[k]?=some p:=by
     have:((Pe.firms n.list).drop k)[0]?=some p:=by rw [hd];rfl
     simpa using this
    have hd2:(Pe.firms n.list).drop (k + 1)=ps:=by
     rw [← List.drop_drop,hd];rfl
    refine zrs ?_
    rw [ziZ,zgK,zaf,if_pos hlt,zaA,zaf]
    by_cases hk3:k < 2
    ·rw [if_pos (by omega)]
     obtain ⟨h4,h5⟩:=zup (p:=p) (q:=⟨key,val⟩) (fresh:=true) hm
     have hs0:zoF key val (k:Int) m o (Pe.firms n.list)=some (((k + 1:Nat):Int),(hand m p [⟨key,val⟩] true).1,o ++ (hand m p [⟨key,val⟩] true).2,Pe.firms n.list):=zx1 (by
      rw [zlY,za9,hx,Option.bind_some,eta2 (zAU hm (by simp)),Option.bind_some]
      dsimp only
      rw [zaP eOut (by omega) (by omega),cond_true]
      rw [show Ops.std.iadd .i64 (k:Int) 1=((k + 1:Nat):Int) from zh0 (by omega)])
     rw [hs0,Option.bind_some]
     dsimp only
     rw [ih (k + 1) _ _ h4 (by simp only [List.length_append];omega) (by omega) hd2,show 2 - k=(2 - (k + 1)) + 1 by omega]
     simp only [List.take_succ_cons,zcC,List.append_assoc]
    ·rw [if_neg (by omega),show 2 - k=0 by omega]
     simp [zcC]
  have:=loop (Pe.firms n.list) 0 (zcl n q) [] hz (by simp) (by omega) rfl
  rw [show ((0:Nat):Int)=0 from rfl] at this
  rw [this,Option.bind_some]
  simp
 ·rw [if_neg he,ieqF he,cond_false])
theorem ztI {n:Node} {key val:ByteArray} (h:Sz n):Sz (zco n key val).1 ∧ (zco n key val).2.1.length ≤ 2:=by
 unfold zco
 split
 ·obtain ⟨h1,h2⟩:=zzg key val ((Pe.firms n.list).take 2) (zzw h key val)
  exact ⟨h1,Nat.le_trans h2 (by rw [List.length_take];omega)⟩
 ·exact ⟨h,by simp⟩
theorem zpK (a:Bool):Ops.std.beq a a=true:=by cases a <;> rfl
theorem zxO {l:List Finger} (hl:l.length ≤ 1000):zuy l l=some true:=zDi (by
 have:=zbb (σ:=Unit) zae (l:=l) (by omega) (L:=fun i _=>zlb l l i) (res:=fun _ _ _=>.inr ()) (Inv:=fun _ _=>True)
  (fun _ _ h=>zrj (by rw [ziS,h];rfl))
  (fun n x rest s _ hn hx hd h1 h2 h3 ih=>zrj (by
   simp only [ziS,h1,h2,cond_true,Option.bind_some,ieqT,h3];exact ih () trivial)) () trivial
 rw [zqw,ieqT rfl,cond_true,this];rfl)
theorem zwN {l:List Pend} (hl:l.length ≤ 1000):zsy l l=some true:=zAR (by
 have:=zbb (σ:=Unit) zaX (l:=l) (by omega) (L:=fun i _=>zjT l l i) (res:=fun _ _ _=>.inr ()) (Inv:=fun _ _=>True)
  (fun _ _ h=>zps (by rw [zh7,h];rfl))
  (fun n x rest s _ hn hx hd h1 h2 h3 ih=>zps (by
   simp only [zh7,h1,h2,cond_true,Option.bind_some,ieqT,h3];exact ih () trivial)) () trivial
 rw [zoy,ieqT rfl,cond_true,this];rfl)
theorem zxU {n:Node} (hj:n.jobs.length ≤ 1000) (hr:n.results.length ≤ 1000):zuz n n=some true:=zDo (by
 have e0:=zbb (σ:=Unit) eJob (l:=n.jobs) (by omega) (L:=fun i _=>zld n n i) (res:=fun _ _ _=>.inr ()) (Inv:=fun _ _=>True)
  (fun _ _ h=>zrm (by rw [ziU,h];rfl))
  (fun k x rest s _ hn hx hd h1 h2 h3 ih=>zrm (by
   simp only [ziU,h1,h2,cond_true,Option.bind_some,ieqT,zuL,zpK,h3];exact ih () trivial)) () trivial
 have e1:=zbb (σ:=Unit) zal (l:=n.results) (by omega) (L:=fun i _=>zle n n i) (res:=fun _ _ _=>.inr ()) (Inv:=fun _ _=>True)
  (fun _ _ h=>zrn (by rw [ziV,h];rfl))
  (fun k x rest s _ hn hx hd h1 h2 h3 ih=>zrn (by
   simp only [ziV,h1,h2,cond_true,Option.bind_some,ieqT,zuL,zpK,h3];exact ih () trivial)) () trivial
 rw [zqA,ieqT rfl,ieqT rfl,cond_true,cond_true]
 refine zxT ?_
 rw [zlT,e0,Option.bind_some]
 dsimp only
 rw [e1];rfl)
theorem zrl {n:Node} (h:Sz n):zjc n n=some true:=zDn (by
 have h1:zoz n n=some true:=zxR (by
  rw [zlR,zsq (by have:=h.store;omega),Option.bind_some,zhk,cond_true,zwN h.pends,Option.bind_some,cond_true,zxU h.jobs h.results])
 have h2:zoA n n=some true:=zxS (by
  rw [zlS,Pe.r27_Same_eq h.pred,Option.bind_some,zhk,cond_true,Pe.r27_Same_eq h.list,Option.bind_some,zhk,cond_true,zxO h.fingers,Option.bind_some,cond_true,h1])
 simp only [zqz,ieqT,zpK,cond_true,h2])
def zII (l:List Out):Prop:=l.length ≤ 1000 ∧ ∀ o,o ∈ l → o.msg.peers.length ≤ 1000000 ∧ o.msg.pairs.length ≤ 1000000
theorem zxQ {l:List Out} (h:zII l):zkL l l=some true:=zDm (by
 have:=zbb (σ:=Unit) eOut (l:=l) (by have:=h.1;omega) (L:=fun i _=>zlc l l i) (res:=fun _ _ _=>.inr ()) (Inv:=fun _ _=>True)
  (fun _ _ h=>zrk (by rw [ziT,h];rfl))
  (fun k x rest s _ hn hx hd h1 h2 h3 ih=>zrk (by
   obtain ⟨hp,hq⟩:=h.2 x (List.mem_of_getElem? hx)
   simp only [ziT,h1,h2,cond_true,Option.bind_some,ieqT,zAM hp hq,zhk,h3];exact ih () trivial)) () trivial
 rw [zqy,ieqT rfl,cond_true,this];rfl)
end Go.Ab.Tryz
namespace Go.Ab.Tryz
open Go Go.Ab Go.Proofs Go.Lib
theorem zES {α:Type} {p:α → Bool} {l:List α}:match fst p l with
  | some n=>∃ x,l[n]?=some x ∧ l.find? p=some x ∧ p x=true ∧ n < l.length
  | none=>l.find? p=none:=by
 induction l with
 | nil=>rfl
 | cons x l ih=>
  cases hp:p x with
  | true=>simp [fst,hp]
  | false=>
   simp only [fst,hp,cond_false,List.find?_cons]
   cases hf:fst p l with
   | none=>rw [hf] at ih;exact ih
   | some n=>
    rw [hf] at ih
    obtain ⟨y,h1,h2,h3,h4⟩:=ih
    exact ⟨y,by simpa using h1,h2,h3,by simp;omega⟩
def isJ (id:Int) (j:Job):Bool:=decide (j.id=id)
def zcB (l:List Job) (id:Int):Int:=fstI (isJ id) l
theorem zmN {l:List Job} {id:Int} (hl:l.length ≤ 10000):zlw l id=some (zcB l id):=zAA (by
 have hf:∀ x:Job,zoe x id=some (isJ id x):=fun x=>zxJ rfl
 have:=zdI eJob (l:=l) (by omega) (p:=isJ id) (L:=fun i=>zef l id i) (fun h=>zfQ (by simp [zct,h]))
  (fun n x _ h1 h2 hp=>zfQ (by simp [zct,h1,h2,hf,hp]))
  (fun n x r _ h1 h2 hp h=>zfQ (by simp [zct,h1,h2,hf,hp,h]))
 rw [zof]
 refine ztQ ?_
 rw [zio,this]
 unfold zcB fstI
 cases fst (isJ id) l <;> rfl)
theorem zgN {l:List Job} {id:Int} (hl:l.length ≤ 10000):zhz l id=some (zcB l id):=zvN (by
 have hf:∀ x:Job,Ops.std.ieq x.id id=isJ id x:=fun x=>rfl
 have:=zdI eJob (l:=l) (by omega) (p:=isJ id) (L:=fun i=>ziz l id i) (fun h=>zgw (by simp [zdu,h]))
  (fun n x _ h1 h2 hp=>zgw (by simp [zdu,h1,h2,hf,hp]))
  (fun n x r _ h1 h2 hp h=>zgw (by simp [zdu,h1,h2,hf,hp,h]))
 rw [zmn,this]
 unfold zcB fstI
 cases fst (isJ id) l <;> rfl)
theorem zr5 {l:List Job} {k:Int} (hl:l.length ≤ 10000):znH l k=some (l.any fun j=>decide (j.kind=k)):=zAz (by
 have hf:∀ x:Job,zoc x k=some (decide (x.kind=k)):=fun x=>zxI rfl
 have:=zdI eJob (l:=l) (by omega) (p:=fun j=>decide (j.kind=k)) (L:=fun i=>zfR l k i) (fun h=>zg8 (by simp [zc0,h]))
  (fun n x _ h1 h2 hp=>zg8 (by simp [zc0,h1,h2,hf,hp]))
  (fun n x r _ h1 h2 hp h=>zg8 (by simp [zc0,h1,h2,hf,hp,h]))
 rw [zod]
 refine zrD ?_
 have e:zlH l k=some (fstI (fun j=>decide (j.kind=k)) l):=zuX (by
  rw [zjD,this]
  unfold fstI
  cases fst (fun j:Job=>decide (j.kind=k)) l <;> rfl)
 rw [zg3,e,Option.bind_some,zbv,zws])
theorem zoB {l:List Job} {k:Int} (hl:l.length ≤ 10000):zqB l k=some (l.any fun j=>decide (j.kind=k)):=zDq (by
 have:=zbb (σ:=Unit) eJob (l:=l) (by omega) (L:=fun i _=>zlf l k i) (res:=fun _ _ rest=>if (rest.any fun j=>decide (j.kind=k))=true then Sum.inl () else Sum.inr ()) (Inv:=fun _ _=>True)
  (fun _ _ h=>zro (by rw [ziW,h];rfl))
  (fun n x rest s _ hn hx hd h1 h2 h3 ih=>zro (by
   rw [ziW,h1,h2,cond_true,Option.bind_some,zap,List.any_cons]
   cases hp:decide (x.kind=k) with
   | true=>simp
   | false=>rw [cond_false,h3,ih () trivial,Bool.false_or])) () trivial
 rw [zqC,this]
 cases l.any fun j=>decide (j.kind=k) <;> rfl)
def setJ:List Job → Job → List Job
 | [],_=>[]
 | x :: r,j=>if x.id=j.id then j :: r else x :: setJ r j
theorem zG6 (l:List Job) (j:Job):(setJ l j).length=l.length:=by
 induction l with
 | nil=>rfl
 | cons x r ih=>unfold setJ;split <;> simp [ih]
theorem zG7 {l:List Job} {j j':Job} (h:j.id=j'.id):setJ (setJ l j) j'=setJ l j':=by
 induction l with
 | nil=>rfl
 | cons x r ih=>
  by_cases hx:x.id=j.id
  ·simp [setJ,hx,h]
  ·simp [setJ,hx,ih,← h]
theorem zxv {l:List Job} {j:Job} (h:fst (isJ j.id) l=none):setJ l j=l:=by
 have:=zpX h
 clear h
 induction l with
 | nil=>rfl
 | cons x r ih=>
  have hx:¬ x.id=j.id:=by simpa [isJ] using this x (by simp)
  rw [setJ,if_neg hx,ih fun y hy=>this y (by simp [hy])]
theorem zsR {l:List Job} {j:Job} {n:Nat} (h:fst (isJ j.id) l=some n):setJ l j=l.set n j:=by
 induction l generalizing n with
 | nil=>cases h
 | cons x r ih=>
  by_cases hx:x.id=j.id
  ·have:n=0:=by simpa [fst,isJ,hx] using h.symm
   subst this
   simp [setJ,hx]
  ·simp only [fst,isJ,hx,decide_false,cond_false,Option.map_eq_some_iff] at h
   obtain ⟨m,hm,rfl⟩:=h
   rw [setJ,if_neg hx,ih hm];rfl
theorem zFD {l:List Job} {j:Job} {n:Nat} (h:fst (isJ j.id) l=some n) (hj:l[n]?=some j):setJ l j=l:=by
 rw [zsR h]
 obtain ⟨hn,he⟩:=List.getElem?_eq_some_iff.1 hj
 rw [← he,List.set_getElem_self]
def znf (n:Node) (l:List Job):Node:=⟨n.me,n.clock,n.joined,n.pred,n.list,n.fingers,n.store,n.pends,l,n.results,n.rid,n.jobID,n.nextBit⟩
def setN (n:Node) (j:Job):Node:=znf n (setJ n.jobs j)
theorem zuN (n:Node) {j j':Job} (h:j.id=j'.id):setN (setN n j) j'=setN n j':=by
 show znf (setN n j) (setJ (setJ n.jobs j) j')=_
 rw [zG7 h];rfl
theorem zdm {n:Node} (h:Sz n) (j:Job):Sz (setN n j):=⟨h.pred,h.list,h.fingers,h.store,h.pends,by show (setJ n.jobs j).length ≤ 1000;rw [zG6];exact h.jobs,h.results⟩
theorem zGH {α:Type} (l:List α) (n:Nat) (x:α):xset l (n:Int) x=l.set n x:=rfl
theorem ztZ {n:Node} {j:Job} (h:Sz n):zp4 n j=some (n.me.id,n.me.addr,n.clock,n.joined,n.pred,n.list,n.fingers,n.store,n.pends,setJ n.jobs j,n.results,n.rid,n.jobID,n.nextBit):=zCS (by
 have hj:=h.jobs
 rw [zp6,zbK h,Option.bind_some]
 dsimp only
 rw [zmN (by omega),Option.bind_some,zbv,zaf]
 unfold zcB fstI
 cases hf:fst (isJ j.id) n.jobs with
 | none=>dsimp only;rw [if_neg (by omega),zxv hf]
 | some k=>
  obtain ⟨x,hx,_,hk,_⟩:=zkw hf
  dsimp only
  rw [if_pos (by omega),za9,hx,Option.bind_some,zGH,zsR hf])
def repl (j:Job):Int → List Job → List Job
 | _,[]=>[]
 | k,x :: r=>(if k=0 then j else x) :: repl j (k - 1) r
theorem zuH (j:Job):∀ (l:List Job) (k:Int),k < 0 → repl j k l=l
 | [],_,_=>rfl
 | x :: r,k,h=>by rw [repl,if_neg (by omega),zuH j r (k - 1) (by omega)]
theorem zzM (j:Job):∀ (l:List Job) (n:Nat),repl j (n:Int) l=l.set n j
 | [],_=>rfl
 | x :: r,0=>by rw [repl,if_pos (by omega),zuH j r _ (by omega)];rfl
 | x :: r,n + 1=>by rw [repl,if_neg (by omega),show ((n + 1:Nat):Int) - 1=(n:Int) by omega,zzM j r n];rfl
theorem zet {n:Node} {j:Job} (h:Sz n):zh8 n j=some (setN n j):=zFo (by
 have hj:=h.jobs
 have key:zh9 n j (zcB n.jobs j.id) 0 []=some (repl j (zcB n.jobs j.id) n.jobs):=by
  have:=zbb (σ:=List Job) eJob (l:=n.jobs) (by omega) (L:=fun i acc=>zh9 n j (zcB n.jobs j.id) i acc) (res:=fun k acc rest=>acc ++ repl j (zcB n.jobs j.id - (k:Int)) rest) (Inv:=fun k acc=>acc.length=k)
   (fun acc _ hh=>zsB (by rw [zjV,hh];simp [repl]))
   (fun k x rest acc ha hn hx hd h1 h2 h3 ih=>zsB (by
    rw [zjV,h1,cond_true,zap,zaf]
    have ih':=fun (y:Job)=>ih (acc ++ [y]) (by simp [ha])
    by_cases hk:(k:Int)=zcB n.jobs j.id
    ·rw [if_pos hk,zaP eJob (by simp;omega) (by omega),cond_true,h3,ih',repl,if_pos (by omega)]
     simp only [List.append_assoc,List.singleton_append]
     rw [show zcB n.jobs j.id - ((k + 1:Nat):Int)=zcB n.jobs j.id - (k:Int) - 1 by omega]
    ·rw [if_neg hk,h2,Option.bind_some,zaP eJob (by simp;omega) (by omega),cond_true,h3,ih',repl,if_neg (by omega)]
     simp only [List.append_assoc,List.singleton_append]
     rw [show zcB n.jobs j.id - ((k + 1:Nat):Int)=zcB n.jobs j.id - (k:Int) - 1 by omega])) [] rfl
  simpa using this
 rw [zsA,zgN (by omega),Option.bind_some,key,Option.bind_some]
 have e:repl j (zcB n.jobs j.id) n.jobs=setJ n.jobs j:=by
  unfold zcB fstI
  cases hf:fst (isJ j.id) n.jobs with
  | none=>dsimp only;rw [zuH _ _ _ (by omega),zxv hf]
  | some k=>dsimp only;rw [zzM,zsR hf]
 rw [e];rfl)
def delJ:List Job → Int → List Job
 | [],_=>[]
 | x :: r,id=>if x.id=id then r else x :: delJ r id
theorem zGh (l:List Job) (id:Int):(delJ l id).length ≤ l.length:=by
 induction l with
 | nil=>exact Nat.le_refl _
 | cons x r ih=>unfold delJ;split <;> simp <;> omega
theorem zrT {l:List Job} {id:Int} {n:Nat} (h:fst (isJ id) l=some n):delJ l id=l.eraseIdx n:=by
 induction l generalizing n with
 | nil=>cases h
 | cons x r ih=>
  by_cases hx:x.id=id
  ·have:n=0:=by simpa [fst,isJ,hx] using h.symm
   subst this
   simp [delJ,hx]
  ·simp only [fst,isJ,hx,decide_false,cond_false,Option.map_eq_some_iff] at h
   obtain ⟨m,hm,rfl⟩:=h
   rw [delJ,if_neg hx,ih hm];rfl
def zbr (x:Job) (has:Bool) (val:ByteArray) (e:Int):Result:=⟨x.id,x.kind,x.key,val,has,e⟩
def told (l:List Result) (x:Job) (has:Bool) (val:ByteArray) (e:Int):List Result:=
 if x.kind=2 ∨ x.kind=3 then (l ++ [zbr x has val e]).drop ((l ++ [zbr x has val e]).length - 16) else l
theorem zHg (l:List Result) (x:Job) (has:Bool) (val:ByteArray) (e:Int) (h:l.length ≤ 1000):(told l x has val e).length ≤ 1000:=by
 unfold told
 split
 ·simp;omega
 ·exact h
def zbs (n:Node) (id:Int) (has:Bool) (val:ByteArray) (e:Int):Node:=match n.jobs.find? (isJ id) with
 | none=>n
 | some x=>⟨n.me,n.clock,n.joined,n.pred,n.list,n.fingers,n.store,n.pends,delJ n.jobs id,told n.results x has val e,n.rid,n.jobID,n.nextBit⟩
theorem zjB {n:Node} (h:Sz n) (id:Int) (has:Bool) (val:ByteArray) (e:Int):Sz (zbs n id has val e):=by
 unfold zbs
 split
 ·exact h
 ·exact ⟨h.pred,h.list,h.fingers,h.store,h.pends,Nat.le_trans (zGh _ _) h.jobs,zHg _ _ _ _ _ h.results⟩
theorem zeL (l:List Job) (id:Int):(zcB l id=-1 ∧ fst (isJ id) l=none ∧ l.find? (isJ id)=none) ∨ ∃ n x,zcB l id=(n:Nat) ∧ fst (isJ id) l=some n ∧ l[n]?=some x ∧ n < l.length ∧ l.find? (isJ id)=some x ∧ x.id=id:=by
 have h:=zES (p:=isJ id) (l:=l)
 unfold zcB fstI
 cases hf:fst (isJ id) l with
 | none=>rw [hf] at h;exact .inl ⟨rfl,rfl,h⟩
 | some n=>
  rw [hf] at h
  obtain ⟨x,h1,h2,h3,h4⟩:=h
  exact .inr ⟨n,x,rfl,rfl,h1,h4,h2,of_decide_eq_true h3⟩
theorem zjx {α:Type} (e:α → AV) [Inj e] (l:List α) (n:Nat) (h:n ≤ l.length):xsub e l 0 (n:Int)=some (l.take n):=by
 rw [zim,if_pos (by omega)];simp
theorem zep {α:Type} (e:α → AV) [Inj e] (l:List α) (n:Nat) (h:n ≤ l.length):xsub e l (n:Int) (xlen e l)=some (l.drop n):=by
 rw [zim,zaS,if_pos (by omega)];simp
theorem zxB {l:List Job} {n:Nat} (hl:l.length ≤ 1000) (hn:n < l.length):zpE (n:Int) ((n + 1:Nat):Int) l=some (l.eraseIdx n):=zyC (by
 have h1:xsub eJob l (n:Int) ((n + 1:Nat):Int)=some ((l.take (n + 1)).drop n):=by rw [zim,if_pos (by omega)];simp only [Int.toNat_natCast]
 have h2:=zep eJob l (n + 1) (by omega)
 have h3:Ops.std.ieq (n:Int) ((n + 1:Nat):Int)=false:=ieqF (by omega)
 have h4:=zjx eJob l n (by omega)
 have h5:Ops.std.isub .i64 (xlen eJob l) (n:Int)=((l.length - n:Nat):Int):=by rw [zaS,zIy (by omega) (by omega)];omega
 have h6:Ops.std.ile (xlen eJob (l.drop (n + 1))) ((l.length - n:Nat):Int)=true:=ileT (by rw [zaS,List.length_drop];omega)
 have h7:Ops.std.iadd .i64 (n:Int) (xlen eJob (l.drop (n + 1)))=((l.length - 1:Nat):Int):=by rw [zaS,List.length_drop,zp0 (by omega) (by omega)];omega
 have hput:xput l (n:Int) (l.drop (n + 1))=l.eraseIdx n ++ l.drop (l.length - 1):=by
  unfold xput
  rw [Int.toNat_natCast,List.length_drop,List.eraseIdx_eq_take_drop_succ]
  congr 2;omega
 have hle:(l.eraseIdx n).length=l.length - 1:=by rw [List.length_eraseIdx];simp [hn]
 have h8:xsub eJob (l.eraseIdx n ++ l.drop (l.length - 1)) 0 ((l.length - 1:Nat):Int)=some (l.eraseIdx n):=by
  rw [zjx eJob _ _ (by simp [hle]),← hle,List.take_left]
 have h9:xsub eJob (l.eraseIdx n ++ l.drop (l.length - 1)) (xlen eJob (l.eraseIdx n)) (xlen eJob l)=some (l.drop (l.length - 1)):=by
  have e:xlen eJob l=xlen eJob (l.eraseIdx n ++ l.drop (l.length - 1)):=by rw [zaS,zaS,List.length_append,hle,List.length_drop];omega
  rw [e,zaS,zep eJob _ _ (by simp),List.drop_left]
 have h10:∀ z:Job,xfil (l.eraseIdx n ++ l.drop (l.length - 1)) (xlen eJob (l.eraseIdx n)) (xlen eJob l) z=l.eraseIdx n ++ List.replicate 1 z:=fun z=>by
  unfold xfil
  rw [zaS,zaS,Int.toNat_natCast,Int.toNat_natCast,List.take_left,hle,show l.length - (l.length - 1)=1 by omega,List.append_assoc,List.drop_eq_nil_of_le (by simp [hle] <;> omega),List.append_nil]
 have h11:∀ z:Job,xsub eJob (l.eraseIdx n ++ List.replicate 1 z) 0 ((l.length - 1:Nat):Int)=some (l.eraseIdx n):=fun z=>by
  rw [zjx eJob _ _ (by simp [hle]),← hle,List.take_left]
 have hz:Ops.std.ieq 0 0=true:=rfl
 simp only [zmy,h1,h2,h3,h4,h5,h6,h7,hput,h8,h9,h10,h11,hz,Option.bind_some,cond_true,cond_false])
theorem zvD {j:Job} {has:Bool} {val:ByteArray} {e a b c:Int} {d:Bool} {f g k:Int} {r1 r2:List Entry} {r3:List Finger} {r4:List Pair} {r5:List Pend} {r6:List Job} {r7:List Result} (h:r7.length ≤ 1000):
  zjG j has val e a b c d f g k r1 r2 r3 r4 r5 r6 r7=some ((r7 ++ [zbr j has val e]).drop ((r7 ++ [zbr j has val e]).length - 16)):=zww (by
 have hlen:(r7 ++ [zbr j has val e]).length=r7.length + 1:=by simp
 have hs:Ops.std.isub .i64 (xlen zal (r7 ++ [zbr j has val e])) 16=((r7.length:Int) + 1) - 16:=by rw [zaS,hlen,zIy (by omega) (by omega)];omega
 show (bif zaV zal 64 r7 [zbr j has val e] then bif Ops.std.ilt 0 (Ops.std.isub .i64 (xlen zal (r7 ++ [zbr j has val e])) 16) then (xsub zal (r7 ++ [zbr j has val e]) (Ops.std.isub .i64 (xlen zal (r7 ++ [zbr j has val e])) 16) (xlen zal (r7 ++ [zbr j has val e]))).bind fun ys=>bif zaV zal 64 [] ys then some ys else none
  else (xsub zal (r7 ++ [zbr j has val e]) 0 (xlen zal (r7 ++ [zbr j has val e]))).bind fun ys=>bif zaV zal 64 [] ys then some ys else none else none)=_
 rw [zaP zal (by simp;omega) (by omega),cond_true,hs,zaA,zaf]
 by_cases hc:15 < r7.length
 ·have e2:((r7.length:Int) + 1) - 16=((r7.length - 15:Nat):Int):=by omega
  rw [if_pos (by omega),e2,zep zal _ _ (by rw [hlen];omega),Option.bind_some,zaP zal (by rw [List.length_nil,List.length_drop,hlen];omega) (by omega),cond_true,hlen]
  congr 2
 ·rw [if_neg (by omega),show (0:Int)=((0:Nat):Int) from rfl,zep zal _ 0 (by omega),Option.bind_some,List.drop_zero,zaP zal (by rw [List.length_nil,hlen];omega) (by omega),cond_true,hlen,show r7.length + 1 - 16=0 by omega,List.drop_zero])
theorem zky {n:Node} {id:Int} {has:Bool} {val:ByteArray} {e:Int} (h:Sz n):ziv n id has val e=some (zbs n id has val e):=zxK (by
 have hj:=h.jobs
 rw [zlK,zbK h,Option.bind_some]
 dsimp only
 rw [zmN (by omega),Option.bind_some,zaA,zaf]
 unfold zbs
 rcases zeL n.jobs id with ⟨h1,h2,h3⟩ | ⟨k,x,h1,h2,h3,h4,h5,h6⟩
 ·rw [h1,if_pos (by omega),h3]
 ·rw [h1,if_neg (by omega),h5,za9,h3,Option.bind_some,zh0 (by omega),zxB (by omega) h4,Option.bind_some,zrT h2]
  have e1:zr6 x has val e n.me.id n.me.addr n.clock n.joined n.rid n.jobID n.nextBit n.pred n.list n.fingers n.store n.pends (n.jobs.eraseIdx k) n.results=some (if x.kind=2 ∨ x.kind=3 then .inl (n.results ++ [zbr x has val e],told n.results x has val e) else .inr ()):=zAB (by
   rw [zog,zvD h.results,Option.bind_some,zap,zap,zaf,zaf]
   unfold told
   by_cases c2:x.kind=2
   ·rw [if_pos c2,if_pos (.inl c2),if_pos (.inl c2)];rfl
   ·by_cases c3:x.kind=3
    ·rw [if_neg c2,if_pos c3,if_pos (.inr c3),if_pos (.inr c3)];rfl
    ·rw [if_neg c2,if_neg c3,if_neg (by omega)])
  rw [e1,Option.bind_some]
  by_cases c:x.kind=2 ∨ x.kind=3
  ·rw [if_pos c]
  ·rw [if_neg c]
   dsimp only
   rw [told,if_neg c])
theorem zwP {l:List Job} {n:Nat} (hl:l.length ≤ 1000) (hn:n < l.length):zoD l (n:Int)=some (l.eraseIdx n):=zxY (by
 have:=zbb (σ:=List Job) eJob (l:=l) (by omega) (L:=fun i acc=>zfq l (n:Int) i acc) (res:=fun k acc rest=>acc ++ (if k ≤ n then rest.eraseIdx (n - k) else rest)) (Inv:=fun k acc=>acc.length ≤ k)
  (fun acc _ hh=>zm0 (by rw [zfX,hh];simp))
  (fun k x rest acc ha hk hx hd h1 h2 h3 ih=>zm0 (by
   rw [zfX,h1,cond_true,zap,zaf]
   by_cases hc:k=n
   ·rw [if_pos (by omega),h3,ih acc (by omega),if_neg (by omega),if_pos (by omega),hc,Nat.sub_self];rfl
   ·rw [if_neg (by omega),h2,Option.bind_some,zaP eJob (by simp;omega) (by omega),cond_true,h3,ih (acc ++ [x]) (by simp;omega)]
    by_cases hlt:k ≤ n
    ·rw [if_pos (by omega),if_pos hlt,show n - k=(n - (k + 1)) + 1 by omega,List.eraseIdx_cons_succ];simp
    ·rw [if_neg (by omega),if_neg hlt];simp)) [] (by simp)
 rw [zlU,this]
 simp)
theorem zAS {l:List Result} {x:Job} {has:Bool} {val:ByteArray} {e:Int} (hl:l.length ≤ 1000):zuA l x has val e=some (told l x has val e):=zDr (by
 have hlen:(l ++ [zbr x has val e]).length=l.length + 1:=by simp
 have sub:∀ k:Nat,k ≤ l.length + 1 → xsub zal (l ++ [zbr x has val e]) (k:Int) ((l.length + 1:Nat):Int)=some ((l ++ [zbr x has val e]).drop k):=fun k hk=>by
  have:=zep zal (l ++ [zbr x has val e]) k (by rw [hlen];exact hk)
  rwa [zaS,hlen] at this
 have lenD:∀ k:Nat,xlen zal ((l ++ [zbr x has val e]).drop k)=((l.length + 1 - k:Nat):Int):=fun k=>by rw [zaS,List.length_drop,hlen]
 have loop:∀ d k:Nat,k + d=l.length + 1 - 16 → 1 ≤ k → 16 < l.length + 1 → zd9 l x has val e (k:Int) ((l.length + 1:Nat):Int)=some (.inr (((l.length + 1 - 16:Nat):Int),((l.length + 1:Nat):Int))):=by
  intro d
  induction d with
  | zero=>
   intro k hk h1 h16
   refine znV ?_
   show ((xsub zal (l ++ [zbr x has val e]) (k:Int) ((l.length + 1:Nat):Int)).bind _)=_
   rw [sub k (by omega),Option.bind_some,lenD,zaA,zaf,if_neg (by omega),show k=l.length + 1 - 16 by omega]
  | succ d ih=>
   intro k hk h1 h16
   refine znV ?_
   show ((xsub zal (l ++ [zbr x has val e]) (k:Int) ((l.length + 1:Nat):Int)).bind _)=_
   have s1:xsub zal ((l ++ [zbr x has val e]).drop k) 1 ((l.length + 1 - k:Nat):Int)=some (((l ++ [zbr x has val e]).drop k).drop 1):=by
    have:=zep zal ((l ++ [zbr x has val e]).drop k) 1 (by rw [List.length_drop,hlen];omega)
    rwa [lenD] at this
   rw [sub k (by omega),Option.bind_some,lenD,zaA,zaf,if_pos (by omega),ieqF (show (k:Int) ≠ 0 by omega),cond_false,s1,Option.bind_some,zh0 (by omega),zp0 (by omega) (by omega),show (k:Int) + ((l.length + 1 - k:Nat):Int)=((l.length + 1:Nat):Int) by omega]
   exact ih (k + 1) (by omega) (by omega) h16
 have s0:ziA l x has val e=some (if 16 < l.length + 1 then .inr (((l.length + 1 - 16:Nat):Int),((l.length + 1:Nat):Int)) else .inl ()):=zxX (by
  show (bif zaV zal 64 [] l then bif zaV zal 64 l [zbr x has val e] then zoC l x has val e else none else none)=_
  rw [zaP zal (by simp;omega) (by omega),zaP zal (by simp;omega) (by omega),cond_true,cond_true]
  refine zxW ?_
  show (bif Ops.std.ilt 16 (xlen zal (l ++ [zbr x has val e])) then (xsub zal (l ++ [zbr x has val e]) 1 (xlen zal (l ++ [zbr x has val e]))).bind fun ys=>zd9 l x has val e 1 (xlen zal (l ++ [zbr x has val e])) else some (.inl ()))=_
  rw [zaS,hlen,zaA,zaf]
  by_cases hc:16 < l.length + 1
  ·have:=sub 1 (by omega)
   rw [if_pos (by omega),if_pos hc,show (1:Int)=((1:Nat):Int) from rfl,this,Option.bind_some]
   exact loop (l.length + 1 - 16 - 1) 1 (by omega) (by omega) hc
  ·rw [if_neg (by omega),if_neg hc])
 have fin:(ziA l x has val e).bind (fun r=>match r with | .inl ()=>some (l ++ [zbr x has val e]) | .inr (lo,hi)=>(xsub zal (l ++ [zbr x has val e]) lo hi).bind fun ys=>some ys)=some ((l ++ [zbr x has val e]).drop ((l ++ [zbr x has val e]).length - 16)):=by
  rw [s0,Option.bind_some,hlen]
  by_cases hc:16 < l.length + 1
  ·rw [if_pos hc];dsimp only;rw [sub _ (by omega)];rfl
  ·rw [if_neg hc,show l.length + 1 - 16=0 by omega];rfl
 unfold told
 rw [zqE,zap,zap,zaf,zaf]
 by_cases c2:x.kind=2
 ·rw [if_pos c2,if_pos (.inl c2)];exact fin
 ·by_cases c3:x.kind=3
  ·rw [if_neg c2,if_pos c3,if_pos (.inr c3)];exact fin
  ·rw [if_neg c2,if_neg c3,if_neg (by omega)])
theorem zxV {n:Node} {id:Int} {has:Bool} {val:ByteArray} {e:Int} (h:Sz n):zqD n id has val e=some (zbs n id has val e):=zzG (by
 have hj:=h.jobs
 rw [zmZ,zgN (by omega),Option.bind_some,zaA,zaf]
 unfold zbs
 rcases zeL n.jobs id with ⟨h1,h2,h3⟩ | ⟨k,x,h1,h2,h3,h4,h5,h6⟩
 ·rw [h1,if_pos (by omega),h3]
 ·rw [h1,if_neg (by omega),h5,za9,h3,Option.bind_some,zAS h.results,Option.bind_some,zwP (by omega) h4,Option.bind_some,zrT h2])
def ziK (n:Node):Int:=if n.jobID < 0 ∨ 1073741824 ≤ n.jobID then 1 else n.jobID + 1
def newJ (n:Node) (j:Job):Job:=⟨ziK n,j.kind,j.bit,j.key,j.val,j.target,j.via,j.at_,j.doing,j.hops,j.tries,Ops.std.iadd .i64 (now n) 200⟩
def addN (n:Node) (j:Job):Node × Int × Int:=
 if 7 < n.jobs.length then (n,0,10) else
 (⟨n.me,n.clock,n.joined,n.pred,n.list,n.fingers,n.store,n.pends,n.jobs ++ [newJ n j],n.results,n.rid,ziK n,n.nextBit⟩,ziK n,0)
theorem zAy {n:Node} {j:Job} (h:Sz n):zus n j=some (addN n j):=zCR (by
 have hj:=h.jobs
 have s0:∀ id:Int,-1 < id → id ≤ 1073741824 → ziu j n.me.id n.me.addr n.clock n.joined n.rid id n.nextBit n.pred n.list n.fingers n.store n.pends n.jobs n.results =
   (let x:Job:=⟨id + 1,j.kind,j.bit,j.key,j.val,j.target,j.via,j.at_,j.doing,j.hops,j.tries,Ops.std.iadd .i64 (now n) 200⟩
   some (id + 1,n.me.id,n.me.addr,n.clock,n.joined,n.rid,id + 1,n.nextBit,x,n.me.id,n.me.addr,n.clock,n.joined,n.rid,id + 1,n.nextBit,n.pred,n.list,n.fingers,n.store,n.pends,n.jobs ++ [x],n.results)):=fun id h0 h1=>zxH (by
  rw [zlJ,zp0 (a:=id) (b:=1) (by omega) (by omega),(zqe _).1,Option.bind_some,zaP eJob (by simp;omega) (by omega),cond_true]
  rfl)
 rw [zp3,zbK h,Option.bind_some]
 dsimp only
 rw [zaS,zbv,zaf,addN]
 by_cases hc:7 < n.jobs.length
 ·rw [if_pos (by omega),if_pos hc]
 ·rw [if_neg (by omega),if_neg hc,zaA,zaf,zbv,zaf]
  unfold newJ ziK
  by_cases c1:n.jobID < 0
  ·rw [if_pos c1,if_pos (.inl c1),s0 0 (by omega) (by omega)];rfl
  ·by_cases c2:1073741824 ≤ n.jobID
   ·rw [if_neg c1,if_pos c2,if_pos (.inr c2),s0 0 (by omega) (by omega)];rfl
   ·rw [if_neg c1,if_neg c2,if_neg (by omega),s0 n.jobID (by omega) (by omega)];rfl)
theorem zDp {n:Node} {j:Job} (h:Sz n):zwO n j=some (addN n j):=zFn (by
 have hj:=h.jobs
 have s0:∀ id:Int,zjU n j id =
   (let x:Job:=⟨id,j.kind,j.bit,j.key,j.val,j.target,j.via,j.at_,j.doing,j.hops,j.tries,Ops.std.iadd .i64 (now n) 200⟩
   some (id,id,x,id,n.jobs ++ [x])):=fun id=>zzF (by
  rw [zmY,(zqe _).2,Option.bind_some,zaP eJob (by simp;omega) (by omega),zaP eJob (by simp;omega) (by omega),cond_true,cond_true]
  rfl)
 rw [zsz,zaS,zaA,zaf,addN]
 by_cases hc:7 < n.jobs.length
 ·rw [if_pos (by omega),if_pos hc]
 ·rw [if_neg (by omega),if_neg hc,zaA,zaf,zbv,zaf]
  unfold newJ ziK
  by_cases c1:n.jobID < 0
  ·rw [if_pos c1,if_pos (.inl c1),s0];rfl
  ·by_cases c2:1073741824 ≤ n.jobID
   ·rw [if_neg c1,if_pos c2,if_pos (.inr c2),s0];rfl
   ·rw [if_neg c1,if_neg c2,if_neg (by omega),zp0 (by omega) (by omega),s0];rfl)
theorem zIJ {n:Node} (h:Sz n) (j:Job):Sz (addN n j).1:=by
 unfold addN
 split
 ·exact h
 ·exact ⟨h.pred,h.list,h.fingers,h.store,h.pends,by simp;omega,h.results⟩
end Go.Ab.Tryz
namespace Go.Ab.Tryz
open Go Go.Ab Go.Proofs Go.Lib
def isB (bit:Int) (f:Finger):Bool:=decide (f.bit=bit)
def gtB (bit:Int) (f:Finger):Bool:=decide (bit < f.bit)
def updF (bit:Int) (p:Peer):List Finger → List Finger
 | []=>[]
 | x :: r=>if x.bit=bit then ⟨x.bit,p⟩ :: r else x :: updF bit p r
def insF (bit:Int) (p:Peer):List Finger → List Finger
 | []=>[⟨bit,p⟩]
 | x :: r=>if bit < x.bit then ⟨bit,p⟩ :: x :: r else x :: insF bit p r
def setF (l:List Finger) (bit:Int) (p:Peer):List Finger:=if bit < 0 ∨ 63 < bit then l else if l.any (isB bit)=true then updF bit p l else insF bit p l
theorem zHh (bit:Int) (p:Peer) (l:List Finger):(updF bit p l).length=l.length:=by
 induction l with
 | nil=>rfl
 | cons x r ih=>unfold updF;split <;> simp [ih]
theorem zze (bit:Int) (p:Peer) (l:List Finger):(insF bit p l).length=l.length + 1:=by
 induction l with
 | nil=>rfl
 | cons x r ih=>unfold insF;split <;> simp [ih]
theorem zuM (l:List Finger) (bit:Int) (p:Peer):(setF l bit p).length ≤ l.length + 1:=by
 unfold setF
 split
 ·omega
 ·split
  ·rw [zHh];omega
  ·rw [zze];omega
theorem zFP {bit:Int} {p:Peer} {l:List Finger} {n:Nat} {x:Finger} (h:fst (isB bit) l=some n) (hx:l[n]?=some x):updF bit p l=l.set n ⟨x.bit,p⟩:=by
 induction l generalizing n with
 | nil=>cases h
 | cons y r ih=>
  by_cases hy:y.bit=bit
  ·have:n=0:=by simpa [fst,isB,hy] using h.symm
   subst this
   obtain rfl:y=x:=by simpa using hx
   simp [updF,hy]
  ·simp only [fst,isB,hy,decide_false,cond_false,Option.map_eq_some_iff] at h
   obtain ⟨m,hm,rfl⟩:=h
   rw [updF,if_neg hy,ih hm (by simpa using hx)];rfl
theorem zCQ (bit:Int) (p:Peer) (l:List Finger):insF bit p l=match fst (gtB bit) l with | some n=>l.take n ++ ([⟨bit,p⟩] ++ l.drop n) | none=>l ++ [⟨bit,p⟩]:=by
 induction l with
 | nil=>rfl
 | cons x r ih=>
  by_cases hx:bit < x.bit
  ·simp [insF,fst,gtB,hx]
  ·simp only [insF,fst,gtB,if_neg hx,decide_eq_false hx,cond_false,ih]
   show _=match (fst (gtB bit) r).map (· + 1) with | some n=>_ | none=>_
   cases fst (gtB bit) r with
   | none=>rfl
   | some n=>simp
theorem zxC {l:List Finger} {bit:Int} (hl:l.length ≤ 2000):zg5 l bit=some (fstI (isB bit) l):=zpF (by
 have hf:∀ x:Finger,zn9 x bit=some (isB bit x):=fun x=>zxF rfl
 have:=zdI zae (l:=l) (by omega) (p:=isB bit) (L:=fun i=>zdi l bit i) (fun h=>zd5 (by simp [zbX,h]))
  (fun n x _ h1 h2 hp=>zd5 (by simp [zbX,h1,h2,hf,hp]))
  (fun n x r _ h1 h2 hp h=>zd5 (by simp [zbX,h1,h2,hf,hp,h]))
 rw [zfO,this]
 unfold fstI
 cases fst (isB bit) l <;> rfl)
theorem zxD {l:List Finger} {bit:Int} (hl:l.length ≤ 2000):zg6 l bit=some (fstI (gtB bit) l):=zpG (by
 have hf:∀ x:Finger,zoa x bit=some (gtB bit x):=fun x=>zxG rfl
 have:=zdI zae (l:=l) (by omega) (p:=gtB bit) (L:=fun i=>zdj l bit i) (fun h=>zd6 (by simp [zbZ,h]))
  (fun n x _ h1 h2 hp=>zd6 (by simp [zbZ,h1,h2,hf,hp]))
  (fun n x r _ h1 h2 hp h=>zd6 (by simp [zbZ,h1,h2,hf,hp,h]))
 rw [zfP,this]
 unfold fstI
 cases fst (gtB bit) l <;> rfl)
theorem zy7 {l:List Finger} {bit:Int} {p:Peer} (hl:l.length ≤ 1000):zrY l bit p=some (setF l bit p):=zAu (by
 rw [zob,zaP zae (by simp;omega) (by omega),cond_true,zaA,zaf,zaA,zaf]
 unfold setF
 by_cases h1:bit < 0
 ·rw [if_pos h1,if_pos (.inl h1)]
 by_cases h2:63 < bit
 ·rw [if_neg h1,if_pos h2,if_pos (.inr h2)]
 rw [if_neg h1,if_neg h2,if_neg (by omega)]
 refine zwp ?_
 have hroom:zaV zae 24 l [(⟨bit,p⟩:Finger)]=true:=zaP zae (by simp;omega) (by omega)
 rw [zkv,zxC (by omega),Option.bind_some,zxD (by omega),Option.bind_some,hroom,cond_true,cond_true,zbv,zaf,zaA,zaf]
 cases hf:fst (isB bit) l with
 | some n=>
  obtain ⟨x,hx,_,_⟩:=zkw hf
  have e1:fstI (isB bit) l=(n:Int):=by unfold fstI;rw [hf]
  have ha:l.any (isB bit)=true:=by rw [← zws,e1];simp
  rw [e1,if_pos (by omega),if_pos ha,za9,hx,Option.bind_some,zFP hf hx];rfl
 | none=>
  have e1:fstI (isB bit) l=-1:=by unfold fstI;rw [hf]
  have ha:¬ l.any (isB bit)=true:=by rw [← zws,e1];simp
  rw [e1,if_neg (by omega),if_neg ha,zCQ]
  cases hg:fst (gtB bit) l with
  | none=>
   have e3:fstI (gtB bit) l=-1:=by unfold fstI;rw [hg]
   have h0:xsub zae l 0 (xlen zae l)=some l:=by rw [zaS,zjx zae l l.length (Nat.le_refl _),List.take_length]
   have h1:xsub zae l (xlen zae l) (xlen zae l)=some []:=by
    have:=zep zae l l.length (Nat.le_refl _)
    rw [zaS] at this ⊢
    rw [this,List.drop_length]
   rw [e3,if_pos (by omega),h0,Option.bind_some,h1,Option.bind_some];simp
  | some n=>
   obtain ⟨_,_,_,hn,_⟩:=zkw hg
   have e3:fstI (gtB bit) l=(n:Int):=by unfold fstI;rw [hg]
   rw [e3,if_neg (by omega),zjx zae l n (by omega),Option.bind_some,zep zae l n (by omega),Option.bind_some])
theorem zDg {l:List Finger} {bit:Int} (hl:l.length ≤ 1000):∃ q,zwJ l bit=some (q,l.any (isB bit)):=by
 have:∃ z,zes l bit 0=some z ∧ (z.isLeft=l.any (isB bit)):=by
  have key:=zbb (σ:=Unit) zae (l:=l) (by omega) (L:=fun i _=>(zes l bit i).map (·.isLeft)) (res:=fun _ _ rest=>rest.any (isB bit)) (Inv:=fun _ _=>True)
   (fun _ _ h=>by
    have e:zes l bit (l.length:Int)=some (.inr ()):=zmU (by rw [zhs,h];rfl)
    rw [e];rfl)
   (fun n x rest s _ hn hx hd h1 h2 h3 ih=>by
    cases hp:isB bit x with
    | true=>
     have e:zes l bit (n:Int)=some (.inl (x.peer.id,x.peer.addr)):=zmU (by
      have hp':Ops.std.ieq x.bit bit=true:=hp
      rw [zhs,h1,h2,cond_true,Option.bind_some,hp'];rfl)
     rw [e,List.any_cons,hp];rfl
    | false=>
     have h4:=ih () trivial
     obtain ⟨z,hz,hz2⟩:=Option.map_eq_some_iff.1 h4
     have e:zes l bit (n:Int)=some z:=zmU (by
      have hp':Ops.std.ieq x.bit bit=false:=hp
      rw [zhs,h1,h2,cond_true,Option.bind_some,hp',cond_false,h3,hz])
     rw [e,List.any_cons,hp,Bool.false_or,← hz2];rfl) () trivial
  exact Option.map_eq_some_iff.1 key
 obtain ⟨z,h1,h2⟩:=this
 rcases z with ⟨a,b⟩ | u
 ·exact ⟨⟨a,b⟩,zxq (by rw [znQ,h1,← h2];rfl)⟩
 ·exact ⟨⟨0,0⟩,zxq (by rw [znQ,h1,← h2];rfl)⟩
def insG (bit:Int) (p:Peer):List Finger → List Finger
 | []=>[]
 | x :: r=>if bit < x.bit then ⟨bit,p⟩ :: x :: r else x :: insG bit p r
theorem zGA {bit:Int} {p:Peer} {l:List Finger}:(if l.any (gtB bit)=true then insG bit p l else insG bit p l ++ [⟨bit,p⟩])=insF bit p l:=by
 induction l with
 | nil=>rfl
 | cons x r ih=>
  by_cases hx:bit < x.bit
  ·simp [insG,insF,gtB,hx]
  ·have hx':gtB bit x=false:=decide_eq_false hx
   rw [List.any_cons,hx',Bool.false_or,insG,insF,if_neg hx,if_neg hx,← ih]
   by_cases ha:r.any (gtB bit)=true
   ·rw [if_pos ha,if_pos ha]
   ·rw [if_neg ha,if_neg ha];rfl
theorem znR {l:List Finger} {bit i a b c d e:Int} {p:Peer} {there put_:Bool} {r3:List Finger} (hr:r3.length ≤ 5000):zh5 l bit p there put_ i a b r3 c d e =
  some (there,(if there=true then put_ else put_ || decide (bit < c)),i,a,b,(if there=true ∨ put_=true then r3 ++ [⟨c,⟨d,e⟩⟩] else if bit < c then (r3 ++ [⟨bit,p⟩]) ++ [⟨c,⟨d,e⟩⟩] else r3 ++ [⟨c,⟨d,e⟩⟩]),c,d,e):=zzB (by
 have hroom:∀ (k:Nat) (r:List Finger) (x:Finger),r.length ≤ 5000 + k → k ≤ 1 → zaV zae 24 r [x]=true:=fun k r x h1 h2=>zaP zae (by simp;omega) (by omega)
 rw [zmW,hroom 0 _ _ (by omega) (by omega),hroom 0 _ _ (by omega) (by omega),hroom 1 _ _ (by simp;omega) (by omega),zaA,zaf]
 cases there
 ·cases put_
  ·by_cases hc:bit < c
   ·simp [hc]
   ·simp [hc]
  ·simp
 ·simp)
theorem zzD {l:List Finger} {bit a b:Int} {p:Peer} (hl:l.length ≤ 1000):zb7 l bit p true false 0 a b []=some (l.any (isB bit),a,b,updF bit p l):=by
 have:=zbb (σ:=Bool × List Finger) zae (l:=l) (by omega) (L:=fun i s=>zb7 l bit p true s.1 i a b s.2) (res:=fun _ s rest=>(s.1 || rest.any (isB bit),a,b,s.2 ++ (if s.1=true then rest else updF bit p rest))) (Inv:=fun n s=>s.2.length ≤ n)
  (fun s _ h=>zjO (by rw [zfl,h];rcases s with ⟨s1,s2⟩;cases s1 <;> simp [updF]))
  (fun n x rest s hs hn hx hd h1 h2 h3 ih=>zjO (by
   rcases s with ⟨s1,s2⟩
   have hs':s2.length ≤ n:=hs
   have ih':∀ (c:Bool) (y:Finger),zb7 l bit p true c ((n + 1:Nat):Int) a b (s2 ++ [y])=some (c || rest.any (isB bit),a,b,(s2 ++ [y]) ++ (if c=true then rest else updF bit p rest)):=fun c y=>ih (c,s2 ++ [y]) (by show (s2 ++ [y]).length ≤ n + 1;simp;omega)
   dsimp only
   rw [zfl,h1,h2,cond_true,Option.bind_some,cond_true,znR (by omega),znR (by omega),znR (by omega)]
   simp only [Option.bind_some,h3,ih',if_true,true_or]
   cases s1 with
   | true=>simp
   | false=>
    rw [cond_false,zap,zaf]
    by_cases hc:x.bit=bit
    ·simp [hc,updF,isB]
    ·simp [hc,updF,isB])) (false,[]) (by simp)
 simpa using this
theorem zDk {l:List Finger} {bit a b:Int} {p:Peer} (hl:l.length ≤ 1000):zb7 l bit p false false 0 a b []=some (l.any (gtB bit),a,b,insG bit p l):=by
 have:=zbb (σ:=Bool × List Finger) zae (l:=l) (by omega) (L:=fun i s=>zb7 l bit p false s.1 i a b s.2) (res:=fun _ s rest=>(s.1 || rest.any (gtB bit),a,b,s.2 ++ (if s.1=true then rest else insG bit p rest))) (Inv:=fun n s=>s.2.length ≤ 2 * n)
  (fun s _ h=>zjO (by rw [zfl,h];rcases s with ⟨s1,s2⟩;cases s1 <;> simp [insG]))
  (fun n x rest s hs hn hx hd h1 h2 h3 ih=>zjO (by
   rcases s with ⟨s1,s2⟩
   have hs':s2.length ≤ 2 * n:=hs
   have ih':∀ (c:Bool) (y:List Finger),y.length ≤ 2 → zb7 l bit p false c ((n + 1:Nat):Int) a b (s2 ++ y)=some (c || rest.any (gtB bit),a,b,(s2 ++ y) ++ (if c=true then rest else insG bit p rest)):=fun c y hy=>ih (c,s2 ++ y) (by show (s2 ++ y).length ≤ 2 * (n + 1);simp;omega)
   dsimp only
   rw [zfl,h1,h2,cond_true,Option.bind_some,cond_false,znR (by omega)]
   cases s1 with
   | true=>
    have:=ih' true [x] (by simp)
    simp [h3] at this ⊢
    exact this
   | false=>
    by_cases hc:bit < x.bit
    ·have:=ih' true [⟨bit,p⟩,x] (by simp)
     simp [h3,hc,gtB,insG] at this ⊢
     exact this
    ·have:=ih' false [x] (by simp)
     simp [h3,hc,gtB,insG] at this ⊢
     exact this)) (false,[]) (by simp)
 simpa using this
theorem zDj {l:List Finger} {bit:Int} {p:Peer} (hl:l.length ≤ 1000):zwK l bit p=some (setF l bit p):=zFh (by
 rw [zss,zaA,zaf,zaA,zaf]
 unfold setF
 by_cases h1:bit < 0
 ·rw [if_pos h1,if_pos (.inl h1)]
 by_cases h2:63 < bit
 ·rw [if_neg h1,if_pos h2,if_pos (.inr h2)]
 rw [if_neg h1,if_neg h2,if_neg (by omega)]
 obtain ⟨q,hq⟩:=zDg (l:=l) (bit:=bit) hl
 have e:zqx l bit p=some (q.id,q.addr,if l.any (isB bit)=true then updF bit p l else insF bit p l):=zzC (by
  rw [zmX,hq,Option.bind_some]
  dsimp only
  cases ha:l.any (isB bit) with
  | true=>
   rw [zzD hl,Option.bind_some,ha];rfl
  | false=>
   have hins:=zGA (bit:=bit) (p:=p) (l:=l)
   rw [zDk hl,Option.bind_some]
   have hgl:(insG bit p l).length ≤ 2000:=by
    have e1:=zze bit p l
    rw [← hins] at e1
    split at e1
    ·omega
    ·simp at e1;omega
   cases hb:l.any (gtB bit) with
   | true=>rw [hb,if_pos rfl] at hins;rw [hins];rfl
   | false=>
    rw [hb,if_neg (by simp)] at hins
    simp only [cond_false,zaP zae (b:=24) (l:=insG bit p l) (l':=[⟨bit,p⟩]) (by simp;omega) (by omega),cond_true,hins]
    rfl)
 rw [e];rfl)
def drpF (bit:Int) (l:List Finger):List Finger:=l.filter fun f=>!isB bit f
theorem zrV {bit:Int} {x:Finger} {l:List Finger}:drpF bit (x :: l)=bif isB bit x then drpF bit l else x :: drpF bit l:=by
 unfold drpF
 cases h:isB bit x <;> simp [h]
theorem zxc {bit:Int} {l:List Finger} (h:∀ x,x ∈ l → isB bit x=false):drpF bit l=l:=by
 unfold drpF
 rw [List.filter_eq_self]
 intro x hx;simp [h x hx]
theorem zwl (bit:Int) (l:List Finger):(drpF bit l).length ≤ l.length:=List.length_filter_le _ _
theorem zGk (bit:Int) (a b:List Finger):drpF bit (a ++ b)=drpF bit a ++ drpF bit b:=List.filter_append ..
def zd4 (n:Node) (l:List Finger):Node:=⟨n.me,n.clock,n.joined,n.pred,n.list,l,n.store,n.pends,n.jobs,n.results,n.rid,n.jobID,n.nextBit⟩
theorem zyX (N:Node) (j:Job) (o:List Out) (rest:List Finger):∀ (kept:List Finger) (j0:Finger) (jt:List Finger),kept.length + (jt.length + 1) + rest.length ≤ 1000 →
  ∃ junk,zbP j o (kept.length:Nat) ((kept ++ j0 :: jt).length:Nat) (zd4 N (kept ++ j0 :: jt ++ rest))=some ((((kept ++ drpF j.bit rest).length:Nat):Int),zd4 N (kept ++ drpF j.bit rest ++ junk)):=by
 induction rest with
 | nil=>
  intro kept j0 jt h
  refine ⟨j0 :: jt,zcR ?_⟩
  have:Ops.std.ilt ((kept ++ j0 :: jt).length:Nat) (xlen zae (kept ++ j0 :: jt ++ []))=false:=by rw [zgK];simp
  rw [zbB,show (zd4 N (kept ++ j0 :: jt ++ [])).fingers=kept ++ j0 :: jt ++ [] from rfl,this]
  simp [drpF]
 | cons x rest ih=>
  intro kept j0 jt h
  simp only [List.length_cons] at h
  have hfi:(zd4 N (kept ++ j0 :: jt ++ x :: rest)).fingers=kept ++ j0 :: jt ++ x :: rest:=rfl
  have hlt:Ops.std.ilt ((kept ++ j0 :: jt).length:Nat) (xlen zae (kept ++ j0 :: jt ++ x :: rest))=true:=by rw [zgK];simp
  have hg:xget zae (kept ++ j0 :: jt ++ x :: rest) ((kept ++ j0 :: jt).length:Nat)=some x:=by rw [za9];simp
  have hadd:Ops.std.iadd .i64 ((kept ++ j0 :: jt).length:Nat) 1=(((kept ++ j0 :: jt).length + 1:Nat):Int):=zh0 (by simp;omega)
  have hd:zde x (zd4 N (kept ++ j0 :: jt ++ x :: rest)) j o=some (isB j.bit x):=zkj rfl
  rw [zrV]
  cases hx:isB j.bit x with
  | true=>
   obtain ⟨junk,h2⟩:=ih kept j0 (jt ++ [x]) (by simp;omega)
   refine ⟨junk,zcR ?_⟩
   rw [zbB,hfi,hlt,hg,hadd]
   simp only [cond_true,Option.bind_some,hd,hx]
   simpa [Nat.add_assoc] using h2
  | false=>
   have hg0:xget zae (kept ++ j0 :: jt ++ x :: rest) (kept.length:Nat)=some j0:=by rw [za9];simp
   have hadd2:Ops.std.iadd .i64 (kept.length:Nat) 1=((kept.length + 1:Nat):Int):=zh0 (by omega)
   have hset:xset (kept ++ j0 :: jt ++ x :: rest) (kept.length:Nat) x=(kept ++ [x]) ++ (jt ++ [x]) ++ rest:=by
    unfold xset;simp
   have go:zbP j o ((kept.length + 1:Nat):Int) (((kept ++ j0 :: jt).length + 1:Nat):Int) (zd4 N ((kept ++ [x]) ++ (jt ++ [x]) ++ rest))=zbB j o (kept.length:Nat) ((kept ++ j0 :: jt).length:Nat) (zd4 N (kept ++ j0 :: jt ++ x :: rest)):=by
    rw [zbB,hfi,hlt,hg,hadd]
    simp only [cond_true,Option.bind_some,hd,hx,cond_false,hg0,hadd2,hset]
    rfl
   cases jt with
   | nil=>
    obtain ⟨junk,h2⟩:=ih (kept ++ [x]) x [] (by simp;omega)
    refine ⟨junk,zcR (go.symm.trans ?_)⟩
    simpa [Nat.add_assoc] using h2
   | cons j1 jt=>
    obtain ⟨junk,h2⟩:=ih (kept ++ [x]) j1 (jt ++ [x]) (by simp at h ⊢;omega)
    refine ⟨junk,zcR (go.symm.trans ?_)⟩
    simpa [Nat.add_assoc] using h2
theorem zyE {N:Node} {j:Job} {o:List Out} (hl:N.fingers.length ≤ 1000):zi7 N j o=some (fstI (isB j.bit) N.fingers):=zrE (by
 have hf:∀ x:Finger,zde x N j o=some (isB j.bit x):=fun x=>zkj rfl
 have:=zdI zae (l:=N.fingers) (by omega) (p:=isB j.bit) (L:=fun i=>zd0 N j o i) (fun h=>zeT (by simp [zcc,h]))
  (fun n x _ h1 h2 hp=>zeT (by simp [zcc,h1,h2,hf,hp]))
  (fun n x r _ h1 h2 hp h=>zeT (by simp [zcc,h1,h2,hf,hp,h]))
 rw [zg7,this]
 unfold fstI
 cases fst (isB j.bit) N.fingers <;> rfl)
theorem zxA {N:Node} {j:Job} {o:List Out} (hl:N.fingers.length ≤ 1000):zin N j o=some (drpF j.bit N.fingers,N.me.id,N.me.addr,N.clock,N.joined,N.pred,N.list,N.store,N.pends,N.jobs,N.results,N.rid,N.jobID,N.nextBit):=zrA (by
 rw [zgR,zyE hl,Option.bind_some]
 unfold fstI
 cases hf:fst (isB j.bit) N.fingers with
 | none=>
  rw [zxc (zpX hf)];rfl
 | some n=>
  obtain ⟨x,hx,hp,hn,hb⟩:=zkw hf
  obtain ⟨hn',hxe⟩:=List.getElem?_eq_some_iff.1 hx
  have hsplit:N.fingers=N.fingers.take n ++ x :: N.fingers.drop (n + 1):=by
   rw [← hxe,← List.drop_eq_getElem_cons hn,List.take_append_drop]
  have hkl:(N.fingers.take n).length=n:=by simp;omega
  have hbefore:drpF j.bit (N.fingers.take n)=N.fingers.take n:=zxc fun y hy=>by
   obtain ⟨i,hi,rfl⟩:=List.mem_iff_getElem.1 hy
   have hin:i < n:=by rw [hkl] at hi;exact hi
   exact hb i _ hin (by rw [List.getElem_take,List.getElem?_eq_getElem])
  obtain ⟨junk,hloop⟩:=zyX N j o (N.fingers.drop (n + 1)) (N.fingers.take n) x [] (by simp;omega)
  have hdr:drpF j.bit N.fingers=N.fingers.take n ++ drpF j.bit (N.fingers.drop (n + 1)):=by
   rw [congrArg (drpF j.bit) hsplit,zGk,hbefore,zrV,hp];rfl
  have hN:zd4 N (N.fingers.take n ++ [x] ++ N.fingers.drop (n + 1))=N:=by
   rw [List.append_assoc,List.singleton_append,← hsplit];rfl
  rw [hN,← hdr,hkl] at hloop
  rw [show (N.fingers.take n ++ [x]).length=n + 1 by rw [List.length_append,hkl];rfl] at hloop
  have hz:Ops.std.ieq 0 0=true:=rfl
  have hsub:∀ z:Finger,xsub zae (xfil (drpF j.bit N.fingers ++ junk) (((drpF j.bit N.fingers).length:Nat):Int) (xlen zae (drpF j.bit N.fingers ++ junk)) z) 0 (((drpF j.bit N.fingers).length:Nat):Int)=some (drpF j.bit N.fingers):=fun z=>by
   unfold xfil
   rw [zaS,Int.toNat_natCast,Int.toNat_natCast,List.take_left,List.append_assoc,zjx zae _ _ (by simp),List.take_left]
  have hf2:(zd4 N (drpF j.bit N.fingers ++ junk)).fingers=drpF j.bit N.fingers ++ junk:=rfl
  dsimp only
  rw [ieqF (show (n:Int) ≠ -1 by omega),cond_false,zh0 (by omega),hloop,Option.bind_some]
  dsimp only
  rw [hf2,zep zae _ _ (by simp),Option.bind_some,hsub,Option.bind_some,hz,cond_true]
  rfl)
theorem zx2 {j:Job} {owner:Peer} {N:Node} (hl:N.fingers.length ≤ 1000):zib j owner 0 N []=some (N,drpF j.bit N.fingers):=by
 have:=zbb (σ:=List Finger) zae (l:=N.fingers) (by omega) (L:=fun i acc=>zib j owner i N acc) (res:=fun _ acc rest=>(N,acc ++ drpF j.bit rest)) (Inv:=fun k acc=>acc.length ≤ k)
  (fun acc _ h=>zsI (by rw [zjX,h];simp [drpF]))
  (fun k x rest acc ha hk hx hd h1 h2 h3 ih=>zsI (by
   rw [zjX,h1,h2,cond_true,Option.bind_some,zrV,h3]
   show (bif isB j.bit x then _ else _)=_
   cases hc:isB j.bit x with
   | true=>rw [cond_true,cond_true,ih acc (by omega)]
   | false=>rw [cond_false,cond_false,zaP zae (by simp;omega) (by omega),cond_true,ih (acc ++ [x]) (by simp;omega)];simp)) [] (by simp)
 simpa using this
end Go.Ab.Tryz
namespace Go.Ab.Tryz
open Go Go.Ab Go.Proofs Go.Lib
open Pe (dist PeOk)
def btw (a x b:Int):Bool:=decide (x ≠ a) && (decide (a=b) || decide (dist a x < dist a b))
theorem zvS (a x b:Int):zhG a x b=some (btw a x b):=zpu (by
 simp only [zid,Pe.ring_Dist_eq,Option.bind_some,zap,zaA,zaf,btw]
 by_cases h1:x=a <;> by_cases h2:a=b <;> simp [h1,h2]
 all_goals (by_cases h3:x=b <;> simp [h3]))
theorem zwD {a x b:Int} (ha:0 ≤ a ∧ a < 18446744073709551616) (hx:0 ≤ x ∧ x < 18446744073709551616) (hb:0 ≤ b ∧ b < 18446744073709551616):zol a x b=some (btw a x b):=zxM (by
 simp only [zlL,zon ha hx hb,zap,zaf,btw,upto,dist]
 by_cases h1:a=b
 ·subst h1;simp
 ·by_cases h2:x=b
  ·subst h2;simp [h1]
  ·simp [h1,h2]
   first | done | rfl | (congr 1;exact decide_eq_decide.2 Iff.rfl) | (congr 2))
def hLe (me:Peer) (x y:Peer):Bool:=!znF me.id (y.id,y.addr) (x.id,x.addr)
theorem zkx {me x y:Peer}:hLe me x y=true ↔ dist me.id y.id < dist me.id x.id ∨ (dist me.id x.id=dist me.id y.id ∧ x.addr ≤ y.addr):=by
 simp only [hLe,znF,dist,Bool.not_eq_true',Bool.or_eq_false_iff,Bool.and_eq_false_iff,decide_eq_false_iff_not]
 omega
def zme (me:Peer) (l:List Peer):List Peer:=l.mergeSort (hLe me)
theorem zzp:∀ {l:List Peer},(∀ p,p ∈ l → PeOk p) → zkp (l.map zai)=some (l.map fun p=>(p.id,p.addr))
 | [],_=>rfl
 | p :: l,h=>by
  have hp:=h p (by simp)
  have ih:=zzp (l:=l) fun q hq=>h q (by simp [hq])
  have e:zu3 (zai p)=some (p.id,p.addr):=by
   show (if 0 ≤ p.id ∧ p.id < 18446744073709551616 then some (p.id,p.addr) else none)=_
   exact if_pos hp
  simp only [List.map_cons,zkp,e,ih]
theorem zJQ {me:Peer} {l:List Peer} (hl:l.length ≤ 1000000) (ho:∀ p,p ∈ l → PeOk p):xsrt zai me.id l=some (zme me l):=by
 refine zau ?_
 show (match zkp (l.map zai) with
  | some l=>if l.length ≤ 1000000 then some ((hopSort me.id l).map zc4) else none
  | none=>none)=_
 rw [zzp ho]
 simp only [List.length_map,hl,if_true]
 congr 1
 have hm:(l.mergeSort (hLe me)).map (fun p=>(p.id,p.addr))=(l.map fun p=>(p.id,p.addr)).mergeSort fun x y=>!znF me.id y x:=List.map_mergeSort (fun a _ b _=>rfl)
 rw [hopSort,← hm,List.map_map]
 rfl
def bef (me y p:Peer):Bool:=decide (dist me.id p.id < dist me.id y.id) || (decide (dist me.id y.id=dist me.id p.id) && decide (y.addr < p.addr))
def posH (me p:Peer):List Peer → Nat
 | []=>0
 | y :: r=>if bef me y p=true then posH me p r + 1 else 0
def insH (me p:Peer):List Peer → List Peer
 | []=>[p]
 | y :: r=>if bef me y p=true then y :: insH me p r else p :: y :: r
theorem zCl (me p:Peer):∀ l,posH me p l ≤ l.length
 | []=>Nat.le_refl _
 | y :: r=>by
  have:=zCl me p r
  simp only [posH];split <;> simp <;> omega
theorem zvy (me p:Peer):∀ l,l.take (posH me p l) ++ [p] ++ l.drop (posH me p l)=insH me p l
 | []=>rfl
 | y :: r=>by
  have ih:=zvy me p r
  simp only [posH,insH]
  split
  ·simp only [List.take_succ_cons,List.drop_succ_cons,List.cons_append,ih]
  ·rfl
theorem zlv (me p:Peer):∀ l,(insH me p l).Perm (p :: l)
 | []=>List.Perm.refl _
 | y :: r=>by
  simp only [insH]
  split
  ·exact ((zlv me p r).cons y).trans (List.Perm.swap p y r)
  ·exact List.Perm.refl _
theorem ztY (me p:Peer):∀ {l},l.Pairwise (fun a b=>hLe me a b=true) → (insH me p l).Pairwise (fun a b=>hLe me a b=true)
 | [],_=>by simp [insH]
 | y :: r,h=>by
  rw [List.pairwise_cons] at h
  simp only [insH]
  split
  ·rename_i hb
   refine List.pairwise_cons.2 ⟨fun z hz=>?_,ztY me p h.2⟩
   rcases List.mem_cons.1 ((zlv me p r).mem_iff.1 hz) with rfl | hz
   ·rw [zkx]
    simp only [bef,Bool.or_eq_true,Bool.and_eq_true,decide_eq_true_eq] at hb
    omega
   ·exact h.1 z hz
  ·rename_i hb
   have hpy:hLe me p y=true:=by
    rw [zkx]
    simp only [bef,Bool.or_eq_true,Bool.and_eq_true,decide_eq_true_eq] at hb
    omega
   refine List.pairwise_cons.2 ⟨fun z hz=>?_,List.pairwise_cons.2 h⟩
   rcases List.mem_cons.1 hz with rfl | hz
   ·exact hpy
   ·have:=h.1 z hz
    rw [zkx] at *
    omega
def zit (me:Peer) (out cs:List Peer):List Peer:=cs.foldl (fun o p=>insH me p o) out
theorem zr3 (me:Peer):∀ (cs:List Peer) {out:List Peer},out.Pairwise (fun a b=>hLe me a b=true) → (zit me out cs).Pairwise (fun a b=>hLe me a b=true) ∧ (zit me out cs).Perm (out ++ cs)
 | [],out,h=>⟨h,by simp [zit]⟩
 | p :: cs,out,h=>by
  obtain ⟨h1,h2⟩:=zr3 me cs (ztY me p h)
  refine ⟨h1,h2.trans ?_⟩
  exact ((zlv me p out).append_right cs).trans ((List.perm_middle (l₁:=out) (l₂:=cs) (a:=p)).symm)
theorem zDI {me:Peer} (hm:PeOk me) {l:List Peer} (ho:∀ p,p ∈ l → PeOk p):zit me [] l=zme me l:=by
 obtain ⟨h1,h2⟩:=zr3 me l (out:=[]) List.Pairwise.nil
 rw [List.nil_append] at h2
 have h3:(zme me l).Pairwise (fun a b=>hLe me a b=true):=List.pairwise_mergeSort (fun a b c hab hbc=>by rw [zkx] at *;omega) (fun a b=>by
  rw [Bool.or_eq_true,zkx,zkx];omega) l
 have h4:(zme me l).Perm l:=List.mergeSort_perm l (hLe me)
 refine List.Perm.eq_of_pairwise (le:=fun a b=>hLe me a b=true) (fun a b ha hb hab hba=>?_) h1 h3 (h2.trans h4.symm)
 have oa:=ho a (h2.mem_iff.1 ha)
 have ob:=ho b (h4.mem_iff.1 hb)
 rw [zkx] at hab hba
 have e1:dist me.id a.id=dist me.id b.id:=by omega
 have e2:a.addr=b.addr:=by omega
 have e3:a.id=b.id:=by
  simp only [dist,PeOk] at *
  omega
 obtain ⟨ai,aa⟩:=a
 obtain ⟨bi,ba⟩:=b
 simp only at e2 e3
 rw [e2,e3]
def has (l:List Peer) (a:Int):Bool:=l.any fun q=>decide (q.addr=a)
def filt (me:Peer) (key:Int):List Peer → List Peer → List Peer
 | _,[]=>[]
 | pre,p :: r=>if has pre p.addr=false ∧ p.addr ≠ me.addr ∧ btw me.id p.id key=true then p :: filt me key (pre ++ [p]) r else filt me key (pre ++ [p]) r
def zpQ (me:Peer) (key:Int):List Peer → List Peer → List Peer
 | _,[]=>[]
 | met,p :: r=>if has met p.addr=true ∨ p.addr=me.addr then zpQ me key met r else if btw me.id p.id key=true then p :: zpQ me key (met ++ [p]) r else zpQ me key (met ++ [p]) r
def metR (me:Peer):List Peer → List Peer → List Peer
 | met,[]=>met
 | met,p :: r=>if has met p.addr=true ∨ p.addr=me.addr then metR me met r else metR me (met ++ [p]) r
theorem ztE (l:List Peer) (p:Peer) (a:Int):has (l ++ [p]) a=(has l a || decide (p.addr=a)):=by simp [has]
theorem znv (me:Peer) (key:Int):∀ (l met pre:List Peer),(∀ a,a ≠ me.addr → has met a=has pre a) → zpQ me key met l=filt me key pre l
 | [],_,_,_=>rfl
 | p :: r,met,pre,h=>by
  simp only [zpQ,filt]
  by_cases hm:p.addr=me.addr
  ·rw [if_pos (.inr hm),if_neg (fun h=>h.2.1 hm)]
   refine znv me key r met _ fun a ha=>?_
   rw [ztE,h a ha]
   have:decide (p.addr=a)=false:=by rw [decide_eq_false_iff_not];omega
   rw [this,Bool.or_false]
  ·have hp:=h p.addr hm
   cases hh:has pre p.addr with
   | true=>
    rw [if_pos (.inl (hp.trans hh)),if_neg (fun h=>by cases h.1)]
    refine znv me key r met _ fun a ha=>?_
    rw [ztE,h a ha]
    by_cases hpa:p.addr=a
    ·rw [← hpa,hh];rfl
    ·rw [decide_eq_false hpa,Bool.or_false]
   | false=>
    have ih:=znv me key r (met ++ [p]) (pre ++ [p]) fun a ha=>by rw [ztE,ztE,h a ha]
    rw [if_neg (fun h2=>by rcases h2 with h2 | h2;rw [hp,hh] at h2;cases h2;exact hm h2)]
    by_cases hb:btw me.id p.id key=true
    ·rw [if_pos hb,if_pos ⟨rfl,hm,hb⟩,ih]
    ·rw [if_neg hb,if_neg (fun h=>hb h.2.2),ih]
theorem zmI (me:Peer) (key:Int):∀ (l pre:List Peer) (p:Peer),p ∈ filt me key pre l → p ∈ l
 | [],_,_,h=>by cases h
 | q :: r,pre,p,h=>by
  simp only [filt] at h
  split at h
  ·rcases List.mem_cons.1 h with rfl | h
   ·simp
   ·exact List.mem_cons_of_mem _ (zmI me key r _ p h)
  ·exact List.mem_cons_of_mem _ (zmI me key r _ p h)
theorem zy5 (me:Peer) (key:Int):∀ (l pre:List Peer),(filt me key pre l).length ≤ l.length
 | [],_=>Nat.le_refl _
 | q :: r,pre=>by
  have:=zy5 me key r (pre ++ [q])
  simp only [filt];split <;> simp <;> omega
theorem zEQ {all:List Peer} {n:Nat} {x:Peer} (hx:all[n]?=some x):fstI (fun q=>decide (q.addr=x.addr)) all=(n:Int) ↔ has (all.take n) x.addr=false:=by
 have hxm:=List.mem_of_getElem? hx
 obtain ⟨k,hk⟩:=zLa (p:=fun q:Peer=>decide (q.addr=x.addr)) (l:=all) ⟨x,hxm,by simp⟩
 obtain ⟨y,hy,hpy,hkl,hbe⟩:=zkw hk
 have e:fstI (fun q:Peer=>decide (q.addr=x.addr)) all=(k:Int):=by unfold fstI;rw [hk]
 rw [e]
 constructor
 ·intro hkn
  have hkn:k=n:=by omega
  subst hkn
  rw [has,List.any_eq_false]
  intro q hq
  obtain ⟨i,hi⟩:=List.mem_iff_getElem?.1 hq
  rw [List.getElem?_take] at hi
  split at hi
  ·rename_i hlt
   have:=hbe i q hlt hi
   simpa using this
  ·cases hi
 ·intro hh
  rw [has,List.any_eq_false] at hh
  rcases Nat.lt_trichotomy k n with h1 | h1 | h1
  ·exfalso
   have hyt:y ∈ all.take n:=List.mem_iff_getElem?.2 ⟨k,by rw [List.getElem?_take,if_pos h1];exact hy⟩
   exact hh y hyt hpy
  ·omega
  ·exfalso
   have:=hbe n x h1 hx
   simp at this
theorem zwb {l:List Peer} {id addr:Int} (hl:l.length ≤ 10000):zkm l id addr=some (fstI (fun q=>decide (q.addr=addr)) l):=zug (by
 have hf:∀ x:Peer,zmJ x id addr=some (decide (x.addr=addr)):=fun x=>zwo rfl
 have:=zdI zai (l:=l) (by omega) (p:=fun q=>decide (q.addr=addr)) (L:=fun i=>zeN l id addr i) (fun h=>zgS (by simp [zcE,h]))
  (fun n x _ h1 h2 hp=>zgS (by simp [zcE,h1,h2,hf,hp]))
  (fun n x r _ h1 h2 hp h=>zgS (by simp [zcE,h1,h2,hf,hp,h]))
 rw [zi9,this]
 unfold fstI
 cases fst (fun q:Peer=>decide (q.addr=addr)) l <;> rfl)
def allP (l:List Entry) (f:List Finger):List Peer:=Pe.firms l ++ f.map Finger.peer
def hops (me:Peer) (l:List Entry) (f:List Finger) (key most:Int):List Peer:=(zme me (filt me key [] (allP l f))).take most.toNat
theorem zEU (me:Peer) (l:List Peer):(zme me l).length=l.length:=List.length_mergeSort ..
theorem zxE {me:Peer} {l:List Entry} {f:List Finger} {key most:Int} (hl:l.length ≤ 1000) (hf:f.length ≤ 1000) (ho:∀ p,p ∈ allP l f → PeOk p) (hmost:most < 1000):zpW me l f key most=some (hops me l f key most):=zy6 (by
 have hfl:=Pe.firms_le l
 rw [zmK,(Pe.some_eq hl).1,Option.bind_some]
 have e0:=zbb (σ:=List Peer) zae (l:=f) (by omega) (L:=fun i s=>ziH me f key most i s) (res:=fun _ s rest=>s ++ rest.map Finger.peer) (Inv:=fun n s=>s.length ≤ (Pe.firms l).length + n)
  (fun s _ h=>znC (by rw [zgX,h];simp))
  (fun n x rest s hi hn hx hd h1 h2 h3 ih=>znC (by
   rw [zgX,h1,h2,cond_true,Option.bind_some,zaP zai (by simp;omega) (by omega),cond_true,h3,ih _ (by simp;omega)]
   simp)) (Pe.firms l) (by omega)
 rw [e0,Option.bind_some]
 show ((zcz me key most (allP l f) (xlen zai (allP l f)) 0 (allP l f) []).bind _)=_
 have hal:(allP l f).length ≤ 2000:=by simp only [allP,List.length_append,List.length_map];omega
 have e1:=zbb (σ:=List Peer) zai (l:=allP l f) (by omega) (L:=fun i s=>zcz me key most (allP l f) (xlen zai (allP l f)) i (allP l f) s)
  (res:=fun n s rest=>(allP l f,s ++ filt me key ((allP l f).take n) rest)) (Inv:=fun n s=>s.length ≤ n)
  (fun s _ h=>znD (by rw [zgY,h];simp [filt]))
  (fun n x rest s hi hn hx hd h1 h2 h3 ih=>znD (by
   have ht:(allP l f).take (n + 1)=(allP l f).take n ++ [x]:=by rw [List.take_add_one,hx];rfl
   rw [zgY,h1,h2,cond_true,Option.bind_some,zwb (by omega),Option.bind_some,h3,zap,zaf]
   have hfi:=zEQ hx
   simp only [filt]
   by_cases c1:has ((allP l f).take n) x.addr=false
   ·rw [if_pos (hfi.2 c1),zap,zaf]
    by_cases c2:x.addr=me.addr
    ·rw [if_pos c2,if_neg (fun h=>h.2.1 c2),ih s (by omega),ht]
    ·rw [if_neg c2,zvS,Option.bind_some]
     cases c3:btw me.id x.id key with
     | true=>
      rw [cond_true,zaP zai (by simp;omega) (by omega),cond_true,if_pos ⟨c1,c2,rfl⟩,ih _ (by simp;omega),ht]
      simp
     | false=>
      rw [cond_false,if_neg (fun h=>by cases h.2.2),ih s (by omega),ht]
   ·rw [if_neg (fun h=>c1 (hfi.1 h)),if_neg (fun h=>c1 h.1),ih s (by omega),ht])) [] (by simp)
 rw [e1,Option.bind_some]
 dsimp only
 rw [List.nil_append,List.take_zero]
 have hfo:∀ p,p ∈ filt me key [] (allP l f) → PeOk p:=fun p hp=>ho p (zmI me key _ _ p hp)
 have hfl2:=zy5 me key (allP l f) []
 rw [zJQ (by omega) hfo,Option.bind_some,hops]
 have hsl:=zEU me (filt me key [] (allP l f))
 obtain ⟨q,hq⟩:∃ q,zme me (filt me key [] (allP l f))=q:=⟨_,rfl⟩
 rw [hq] at hsl ⊢
 rw [zaA,zaf,zaS,zaA,zaf,zaA,zaf]
 by_cases c1:most < 0
 ·rw [if_pos c1,show most.toNat=0 by omega,List.take_zero]
  by_cases c2:(0:Int) < (q.length:Int)
  ·rw [if_pos c2,show xsub zai q 0 0=some (q.take 0) from zeK q 0 (Nat.zero_le _)];rfl
  ·rw [if_neg c2,zeK q _ (Nat.le_refl _),List.take_length]
   have:q=[]:=List.eq_nil_of_length_eq_zero (by omega)
   rw [this];rfl
 ·rw [if_neg c1]
  by_cases c2:most < (q.length:Int)
  ·rw [if_pos c2]
   obtain ⟨m,rfl⟩:∃ m:Nat,most=(m:Int):=⟨most.toNat,by omega⟩
   rw [zeK q m (by omega)];rfl
  ·rw [if_neg c2,zeK q _ (Nat.le_refl _),List.take_length,Option.bind_some,List.take_of_length_le (by omega)])
theorem zzE {l:List Peer} {a:Int} (hl:l.length ≤ 10000):zst l a=some (has l a):=zAP (by
 have:=zbb (σ:=Unit) zai (l:=l) (by omega) (L:=fun i _=>zjP l a i) (res:=fun _ _ rest=>bif has rest a then .inl () else .inr ()) (Inv:=fun _ _=>True)
  (fun _ _ h=>zpr (by rw [zh6,h];rfl))
  (fun n x rest s _ hn hx hd h1 h2 h3 ih=>zpr (by
   rw [zh6,h1,h2,cond_true,Option.bind_some,zap,zaf,h3]
   by_cases c:x.addr=a
   ·rw [if_pos c];simp [has,c]
   ·rw [if_neg c,ih () trivial];simp [has,c])) () trivial
 rw [zow,this,Option.bind_some]
 cases has l a <;> rfl)
theorem zGZ {me p:Peer} {key most i:Int} {out r2 r3:List Peer} (hm:PeOk me) (ho:∀ q,q ∈ out → PeOk q) (hl:out.length ≤ 10000):
  zgM me key most out i 0 (dist me.id p.id) r2 r3 p.id p.addr=some (out,i,(posH me p out:Int),r2,r3,p.id,p.addr):=by
 have:=zbb (σ:=Unit) zai (l:=out) (by omega) (L:=fun k _=>zgM me key most out i k (dist me.id p.id) r2 r3 p.id p.addr) (res:=fun n _ rest=>(out,i,((n + posH me p rest:Nat):Int),r2,r3,p.id,p.addr)) (Inv:=fun _ _=>True)
  (fun _ _ h=>zrh (by rw [ziQ,h];rfl))
  (fun n x rest s _ hn hx hd h1 h2 h3 ih=>zrh (by
   have hxo:=ho x (List.mem_of_getElem? hx)
   rw [ziQ,h1,h2,cond_true,Option.bind_some,Pe.r03_Dist_eq hm.1 hm.2 hxo.1 hxo.2,Option.bind_some,zaA,zaf,zap,zaf,zaA,zaf,h3]
   have ihh:=ih () trivial
   (try dsimp only at ihh)
   have e:((n + 1 + posH me p rest:Nat):Int)=((n + (posH me p rest + 1):Nat):Int):=by omega
   rw [e] at ihh
   simp only [posH,bef,Bool.or_eq_true,Bool.and_eq_true,decide_eq_true_eq]
   by_cases c1:dist me.id p.id < dist me.id x.id
   ·rw [if_pos c1,if_pos (.inl c1)];exact ihh
   ·rw [if_neg c1]
    by_cases c2:dist me.id x.id=dist me.id p.id
    ·rw [if_pos c2]
     by_cases c3:x.addr < p.addr
     ·rw [if_pos c3,if_pos (.inr ⟨c2,c3⟩)];exact ihh
     ·rw [if_neg c3,if_neg (by omega)];rfl
    ·rw [if_neg c2,if_neg (by omega)];rfl)) () trivial
 simpa using this
theorem zFi {me p:Peer} {key most i:Int} {out r2 r3:List Peer} (hm:PeOk me) (hp:PeOk p) (hk:0 ≤ key ∧ key < 18446744073709551616) (ho:∀ q,q ∈ out → PeOk q) (hl:out.length ≤ 5000) (h3:r3.length ≤ 5000):
  zov me key most out i r2 r3 p.id p.addr=some (if btw me.id p.id key=true then .inl (insH me p out,i,r2,r3 ++ [p],p.id,p.addr) else .inr (out,i,r2,r3 ++ [p],p.id,p.addr)):=zxN (by
 have hpl:=zCl me p out
 rw [zlQ,zaP zai (by simp;omega) (by omega),cond_true,zwD hm hp hk,Option.bind_some]
 have ep:(⟨p.id,p.addr⟩:Peer)=p:=rfl
 rw [ep]
 cases hb:btw me.id p.id key with
 | false=>rfl
 | true=>
  rw [cond_true,Pe.r03_Dist_eq hm.1 hm.2 hp.1 hp.2,Option.bind_some,zGZ hm ho (by omega),Option.bind_some]
  dsimp only
  have hxd:xsub zai out ((posH me p out:Nat):Int) (xlen zai out)=some (out.drop (posH me p out)):=by
   rw [zim,zaS,if_pos (by omega)];simp
  rw [zeK out _ hpl,Option.bind_some,zaP zai (by simp;omega) (by omega),cond_true,zaP zai (by simp;omega) (by omega),cond_true,hxd,Option.bind_some,zaP zai (by simp;omega) (by omega),cond_true,ep,zvy]
  rfl)
theorem zGB (me p:Peer) (l:List Peer):(insH me p l).length=l.length + 1:=by rw [(zlv me p l).length_eq];rfl
theorem zAO {me:Peer} {l:List Entry} {f:List Finger} {key most:Int} (hl:l.length ≤ 1000) (hf:f.length ≤ 1000) (hm:PeOk me) (hk:0 ≤ key ∧ key < 18446744073709551616) (ho:∀ p,p ∈ allP l f → PeOk p):zux me l f key most=some (hops me l f key most):=zDh (by
 have hfl:=Pe.firms_le l
 rw [zqv,(Pe.some_eq hl).2.1,Option.bind_some]
 have e0:=zbb (σ:=List Peer) zae (l:=f) (by omega) (L:=fun i s=>zla me f key most i s) (res:=fun _ s rest=>s ++ rest.map Finger.peer) (Inv:=fun n s=>s.length ≤ (Pe.firms l).length + n)
  (fun s _ h=>zrg (by rw [ziP,h];simp))
  (fun n x rest s hi hn hx hd h1 h2 h3 ih=>zrg (by
   rw [ziP,h1,h2,cond_true,Option.bind_some,zaP zai (by simp;omega) (by omega),cond_true,h3,ih _ (by simp;omega)]
   simp)) (Pe.firms l) (by omega)
 rw [e0,Option.bind_some]
 show ((zdK me key most [] 0 (allP l f) []).bind _)=_
 have hal:(allP l f).length ≤ 2000:=by simp only [allP,List.length_append,List.length_map];omega
 have e1:=zbb (σ:=List Peer × List Peer) zai (l:=allP l f) (by omega) (L:=fun i s=>zdK me key most s.1 i (allP l f) s.2)
  (res:=fun n s rest=>(zit me s.1 (zpQ me key s.2 rest),allP l f,metR me s.2 rest)) (Inv:=fun n s=>s.1.length ≤ n ∧ s.2.length ≤ n ∧ ∀ q,q ∈ s.1 → PeOk q)
  (fun s _ h=>zri (by rw [ziR,h];rfl))
  (fun n x rest s hi hn hx hd h1 h2 h3 ih=>zri (by
   obtain ⟨hi1,hi2,hi3⟩:=hi
   have hxo:=ho x (List.mem_of_getElem? hx)
   rw [ziR,h1,h2,cond_true,Option.bind_some,zzE (by omega),Option.bind_some,h3]
   simp only [zpQ,metR]
   cases c1:has s.2 x.addr with
   | true=>rw [cond_true,if_pos (.inl rfl),if_pos (.inl rfl)];exact ih s ⟨by omega,by omega,hi3⟩
   | false=>
    rw [cond_false,zap,zaf]
    by_cases c2:x.addr=me.addr
    ·rw [if_pos c2,if_pos (.inr c2),if_pos (.inr c2)];exact ih s ⟨by omega,by omega,hi3⟩
    ·have hno:¬ (false=true ∨ x.addr=me.addr):=fun h=>h.elim (fun h=>by cases h) c2
     rw [if_neg c2,if_neg hno,if_neg hno,zFi hm hxo hk hi3 (by omega) (by omega),Option.bind_some]
     by_cases c3:btw me.id x.id key=true
     ·rw [if_pos c3,if_pos c3]
      dsimp only
      rw [h3]
      exact ih (insH me x s.1,s.2 ++ [x]) ⟨by rw [zGB];omega,by simp;omega,fun q hq=>by
       rcases List.mem_cons.1 ((zlv me x s.1).mem_iff.1 hq) with rfl | hq
       ·exact hxo
       ·exact hi3 q hq⟩
     ·rw [if_neg c3,if_neg c3]
      dsimp only
      rw [h3]
      exact ih (s.1,s.2 ++ [x]) ⟨by show s.1.length ≤ _;omega,by simp;omega,hi3⟩)) ([],[]) ⟨by simp,by simp,fun q hq=>by cases hq⟩
 dsimp only at e1
 rw [e1,Option.bind_some]
 dsimp only
 have hfo:∀ p,p ∈ filt me key [] (allP l f) → PeOk p:=fun p hp=>ho p (zmI me key _ _ p hp)
 rw [znv me key (allP l f) [] [] (fun _ _=>rfl),zDI hm hfo,hops]
 obtain ⟨q,hq⟩:∃ q,zme me (filt me key [] (allP l f))=q:=⟨_,rfl⟩
 rw [hq,zaA,zaf,zaS,zaA,zaf]
 by_cases c1:most < 0
 ·rw [if_pos c1,show most.toNat=0 by omega,List.take_zero]
 ·rw [if_neg c1]
  by_cases c2:most < (q.length:Int)
  ·rw [if_pos c2]
   obtain ⟨m,rfl⟩:∃ m:Nat,most=(m:Int):=⟨most.toNat,by omega⟩
   rw [zeK q m (by omega)];rfl
  ·rw [if_neg c2,List.take_of_length_le (by omega)])
end Go.Ab.Tryz
namespace Go.Ab.Tryz
open Go Go.Ab Go.Proofs Go.Lib
open Pe (dist PeOk EnOk)
structure NOk (n:Node):Prop where
 me:PeOk n.me
 pred:EnOk n.pred
 list:EnOk n.list
 fingers:∀ x,x ∈ n.fingers → PeOk x.peer
theorem zun {l:List Entry} (h:EnOk l):∀ p,p ∈ Pe.firms l → PeOk p:=fun p hp=>by
 unfold Pe.firms at hp
 obtain ⟨x,hx,hpx⟩:=List.mem_flatMap.1 hp
 cases hb:Ops.std.ile x.misses 0 <;> rw [hb] at hpx
 ·cases hpx
 ·simp only [cond_true,List.mem_singleton] at hpx
  subst hpx;exact h x hx
theorem zwd {n:Node} (h:NOk n):∀ p,p ∈ allP n.list n.fingers → PeOk p:=fun p hp=>by
 rcases List.mem_append.1 hp with hp | hp
 ·exact zun h.list p hp
 ·obtain ⟨x,hx,rfl⟩:=List.mem_map.1 hp;exact h.fingers x hx
def zd7 (n:Node) (key:Int):Bool:=match n.pred with
 | []=>false
 | x :: _=>decide (x.misses ≤ 0) && upto x.peer.id key n.me.id
theorem zvU (n:Node) (key:Int):zm6 n key=some (zd7 n key):=zwT (by
 rw [zkP,zaS,zaA,zaf,zd7]
 cases hp:n.pred with
 | nil=>rfl
 | cons x r=>
  rw [if_pos (by simp <;> omega),show (0:Int)=((0:Nat):Int) from rfl,za9]
  show (bif Ops.std.ile x.misses 0 then zjA x.peer.id key n.me.id else some false)=_
  rw [zbv,zaf,zsO]
  by_cases c:x.misses ≤ 0 <;> simp [c])
def znK (n:Node) (key:Int):Peer × List Peer × Bool:=if (hops n.me n.list n.fingers key 4).length=0 then (n.me,[],true) else (⟨0,0⟩,hops n.me n.list n.fingers key 4,false)
def zcq (n:Node) (key:Int):Peer × List Peer × Bool:=match Pe.firms n.list with
 | []=>(n.me,[],true)
 | f :: _=>if key=n.me.id then (n.me,[],true) else if upto n.me.id key f.id=true then (f,[],true) else if zd7 n key=true then (n.me,[],true) else znK n key
theorem zrt {n:Node} {key:Int} (h:Sz n) (ok:NOk n):zqQ n key=some (zcq n key):=zzO (by
 have hl:=h.list
 rw [zm5,(Pe.some_eq hl).1,Option.bind_some,zaS,zap,zaf,zap,zaf,zcq]
 cases hf:Pe.firms n.list with
 | nil=>rfl
 | cons f r=>
  rw [if_neg (by simp <;> omega)]
  dsimp only
  by_cases c1:key=n.me.id
  ·rw [if_pos c1,if_pos c1]
  ·rw [if_neg c1,if_neg c1]
   have e:zlZ n key (f :: r)=some (if upto n.me.id key f.id=true then .inl (f.id,f.addr,f :: r) else if zd7 n key=true then .inl (n.me.id,n.me.addr,f :: r) else if (hops n.me n.list n.fingers key 4).length=0 then .inl (n.me.id,n.me.addr,f :: r) else .inr (hops n.me n.list n.fingers key 4,f :: r)):=zvT (by
    rw [zj2,show (0:Int)=((0:Nat):Int) from rfl,za9]
    show (zjA n.me.id key f.id).bind _=_
    rw [zsO,Option.bind_some,zvU,Option.bind_some,zxE hl h.fingers (zwd ok) (by omega),Option.bind_some,zaS,zaA]
    cases upto n.me.id key f.id
    ·cases zd7 n key
     ·by_cases c:(hops n.me n.list n.fingers key 4).length=0
      ·rw [decide_eq_false (by omega)];simp [c]
      ·rw [decide_eq_true (by omega)];simp [c]
     ·rfl
    ·rfl)
   rw [e,Option.bind_some,znK]
   by_cases c2:upto n.me.id key f.id=true
   ·rw [if_pos c2,if_pos c2]
   ·rw [if_neg c2,if_neg c2]
    by_cases c3:zd7 n key=true
    ·rw [if_pos c3,if_pos c3]
    ·rw [if_neg c3,if_neg c3]
     by_cases c4:(hops n.me n.list n.fingers key 4).length=0
     ·rw [if_pos c4,if_pos c4]
     ·rw [if_neg c4,if_neg c4])
theorem zAT {n:Node} {key:Int} (h:Sz n) (ok:NOk n) (hk:0 ≤ key ∧ key < 18446744073709551616):zuB n key=some (zcq n key):=zDs (by
 have hl:=h.list
 have hfo:=zun ok.list
 rw [zqF,(Pe.some_eq hl).2.1,Option.bind_some,zaS,zap,zaf,zap,zaf,zcq]
 cases hf:Pe.firms n.list with
 | nil=>rfl
 | cons f r=>
  rw [hf] at hfo
  have hfp:=hfo f (by simp)
  rw [if_neg (by simp <;> omega)]
  dsimp only
  by_cases c1:key=n.me.id
  ·rw [if_pos c1,if_pos c1]
  ·rw [if_neg c1,if_neg c1]
   have e0:zgO n key (f :: r)=some (if (hops n.me n.list n.fingers key 4).length=0 then .inl (f :: r) else .inr (hops n.me n.list n.fingers key 4,f :: r)):=zxZ (by
    rw [zlW,zAO hl h.fingers ok.me hk (zwd ok),Option.bind_some,zaS,zap,zaf]
    by_cases c:(hops n.me n.list n.fingers key 4).length=0
    ·rw [if_pos (by omega),if_pos c]
    ·rw [if_neg (by omega),if_neg c])
   obtain ⟨w,hw,hwz⟩:∃ w,zgO n key (f :: r)=some w ∧ (match w with | .inl _=>((n.me,[],true):Peer × List Peer × Bool) | .inr (t,_)=>(⟨0,0⟩,t,false))=znK n key:=by
    by_cases c:(hops n.me n.list n.fingers key 4).length=0
    ·exact ⟨.inl (f :: r),by rw [e0,if_pos c],by rw [znK,if_pos c]⟩
    ·exact ⟨.inr (hops n.me n.list n.fingers key 4,f :: r),by rw [e0,if_neg c],by rw [znK,if_neg c]⟩
   have e:∃ z,zoE n key (f :: r)=some z ∧ (match z with | .inl (a,b,_)=>((⟨a,b⟩,[],true):Peer × List Peer × Bool) | .inr (t,_)=>(⟨0,0⟩,t,false))=(if upto n.me.id key f.id=true then (f,[],true) else if zd7 n key=true then (n.me,[],true) else znK n key):=by
    refine Exists.elim (?_:∃ z,ziX n key (f :: r)=some z ∧ _) fun z hz=>⟨z,zx0 hz.1,hz.2⟩
    have hx0:xget zai (f :: r) 0=some f:=za9 zai (f :: r) 0
    rw [ziX,hx0,Option.bind_some,zon ok.me hk hfp,Option.bind_some]
    cases hu:upto n.me.id key f.id with
    | true=>exact ⟨_,rfl,rfl⟩
    | false=>
     rw [cond_false,hw,Option.bind_some,if_neg (by simp),zaS,zaA,zaf]
     cases hp:n.pred with
     | nil=>
      have hb:zd7 n key=false:=by rw [zd7,hp]
      rw [if_neg (by simp),hb,if_neg (by simp)]
      rcases w with a | ⟨t,b⟩ <;> exact ⟨_,rfl,hwz⟩
     | cons x rr=>
      have hb:zd7 n key=(decide (x.misses ≤ 0) && upto x.peer.id key n.me.id):=by rw [zd7,hp]
      have hxo:=ok.pred x (by rw [hp];simp)
      have hx1:xget zat (x :: rr) 0=some x:=za9 zat (x :: rr) 0
      rw [if_pos (by simp <;> omega),hx1,Option.bind_some,zaA,zaf]
      by_cases c2:x.misses < 1
      ·rw [decide_eq_true (by omega:x.misses ≤ 0),Bool.true_and] at hb
       rw [if_pos c2,zon hxo hk ok.me,Option.bind_some,hb]
       cases upto x.peer.id key n.me.id with
       | true=>exact ⟨_,rfl,rfl⟩
       | false=>
        rw [cond_false,if_neg (by simp)]
        rcases w with a | ⟨t,b⟩ <;> exact ⟨_,rfl,hwz⟩
      ·rw [decide_eq_false (by omega:¬ x.misses ≤ 0),Bool.false_and] at hb
       rw [if_neg c2,hb,if_neg (by simp)]
       rcases w with a | ⟨t,b⟩ <;> exact ⟨_,rfl,hwz⟩
   obtain ⟨z,hz,hzz⟩:=e
   rw [hz,Option.bind_some,← hzz]
   rcases z with ⟨a,b,c⟩ | ⟨a,b⟩ <;> rfl)
end Go.Ab.Tryz
namespace Go.Ab.Tryz
open Go Go.Ab Go.Proofs Go.Lib
open Pe (dist PeOk EnOk)
def jAt (j:Job) (to_:Peer):Job:=⟨j.id,j.kind,j.bit,j.key,j.val,j.target,j.via,to_,j.doing,j.hops,j.tries,j.due⟩
def jDo (j:Job) (b:Bool):Job:=⟨j.id,j.kind,j.bit,j.key,j.val,j.target,j.via,j.at_,b,j.hops,j.tries,j.due⟩
def zeo (j:Job) (h:Int):Job:=⟨j.id,j.kind,j.bit,j.key,j.val,j.target,j.via,j.at_,false,h,j.tries,j.due⟩
def jTry (j:Job) (t:Int):Job:=⟨j.id,j.kind,j.bit,j.key,j.val,j.target,j.via,j.at_,j.doing,j.hops,t,j.due⟩
def goM (j:Job):Msg:=⟨1,0,0,false,j.target,⟨#[]⟩,⟨#[]⟩,⟨0,0⟩,[],[]⟩
def actM (j:Job):Msg:=if j.kind=2 then ⟨7,0,0,false,0,j.key,j.val,⟨0,0⟩,[],[]⟩ else if j.kind=3 then ⟨8,0,0,false,0,j.key,⟨#[]⟩,⟨0,0⟩,[],[]⟩ else ⟨3,0,0,false,0,⟨#[]⟩,⟨#[]⟩,⟨0,0⟩,[],[]⟩
def znE (n:Node) (j:Job) (to_:Peer):Node × List Out:=askN (setN n (jAt j to_)) to_ (goM j) 4 j.id
def actN (n:Node) (j:Job) (to_:Peer):Node × List Out:=askN (setN n (jAt (jDo j true) to_)) to_ (actM j) 5 j.id
def endL (n:Node) (j:Job) (owner:Peer):Node × List Out:=
 if j.kind=1 then actN n j j.via else
 if j.kind=2 then (if (zco n j.key j.val).2.2=0 then (zbs (zco n j.key j.val).1 j.id true j.val 0,(zco n j.key j.val).2.1) else (zbs n j.id false ⟨#[]⟩ (zco n j.key j.val).2.2,[])) else
 if j.kind=3 then (zbs n j.id (getP n.store j.key).2 (getP n.store j.key).1 0,[]) else
 if owner.addr=n.me.addr then (zbs (zd4 n (drpF j.bit n.fingers)) j.id false ⟨#[]⟩ 0,[]) else
 (zbs (zd4 n (setF n.fingers j.bit owner)) j.id false ⟨#[]⟩ 0,[])
def endN (n:Node) (j:Job) (owner:Peer):Node × List Out:=
 if owner.addr ≠ n.me.addr ∧ j.kind ≠ 4 then actN n j owner else endL (setN n j) j owner
def zgZ (n:Node) (j:Job):Node × List Out:=
 if j.kind=1 then znE n (zeo j 0) j.via else
 if (zcq n j.target).2.2=true then endN n (zeo j 0) (zcq n j.target).1 else
 match (zcq n j.target).2.1 with
 | []=>(n,[])
 | x :: _=>znE n (zeo j 1) x
def znB (n:Node) (j:Job) (why:Int):Node × List Out:=
 if j.kind=1 then (setN n (jDo j false),[]) else
 if j.kind=4 ∨ 3 ≤ j.tries then (zbs n j.id false ⟨#[]⟩ why,[]) else
 zgZ n (jTry j (if j.tries < 0 then 1 else j.tries + 1))
structure JOk (j:Job):Prop where
 target:0 ≤ j.target ∧ j.target < 18446744073709551616
 at_:PeOk j.at_
 key:j.key.size < 1000000
theorem zt6 {n:Node} {j:Job} {to_:Peer} (h:Sz n):zqM n j to_=some (znE n j to_):=zDz (by
 show (zh8 n (jAt j to_)).bind _=_
 rw [zet h,Option.bind_some,zmm (zdm h _)];rfl)
theorem zvO {n:Node} {j:Job} {to_:Peer} (h:Sz n):ztM n j to_=some (actN n j to_):=zFq (by
 have s0:∀ (k:Int) (key val:ByteArray),zmo n j to_ k key val=some (if j.kind=3 then ((askN (setN n (jAt (jDo j true) to_)) to_ ⟨8,0,0,false,0,j.key,⟨#[]⟩,⟨0,0⟩,[],[]⟩ 5 j.id).2,(askN (setN n (jAt (jDo j true) to_)) to_ ⟨8,0,0,false,0,j.key,⟨#[]⟩,⟨0,0⟩,[],[]⟩ 5 j.id).1,8,j.key,⟨#[]⟩)
   else ((askN (setN n (jAt (jDo j true) to_)) to_ ⟨k,0,0,false,0,key,val,⟨0,0⟩,[],[]⟩ 5 j.id).2,(askN (setN n (jAt (jDo j true) to_)) to_ ⟨k,0,0,false,0,key,val,⟨0,0⟩,[],[]⟩ 5 j.id).1,k,key,val)):=fun k key val=>zzI (by
  show (bif Ops.std.ieq j.kind 3 then (zh8 n (jAt (jDo j true) to_)).bind _ else (zh8 n (jAt (jDo j true) to_)).bind _)=_
  rw [zet h,Option.bind_some,Option.bind_some,zmm (zdm h _),zmm (zdm h _),zap,zaf]
  split <;> rfl)
 rw [zsE,s0,s0,zap,zaf]
 unfold actN actM
 by_cases c2:j.kind=2
 ·rw [if_pos c2,if_pos c2,if_neg (by omega)];rfl
 ·rw [if_neg c2,if_neg c2]
  by_cases c3:j.kind=3
  ·rw [if_pos c3,if_pos c3];rfl
  ·rw [if_neg c3,if_neg c3];rfl)
theorem zgE {n:Node} {j:Job} {has:Bool} {val:ByteArray} {e:Int} (h:Sz n):zdG n j has val e=some (zbs n j.id has val e):=zzJ (zxV h)
theorem zkX {n:Node} (h:Sz n) {l:List Finger} (hl:l.length ≤ 1000):Sz (zd4 n l):=⟨h.pred,h.list,hl,h.store,h.pends,h.jobs,h.results⟩
def prE:zjZ → Node × List Out
 | .inl (o,_,n)=>(n,o)
 | .inr (.inl (_,n,_))=>(n,[])
 | .inr (.inr (.inl (_,n)))=>(n,[])
 | .inr (.inr (.inr (_,n)))=>(n,[])
theorem zx3 {n:Node} {j:Job} {owner:Peer} (h:Sz n) (hf:n.fingers.length ≤ 900) (hk:j.key.size < 1000000):∃ z,zjY n j owner=some z ∧ prE z=endL (setN n j) j owner:=by
 have hs:=zdm h j
 have hfs:(setN n j).fingers.length ≤ 900:=hf
 unfold endL
 by_cases c1:j.kind=1
 ·refine ⟨_,zfv (by rw [zc6,zet h,Option.bind_some,zap,zaf,if_pos c1,zvO hs,Option.bind_some]),?_⟩
  rw [if_pos c1];rfl
 by_cases c2:j.kind=2
 ·rw [if_neg c1,if_pos c2]
  by_cases c0:(zco (setN n j) j.key j.val).2.2=0
  ·refine ⟨_,zfv (by rw [zc6,zet h,Option.bind_some,zap,zaf,if_neg c1,zap,zaf,if_pos c2,zt5 hs hk,Option.bind_some];dsimp only;rw [zap,zaf,if_pos c0,zgE (ztI hs).1,Option.bind_some]),?_⟩
   rw [if_pos c0];rfl
  ·refine ⟨_,zfv (by rw [zc6,zet h,Option.bind_some,zap,zaf,if_neg c1,zap,zaf,if_pos c2,zt5 hs hk,Option.bind_some];dsimp only;rw [zap,zaf,if_neg c0,zgE hs,Option.bind_some]),?_⟩
   rw [if_neg c0];rfl
 by_cases c3:j.kind=3
 ·rw [if_neg c1,if_neg c2,if_pos c3]
  refine ⟨_,zfv (by rw [zc6,zet h,Option.bind_some,zap,zaf,if_neg c1,zap,zaf,if_neg c2,zap,zaf,if_pos c3,(zza (l:=(setN n j).store) (key:=j.key) (by have:=hs.store;omega)).2,Option.bind_some];dsimp only;rw [zgE hs,Option.bind_some]),?_⟩
  rfl
 rw [if_neg c1,if_neg c2,if_neg c3]
 by_cases c4:owner.addr=(setN n j).me.addr
 ·rw [if_pos c4]
  refine ⟨_,zfv (by
   rw [zc6,zet h,Option.bind_some,zap,zaf,if_neg c1,zap,zaf,if_neg c2,zap,zaf,if_neg c3,zap,zaf,if_pos c4,zx2 (by omega),Option.bind_some]
   show (zdG (zd4 (setN n j) (drpF j.bit (setN n j).fingers)) j false ⟨#[]⟩ 0).bind _=_
   rw [zgE (zkX hs (by have:=zwl j.bit (setN n j).fingers;omega)),Option.bind_some]),?_⟩
  rfl
 ·rw [if_neg c4]
  refine ⟨_,zfv (by
   rw [zc6,zet h,Option.bind_some,zap,zaf,if_neg c1,zap,zaf,if_neg c2,zap,zaf,if_neg c3,zap,zaf,if_neg c4,zDj (by omega),Option.bind_some]
   show (zdG (zd4 (setN n j) (setF (setN n j).fingers j.bit owner)) j false ⟨#[]⟩ 0).bind _=_
   rw [zgE (zkX hs (by have:=zuM (setN n j).fingers j.bit owner;omega)),Option.bind_some]),?_⟩
  rfl
theorem zDy {n:Node} {j:Job} {owner:Peer} (h:Sz n) (hf:n.fingers.length ≤ 900) (hk:j.key.size < 1000000):zwR n j owner=some (endN n j owner):=zFs (by
 obtain ⟨z,h1,h2⟩:=zx3 (owner:=owner) h hf hk
 have e:(zjY n j owner).bind (fun r=>match r with
   | .inl (t7,b0,b3)=>some (b3,t7)
   | .inr (.inl (b0,b3,b5))=>some (b3,[])
   | .inr (.inr (.inl (b0,b3)))=>some (b3,[])
   | .inr (.inr (.inr (b0,b3)))=>some (b3,[]))=some (endL (setN n j) j owner):=by
  rw [h1,Option.bind_some,← h2]
  rcases z with ⟨a,b,c⟩ | ⟨a,b,c⟩ | ⟨a,b⟩ | ⟨a,b⟩ <;> rfl
 rw [zsH,zap,zaf,zap,zaf]
 unfold endN
 by_cases c1:owner.addr=n.me.addr
 ·rw [if_pos c1,if_neg (fun hh=>hh.1 c1)];exact e
 ·rw [if_neg c1]
  by_cases c4:j.kind=4
  ·rw [if_pos c4,if_neg (fun hh=>hh.2 c4)];exact e
  ·rw [if_neg c4,if_pos ⟨c1,c4⟩];exact zvO h)
theorem zqV {n:Node} {key:Int} (h:(zcq n key).2.2=false):∃ x r,(zcq n key).2.1=x :: r:=by
 unfold zcq at h ⊢
 split at h
 ·cases h
 ·rename_i f r hf
  try dsimp only
  by_cases c1:key=n.me.id
  ·rw [if_pos c1] at h;cases h
  rw [if_neg c1] at h ⊢
  by_cases c2:upto n.me.id key f.id=true
  ·rw [if_pos c2] at h;cases h
  rw [if_neg c2] at h ⊢
  by_cases c3:zd7 n key=true
  ·rw [if_pos c3] at h;cases h
  rw [if_neg c3] at h ⊢
  unfold znK at h ⊢
  by_cases c4:(hops n.me n.list n.fingers key 4).length=0
  ·rw [if_pos c4] at h;cases h
  rw [if_neg c4]
  cases hh:hops n.me n.list n.fingers key 4 with
  | nil=>rw [hh] at c4;exact absurd rfl c4
  | cons x r=>exact ⟨x,r,rfl⟩
theorem zAY {n:Node} {j:Job} (h:Sz n) (ok:NOk n) (hf:n.fingers.length ≤ 900) (hj:JOk j):zuG n j=some (zgZ n j):=zDA (by
 rw [zqN,zap,zaf]
 unfold zgZ
 by_cases c1:j.kind=1
 ·rw [if_pos c1,if_pos c1];exact zt6 (j:=zeo j 0) h
 rw [if_neg c1,if_neg c1,zAT h ok hj.target,Option.bind_some]
 cases hb:(zcq n j.target).2.2 with
 | true=>
  obtain ⟨⟨o,l,b⟩,hq⟩:∃ z,zcq n j.target=z:=⟨_,rfl⟩
  rw [hq] at hb ⊢
  dsimp only at hb ⊢
  rw [hb,cond_true,if_pos rfl];exact zDy (j:=zeo j 0) h hf hj.key
 | false=>
  obtain ⟨x,r,hx⟩:=zqV hb
  obtain ⟨⟨o,l,b⟩,hq⟩:∃ z,zcq n j.target=z:=⟨_,rfl⟩
  rw [hq] at hb hx ⊢
  dsimp only at hb hx ⊢
  rw [hb,cond_false,if_neg (by simp),hx,show (0:Int)=((0:Nat):Int) from rfl,za9]
  exact zt6 (j:=zeo j 1) h)
theorem zwv {j:Job} (h:JOk j) (t:Int):JOk (jTry j t):=⟨h.target,h.at_,h.key⟩
theorem zue {n:Node} {j:Job} {o:List Out} (h:Sz n):zee n j o=some (setN n j,n.fingers):=zwa (by
 rw [zkk,ztZ h];rfl)
theorem zs6 {n:Node} {j:Job} {o:List Out} (h:Sz n):zdr n j o=some (setN n j,n.fingers):=ztS (by
 rw [zir,ztZ h];rfl)
theorem znl {m n:Node} {j:Job} {o more:List Out} (ho:o.length ≤ 1000) (hm:more.length ≤ 1000):zfI m more n j o=some (n.fingers,o ++ more):=zuW (by
 rw [zjo,zaP eOut (by omega) (by omega)];rfl)
theorem zud {n:Node} {j:Job} {to_:Peer} {m:Msg} {why:Int} {o:List Out} (h:Sz n) (ho:o.length ≤ 900) (hp:m.peers.length ≤ 1000000) (hq:m.pairs.length ≤ 1000000):
  zed to_ m why n j o=some ((askN (setN n (jAt j to_)) to_ m why j.id).1,jAt j to_,n.fingers,o ++ (askN (setN n (jAt j to_)) to_ m why j.id).2):=zv9 (by
 show (zee n (jAt j to_) o).bind _=_
 rw [zue h,Option.bind_some]
 try dsimp only
 rw [zoh (zdm h _) hp hq,Option.bind_some]
 try dsimp only
 rw [znl (by omega) (by have:=(zjp (to_:=to_) (m:=m) (why:=why) (job:=j.id) (zdm h (jAt j to_))).2;omega),Option.bind_some]
 rfl)
theorem zAc {n:Node} {j:Job} {to_:Peer} {m:Msg} {why:Int} {o:List Out} (h:Sz n) (ho:o.length ≤ 900) (hp:m.peers.length ≤ 1000000) (hq:m.pairs.length ≤ 1000000):
  zke to_ m why n j o=some ((askN (setN n (jAt j to_)) to_ m why j.id).1,jAt j to_,n.fingers,o ++ (askN (setN n (jAt j to_)) to_ m why j.id).2):=ztR (by
 show (zdr n (jAt j to_) o).bind _=_
 rw [zs6 h,Option.bind_some]
 try dsimp only
 rw [zoh (zdm h _) hp hq,Option.bind_some]
 try dsimp only
 rw [znl (by omega) (by have:=(zjp (to_:=to_) (m:=m) (why:=why) (job:=j.id) (zdm h (jAt j to_))).2;omega),Option.bind_some]
 rfl)
theorem zAe {n:Node} {j:Job} {to_:Peer} {o:List Out} (h:Sz n) (ho:o.length ≤ 900):zk0 to_ n j o=some ((znE n j to_).1,jAt j to_,n.fingers,o ++ (znE n j to_).2):=zuU (zud h ho (Nat.zero_le _) (Nat.zero_le _))
theorem zyd {n:Node} {j:Job} {to_:Peer} {o:List Out} (h:Sz n) (ho:o.length ≤ 900):zjj to_ n j o=some ((znE n j to_).1,jAt j to_,n.fingers,o ++ (znE n j to_).2):=zs9 (zAc h ho (Nat.zero_le _) (Nat.zero_le _))
theorem zuc {n:Node} {j:Job} {to_:Peer} {o:List Out} (h:Sz n) (ho:o.length ≤ 900):zi5 to_ n j o=some ((actN n j to_).1,jAt (jDo j true) to_,n.fingers,o ++ (actN n j to_).2):=zv8 (by
 have e:=fun (m:Msg) h1 h2=>zud (n:=n) (j:=jDo j true) (to_:=to_) (m:=m) (why:=5) (o:=o) h ho h1 h2
 rw [zkd,zap,zaf,zap,zaf]
 unfold actN actM
 by_cases c2:j.kind=2
 ·rw [if_pos c2,if_pos c2];exact e _ (Nat.zero_le _) (Nat.zero_le _)
 rw [if_neg c2,if_neg c2]
 by_cases c3:j.kind=3
 ·rw [if_pos c3,if_pos c3];exact e _ (Nat.zero_le _) (Nat.zero_le _)
 ·rw [if_neg c3,if_neg c3];exact e _ (Nat.zero_le _) (Nat.zero_le _))
theorem zil {n:Node} {j:Job} {has:Bool} {val:ByteArray} {e:Int} {o:List Out} (h:Sz n):zca has val e n j o=some (zbs n j.id has val e,n.fingers):=zta (by
 rw [zhW,zky h];rfl)
end Go.Ab.Tryz
namespace Go.Ab.Tryz
open Go Go.Ab Go.Proofs Go.Lib
open Pe (dist PeOk EnOk)
theorem zn2 {n:Node} {j:Job} {has:Bool} {val:ByteArray} {e:Int} {o:List Out} (h:Sz n):zdh has val e n j o=some (zbs n j.id has val e):=zqZ (zky h)
theorem zv7 {n:Node} {j:Job} {has:Bool} {val:ByteArray} {e:Int} {o:List Out} (h:Sz n):zhV has val e n j o=some (zbs n j.id has val e,n.fingers):=zq0 (by
 rw [zf4,zky h];rfl)
theorem zw4 {n:Node} {j:Job} {owner:Peer} {mine:Bool} {o:List Out} (h:Sz n) (hf:n.fingers.length ≤ 900):∃ f,zji owner mine n j o=some (zbs (zd4 n (if mine=true then drpF j.bit n.fingers else setF n.fingers j.bit owner)) j.id false ⟨#[]⟩ 0,f):=by
 cases mine with
 | true=>
  refine ⟨_,zlF (by
   rw [zeJ,cond_true,zxA (by omega),Option.bind_some]
   dsimp only
   show zca false ⟨#[]⟩ 0 (zd4 n (drpF j.bit n.fingers)) j o=_
   rw [zil (zkX h (by have:=zwl j.bit n.fingers;omega))];rfl)⟩
 | false=>
  refine ⟨_,zlF (by
   rw [zeJ,cond_false,zy7 (by omega),Option.bind_some]
   show (zdh false ⟨#[]⟩ 0 (zd4 n (setF n.fingers j.bit owner)) j o).bind _=_
   rw [zn2 (zkX h (by have:=zuM n.fingers j.bit owner;omega))];rfl)⟩
theorem zAf {n:Node} {j:Job} {o:List Out} (h:Sz n) (ho:o.length ≤ 900) (hk:j.key.size < 1000000):∃ f,zk1 n j o=some (if (zco n j.key j.val).2.2=0 then (zbs (zco n j.key j.val).1 j.id true j.val 0,f,o ++ (zco n j.key j.val).2.1) else (zbs n j.id false ⟨#[]⟩ (zco n j.key j.val).2.2,f,o)):=by
 refine ⟨n.fingers,zuV ?_⟩
 rw [zjl,zx7 h hk,Option.bind_some]
 obtain ⟨hk1,hk2⟩:=ztI (key:=j.key) (val:=j.val) h
 obtain ⟨⟨a,b,c⟩,hq⟩:∃ z,zco n j.key j.val=z:=⟨_,rfl⟩
 rw [hq] at hk1 hk2 ⊢
 dsimp only at hk1 hk2 ⊢
 rw [zap,zaf]
 by_cases c0:c=0
 ·rw [if_pos c0,if_pos c0,znl (by omega) (by omega),Option.bind_some]
  dsimp only
  rw [zn2 hk1];rfl
 ·rw [if_neg c0,if_neg c0,zv7 h];rfl
theorem zG9 (n:Node) (j:Job) (to_:Peer):actN (setN n j) j to_=actN n j to_:=by
 unfold actN;rw [zuN n (show j.id=(jAt (jDo j true) to_).id from rfl)]
theorem zHa (n:Node) (j:Job) (owner:Peer):endN (setN n j) j owner=endN n j owner:=by
 unfold endN
 rw [zG9,zuN n rfl];rfl
theorem zny {n:Node} {j:Job} (hl:setN n j=n) (owner:Peer):endN n j owner=if owner.addr ≠ n.me.addr ∧ j.kind ≠ 4 then actN n j owner else endL n j owner:=by
 unfold endN;rw [hl]
theorem zBi {n:Node} {j:Job} {owner:Peer} {o:List Out} (h:Sz n) (hf:n.fingers.length ≤ 900) (hl:setN n j=n) (ho:o.length ≤ 900) (hk:j.key.size < 1000000) (h1:1 ≤ j.kind) (h4:j.kind ≤ 4):
  ∃ q f,zi6 owner n j o=some ((endN n j owner).1,q,f,o ++ (endN n j owner).2):=by
 have s0:∀ t:Bool,(t=true → j.kind=3 ∧ owner.addr=n.me.addr) → (t=false → owner.addr ≠ n.me.addr ∧ j.kind ≠ 4) → ∃ q f,zf0 owner n j o t=some ((endN n j owner).1,q,f,o ++ (endN n j owner).2):=fun t ht hff=>by
  rw [zny hl]
  cases t with
  | true=>
   obtain ⟨k3,ka⟩:=ht rfl
   rw [if_neg (fun hh=>hh.1 ka)]
   unfold endL
   rw [if_neg (by omega),if_neg (by omega),if_pos k3]
   dsimp only
   rw [List.append_nil]
   exact ⟨_,_,zlE (by
    rw [zeI,cond_true,(zza (l:=n.store) (key:=j.key) (by have:=h.store;omega)).1,Option.bind_some]
    try dsimp only
    rw [zil h,Option.bind_some])⟩
  | false=>
   obtain ⟨ka,k4⟩:=hff rfl
   refine ⟨_,_,zlE (by rw [zeI,cond_false,if_pos ⟨ka,k4⟩];exact zuc h ho)⟩
 have s1:∀ t:Bool,(t=true → j.kind=2 ∧ owner.addr=n.me.addr) → (t=false → j.kind ≠ 4 ∧ (owner.addr=n.me.addr → j.kind=3)) → ∃ q f,zf1 owner n j o (Ops.std.ieq owner.addr n.me.addr) t=some ((endN n j owner).1,q,f,o ++ (endN n j owner).2):=fun t ht hff=>by
  cases t with
  | true=>
   obtain ⟨k2,ka⟩:=ht rfl
   obtain ⟨f,hkp⟩:=zAf (n:=n) (j:=j) (o:=o) h ho hk
   rw [zny hl,if_neg (fun hh=>hh.1 ka)]
   unfold endL
   rw [if_neg (by omega),if_pos k2]
   by_cases c0:(zco n j.key j.val).2.2=0
   ·rw [if_pos c0] at hkp ⊢
    exact ⟨_,_,zda (by rw [zbL,cond_true,hkp];rfl)⟩
   ·rw [if_neg c0] at hkp ⊢
    exact ⟨_,_,zda (by rw [zbL,cond_true,hkp];simp;exact ⟨rfl,rfl⟩)⟩
  | false=>
   obtain ⟨k4,ka⟩:=hff rfl
   by_cases k3:j.kind=3
   ·by_cases kk:owner.addr=n.me.addr
    ·obtain ⟨q,f,hz⟩:=s0 true (fun _=>⟨k3,kk⟩) (fun hh=>by cases hh)
     exact ⟨q,f,zda (by rw [zbL,cond_false,zap,zaf,if_pos k3,zap,decide_eq_true kk];exact hz)⟩
    ·obtain ⟨q,f,hz⟩:=s0 false (fun hh=>by cases hh) (fun _=>⟨kk,k4⟩)
     exact ⟨q,f,zda (by rw [zbL,cond_false,zap,zaf,if_pos k3,zap,decide_eq_false kk];exact hz)⟩
   ·obtain ⟨q,f,hz⟩:=s0 false (fun hh=>by cases hh) (fun _=>⟨fun hh=>k3 (ka hh),k4⟩)
    exact ⟨q,f,zda (by rw [zbL,cond_false,zap,zaf,if_neg k3];exact hz)⟩
 have s2:∀ t:Bool,(t=true → j.kind=1 ∧ owner.addr=n.me.addr) → (t=false → (j.kind=1 → owner.addr ≠ n.me.addr)) → ∃ q f,zf2 owner n j o t=some ((endN n j owner).1,q,f,o ++ (endN n j owner).2):=fun t ht hff=>by
  cases t with
  | true=>
   obtain ⟨k1,ka⟩:=ht rfl
   refine ⟨_,_,zdc (by
    rw [zbM,cond_true,zny hl,if_neg (fun hh=>hh.1 ka)]
    unfold endL
    rw [if_pos k1];exact zuc h ho)⟩
  | false=>
   have hn:=hff rfl
   by_cases k4:j.kind=4
   ·obtain ⟨f,hfi⟩:=zw4 (n:=n) (j:=j) (owner:=owner) (mine:=Ops.std.ieq owner.addr n.me.addr) (o:=o) h hf
    have e:endN n j owner=(zbs (zd4 n (if Ops.std.ieq owner.addr n.me.addr=true then drpF j.bit n.fingers else setF n.fingers j.bit owner)) j.id false ⟨#[]⟩ 0,[]):=by
     rw [zny hl,if_neg (fun hh:owner.addr ≠ n.me.addr ∧ j.kind ≠ 4=>hh.2 k4)]
     unfold endL
     rw [if_neg (show ¬ j.kind=1 by omega),if_neg (show ¬ j.kind=2 by omega),if_neg (show ¬ j.kind=3 by omega),zap]
     by_cases ka:owner.addr=n.me.addr
     ·rw [if_pos ka,if_pos (decide_eq_true ka)]
     ·rw [if_neg ka,if_neg (by simpa using ka)]
    refine ⟨j,f,zdc ?_⟩
    rw [zbM,cond_false,show Ops.std.ieq j.kind 4=true from decide_eq_true k4,cond_true,hfi,Option.bind_some,e]
    simp
   ·by_cases k2:j.kind=2
    ·by_cases kk:owner.addr=n.me.addr
     ·obtain ⟨q,f,hz⟩:=s1 true (fun _=>⟨k2,kk⟩) (fun hh=>by cases hh)
      refine ⟨q,f,zdc ?_⟩
      rw [zbM,cond_false,zap,zaf,if_neg k4,zap,zaf,if_pos k2]
      rw [show Ops.std.ieq owner.addr n.me.addr=true from decide_eq_true kk] at hz ⊢
      exact hz
     ·obtain ⟨q,f,hz⟩:=s1 false (fun hh=>by cases hh) (fun _=>⟨k4,fun hh=>absurd hh kk⟩)
      refine ⟨q,f,zdc ?_⟩
      rw [zbM,cond_false,zap,zaf,if_neg k4,zap,zaf,if_pos k2]
      rw [show Ops.std.ieq owner.addr n.me.addr=false from decide_eq_false kk] at hz ⊢
      exact hz
    ·obtain ⟨q,f,hz⟩:=s1 false (fun hh=>by cases hh) (fun _=>⟨k4,fun hh=>by
      by_cases k1:j.kind=1
      ·exact absurd hh (hn k1)
      ·omega⟩)
     refine ⟨q,f,zdc ?_⟩
     rw [zbM,cond_false,zap,zaf,if_neg k4,zap,zaf,if_neg k2]
     exact hz
 by_cases k1:j.kind=1
 ·by_cases kk:owner.addr=n.me.addr
  ·obtain ⟨q,f,hz⟩:=s2 true (fun _=>⟨k1,kk⟩) (fun hh=>by cases hh)
   exact ⟨q,f,zkh (by rw [zeG,zap,zaf,if_pos k1,zap,decide_eq_true kk];exact hz)⟩
  ·obtain ⟨q,f,hz⟩:=s2 false (fun hh=>by cases hh) (fun _ _=>kk)
   exact ⟨q,f,zkh (by rw [zeG,zap,zaf,if_pos k1,zap,decide_eq_false kk];exact hz)⟩
 ·obtain ⟨q,f,hz⟩:=s2 false (fun hh=>by cases hh) (fun _ hh=>absurd hh k1)
  exact ⟨q,f,zkh (by rw [zeG,zap,zaf,if_neg k1];exact hz)⟩
theorem znk {n:Node} {j:Job} {o:List Out} (h:Sz n) (ok:NOk n) (hf:n.fingers.length ≤ 900) (hj:JOk j) (ho:o.length ≤ 900) (h1:1 ≤ j.kind) (h4:j.kind ≤ 4):
  ∃ q f,zcP n j o=some ((zgZ n j).1,q,f,o ++ (zgZ n j).2):=by
 unfold zgZ
 by_cases c1:j.kind=1
 ·rw [if_pos c1]
  exact ⟨_,_,zjn (by rw [zdZ,zap,zaf,if_pos c1];exact zAe (j:=zeo j 0) h ho)⟩
 rw [if_neg c1]
 cases hb:(zcq n j.target).2.2 with
 | true=>
  rw [if_pos rfl]
  obtain ⟨q,f,he⟩:=zBi (n:=setN n (zeo j 0)) (j:=zeo j 0) (owner:=(zcq n j.target).1) (o:=o) (zdm h _) hf (zuN n rfl) ho hj.key h1 h4
  rw [zHa] at he
  refine ⟨q,n.fingers,zjn ?_⟩
  rw [zdZ,zap,zaf,if_neg c1,zrt h ok,Option.bind_some]
  obtain ⟨⟨ow,l,b⟩,hq⟩:∃ z,zcq n j.target=z:=⟨_,rfl⟩
  rw [hq] at hb he ⊢
  dsimp only at hb he ⊢
  rw [hb,cond_true]
  show (zdr n (zeo j 0) o).bind _=_
  rw [zs6 h,Option.bind_some]
  show (zi6 ow (setN n (zeo j 0)) (zeo j 0) o).bind _=_
  rw [he];rfl
 | false=>
  rw [if_neg (by simp)]
  obtain ⟨x,r,hx⟩:=zqV hb
  rw [hx]
  refine ⟨_,_,zjn (by
   rw [zdZ,zap,zaf,if_neg c1,zrt h ok,Option.bind_some]
   obtain ⟨⟨ow,l,b⟩,hq⟩:∃ z,zcq n j.target=z:=⟨_,rfl⟩
   rw [hq] at hb hx ⊢
   dsimp only at hb hx ⊢
   rw [hb,cond_false,hx,show (0:Int)=((0:Nat):Int) from rfl,za9]
   exact zyd (j:=zeo j 1) h ho)⟩
def prF (o:List Out):zf3 → Node × List Out
 | .inl (n,_,_)=>(n,o)
 | .inr (n,_,_,r)=>(n,r)
theorem zAd {n:Node} {j:Job} {why:Int} {o:List Out} (h:Sz n) (ok:NOk n) (hf:n.fingers.length ≤ 900) (hj:JOk j) (ho:o.length ≤ 900) (h1:1 ≤ j.kind) (h4:j.kind ≤ 4):
  ∃ z,zkZ why n j o=some z ∧ prF o z=((znB n j why).1,o ++ (znB n j why).2):=by
 unfold znB
 by_cases c1:j.kind=1
 ·rw [if_pos c1]
  refine ⟨_,zdW (by
   rw [zb9,zap,zaf,if_pos c1]
   show (zee n (jDo j false) o).bind _=_
   rw [zue h,Option.bind_some]),?_⟩
  simp [prF]
 rw [if_neg c1]
 by_cases c4:j.kind=4
 ·rw [if_pos (.inl c4)]
  refine ⟨_,zdW (by rw [zb9,zap,zaf,if_neg c1,zap,zaf,if_pos c4,zil h,Option.bind_some]),?_⟩
  simp [prF]
 by_cases c3:3 ≤ j.tries
 ·rw [if_pos (.inr c3)]
  refine ⟨_,zdW (by rw [zb9,zap,zaf,if_neg c1,zap,zaf,if_neg c4,zbv,zaf,if_pos c3,zil h,Option.bind_some]),?_⟩
  simp [prF]
 rw [if_neg (by omega)]
 by_cases c0:j.tries < 0
 ·obtain ⟨q,f,hs⟩:=znk (n:=n) (j:=jTry j 1) (o:=o) h ok hf (zwv hj _) ho h1 h4
  rw [if_pos c0]
  refine ⟨_,zdW (by
   rw [zb9,zap,zaf,if_neg c1,zap,zaf,if_neg c4,zbv,zaf,if_neg c3,zaA,zaf,if_pos c0]
   show (zcP n (jTry j 1) o).bind _=_
   rw [hs,Option.bind_some]),rfl⟩
 ·obtain ⟨q,f,hs⟩:=znk (n:=n) (j:=jTry j (j.tries + 1)) (o:=o) h ok hf (zwv hj _) ho h1 h4
  rw [if_neg c0]
  refine ⟨_,zdW (by
   rw [zb9,zap,zaf,if_neg c1,zap,zaf,if_neg c4,zbv,zaf,if_neg c3,zaA,zaf,if_neg c0,zp0 (a:=j.tries) (b:=1) (by omega) (by omega)]
   show (zcP n (jTry j (j.tries + 1)) o).bind _=_
   rw [hs,Option.bind_some]),rfl⟩
end Go.Ab.Tryz
namespace Go.Ab.Tryz
open Go Go.Ab Go.Proofs Go.Lib
open Pe (dist PeOk EnOk)
def zeB (n:Node) (id:Int):Option Job:=match n.jobs.find? (isJ id) with
 | none=>none
 | some x=>if 1 ≤ x.kind ∧ x.kind ≤ 4 then some x else none
theorem zqW {n:Node} {id:Int} {x:Job} (h:zeB n id=some x):x ∈ n.jobs ∧ x.id=id ∧ 1 ≤ x.kind ∧ x.kind ≤ 4 ∧ setN n x=n:=by
 unfold zeB at h
 rcases zeL n.jobs id with ⟨h1,h2,h3⟩ | ⟨k,y,h1,h2,h3,h4,h5,h6⟩
 ·rw [h3] at h;cases h
 ·rw [h5] at h
  dsimp only at h
  split at h
  ·rename_i hk
   cases h
   refine ⟨List.mem_of_getElem? h3,h6,hk.1,hk.2,?_⟩
   show znf n (setJ n.jobs x)=n
   rw [zFD (n:=k) (by rw [h6];exact h2) h3];rfl
  ·cases h
theorem zv6 {n:Node} {id:Int} (h:Sz n):ztN n id=some (match zeB n id with | some x=>(true,n,x,[]) | none=>(false,n,⟨0,0,0,⟨#[]⟩,⟨#[]⟩,0,⟨0,0⟩,⟨0,0⟩,false,0,0,0⟩,[])):=zFR (by
 have hj:=h.jobs
 rw [zs7,zbK h,Option.bind_some]
 dsimp only
 rw [zmN (by omega),Option.bind_some,zaA,zaf]
 unfold zeB
 rcases zeL n.jobs id with ⟨h1,h2,h3⟩ | ⟨k,x,h1,h2,h3,h4,h5,h6⟩
 ·rw [h1,if_pos (by omega),h3]
 ·rw [h1,if_neg (by omega),h5,za9,h3,Option.bind_some,zaA,zaf,zaA,zaf]
  dsimp only
  by_cases c1:x.kind < 1
  ·rw [if_pos c1,if_neg (by omega)]
  ·by_cases c4:4 < x.kind
   ·rw [if_neg c1,if_pos c4,if_neg (by omega)]
   ·rw [if_neg c1,if_neg c4,if_pos (by omega)]
    have e:∀ (a b:List Entry) (c:List Pair) (d:List Pend) (f:List Job) (g:List Result),zmr n (k:Int) a b c d f g n=some (a,b,c,d,f,g,n,x):=fun a b c d f g=>zAg (by
     rw [znj,za9,h3];rfl)
    show (zmr n (k:Int) n.pred n.list n.store n.pends n.jobs n.results n).bind _=_
    rw [e];rfl)
theorem zzK {n:Node} {id:Int} (h:Sz n):∃ k:Int,zsK n id=some k ∧ (match zeB n id with | some x=>0 ≤ k ∧ xget eJob n.jobs k=some x | none=>k < 0):=by
 have hj:=h.jobs
 unfold zeB
 rcases zeL n.jobs id with ⟨h1,h2,h3⟩ | ⟨k,x,h1,h2,h3,h4,h5,h6⟩
 ·rw [h3]
  exact ⟨-1,zoH (by rw [ziB,zgN (by omega),Option.bind_some,h1];rfl),by omega⟩
 ·rw [h5]
  dsimp only
  by_cases c:1 ≤ x.kind ∧ x.kind ≤ 4
  ·rw [if_pos c]
   refine ⟨(k:Int),zoH (by
    rw [ziB,zgN (by omega),Option.bind_some,h1,zbv,zaf,if_pos (by omega),za9,h3,Option.bind_some,zaA,zaf,if_neg (by omega),zaA,zaf,if_neg (by omega)]),by omega,by rw [za9,h3]⟩
  ·rw [if_neg c]
   refine ⟨-1,zoH (by
    rw [ziB,zgN (by omega),Option.bind_some,h1,zbv,zaf,if_pos (by omega),za9,h3,Option.bind_some,zaA,zaf,zaA,zaf]
    by_cases c1:x.kind < 1
    ·rw [if_pos c1]
    ·rw [if_neg c1,if_pos (by omega)]),by show (-1:Int) < 0;omega⟩
def zli (n:Node) (id:Int):Node × List Out:=match zeB n id with | some x=>zgZ n x | none=>(n,[])
def zhZ (n:Node) (id why:Int):Node × List Out:=match zeB n id with | some x=>znB n x why | none=>(n,[])
def JsOk (n:Node):Prop:=∀ j,j ∈ n.jobs → JOk j
theorem zAX {n:Node} {id:Int} (h:Sz n) (ok:NOk n) (hf:n.fingers.length ≤ 900) (hj:JsOk n):zuF n id=some (zli n id):=zDx (by
 obtain ⟨k,hk,hx⟩:=zzK (id:=id) h
 rw [zqK,hk,Option.bind_some,zaA,zaf]
 unfold zli
 cases ht:zeB n id with
 | none=>rw [ht] at hx;rw [if_pos hx]
 | some x=>
  rw [ht] at hx
  rw [if_neg (by omega),hx.2,Option.bind_some]
  exact zAY h ok hf (hj x (zqW ht).1))
theorem znh {n:Node} {j:Job} {o:List Out}:zfH n j o=some (n.me.id,n.me.addr,n.clock,n.joined,n.pred,n.list,n.store,n.pends,n.jobs,n.results,n.rid,n.jobID,n.nextBit):=zuT rfl
theorem zrz {n:Node} {j:Job} {o:List Out}:zfZ n j o=some n:=zs8 rfl
theorem zAb {n:Node} {id:Int} (h:Sz n) (ok:NOk n) (hf:n.fingers.length ≤ 900) (hj:JsOk n):zs5 n id=some (zli n id):=zBh (by
 rw [zoS,zv6 h,Option.bind_some]
 unfold zli
 cases ht:zeB n id with
 | none=>dsimp only;rw [cond_false,znh];rfl
 | some x=>
  obtain ⟨t1,t2,t3,t4,t5⟩:=zqW ht
  obtain ⟨q,f,hs⟩:=znk (n:=n) (j:=x) (o:=[]) h ok hf (hj x t1) (by simp) t3 t4
  dsimp only
  rw [cond_true,hs,Option.bind_some]
  dsimp only
  rw [zrz,Option.bind_some,List.nil_append])
theorem zw3 {n:Node} {id why:Int} (h:Sz n) (ok:NOk n) (hf:n.fingers.length ≤ 900) (hj:JsOk n):zoQ n id why=some (zhZ n id why):=zyb (by
 rw [zl1,zv6 h,Option.bind_some]
 unfold zhZ
 cases ht:zeB n id with
 | none=>dsimp only;rw [cond_false,znh];rfl
 | some x=>
  obtain ⟨t1,t2,t3,t4,t5⟩:=zqW ht
  obtain ⟨z,hz,hp⟩:=zAd (n:=n) (j:=x) (why:=why) (o:=[]) h ok hf (hj x t1) (by simp) t3 t4
  dsimp only
  rw [cond_true,hz,Option.bind_some]
  rw [List.nil_append] at hp
  rw [← show (znB n x why)=((znB n x why).1,(znB n x why).2) from rfl] at hp
  rw [← hp]
  rcases z with ⟨a,b,c⟩ | ⟨a,b,c,d⟩
  ·dsimp only;rw [znh];rfl
  ·dsimp only;rw [zrz];rfl)
end Go.Ab.Tryz
namespace Go.Ab.Tryz
open Go Go.Ab Go.Proofs Go.Lib
open Pe (dist PeOk EnOk)
structure MSz (M:Msg):Prop where
 key:M.key.size < 1000000
 pairs:M.pairs.length ≤ 1000
 keys:Keys M.pairs
structure MPl (M:Msg):Prop where
 id:0 ≤ M.id ∧ M.id < 18446744073709551616
 peer:PeOk M.peer
end Go.Ab.Tryz
namespace Go.Ab.Tryz
open Go Go.Ab Go.Proofs Go.Lib
open Pe (dist PeOk EnOk)
def MFit (m:Msg):Prop:=m.peers.length ≤ 1000000 ∧ m.pairs.length ≤ 1000000
def AFit (l:List Out):Prop:=∀ o,o ∈ l → MFit o.msg
theorem AFit.nil:AFit []:=fun o ho=>by cases ho
theorem AFit.one {o:Out} (h:MFit o.msg):AFit [o]:=fun q hq=>by rw [List.mem_singleton.1 hq];exact h
theorem AFit.cons {o:Out} {l:List Out} (h:MFit o.msg) (hl:AFit l):AFit (o :: l):=fun q hq=>by
 rcases List.mem_cons.1 hq with e | e
 ·rw [e];exact h
 ·exact hl q e
theorem AFit.app {a b:List Out} (ha:AFit a) (hb:AFit b):AFit (a ++ b):=fun q hq=>(List.mem_append.1 hq).elim (ha q) (hb q)
theorem zyI {n:Node} {to_:Peer} {m:Msg} {why job:Int} (h:MFit m):AFit (askN n to_ m why job).2:=by
 unfold askN
 split
 ·exact AFit.nil
 ·exact AFit.one h
theorem zxf (to_:Peer) (fresh:Bool):∀ (cs:List (List Pair)) (n:Node),(∀ c,c ∈ cs → c.length ≤ 1000000) → AFit (zen to_ fresh cs n).2
 | [],n,h=>AFit.nil
 | c :: cs,n,h=>AFit.app (zyI ⟨Nat.zero_le _,h c (by simp)⟩) (zxf to_ fresh cs _ fun x hx=>h x (by simp [hx]))
theorem zGy {n:Node} {to_:Peer} {l:List Pair} {fresh:Bool}:AFit (hand n to_ l fresh).2:=zxf to_ fresh (cut8 l) n fun c hc=>by have:=zB4 hc;omega
theorem zxh (key val:ByteArray):∀ (ps:List Peer) (n:Node),AFit (zcC key val ps n).2
 | [],n=>AFit.nil
 | p :: ps,n=>AFit.app zGy (zxh key val ps _)
theorem zGI {n:Node} {key val:ByteArray}:AFit (zco n key val).2.1:=by
 unfold zco
 split
 ·exact zxh key val _ _
 ·exact AFit.nil
def bigJ (x:Job):Bool:=decide (300 < x.key.size) || decide (700 < x.val.size)
def bigR (x:Result):Bool:=decide (300 < x.key.size) || decide (700 < x.val.size)
theorem zE5 {n:Node} (h:n.jobs.length ≤ 1000):zhL n 0=some (bif n.jobs.any bigJ then .inl () else .inr ()):=
 zbb (σ:=Unit) eJob (l:=n.jobs) (by omega) (L:=fun i _=>zhL n i) (res:=fun _ _ rest=>bif rest.any bigJ then .inl () else .inr ()) (Inv:=fun _ _=>True)
  (fun _ _ hh=>zpz (by rw [zih,hh] <;> rfl))
  (fun k x rest s _ hn hx hd h1 h2 h3 ih=>zpz (by
   rw [zih,h1,cond_true,h2,Option.bind_some,zbc,zbc,List.any_cons,bigJ]
   by_cases a:300 < x.key.size
   ·rw [iltT (by omega),decide_eq_true a] <;> rfl
   ·rw [iltF (by omega),decide_eq_false a,cond_false]
    by_cases b:700 < x.val.size
    ·rw [iltT (by omega),decide_eq_true b] <;> rfl
    ·rw [iltF (by omega),decide_eq_false b,cond_false,h3,ih () trivial] <;> rfl)) () trivial
theorem zE6 {n:Node} (h:n.results.length ≤ 1000):zhM n 0=some (bif n.results.any bigR then .inl () else .inr ()):=
 zbb (σ:=Unit) zal (l:=n.results) (by omega) (L:=fun i _=>zhM n i) (res:=fun _ _ rest=>bif rest.any bigR then .inl () else .inr ()) (Inv:=fun _ _=>True)
  (fun _ _ hh=>zpA (by rw [zii,hh] <;> rfl))
  (fun k x rest s _ hn hx hd h1 h2 h3 ih=>zpA (by
   rw [zii,h1,cond_true,h2,Option.bind_some,zbc,zbc,List.any_cons,bigR]
   by_cases a:300 < x.key.size
   ·rw [iltT (by omega),decide_eq_true a] <;> rfl
   ·rw [iltF (by omega),decide_eq_false a,cond_false]
    by_cases b:700 < x.val.size
    ·rw [iltT (by omega),decide_eq_true b] <;> rfl
    ·rw [iltF (by omega),decide_eq_false b,cond_false,h3,ih () trivial] <;> rfl)) () trivial
structure Sm (n:Node):Prop where
 pred:n.pred.length ≤ 5
 list:n.list.length ≤ 40
 fingers:n.fingers.length ≤ 80
 pends:n.pends.length ≤ 100
 jobs:n.jobs.length ≤ 20
 results:n.results.length ≤ 40
 store:n.store.length ≤ 100
 keys:Keys n.store
theorem Sm.sz {n:Node} (h:Sm n):Sz n:=by
 obtain ⟨h1,h2,h3,h4,h5,h6,h7,_⟩:=h
 exact ⟨by omega,by omega,by omega,by omega,by omega,by omega,by omega⟩
structure MSm (m:Msg):Prop where
 key:m.key.size ≤ 300
 val:m.val.size ≤ 700
 peers:m.peers.length ≤ 40
 pairs:m.pairs.length ≤ 20
 all:∀ p,p ∈ m.pairs → p.key.size ≤ 300 ∧ p.val.size ≤ 700
end Go.Ab.Tryz
namespace Go.Ab.Tryz
open Go Go.Ab Go.Proofs Go.Lib
open Pe (dist PeOk EnOk)
def Good (r:Node × List Out):Prop:=Sz r.1 ∧ r.2.length ≤ 200 ∧ AFit r.2
theorem Good.same {r:Node × List Out} (h:Good r):zjc r.1 r.1=some true ∧ zkL r.2 r.2=some true:=⟨zrl h.1,zxQ ⟨by have:=h.2.1;omega,h.2.2⟩⟩
theorem Good.nil {n:Node} (h:Sz n):Good (n,[]):=⟨h,Nat.zero_le _,AFit.nil⟩
theorem Good.ask {n:Node} {to_:Peer} {m:Msg} {why job:Int} (h:Sz n) (hm:MFit m):Good (askN n to_ m why job):=⟨(zjp h).1,by have:=(zjp (to_:=to_) (m:=m) (why:=why) (job:=job) h).2;omega,zyI hm⟩
theorem zxe {n:Node} {j:Job} {p:Peer} (h:Sz n):Good (znE n j p):=Good.ask (zdm h _) ⟨Nat.zero_le _,Nat.zero_le _⟩
theorem zyG {n:Node} {j:Job} {p:Peer} (h:Sz n):Good (actN n j p):=Good.ask (zdm h _) (by
 unfold actM
 split
 ·exact ⟨Nat.zero_le _,Nat.zero_le _⟩
 ·split <;> exact ⟨Nat.zero_le _,Nat.zero_le _⟩)
theorem zEM {n:Node} {j:Job} {p:Peer} (h:Sz n) (hf:n.fingers.length ≤ 900):Good (endL n j p):=by
 unfold endL
 split
 ·exact zyG h
 split
 ·have hk:=ztI (key:=j.key) (val:=j.val) h
  split
  ·exact ⟨zjB hk.1 _ _ _ _,by have:=hk.2;show (zco n j.key j.val).2.1.length ≤ 200;omega,zGI⟩
  ·exact Good.nil (zjB h _ _ _ _)
 split
 ·exact Good.nil (zjB h _ _ _ _)
 split
 ·exact Good.nil (zjB (zkX h (by have:=zwl j.bit n.fingers;omega)) _ _ _ _)
 ·exact Good.nil (zjB (zkX h (by have:=zuM n.fingers j.bit p;omega)) _ _ _ _)
theorem zGp {n:Node} {j:Job} {p:Peer} (h:Sz n) (hf:n.fingers.length ≤ 900):Good (endN n j p):=by
 unfold endN
 split
 ·exact zyG h
 ·exact zEM (zdm h _) hf
theorem zFC {n:Node} {j:Job} (h:Sz n) (hf:n.fingers.length ≤ 900):Good (zgZ n j):=by
 unfold zgZ
 split
 ·exact zxe h
 split
 ·exact zGp h hf
 split
 ·exact Good.nil h
 ·exact zxe h
theorem zDG {n:Node} {id:Int} (h:Sz n) (hf:n.fingers.length ≤ 900):Good (zli n id):=by
 unfold zli
 split
 ·exact zFC h hf
 ·exact Good.nil h
theorem zqc (n:Node):∃ b,zlC n=some b ∧ (b=false → Sm n ∧ n.jobs.any bigJ=false):=by
 refine Exists.elim (?_:∃ b,zll n=some b ∧ (b=false → Sm n ∧ n.jobs.any bigJ=false)) fun b hb=>⟨b,zBe hb.1,hb.2⟩
 rw [zll,zaS,zaS,zaS,zaS,zaS,zaS,zaA,zaA,zaA,zaA,zaA,zaA,zaf,zaf,zaf,zaf,zaf,zaf,zGJ,Option.bind_some]
 have no:∃ b,some true=some b ∧ (b=false → Sm n ∧ n.jobs.any bigJ=false):=⟨true,rfl,fun h=>by cases h⟩
 by_cases h1:(5:Int) < (n.pred.length:Int)
 ·rw [if_pos h1];exact no
 rw [if_neg h1]
 by_cases h2:(40:Int) < (n.list.length:Int)
 ·rw [if_pos h2];exact no
 rw [if_neg h2]
 by_cases h3:(80:Int) < (n.fingers.length:Int)
 ·rw [if_pos h3];exact no
 rw [if_neg h3]
 by_cases h4:(100:Int) < (n.pends.length:Int)
 ·rw [if_pos h4];exact no
 rw [if_neg h4]
 by_cases h5:(20:Int) < (n.jobs.length:Int)
 ·rw [if_pos h5];exact no
 rw [if_neg h5]
 by_cases h6:(40:Int) < (n.results.length:Int)
 ·rw [if_pos h6];exact no
 rw [if_neg h6]
 cases h7:zvE n.store with
 | true=>exact no
 | false=>
  obtain ⟨h8,h9⟩:=zE0 h7
  have e:znd n=some (bif n.jobs.any bigJ then true else bif n.results.any bigR then true else false):=zw1 (by
   rw [zkV,zE5 (by omega),Option.bind_some]
   cases n.jobs.any bigJ
   ·dsimp only [cond_false]
    rw [zE6 (by omega),Option.bind_some]
    cases n.results.any bigR <;> rfl
   ·rfl)
  rw [cond_false,e]
  refine ⟨_,rfl,fun hh=>⟨⟨by omega,by omega,by omega,by omega,by omega,by omega,h8,h9⟩,?_⟩⟩
  cases hb:n.jobs.any bigJ with
  | true=>rw [hb] at hh;cases hh
  | false=>rfl
def JRng (n:Node):Prop:=∀ j,j ∈ n.jobs → (0 ≤ j.target ∧ j.target < 18446744073709551616) ∧ PeOk j.at_
theorem jsOk {n:Node} (h:JRng n) (hb:n.jobs.any bigJ=false):JsOk n:=fun j hj=>by
 have:=List.any_eq_false.1 hb j hj
 simp only [bigJ,Bool.or_eq_true,decide_eq_true_eq,not_or] at this
 exact ⟨(h j hj).1,(h j hj).2,by omega⟩
theorem zkq:zbz=some true:=zau ((zLh 60).call _ _ _ _ (by kernel_rfl))
theorem zzk (n:Node):(⟨⟨n.me.id,n.me.addr⟩,n.clock,n.joined,n.pred,n.list,n.fingers,n.store,n.pends,n.jobs,n.results,n.rid,n.jobID,n.nextBit⟩:Node)=n:=rfl
end Go.Ab.Tryz
namespace Go.Ab.Tryz
open Go Go.Ab Go.Proofs Go.Lib
open Pe (dist PeOk EnOk)
def addT (n:Node) (j:Job):Node × List Out × Int:=
 if (addN n j).2.2=0 then ((zli (addN n j).1 (addN n j).2.1).1,(zli (addN n j).1 (addN n j).2.1).2,0) else ((addN n j).1,[],(addN n j).2.2)
structure WOk (n:Node):Prop where
 sz:Sz n
 ok:NOk n
 fingers:n.fingers.length ≤ 900
 list:n.list.length ≤ 900
 jobs:JsOk n
theorem zwc {n:Node} {j:Job} (h:WOk n) (hj:JOk j):WOk (addN n j).1:=by
 refine ⟨zIJ h.sz j,?_,?_,?_,?_⟩ <;> unfold addN <;> split
 ·exact h.ok
 ·exact ⟨h.ok.me,h.ok.pred,h.ok.list,h.ok.fingers⟩
 ·exact h.fingers
 ·exact h.fingers
 ·exact h.list
 ·exact h.list
 ·exact h.jobs
 ·intro x hx
  rcases List.mem_append.1 hx with hx | hx
  ·exact h.jobs x hx
  ·rw [List.mem_singleton.1 hx];exact ⟨hj.target,hj.at_,hj.key⟩
theorem zln {n:Node} {j:Job} (h:WOk n) (hj:JOk j):zhP n j=some (addT n j):=zDM (by
 have w:=zwc h hj
 rw [zqY,zAy h.sz,Option.bind_some]
 unfold addT
 obtain ⟨⟨a,b,c⟩,hq⟩:∃ z,addN n j=z:=⟨_,rfl⟩
 rw [hq] at w ⊢
 dsimp only at w ⊢
 rw [zap,zaf]
 by_cases c0:c=0
 ·rw [if_pos c0,if_pos c0,zAb w.sz w.ok w.fingers w.jobs];rfl
 ·rw [if_neg c0,if_neg c0])
theorem zqL {n:Node} {j:Job} (h:WOk n) (hj:JOk j):zmu n j=some (addT n j):=zFr (by
 have w:=zwc h hj
 have e:(addN n j).2.2 ≠ 0 → (addN n j).1=n:=fun hh=>by
  unfold addN at hh ⊢
  split
  ·rfl
  ·rename_i hc
   rw [if_neg hc] at hh;exact absurd rfl hh
 rw [zsG,zDp h.sz,Option.bind_some]
 unfold addT
 obtain ⟨⟨a,b,c⟩,hq⟩:∃ z,addN n j=z:=⟨_,rfl⟩
 rw [hq] at w e ⊢
 dsimp only at w e ⊢
 rw [zap,zaf]
 by_cases c0:c=0
 ·rw [if_pos c0,if_pos c0,zAX w.sz w.ok w.fingers w.jobs];rfl
 ·rw [if_neg c0,if_neg c0,e c0])
theorem zrH {n:Node} {j:Job} (h:WOk n) (hj:JOk j):Good ((addT n j).1,(addT n j).2.1):=by
 have w:=zwc h hj
 unfold addT
 split
 ·exact zDG w.sz w.fingers
 ·exact Good.nil w.sz
def begJ (kind:Int) (key val:ByteArray):Job:=⟨0,kind,0,key,if kind=3 then ⟨#[]⟩ else val,zjF key,⟨0,0⟩,⟨0,0⟩,false,0,0,0⟩
def zcG (n:Node) (kind:Int) (key val:ByteArray):Node × List Out × Int:=
 if kind ≠ 2 ∧ kind ≠ 3 then (n,[],1) else
 if zcn key=false then (n,[],7) else
 if kind=2 ∧ 512 < val.size then (n,[],5) else
 if n.joined=false then (n,[],17) else addT n (begJ kind key val)
theorem ztC {kind:Int} {key val:ByteArray} (hk:key.size < 1000000):JOk (begJ kind key val):=⟨zCP key,⟨by show (0:Int) ≤ 0;omega,by show (0:Int) < _;omega⟩,hk⟩
theorem zbU {n:Node} {b:Bool} (h:n.joined=b):(⟨n.me,n.clock,b,n.pred,n.list,n.fingers,n.store,n.pends,n.jobs,n.results,n.rid,n.jobID,n.nextBit⟩:Node)=n:=by subst h;rfl
theorem zF3 {n:Node} {kind e:Int} {key val:ByteArray} (h:WOk n) (hk:key.size < 1000000):∃ z,zec kind key val e n=some z ∧
  (match z with | .inl (a,b,_,d)=>(d,a,b) | .inr (a,_,d,_)=>(d,[],a))=(if e=0 then addT n (begJ kind key val) else (n,[],e)):=by
 by_cases c:e=0
 ·rw [if_pos c]
  by_cases c3:kind=3
  ·refine ⟨.inl ((addT n (begJ kind key val)).2.1,(addT n (begJ kind key val)).2.2,n,(addT n (begJ kind key val)).1),zkb ?_,rfl⟩
   rw [zeE,zap,zaf,if_pos c,zap,zaf,if_pos c3,zq9 (by omega),Option.bind_some]
   have e1:(⟨0,kind,0,key,⟨#[]⟩,zjF key,⟨0,0⟩,⟨0,0⟩,false,0,0,0⟩:Job)=begJ kind key val:=by unfold begJ;rw [if_pos c3]
   rw [e1,zln h (ztC hk),Option.bind_some]
  ·refine ⟨.inl ((addT n (begJ kind key val)).2.1,(addT n (begJ kind key val)).2.2,n,(addT n (begJ kind key val)).1),zkb ?_,rfl⟩
   rw [zeE,zap,zaf,if_pos c,zap,zaf,if_neg c3,zq9 (by omega),Option.bind_some]
   have e1:(⟨0,kind,0,key,val,zjF key,⟨0,0⟩,⟨0,0⟩,false,0,0,0⟩:Job)=begJ kind key val:=by unfold begJ;rw [if_neg c3]
   rw [e1,zln h (ztC hk),Option.bind_some]
 ·rw [if_neg c]
  exact ⟨_,zkb (by rw [zeE,zap,zaf,if_neg c,zbK h.sz,Option.bind_some]),rfl⟩
def errB (n:Node) (kind:Int) (key val:ByteArray) (t:Bool):Int:=if t=true then 1 else if zcn key=false then 7 else if kind=2 ∧ 512 < val.size then 5 else if n.joined=false then 17 else 0
theorem zF2 {n:Node} {kind:Int} {key val:ByteArray} {t:Bool} (hk:key.size < 1000000):zeb n kind key val t=some (errB n kind key val t,n):=zv5 (by
 unfold errB
 rw [zj9,zvI hk,Option.bind_some,zbc,zap,zaf,zaA,zaf]
 cases t with
 | true=>rfl
 | false=>
  rw [cond_false,if_neg (show ¬ (false=true) by simp)]
  cases zcn key with
  | false=>rfl
  | true=>
   rw [cond_true,if_neg (show ¬ (true=false) by simp)]
   have fin:(bif n.joined then some ((0:Int),(⟨n.me,n.clock,true,n.pred,n.list,n.fingers,n.store,n.pends,n.jobs,n.results,n.rid,n.jobID,n.nextBit⟩:Node)) else some (17,(⟨n.me,n.clock,false,n.pred,n.list,n.fingers,n.store,n.pends,n.jobs,n.results,n.rid,n.jobID,n.nextBit⟩:Node)))=some (if n.joined=false then 17 else 0,n):=by
    cases hj:n.joined with
    | true=>rw [cond_true,zbU hj];rfl
    | false=>rw [cond_false,zbU hj];rfl
   by_cases c2:kind=2
   ·rw [if_pos c2]
    by_cases c5:512 < val.size
    ·rw [if_pos (by omega),if_pos ⟨c2,c5⟩]
    ·rw [if_neg (by omega),if_neg (fun hh=>c5 hh.2)];exact fin
   ·rw [if_neg c2,if_neg (fun hh=>c2 hh.1)];exact fin)
theorem zi3 {n:Node} {kind:Int} {key val:ByteArray} (h:WOk n) (hk:key.size < 1000000):zij n kind key val=some (zcG n kind key val):=zz9 (by
  have key1:∀ t:Bool,(t=true ↔ kind ≠ 2 ∧ kind ≠ 3) → ((zeb n kind key val t).bind fun x=>match x with | (e_,b0)=>(zec kind key val e_ b0).bind fun r=>match r with
      | .inl (t9,t10,b01,b1)=>some (b1,t9,t10)
      | .inr (t10,b01,b1,r3,r4,r5,r6,r7,r8,r9)=>some (b1,[],t10))=some (zcG n kind key val):=fun t ht=>by
    obtain ⟨z,hz,hz2⟩:=zF3 (n:=n) (kind:=kind) (e:=errB n kind key val t) (val:=val) h hk
    rw [zF2 hk,Option.bind_some]
    dsimp only
    rw [hz,Option.bind_some]
    have e:(if errB n kind key val t=0 then addT n (begJ kind key val) else (n,[],errB n kind key val t))=zcG n kind key val:=by
      unfold errB zcG
      by_cases c1:kind ≠ 2 ∧ kind ≠ 3
      · rw [if_pos c1,if_pos (ht.2 c1)];rfl
      rw [if_neg c1,if_neg (fun hh=>c1 (ht.1 hh))]
      by_cases c2:zcn key=false
      · rw [if_pos c2,if_pos c2];rfl
      rw [if_neg c2,if_neg c2]
      by_cases c3:kind=2 ∧ 512 < val.size
      · rw [if_pos c3,if_pos c3];rfl
      rw [if_neg c3,if_neg c3]
      by_cases c4:n.joined=false
      · rw [if_pos c4,if_pos c4];rfl
      · rw [if_neg c4,if_neg c4];rfl
    rw [← e,← hz2]
    rcases z with ⟨a,b,c,d⟩ | ⟨a,b,c,d1,d2,d3,d4,d5,d6,d7⟩ <;> rfl
  rw [zng,zap,zaf]
  by_cases c2:kind=2
  · rw [if_pos c2];exact key1 false (by simp [c2])
  · rw [if_neg c2]
    first
      | (rw [zap,zaf]
         by_cases c3:kind=3
         · rw [if_pos c3];exact key1 false (by simp [c3])
         · rw [if_neg c3];exact key1 true (by simp [c2,c3]))
      | exact key1 _ (by simp [zap,c2]))
theorem zzH {n:Node} {kind:Int} {key val:ByteArray} (h:WOk n) (hk:key.size < 1000000):zsC n kind key val=some (zcG n kind key val):=zAV (by
 have s0:∀ v:ByteArray,kind=2 ∨ kind=3 → v=(if kind=3 then ⟨#[]⟩ else val) → zcn key=true → ∃ z,zjW n kind key v=some z ∧ (match z with | .inl (a,_,d)=>(d,[],a) | .inr (a,b,d)=>(d,a,b))=zcG n kind key val:=fun v hk2 hv hkey=>by
  unfold zcG
  rw [if_neg (fun hh:kind ≠ 2 ∧ kind ≠ 3=>by rcases hk2 with c | c;exact hh.1 c;exact hh.2 c),if_neg (by rw [hkey];simp)]
  have e5:(kind=2 ∧ 512 < val.size) ↔ (512:Int) < (v.size:Int):=by
   subst hv
   by_cases c3:kind=3
   ·rw [if_pos c3]
    constructor
    ·intro hh;omega
    ·intro hh;exact absurd hh (by show ¬ (512:Int) < ((0:Nat):Int);omega)
   ·rw [if_neg c3]
    constructor
    ·intro hh;omega
    ·intro hh;exact ⟨by omega,by omega⟩
  by_cases c5:kind=2 ∧ 512 < val.size
  ·rw [if_pos c5]
   exact ⟨_,zkN (by rw [zfr,zbc,zaA,zaf,if_pos (e5.1 c5)]),rfl⟩
  rw [if_neg c5]
  cases hj:n.joined with
  | false=>
   rw [if_pos rfl]
   exact ⟨_,zkN (by rw [zfr,zbc,zaA,zaf,if_neg (fun hh=>c5 (e5.2 hh)),hj,cond_false,zbU hj]),rfl⟩
  | true=>
   rw [if_neg (by simp)]
   refine ⟨.inr ((addT n (begJ kind key val)).2.1,(addT n (begJ kind key val)).2.2,(addT n (begJ kind key val)).1),zkN ?_,rfl⟩
   rw [zfr,zbc,zaA,zaf,if_neg (fun hh=>c5 (e5.2 hh)),hj,cond_true,zbU hj,zzA (by omega),Option.bind_some]
   have e1:(⟨0,kind,0,key,v,zjF key,⟨0,0⟩,⟨0,0⟩,false,0,0,0⟩:Job)=begJ kind key val:=by unfold begJ;rw [hv]
   rw [e1,zqL h (ztC hk),Option.bind_some]
 have s1:kind=2 ∨ kind=3 → ((zft n kind key val).bind fun r=>match r with | .inl (t10,b0,b1)=>some (b1,[],t10) | .inr (t9,t10,b1)=>some (b1,t9,t10))=some (zcG n kind key val):=fun hk2=>by
  cases hkey:zcn key with
  | false=>
   have e:zft n kind key val=some (.inl (7,n,n)):=zpt (by rw [zia,zml hk,Option.bind_some,hkey];rfl)
   rw [e]
   unfold zcG
   rw [if_neg (fun hh:kind ≠ 2 ∧ kind ≠ 3=>by rcases hk2 with c | c;exact hh.1 c;exact hh.2 c),if_pos hkey];rfl
  | true=>
   obtain ⟨z,hz,hz2⟩:=s0 (if kind=3 then ⟨#[]⟩ else val) hk2 rfl hkey
   have e:zft n kind key val=some z:=zpt (by
    rw [zia,zml hk,Option.bind_some,hkey,cond_true,zap,zaf]
    by_cases c3:kind=3
    ·rw [if_pos c3] at hz ⊢;exact hz
    ·rw [if_neg c3] at hz ⊢;exact hz)
   rw [e,Option.bind_some,← hz2]
   rcases z with ⟨a,b,c⟩ | ⟨a,b,c⟩ <;> rfl
 rw [zoG,zap,zaf,zap,zaf]
 by_cases c2:kind=2
 ·rw [if_pos c2];exact s1 (.inl c2)
 by_cases c3:kind=3
 ·rw [if_neg c2,if_pos c3];exact s1 (.inr c3)
 ·rw [if_neg c2,if_neg c3]
  unfold zcG
  rw [if_pos ⟨c2,c3⟩])
theorem zCw {n:Node} {kind:Int} {key val:ByteArray} (h:WOk n) (hk:key.size < 1000000):Good ((zcG n kind key val).1,(zcG n kind key val).2.1):=by
 unfold zcG
 split
 ·exact Good.nil h.sz
 split
 ·exact Good.nil h.sz
 split
 ·exact Good.nil h.sz
 split
 ·exact Good.nil h.sz
 ·exact zrH h (ztC hk)
def znI (n:Node) (via:Peer):Job:=⟨0,1,0,⟨#[]⟩,⟨#[]⟩,n.me.id,via,⟨0,0⟩,false,0,0,0⟩
theorem zut {n:Node} {via:Peer} (h:WOk n):JOk (znI n via):=⟨h.ok.me,⟨by show (0:Int) ≤ 0;omega,by show (0:Int) < _;omega⟩,by show (0:Nat) < _;omega⟩
def znJ (n:Node) (via:Peer):Node × List Out × Int:=
 if n.joined=true then (n,[],14) else if via.addr=n.me.addr then (n,[],1) else if (n.jobs.any fun j=>decide (j.kind=1))=true then (n,[],17) else addT n (znI n via)
theorem zJd {n:Node} {via:Peer} {e:Int} (h:WOk n):∃ z,zdU via e n=some z ∧
  (match z with | .inl (a,b,_,d)=>(d,a,b) | .inr (a,_,d,_)=>(d,[],a))=(if e=0 then addT n (znI n via) else (n,[],e)):=by
 by_cases c:e=0
 ·rw [if_pos c]
  refine ⟨.inl ((addT n (znI n via)).2.1,(addT n (znI n via)).2.2,n,(addT n (znI n via)).1),zpC ?_,rfl⟩
  rw [zik,zap,zaf,if_pos c]
  show (zhP n (znI n via)).bind _=_
  rw [zln h (zut h),Option.bind_some]
 ·rw [if_neg c]
  exact ⟨_,zpC (by rw [zik,zap,zaf,if_neg c,zbK h.sz,Option.bind_some]),rfl⟩
theorem zAa {n:Node} {via:Peer} (h:WOk n):zs4 n via=some (znJ n via):=zBg (by
 have fin:∀ e:Int,((zdU via e n).bind fun r=>match r with
   | .inl (t5,t6,b0,b2)=>some (b2,t5,t6)
   | .inr (t6,b0,b2,r4,r5,r6,r7,r8,r9,r10)=>some (b2,[],t6))=some (if e=0 then addT n (znI n via) else (n,[],e)):=fun e=>by
  obtain ⟨z,hz,hz2⟩:=zJd (n:=n) (via:=via) (e:=e) h
  rw [hz,Option.bind_some,← hz2]
  rcases z with ⟨a,b,c,d⟩ | ⟨a,b,c,d1,d2,d3,d4,d5,d6,d7⟩ <;> rfl
 rw [zoR,zr5 (by have:=h.sz.jobs;omega),Option.bind_some]
 unfold znJ
 cases hj:n.joined with
 | true=>rw [cond_true,zbU hj];exact (fin 14).trans rfl
 | false=>
  rw [cond_false,zbU hj,if_neg (show ¬ (false=true) by simp),zap,zaf]
  by_cases c:via.addr=n.me.addr
  ·rw [if_pos c,if_pos c];exact (fin 1).trans rfl
  ·rw [if_neg c,if_neg c]
   cases n.jobs.any fun j=>decide (j.kind=1) with
   | true=>exact (fin 17).trans rfl
   | false=>exact (fin 0).trans rfl)
theorem zAW {n:Node} {via:Peer} (h:WOk n):zuE n via=some (znJ n via):=zDw (by
 rw [zqJ,zoB (by have:=h.sz.jobs;omega),Option.bind_some]
 unfold znJ
 cases hj:n.joined with
 | true=>rw [cond_true,zbU hj];rfl
 | false=>
  rw [cond_false,zbU hj,if_neg (show ¬ (false=true) by simp),zap,zaf]
  by_cases c:via.addr=n.me.addr
  ·rw [if_pos c,if_pos c]
  ·rw [if_neg c,if_neg c]
   cases n.jobs.any fun j=>decide (j.kind=1) with
   | true=>rfl
   | false=>exact zqL h (zut h))
theorem zCT {n:Node} {via:Peer} (h:WOk n):Good ((znJ n via).1,(znJ n via).2.1):=by
 unfold znJ
 split
 ·exact Good.nil h.sz
 split
 ·exact Good.nil h.sz
 split
 ·exact Good.nil h.sz
 ·exact zrH h (zut h)
def zm9 (id bit:Int):Int:=(id + 2 ^ bit.toNat) % 18446744073709551616
theorem zDJ (id bit:Int):0 ≤ zm9 id bit ∧ zm9 id bit < 18446744073709551616:=⟨Int.emod_nonneg _ (by omega),Int.emod_lt_of_pos _ (by omega)⟩
theorem zuv {k:Nat} (h:k ≤ 63):(2:Int) ^ k ≤ 9223372036854775808 ∧ 1 ≤ (2:Int) ^ k:=by
 have h1:(2:Nat) ^ k ≤ 2 ^ 63:=Nat.pow_le_pow_right (by omega) h
 have h2:1 ≤ (2:Nat) ^ k:=Nat.one_le_two_pow
 have e:((2 ^ k:Nat):Int)=(2:Int) ^ k:=by simp
 have e2:(2:Nat) ^ 63=9223372036854775808:=by decide
 rw [e2] at h1
 omega
theorem zx4 {id bit:Int} (h0:0 ≤ bit) (h1:bit ≤ 63):zqP id bit=some (zm9 id bit):=zzN (by
 rw [zm4,zaA,zaf,if_neg (by omega),zbv,zaf,if_neg (by omega)]
 show some (IntKind.u64.wrap (id + IntKind.u64.wrap (1 * 2 ^ (min bit.toNat IntKind.u64.bits))))=_
 rw [zfY,zfY,show min bit.toNat IntKind.u64.bits=bit.toNat from Nat.min_eq_left (by show bit.toNat ≤ 64;omega),Int.one_mul]
 unfold zm9
 congr 1
 omega)
theorem zDK {id bit:Int} (h1:bit ≤ 63):∀ (d k:Nat),(k:Int) + d=bit → zjL id bit (2 ^ k) (k:Int)=some (2 ^ bit.toNat):=by
 intro d
 induction d with
 | zero=>
  intro k hk
  refine zpn ?_
  rw [zh3,zaA,zaf,if_neg (by omega),show bit.toNat=k by omega]
 | succ d ih=>
  intro k hk
  refine zpn ?_
  obtain ⟨p1,p2⟩:=zuv (k:=k) (by omega)
  obtain ⟨p3,p4⟩:=zuv (k:=k + 1) (by omega)
  have e:(2:Int) ^ (k + 1)=2 ^ k + 2 ^ k:=by rw [Int.pow_succ];omega
  have e1:Ops.std.iadd .u64 (2 ^ k) (2 ^ k)=2 ^ (k + 1):=by
   show IntKind.u64.wrap _=_
   rw [zfY,e];omega
  rw [zh3,zaA,zaf,if_pos (by omega),e1,zh0 (by omega)]
  exact ih (k + 1) (by omega)
theorem zzy {id bit:Int} (hid:0 ≤ id ∧ id < 18446744073709551616) (h0:0 ≤ bit) (h1:bit ≤ 63):zsj id bit=some (zm9 id bit):=zAG (by
 rw [zom,zaA,zaf,if_neg (by omega),zaA,zaf,if_neg (by omega)]
 refine zwE ?_
 have hl:=zDK (id:=id) h1 bit.toNat 0 (by omega)
 obtain ⟨p1,p2⟩:=zuv (k:=bit.toNat) (by omega)
 rw [zkC,show (1:Int)=2 ^ 0 from rfl,show (0:Int)=((0:Nat):Int) from rfl,hl,Option.bind_some,zp2,zp2,zp2,zaA,zaf]
 show (if (18446744073709551615 - id) % 18446744073709551616 < 2 ^ bit.toNat then some (((2 ^ bit.toNat - (18446744073709551615 - id) % 18446744073709551616) % 18446744073709551616 - 2 ^ 0) % 18446744073709551616) else some (IntKind.u64.wrap (id + 2 ^ bit.toNat)))=_
 rw [zfY]
 unfold zm9
 generalize (2:Int) ^ bit.toNat=x at *
 rw [show (2:Int) ^ 0=1 from rfl]
 by_cases c:(18446744073709551615 - id) % 18446744073709551616 < x
 ·rw [if_pos c];congr 1;omega
 ·rw [if_neg c])
def fixJ (n:Node) (bit:Int):Job:=⟨0,4,bit,⟨#[]⟩,⟨#[]⟩,zm9 n.me.id bit,⟨0,0⟩,⟨0,0⟩,false,0,0,0⟩
theorem zwq (n:Node) (bit:Int):JOk (fixJ n bit):=⟨zDJ _ _,⟨by show (0:Int) ≤ 0;omega,by show (0:Int) < _;omega⟩,by show (0:Nat) < _;omega⟩
def fixT (n:Node) (bit:Int):Node × List Out × Int:=
 if bit < 0 ∨ 63 < bit then (n,[],1) else if n.joined=false then (n,[],14) else if (n.jobs.any fun j=>decide (j.kind=4))=true then (n,[],17) else addT n (fixJ n bit)
theorem zBf {n:Node} {bit:Int} (h:WOk n):zuS n bit=some (fixT n bit):=zDL (by
 have s0:∀ t:Bool,zlm n bit t=some (if t=true then 1 else if n.joined=false then 14 else if (n.jobs.any fun j=>decide (j.kind=4))=true then 17 else 0,n):=fun t=>zyc (by
  rw [zl2,zr5 (by have:=h.sz.jobs;omega),Option.bind_some]
  cases t with
  | true=>rfl
  | false=>
   cases hj:n.joined with
   | false=>rw [cond_false,cond_false,zbU hj];rfl
   | true=>rw [cond_false,cond_true,zbU hj];cases n.jobs.any fun j=>decide (j.kind=4) <;> rfl)
 have fin:∀ e:Int,(e=0 → 0 ≤ bit ∧ bit ≤ 63) → ((zgP bit e n).bind fun r=>match r with
   | .inl (t5,t6,b01,b1)=>some (b1,t5,t6)
   | .inr (t6,b01,b1,r3,r4,r5,r6,r7,r8,r9)=>some (b1,[],t6))=some (if e=0 then addT n (fixJ n bit) else (n,[],e)):=fun e he=>by
  by_cases c:e=0
  ·obtain ⟨b0,b1⟩:=he c
   have e1:zgP bit e n=some (.inl ((addT n (fixJ n bit)).2.1,(addT n (fixJ n bit)).2.2,n,(addT n (fixJ n bit)).1)):=zry (by
    rw [zi4,zap,zaf,if_pos c,zx4 b0 b1,Option.bind_some]
    show (zhP n (fixJ n bit)).bind _=_
    rw [zln h (zwq n bit),Option.bind_some])
   rw [e1,Option.bind_some,if_pos c]
  ·have e1:∃ z,zgP bit e n=some (.inr (e,n,n,z)):=⟨_,zry (by rw [zi4,zap,zaf,if_neg c,zbK h.sz,Option.bind_some])⟩
   obtain ⟨⟨z1,z2,z3,z4,z5,z6,z7⟩,hz⟩:=e1
   rw [hz,Option.bind_some,if_neg c]
 rw [zqX,s0,s0,Option.bind_some,Option.bind_some,zaA,zaf]
 unfold fixT
 by_cases c0:bit < 0
 ·rw [if_pos c0,if_pos (Or.inl c0:bit < 0 ∨ 63 < bit)]
  exact (fin 1 (by omega)).trans rfl
 rw [if_neg c0]
 by_cases c63:63 < bit
 ·rw [show Ops.std.ilt 63 bit=true from decide_eq_true c63,if_pos (Or.inr c63:bit < 0 ∨ 63 < bit)]
  exact (fin 1 (by omega)).trans rfl
 rw [show Ops.std.ilt 63 bit=false from decide_eq_false c63,if_neg (show ¬ (bit < 0 ∨ 63 < bit) by omega)]
 cases n.joined with
 | false=>exact (fin 14 (by omega)).trans rfl
 | true=>
  cases n.jobs.any fun j=>decide (j.kind=4) with
  | true=>exact (fin 17 (by omega)).trans rfl
  | false=>exact (fin 0 (fun _=>⟨by omega,by omega⟩)).trans rfl)
theorem zDv {n:Node} {bit:Int} (h:WOk n):zwQ n bit=some (fixT n bit):=zFp (by
 rw [zsD,zaA,zaf,zaA,zaf]
 unfold fixT
 by_cases c0:bit < 0
 ·rw [if_pos c0,if_pos (.inl c0)]
 by_cases c63:63 < bit
 ·rw [if_neg c0,if_pos c63,if_pos (.inr c63)]
 rw [if_neg c0,if_neg c63,if_neg (by omega)]
 have s0:∃ z,zqI n bit=some z ∧ (match z with | .inl (a,_,d)=>(d,[],a) | .inr (a,b,d)=>(d,a,b))=(if n.joined=false then (n,[],14) else if (n.jobs.any fun j=>decide (j.kind=4))=true then (n,[],17) else addT n (fixJ n bit)):=by
  cases hj:n.joined with
  | false=>exact ⟨_,zm2 (by rw [zhB,hj,cond_false,zbU hj]),rfl⟩
  | true=>
   rw [if_neg (by simp)]
   cases hb:n.jobs.any fun j=>decide (j.kind=4) with
   | true=>exact ⟨_,zm2 (by rw [zhB,hj,cond_true,zbU hj,zoB (by have:=h.sz.jobs;omega),Option.bind_some,hb,cond_true]),rfl⟩
   | false=>
    refine ⟨.inr ((addT n (fixJ n bit)).2.1,(addT n (fixJ n bit)).2.2,(addT n (fixJ n bit)).1),zm2 ?_,rfl⟩
    rw [zhB,hj,cond_true,zbU hj,zoB (by have:=h.sz.jobs;omega),Option.bind_some,hb,cond_false,zzy h.ok.me (by omega) (by omega),Option.bind_some]
    show (zmu n (fixJ n bit)).bind _=_
    rw [zqL h (zwq n bit),Option.bind_some]
 obtain ⟨z,hz,hz2⟩:=s0
 rw [hz,Option.bind_some,← hz2]
 rcases z with ⟨a,b,c⟩ | ⟨a,b,c⟩ <;> rfl)
theorem zER {n:Node} {bit:Int} (h:WOk n):Good ((fixT n bit).1,(fixT n bit).2.1):=by
 unfold fixT
 split
 ·exact Good.nil h.sz
 split
 ·exact Good.nil h.sz
 split
 ·exact Good.nil h.sz
 ·exact zrH h (zwq n bit)
theorem wok {n:Node} (ok:NOk n) (hr:JRng n) (sm:Sm n) (hjb:n.jobs.any bigJ=false):WOk n:=⟨sm.sz,ok,by have:=sm.fingers;omega,by have:=sm.list;omega,jsOk hr hjb⟩
theorem law_Begins {n:Node} {kind bit:Int} {key val:ByteArray} {via:Peer} (ok:NOk n) (hr:JRng n):zpB n kind key val via bit=some true:=zuR (by
 obtain ⟨b,hb,hs⟩:=zqc n
 rw [zjg,hb,Option.bind_some,zkq,zbc,zbc,zaA,zaA,zaf,zaf]
 cases hbb:b with
 | true=>rfl
 | false=>
  rw [cond_false]
  by_cases c1:(300:Int) < (key.size:Int)
  ·rw [if_pos c1]
  rw [if_neg c1]
  by_cases c2:(700:Int) < (val.size:Int)
  ·rw [if_pos c2]
  rw [if_neg c2]
  obtain ⟨sm,hjb⟩:=hs hbb
  have w:=wok ok hr sm hjb
  have hk:key.size < 1000000:=by omega
  have g1:=zCw (kind:=kind) (val:=val) w hk
  have g2:=zCT (via:=via) w
  have g3:=zER (bit:=bit) w
  have p1:=zi3 (kind:=kind) (val:=val) w hk
  have q1:=zzH (kind:=kind) (val:=val) w hk
  have p2:=zAa (via:=via) w
  have q2:=zAW (via:=via) w
  have p3:=zBf (bit:=bit) w
  have q3:=zDv (bit:=bit) w
  obtain ⟨⟨a1,o1,e1⟩,h1⟩:∃ z,zcG n kind key val=z:=⟨_,rfl⟩
  obtain ⟨⟨a2,o2,e2⟩,h2⟩:∃ z,znJ n via=z:=⟨_,rfl⟩
  obtain ⟨⟨a3,o3,e3⟩,h3⟩:∃ z,fixT n bit=z:=⟨_,rfl⟩
  rw [h1] at g1 p1 q1;rw [h2] at g2 p2 q2;rw [h3] at g3 p3 q3
  obtain ⟨s1,t1⟩:=g1.same
  obtain ⟨s2,t2⟩:=g2.same
  obtain ⟨s3,t3⟩:=g3.same
  dsimp only at s1 t1 s2 t2 s3 t3
  have self:∀ x:Int,Ops.std.ieq x x=true:=fun x=>decide_eq_true rfl
  obtain ⟨z,hz⟩:∃ z,zbD n via o3 e3 o3 e3 true n.pred n.list n.fingers n.store n.pends n.jobs n.results n.me.id n.me.addr n.clock n.joined n.rid n.jobID n.nextBit a1 a1 a2 a2 a3 a3=some (true,n.pred,n.list,n.fingers,n.store,n.pends,n.jobs,n.results,z):=⟨_,zrB (by
   rw [zgU,cond_true,s3,Option.bind_some,cond_true,t3,Option.bind_some,cond_true,self,cond_true,zzk,zrl w.sz,Option.bind_some,cond_true,zkq,Option.bind_some])⟩
  obtain ⟨z1,hz1⟩:∃ z,zip n kind key val via bit=some (true,z):=⟨_,zrC (by
   rw [zgW,zbK w.sz,Option.bind_some]
   dsimp only
   rw [zzk,p1,Option.bind_some,q1,Option.bind_some,p2,Option.bind_some,q2,Option.bind_some,p3,Option.bind_some,q3,Option.bind_some]
   dsimp only
   rw [s1,Option.bind_some,cond_true,t1,Option.bind_some,cond_true,self,cond_true,s2,Option.bind_some,cond_true,t2,Option.bind_some,cond_true,self,hz,Option.bind_some])⟩
  rw [hz1];rfl)
end Go.Ab.Tryz
namespace Go.Ab.Tryz
open Go Go.Ab Go.Proofs Go.Lib
open Pe (dist PeOk EnOk)
theorem zt2 (s:ByteArray):zkI s=some (zcn s):=by
 by_cases h:s.size < 1000000
 ·exact zml h
 ·refine zxp ?_
  have e:zcn s=false:=by
   unfold zcn
   rw [decide_eq_false (show ¬ (0 < s.size ∧ s.size ≤ 96) by omega)];rfl
  rw [znN,zbc,zaA,zaf,if_pos (by omega),zaA,zaf,if_neg (by omega),e]
theorem zvB {s:ByteArray} (h:zcn s=true):s.size ≤ 96:=by
 unfold zcn at h
 rw [Bool.and_eq_true,Bool.and_eq_true] at h
 exact (of_decide_eq_true h.1.1).2
def zcI (l:List Result):List Result:=l.drop (l.length - 16)
theorem zw7 {n:Node} {key val:ByteArray} (hl:n.list=[]) (hj:n.jobs=[]) (hjo:n.joined=true) (hk:zcn key=true):
  zcG n 3 key val=(⟨n.me,n.clock,true,n.pred,[],n.fingers,n.store,n.pends,[],zcI (n.results ++ [⟨ziK n,3,key,(getP n.store key).1,(getP n.store key).2,0⟩]),n.rid,ziK n,n.nextBit⟩,[],0):=by
 obtain ⟨me,clock,joined,pred,list,fingers,store,pends,jobs,results,rid,jobID,nextBit⟩:=n
 dsimp only at hl hj hjo
 subst hl hj hjo
 simp [zcG,hk,addT,addN,zli,zeB,isJ,newJ,begJ,zgZ,zcq,Pe.firms,endN,endL,setN,setJ,znf,zeo,zbs,delJ,told,zbr,zcI]
theorem zDP {n:Node} {key val:ByteArray} {st:List Pair} (hl:n.list=[]) (hj:n.jobs=[]) (hjo:n.joined=true) (hk:zcn key=true) (hv:val.size ≤ 512) (hput:put n.store key val=(st,0)):
  zcG n 2 key val=(⟨n.me,n.clock,true,n.pred,[],n.fingers,st,n.pends,[],zcI (n.results ++ [⟨ziK n,2,key,val,true,0⟩]),n.rid,ziK n,n.nextBit⟩,[],0):=by
 obtain ⟨me,clock,joined,pred,list,fingers,store,pends,jobs,results,rid,jobID,nextBit⟩:=n
 dsimp only at hl hj hjo hput
 subst hl hj hjo
 have hv':¬ 512 < val.size:=by omega
 simp [zcG,hk,hv',addT,addN,zli,zeB,isJ,newJ,begJ,zgZ,zcq,Pe.firms,endN,endL,setN,setJ,znf,zeo,zbs,delJ,told,zbr,zcI,zco,hput,zcC,zcl]
theorem zJz {key val:ByteArray} (hk:zcn key=true) (hv:val.size ≤ 512):put [] key val=([⟨key,val⟩],0):=by
 unfold put
 rw [hk,cond_true,if_neg (by omega),if_neg (by unfold pl fstI fst;simp),if_neg (by simp)]
 rfl
theorem zCa {key val k:ByteArray}:getP [⟨key,val⟩] k=if k=key then (val,true) else (⟨#[]⟩,false):=by
 unfold getP
 by_cases h:k=key
 ·subst h
  rw [if_pos rfl,List.find?_cons,show isAt k (⟨k,val⟩:Pair)=true from zif.2 rfl]
 ·rw [if_neg h,List.find?_cons]
  have:isAt k (⟨key,val⟩:Pair)=false:=by
   cases hc:isAt k (⟨key,val⟩:Pair) with
   | false=>rfl
   | true=>exact absurd (zif.1 hc).symm h
  rw [this];rfl
theorem awok {n:Node} (ok:NOk n) (sm:Sm n) {b:Bool} {st:List Pair} {rs:List Result} {id:Int} (hs:st.length ≤ 200) (hr:rs.length ≤ 1000):WOk (⟨n.me,n.clock,b,n.pred,[],n.fingers,st,n.pends,[],rs,n.rid,id,n.nextBit⟩:Node):=by
 have h:=sm.sz
 exact ⟨⟨h.pred,Nat.zero_le _,h.fingers,hs,h.pends,Nat.zero_le _,hr⟩,⟨ok.me,ok.pred,(fun x hx=>by cases hx),ok.fingers⟩,by show n.fingers.length ≤ 900;have:=sm.fingers;omega,Nat.zero_le _,(fun j hj=>by cases hj)⟩
theorem law_Alone {n:Node} {key val other:ByteArray} (ok:NOk n):zrx n key val other=some true:=zv3 (by
 obtain ⟨b,hb,hs⟩:=zqc n
 rw [zj8,hb,Option.bind_some,zkq,zt2,Option.bind_some,zt2,Option.bind_some,zbc,zaA,zaf]
 cases hbb:b with
 | true=>rfl
 | false=>
  rw [cond_false]
  cases hk:zcn key with
  | false=>rfl
  | true=>
   rw [cond_true]
   cases hko:zcn other with
   | false=>rfl
   | true=>
    rw [cond_true]
    by_cases hv:(512:Int) < (val.size:Int)
    ·rw [if_pos hv]
    rw [if_neg hv]
    obtain ⟨sm,_⟩:=hs hbb
    have hks:=zvB hk
    have hos:=zvB hko
    have hv':val.size ≤ 512:=by omega
    refine zs1 ?_
    have p1:=zi3 (n:=⟨n.me,n.clock,true,n.pred,[],n.fingers,[],n.pends,[],[],n.rid,n.jobID,n.nextBit⟩) (kind:=2) (key:=key) (val:=val) (awok ok sm (Nat.zero_le _) (Nat.zero_le _)) (by omega)
    rw [zDP (st:=[⟨key,val⟩]) rfl rfl rfl hk hv' (zJz hk hv')] at p1
    dsimp only at p1
    obtain ⟨i1,hi1⟩:∃ z,ziK (⟨n.me,n.clock,true,n.pred,[],n.fingers,[],n.pends,[],[],n.rid,n.jobID,n.nextBit⟩:Node)=z:=⟨_,rfl⟩
    rw [hi1] at p1
    have p2:=zi3 (n:=⟨n.me,n.clock,true,n.pred,[],n.fingers,[⟨key,val⟩],n.pends,[],zcI ([] ++ [⟨i1,2,key,val,true,0⟩]),n.rid,i1,n.nextBit⟩) (kind:=3) (key:=key) (val:=⟨#[]⟩) (awok ok sm (by simp) (by simp [zcI])) (by omega)
    rw [zw7 rfl rfl rfl hk] at p2
    dsimp only at p2
    obtain ⟨i2,hi2⟩:∃ z,ziK (⟨n.me,n.clock,true,n.pred,[],n.fingers,[⟨key,val⟩],n.pends,[],zcI ([] ++ [⟨i1,2,key,val,true,0⟩]),n.rid,i1,n.nextBit⟩:Node)=z:=⟨_,rfl⟩
    rw [hi2,zCa,if_pos rfl] at p2
    dsimp only at p2
    have p3:=zi3 (n:=⟨n.me,n.clock,true,n.pred,[],n.fingers,[⟨key,val⟩],n.pends,[],zcI (zcI ([] ++ [⟨i1,2,key,val,true,0⟩]) ++ [⟨i2,3,key,val,true,0⟩]),n.rid,i2,n.nextBit⟩) (kind:=3) (key:=other) (val:=⟨#[]⟩) (awok ok sm (by simp) (by simp [zcI])) (by omega)
    rw [zw7 rfl rfl rfl hko] at p3
    dsimp only at p3
    obtain ⟨i3,hi3⟩:∃ z,ziK (⟨n.me,n.clock,true,n.pred,[],n.fingers,[⟨key,val⟩],n.pends,[],zcI (zcI ([] ++ [⟨i1,2,key,val,true,0⟩]) ++ [⟨i2,3,key,val,true,0⟩]),n.rid,i2,n.nextBit⟩:Node)=z:=⟨_,rfl⟩
    rw [hi3,zCa] at p3
    obtain ⟨g,hg⟩:∃ z:ByteArray × Bool,(if other=key then (val,true) else (⟨#[]⟩,false))=z:=⟨_,rfl⟩
    have hg2:g.2=Ops.std.seq other key:=by
     rw [← hg]
     by_cases hh:other=key
     ·rw [if_pos hh];exact (zif.2 hh).symm
     ·rw [if_neg hh]
      cases hc:Ops.std.seq other key with
      | false=>rfl
      | true=>exact absurd (zif.1 hc) hh
    rw [hg] at p3
    have er:zcI (zcI (zcI ([] ++ [⟨i1,2,key,val,true,0⟩]) ++ [⟨i2,3,key,val,true,0⟩]) ++ [⟨i3,3,other,g.1,g.2,0⟩])=[⟨i1,2,key,val,true,0⟩,⟨i2,3,key,val,true,0⟩,⟨i3,3,other,g.1,g.2,0⟩]:=rfl
    rw [er] at p3
    have self:∀ x:Int,Ops.std.ieq x x=true:=fun x=>decide_eq_true rfl
    have sself:Ops.std.seq val val=true:=zif.2 rfl
    have g0:∀ N1 N2:Node,∃ z,zjf n key val other N1 N2 (⟨n.me,n.clock,true,n.pred,[],n.fingers,[⟨key,val⟩],n.pends,[],[⟨i1,2,key,val,true,0⟩,⟨i2,3,key,val,true,0⟩,⟨i3,3,other,g.1,g.2,0⟩],n.rid,i3,n.nextBit⟩:Node)=some (true,z):=fun N1 N2=>⟨_,zs0 (by
     rw [zhN]
     dsimp only
     rw [show (0:Int)=((0:Nat):Int) from rfl,show (1:Int)=((1:Nat):Int) from rfl,show (2:Int)=((2:Nat):Int) from rfl,za9,za9,za9]
     simp only [List.getElem?_cons_zero,List.getElem?_cons_succ,Option.bind_some,self,cond_true,sself,hg2,zpK,zkq,Int.natCast_zero]
     rfl)⟩
    obtain ⟨z,hz⟩:=g0 (⟨n.me,n.clock,true,n.pred,[],n.fingers,[⟨key,val⟩],n.pends,[],zcI ([] ++ [⟨i1,2,key,val,true,0⟩]),n.rid,i1,n.nextBit⟩) (⟨n.me,n.clock,true,n.pred,[],n.fingers,[⟨key,val⟩],n.pends,[],zcI (zcI ([] ++ [⟨i1,2,key,val,true,0⟩]) ++ [⟨i2,3,key,val,true,0⟩]),n.rid,i2,n.nextBit⟩)
    rw [zhO,p1,Option.bind_some]
    dsimp only
    rw [p2,Option.bind_some]
    dsimp only
    rw [p3,Option.bind_some]
    dsimp only
    rw [hz]
    rfl)
end Go.Ab.Tryz
namespace Go.Ab.Tryz
open Go Go.Ab Go.Proofs Go.Lib
open Pe (dist PeOk EnOk)
structure Like6 (a n:Node):Prop where
 me:a.me=n.me
 pred:a.pred=n.pred
 list:a.list=n.list
 fingers:a.fingers=n.fingers
 jobs:a.jobs=n.jobs
 results:a.results=n.results
theorem Like6.trans {a b c:Node} (h:Like6 a b) (k:Like6 b c):Like6 a c:=⟨h.me.trans k.me,h.pred.trans k.pred,h.list.trans k.list,h.fingers.trans k.fingers,h.jobs.trans k.jobs,h.results.trans k.results⟩
theorem zu2 {n:Node} {to_:Peer} {m:Msg} {why job:Int}:Like6 (askN n to_ m why job).1 n:=by
 unfold askN
 split <;> exact ⟨rfl,rfl,rfl,rfl,rfl,rfl⟩
theorem ztX (to_:Peer) (fresh:Bool):∀ (cs:List (List Pair)) (n:Node),Like6 (zen to_ fresh cs n).1 n
 | [],n=>⟨rfl,rfl,rfl,rfl,rfl,rfl⟩
 | c :: cs,n=>(ztX to_ fresh cs (askN n to_ (zfW fresh c) 6 0).1).trans zu2
theorem zt0 (key val:ByteArray):∀ (ps:List Peer) (n:Node),Like6 (zcC key val ps n).1 n
 | [],n=>⟨rfl,rfl,rfl,rfl,rfl,rfl⟩
 | p :: ps,n=>(zt0 key val ps (hand n p [⟨key,val⟩] true).1).trans (ztX p true (cut8 [⟨key,val⟩]) n)
theorem zCU {n:Node} {key val:ByteArray}:Like6 (zco n key val).1 n:=by
 unfold zco
 split
 ·exact (zt0 key val ((Pe.firms n.list).take 2) (zcl n (put n.store key val).1)).trans ⟨rfl,rfl,rfl,rfl,rfl,rfl⟩
 ·exact ⟨rfl,rfl,rfl,rfl,rfl,rfl⟩
theorem Like6.nok {a n:Node} (h:Like6 a n) (ok:NOk n):NOk a:=⟨by rw [h.me];exact ok.me,by rw [h.pred];exact ok.pred,by rw [h.list];exact ok.list,by rw [h.fingers];exact ok.fingers⟩
theorem Like6.wok {a n:Node} (h:Like6 a n) (w:WOk n) (hs:Sz a):WOk a:=⟨hs,h.nok w.ok,by rw [h.fingers];exact w.fingers,by rw [h.list];exact w.list,by intro j hj;rw [h.jobs] at hj;exact w.jobs j hj⟩
theorem zI4 {n:Node} (ok:NOk n) (key most:Int):∀ p,p ∈ hops n.me n.list n.fingers key most → PeOk p:=fun p hp=>by
 unfold hops at hp
 have h1:=List.mem_of_mem_take hp
 unfold zme at h1
 rw [List.mem_mergeSort] at h1
 exact zwd ok p (zmI n.me key (allP n.list n.fingers) [] p h1)
theorem zJG {n:Node} (ok:NOk n) (key:Int):PeOk (zcq n key).1 ∧ ∀ p,p ∈ (zcq n key).2.1 → PeOk p:=by
 have z:PeOk ⟨0,0⟩:=⟨by show (0:Int) ≤ 0;omega,by show (0:Int) < _;omega⟩
 have none:∀ p:Peer,p ∈ ([]:List Peer) → PeOk p:=fun p hp=>by cases hp
 unfold zcq
 split
 ·exact ⟨ok.me,none⟩
 ·rename_i f r hf
  split
  ·exact ⟨ok.me,none⟩
  split
  ·exact ⟨zun ok.list f (by rw [hf];simp),none⟩
  split
  ·exact ⟨ok.me,none⟩
  unfold znK
  split
  ·exact ⟨ok.me,none⟩
  ·exact ⟨z,zI4 ok key 4⟩
theorem zEP {l:List Job} {j x:Job} (h:l.find? (isJ j.id)=some x):(setJ l j).find? (isJ j.id)=some j:=by
 induction l with
 | nil=>cases h
 | cons y r ih=>
  by_cases hy:y.id=j.id
  ·simp [setJ,hy,isJ]
  ·have:isJ j.id y=false:=decide_eq_false hy
   rw [List.find?_cons,this] at h
   rw [setJ,if_neg hy,List.find?_cons,this]
   exact ih h
theorem zGj {l:List Job} {j:Job}:delJ (setJ l j) j.id=delJ l j.id:=by
 induction l with
 | nil=>rfl
 | cons y r ih=>
  by_cases hy:y.id=j.id
  ·simp [setJ,delJ,hy]
  ·simp [setJ,delJ,hy,ih]
structure Run (n:Node) (id t:Int):Prop where
 wok:WOk n
 ex:∃ x,n.jobs.find? (isJ id)=some x ∧ (x.kind=2 ∨ x.kind=3) ∧ t ≤ x.tries
 uniq:(delJ n.jobs id).find? (isJ id)=none
 res:n.results=[]
structure Over (n:Node) (id:Int):Prop where
 wok:WOk n
 gone:n.jobs.find? (isJ id)=none
 res:∃ r:Result,n.results=[r] ∧ r.job=id
theorem zGi {l:List Job} {id:Int}:∀ x,x ∈ delJ l id → x ∈ l:=by
 induction l with
 | nil=>intro x hx;cases hx
 | cons y r ih=>
  intro x hx
  unfold delJ at hx
  split at hx
  ·exact List.mem_cons_of_mem _ hx
  ·rcases List.mem_cons.1 hx with hx | hx
   ·rw [hx];simp
   ·exact List.mem_cons_of_mem _ (ih x hx)
theorem zG8 {l:List Job} {j:Job}:∀ x,x ∈ setJ l j → x ∈ l ∨ x=j:=by
 induction l with
 | nil=>intro x hx;cases hx
 | cons y r ih=>
  intro x hx
  unfold setJ at hx
  split at hx
  ·rcases List.mem_cons.1 hx with hx | hx
   ·exact .inr hx
   ·exact .inl (List.mem_cons_of_mem _ hx)
  ·rcases List.mem_cons.1 hx with hx | hx
   ·exact .inl (by rw [hx];simp)
   ·rcases ih x hx with h | h
    ·exact .inl (List.mem_cons_of_mem _ h)
    ·exact .inr h
theorem Run.settle {n:Node} {id t:Int} (h:Run n id t) (has:Bool) (val:ByteArray) (e:Int):Over (zbs n id has val e) id:=by
 obtain ⟨x,hx,hk,_⟩:=h.ex
 have e1:zbs n id has val e=⟨n.me,n.clock,n.joined,n.pred,n.list,n.fingers,n.store,n.pends,delJ n.jobs id,told n.results x has val e,n.rid,n.jobID,n.nextBit⟩:=by unfold zbs;rw [hx]
 have hs:=zjB h.wok.sz id has val e
 have hid:x.id=id:=by
  have:=List.find?_some hx
  exact of_decide_eq_true this
 rw [e1] at hs ⊢
 refine ⟨⟨hs,⟨h.wok.ok.me,h.wok.ok.pred,h.wok.ok.list,h.wok.ok.fingers⟩,h.wok.fingers,h.wok.list,fun j hj=>h.wok.jobs j (zGi j hj)⟩,h.uniq,zbr x has val e,?_,hid⟩
 show told n.results x has val e=_
 unfold told
 rw [if_pos hk,h.res];rfl
theorem Run.set {n:Node} {id t:Int} (h:Run n id t) {j:Job} (hj:JOk j) (hid:j.id=id) (hk:j.kind=2 ∨ j.kind=3) {t':Int} (ht:t' ≤ j.tries):Run (setN n j) id t':=by
 obtain ⟨x,hx,_,_⟩:=h.ex
 subst hid
 refine ⟨⟨zdm h.wok.sz j,⟨h.wok.ok.me,h.wok.ok.pred,h.wok.ok.list,h.wok.ok.fingers⟩,h.wok.fingers,h.wok.list,fun y hy=>?_⟩,⟨j,zEP hx,hk,ht⟩,?_,h.res⟩
 ·rcases zG8 y hy with hh | hh
  ·exact h.wok.jobs y hh
  ·rw [hh];exact hj
 ·show (delJ (setJ n.jobs j) j.id).find? (isJ j.id)=none
  rw [zGj];exact h.uniq
theorem Run.like {a n:Node} {id t:Int} (h:Run n id t) (k:Like6 a n) (hs:Sz a):Run a id t:=⟨k.wok h.wok hs,by rw [k.jobs];exact h.ex,by rw [k.jobs];exact h.uniq,by rw [k.results];exact h.res⟩
theorem Run.endL {n:Node} {id t:Int} (h:Run n id t) {j:Job} (hid:j.id=id) (hk:j.kind=2 ∨ j.kind=3) (owner:Peer):Over (Go.Ab.Tryz.endL n j owner).1 id:=by
 subst hid
 unfold Go.Ab.Tryz.endL
 rcases hk with k2 | k3
 ·rw [if_neg (by omega),if_pos k2]
  split
  ·exact (h.like zCU (ztI h.wok.sz).1).settle _ _ _
  ·exact h.settle _ _ _
 ·rw [if_neg (by omega),if_neg (by omega),if_pos k3]
  exact h.settle _ _ _
theorem Run.seek {n:Node} {id t:Int} (h:Run n id t) {j:Job} (hj:JOk j) (hid:j.id=id) (hk:j.kind=2 ∨ j.kind=3) {t':Int} (ht:t' ≤ j.tries):Over (zgZ n j).1 id ∨ Run (zgZ n j).1 id t':=by
 unfold zgZ
 rw [if_neg (by omega)]
 obtain ⟨s1,s2⟩:=zJG h.wok.ok j.target
 have ask:∀ {m:Msg} {p:Peer} {q:Job} {why:Int},PeOk p → q.target=j.target → q.key=j.key → q.at_=p → q.id=id → q.kind=j.kind → q.tries=j.tries → Run (askN (setN n q) p m why j.id).1 id t':=fun {m p q why} hp h1 h2 h3 h4 h5 h6=>
  (h.set (j:=q) ⟨by rw [h1];exact hj.target,by rw [h3];exact hp,by rw [h2];exact hj.key⟩ h4 (by rw [h5];exact hk) (by rw [h6];exact ht)).like zu2 (zjp (zdm h.wok.sz q)).1
 split
 ·unfold endN
  split
  ·exact .inr (ask s1 rfl rfl rfl hid rfl rfl)
  ·exact .inl ((h.set (j:=zeo j 0) ⟨hj.target,hj.at_,hj.key⟩ hid hk ht).endL (j:=zeo j 0) hid hk _)
 ·split
  ·rename_i hnil _ hemp
   exfalso
   have hb:(zcq n j.target).2.2=false:=by cases hc:(zcq n j.target).2.2 with
    | true=>exact absurd hc hnil
    | false=>rfl
   obtain ⟨x,r,hx⟩:=zqV hb
   rw [hx] at hemp;cases hemp
  ·rename_i x r hx
   exact .inr (ask (s2 x (by rw [hx];simp)) rfl rfl rfl hid rfl rfl)
theorem Run.fail {n:Node} {id t:Int} (h:Run n id t) (h0:0 ≤ t) (why:Int):Over (zhZ n id why).1 id ∨ (t < 3 ∧ Run (zhZ n id why).1 id (t + 1)):=by
 obtain ⟨x,hx,hk,ht⟩:=h.ex
 have hid:x.id=id:=by
  have:=List.find?_some hx
  exact of_decide_eq_true this
 have hxo:=h.wok.jobs x (List.mem_of_find?_eq_some hx)
 have tk:zeB n id=some x:=by unfold zeB;rw [hx];dsimp only;rw [if_pos (by omega)]
 unfold zhZ
 rw [tk]
 dsimp only
 unfold znB
 rw [if_neg (by omega)]
 by_cases c3:3 ≤ x.tries
 ·rw [if_pos (.inr c3),hid]
  exact .inl (h.settle _ _ _)
 ·rw [if_neg (by omega),if_neg (by omega)]
  rcases h.seek (j:=jTry x (x.tries + 1)) (zwv hxo _) hid hk (t':=t + 1) (by show t + 1 ≤ x.tries + 1;omega) with r | r
  ·exact .inl r
  ·exact .inr ⟨by omega,r⟩
theorem Over.fail {n:Node} {id:Int} (h:Over n id) (why:Int):Over (zhZ n id why).1 id:=by
 have:zeB n id=none:=by unfold zeB;rw [h.gone]
 unfold zhZ
 rw [this];exact h
def Way (n:Node) (id t:Int):Prop:=Over n id ∨ Run n id t
theorem Way.fail {n:Node} {id t:Int} (h:Way n id t) (h0:0 ≤ t) (why:Int):Way (zhZ n id why).1 id (t + 1):=by
 rcases h with h | h
 ·exact .inl (h.fail why)
 ·exact (h.fail h0 why).imp_right (·.2)
theorem Way.wok {n:Node} {id t:Int} (h:Way n id t):WOk n:=by
 rcases h with h | h
 ·exact h.wok
 ·exact h.wok
theorem four {n:Node} {id:Int} (h:Run n id 0) (why:Int):∃ N,zdo id why 0 n=some N ∧ Over N id:=by
 have w0:Way n id 0:=.inr h
 have w1:=w0.fail (by omega) why
 have w2:=w1.fail (by omega) why
 have w3:=w2.fail (by omega) why
 have w4:Over (zhZ (zhZ (zhZ (zhZ n id why).1 id why).1 id why).1 id why).1 id:=by
  rcases w3 with r | r
  ·exact r.fail why
  ·rcases r.fail (by omega) why with r | r
   ·exact r
   ·exact absurd r.1 (by omega)
 have st:∀ {N:Node} {t:Int} (k:Nat),Way N id t → k < 4 → ∀ {z},zdo id why ((k + 1:Nat):Int) (zhZ N id why).1=some z → zdo id why (k:Int) N=some z:=fun {N t} k w hk {z} hz=>zl6 (by
  have ww:=w.wok
  rw [zeR,zaA,zaf,if_pos (by omega),zw3 ww.sz ww.ok ww.fingers ww.jobs,Option.bind_some,zh0 (by omega)]
  exact hz)
 refine ⟨_,st (k:=0) w0 (by omega) (st (k:=1) w1 (by omega) (st (k:=2) w2 (by omega) (st (k:=3) w3 (by omega) (zl6 (by rw [zeR,zaA,zaf,if_neg (by omega)]))))),w4⟩
def dup (id k:Int):Nat → List Job → Bool
 | _,[]=>false
 | i,x :: r=>(!decide ((i:Int)=k) && isJ id x) || dup id k (i + 1) r
theorem zyY {id k:Int}:∀ {l:List Job} {i:Nat},dup id k i l=false → ∀ (j:Nat) (y:Job),l[j]?=some y → ((i + j:Nat):Int) ≠ k → isJ id y=false
 | [],i,_,j,y,hy,_=>by simp at hy
 | x :: r,i,h,j,y,hy,hne=>by
  rw [dup,Bool.or_eq_false_iff] at h
  cases j with
  | zero=>
   obtain rfl:x=y:=by simpa using hy
   have:=h.1
   rw [Bool.and_eq_false_iff] at this
   rcases this with h1 | h1
   ·have:((i:Nat):Int)=k:=by simpa using h1
    exact absurd (by rw [Nat.add_zero];exact this) hne
   ·exact h1
  | succ j=>exact zyY h.2 j y (by simpa using hy) (by rw [show i + 1 + j=i + (j + 1) by omega];exact hne)
theorem zIY {n:Node} {id why k:Int} (hl:n.jobs.length ≤ 1000):zdn n id why k 0=some (if dup id k 0 n.jobs=true then .inl true else .inr ()):=by
 have:=zbb (σ:=Unit) eJob (l:=n.jobs) (by omega) (L:=fun i _=>zdn n id why k i) (res:=fun i _ rest=>if dup id k i rest=true then Sum.inl true else Sum.inr ()) (Inv:=fun _ _=>True)
  (fun _ _ h=>zl5 (by rw [zeQ,h];rfl))
  (fun i x rest s _ hi hx hd h1 h2 h3 ih=>zl5 (by
   rw [zeQ,h1,cond_true,zap,zaf,h3,ih () trivial,dup]
   by_cases c:(i:Int)=k
   ·rw [if_pos c,decide_eq_true c];rfl
   ·rw [if_neg c,h2,Option.bind_some,decide_eq_false c]
    show (bif isJ id x then _ else _)=_
    cases isJ id x with
    | true=>rw [cond_true,zkq];rfl
    | false=>rfl)) () trivial
 exact this
theorem zGu {l:List Job} {id:Int} (hl:l.length ≤ 9223372036854775807):zhz l id=some (zcB l id):=zvN (by
 have key:∀ d i:Nat,i + d=l.length → ziz l id (i:Int)=some (match fst (isJ id) (l.drop i) with | some m=>.inl ((i + m:Nat):Int) | none=>.inr ()):=by
  intro d
  induction d with
  | zero=>
   intro i hi
   refine zgw ?_
   rw [zdu,zgK,decide_eq_false (by omega),List.drop_eq_nil_of_le (by omega)];rfl
  | succ d ih=>
   intro i hi
   refine zgw ?_
   have hlt:i < l.length:=by omega
   have e1:Ops.std.iadd .i64 (i:Int) 1=((i + 1:Nat):Int):=by rw [zp0 (by omega) (by omega)];omega
   rw [zdu,zgK,decide_eq_true hlt,cond_true,za9,List.getElem?_eq_getElem hlt,Option.bind_some,List.drop_eq_getElem_cons hlt,fst,e1,ih (i + 1) (by omega)]
   show (bif isJ id l[i] then _ else _)=_
   cases isJ id l[i] with
   | true=>rfl
   | false=>
    rw [cond_false,cond_false]
    cases fst (isJ id) (l.drop (i + 1)) with
    | none=>rfl
    | some m=>simp only [Option.map_some];congr 3;omega
 have:=key l.length 0 (by omega)
 rw [zmn,show (0:Int)=((0:Nat):Int) from rfl,this,List.drop_zero]
 unfold zcB fstI
 cases fst (isJ id) l with
 | none=>rfl
 | some m=>simp)
theorem law_Ends {n:Node} {id why:Int} (ok:NOk n) (hr:JRng n) (hlen:n.jobs.length ≤ 9223372036854775807):zs2 n id why=some true:=zw2 (by
 have hfind:=zGu (id:=id) hlen
 obtain ⟨b,hb,hs⟩:=zqc n
 rw [zkW,hfind,Option.bind_some,hb,Option.bind_some,zkq,zaA,zaf]
 cases hbb:b with
 | true=>rfl
 | false=>
  rw [cond_false]
  obtain ⟨sm,hjb⟩:=hs hbb
  have w:=wok ok hr sm hjb
  rcases zeL n.jobs id with ⟨h1,h2,h3⟩ | ⟨k,x,h1,h2,h3,h4,h5,h6⟩
  ·rw [h1,if_pos (by omega)]
  ·rw [h1,if_neg (by omega),za9,h3,Option.bind_some,zap,zaf,zap,zaf,zaA,zaf]
   have main:(x.kind=2 ∨ x.kind=3) → ¬ x.tries < 0 → ∃ z,zg2 n id why (k:Int)=some (true,z):=fun hk ht=>by
    have hl0:=zIY (n:=n) (id:=id) (why:=why) (k:=(k:Int)) w.sz.jobs
    cases hd:dup id (k:Int) 0 n.jobs with
    | true=>
     rw [hd,if_pos rfl] at hl0
     exact ⟨_,zl7 (by rw [zeS,hl0,Option.bind_some])⟩
    | false=>
     rw [hd,if_neg (by simp)] at hl0
     have run:Run (⟨n.me,n.clock,n.joined,n.pred,n.list,n.fingers,n.store,n.pends,n.jobs,[],n.rid,n.jobID,n.nextBit⟩:Node) id 0:=by
      refine ⟨⟨⟨w.sz.pred,w.sz.list,w.sz.fingers,w.sz.store,w.sz.pends,w.sz.jobs,Nat.zero_le _⟩,⟨w.ok.me,w.ok.pred,w.ok.list,w.ok.fingers⟩,w.fingers,w.list,w.jobs⟩,⟨x,h5,hk,by omega⟩,?_,rfl⟩
      show (delJ n.jobs id).find? (isJ id)=none
      rw [zrT h2,List.find?_eq_none]
      intro y hy
      obtain ⟨i,hik,hiy⟩:=List.mem_eraseIdx_iff_getElem?.1 hy
      have:=zyY hd i y hiy (by rw [Nat.zero_add];omega)
      rw [this];simp
     obtain ⟨N,hN,ov⟩:=four run why
     obtain ⟨r,hr1,hr2⟩:=ov.res
     have hfi:zcB N.jobs id=-1:=by
      rcases zeL N.jobs id with ⟨q1,_,_⟩ | ⟨_,y,_,_,_,_,q5,_⟩
      ·exact q1
      ·rw [ov.gone] at q5;cases q5
     refine ⟨N,zl7 ?_⟩
     rw [zeS,hl0,Option.bind_some]
     dsimp only
     rw [hN,Option.bind_some,zgN (by have:=ov.wok.sz.jobs;omega),Option.bind_some,hfi,iltT (by omega),cond_true,hr1,zaS]
     show (bif Ops.std.ieq 1 1 then _ else _)=_
     rw [show Ops.std.ieq 1 1=true from decide_eq_true (rfl:(1:Int)=1),cond_true,show (0:Int)=((0:Nat):Int) from rfl,za9]
     show (bif Ops.std.ieq r.job id then _ else _)=_
     rw [show Ops.std.ieq r.job id=true from decide_eq_true hr2,cond_true,zkq]
     rfl
   by_cases ht:x.tries < 0
   ·rw [if_pos ht]
    by_cases k2:x.kind=2
    ·rw [if_pos k2]
    ·rw [if_neg k2]
     by_cases k3:x.kind=3
     ·rw [if_pos k3]
     ·rw [if_neg k3]
   ·rw [if_neg ht]
    by_cases k2:x.kind=2
    ·obtain ⟨z,hz⟩:=main (.inl k2) ht
     rw [if_pos k2,hz];rfl
    ·rw [if_neg k2]
     by_cases k3:x.kind=3
     ·obtain ⟨z,hz⟩:=main (.inr k3) ht
      rw [if_pos k3,hz];rfl
     ·rw [if_neg k3])
end Go.Ab.Tryz
namespace Go.Ab.Tryz
open Go Go.Ab
open Pe (PeOk EnOk)
theorem peOk {p:Peer} (h:p.Ok):PeOk p:=⟨h.1.1,by have:=h.1.2;omega⟩
theorem enOk {l:List Entry} (h:OkL Entry.Ok l):EnOk l:=fun x hx=>peOk (h.1 x hx).1
theorem nodeOk {n:Node} (h:n.Ok):NOk n:=by
 obtain ⟨h1,h2,h3,h4,h5,h6,h7⟩:=h
 exact ⟨peOk h1,enOk h4,enOk h5,fun x hx=>peOk (h6.1 x hx).2⟩
theorem jobsOk {n:Node} (h:n.Ok):JRng n:=by
 obtain ⟨h1,h2,h3,h4,h5,h6,h7,h8,h9,h10⟩:=h
 intro j hj
 obtain ⟨j1,j2,j3,j4,j5,j6,j7,j8,j9⟩:=h9.1 j hj
 exact ⟨⟨j6.1,by have:=j6.2;omega⟩,peOk j8⟩
theorem jobsLen {n:Node} (h:n.Ok):n.jobs.length ≤ 9223372036854775807:=by
 obtain ⟨h1,h2,h3,h4,h5,h6,h7,h8,h9,h10⟩:=h
 exact Nat.le_trans h9.2 (by unfold maxLen;decide)
end Go.Ab.Tryz
