/- Our texts for this statement, merged: what its theorem leads to. -/
import Derived.Test.YtjmmobicnfojeaaGreatDoorQSv9
set_option linter.unusedVariables false
set_option linter.unusedSimpArgs false
noncomputable section
namespace Go.Ab.Tryz
open Go Go.Ab Go.Proofs
set_option maxRecDepth 10000
set_option maxHeartbeats 4000000
def zgO (a:Node) (b:Node) (γ:Nat → Nat):Bool → X × St
 | a0=>(.ret,⟨bd 4 (vF a0 :: bd 79 []),[.box 34 (zau a),.box 34 (zau b)]⟩)
instance {a b}:InjS (zgO a b):=⟨fun γ γ' x y h=>by
 rcases x with a0 <;> rcases y with a0' <;> simp only [zgO] at h <;> exact inj_⟩
def zon (a:Node) (b:Node):Option (Bool):=asks (fun γ=>(lim F pr).seg [4] zyo ⟨bd 2 (.bptr 0 0 :: .bptr 1 0 :: bd 80 []),[.box 34 (zau a),.box 34 (zau b)]⟩) (zgO a b)
def zgN (a:Node) (b:Node) (γ:Nat → Nat):Bool → X × St
 | a0=>(.ret,⟨bd 4 (vF a0 :: bd 79 []),[.box 34 (zau a),.box 34 (zau b)]⟩)
instance {a b}:InjS (zgN a b):=⟨fun γ γ' x y h=>by
 rcases x with a0 <;> rcases y with a0' <;> simp only [zgN] at h <;> exact inj_⟩
def zom (a:Node) (b:Node):Option (Bool):=asks (fun γ=>(lim F pr).seg [4] zyn ⟨bd 2 (.bptr 0 0 :: .bptr 1 0 :: bd 80 []),[.box 34 (zau a),.box 34 (zau b)]⟩) (zgN a b)
def zlZ (a:Node) (b:Node):Option (Bool):=
 (zqA a.pred b.pred).bind fun res=>
 bif res then
  (zqA a.list b.list).bind fun res1=>
  bif res1 then
   (zuP a.fingers b.fingers).bind fun res2=>
   bif res2 then zom a b else
   some false
  else
   some false
 else
  some false
theorem zx0 {a b r} (h:zlZ a b=some r):zon a b=some r:=by
 unfold zlZ at h
 refine zaq fun γ=>?_
 obtain ⟨res,h1,h⟩:=zac h
 rcases zaa h with ⟨h2,h⟩ | ⟨h2,h⟩
 obtain ⟨res1,h3,h⟩:=zac h
 rcases zaa h with ⟨h4,h⟩ | ⟨h4,h⟩
 obtain ⟨res2,h5,h⟩:=zac h
 rcases zaa h with ⟨h6,h⟩ | ⟨h6,h⟩
 obtain ⟨γ4,h7⟩:=zai h (gam [])
 rcases r with t4
 refine ⟨gam [],zak ?_⟩;rotate_left
 cases h;refine ⟨gam [],zak ?_⟩;rotate_left
 cases h;refine ⟨gam [],zak ?_⟩;rotate_left
 cases h;refine ⟨gam [],zak ?_⟩;rotate_left
 all_goals (dsimp only [R1,zgN,zgO] at *;show Ifc.apart IF_ _ (zD7 zyn) _=_;generalize zyn=c0 at *;exact fin_)
def zlY (a:Node) (b:Node):Option (Bool):=
 (znI a.store b.store).bind fun res=>
 bif res then
  (zsK a.pends b.pends).bind fun res1=>
  bif res1 then zuR a b else
  some false
 else
  some false
theorem zxZ {a b r} (h:zlY a b=some r):zom a b=some r:=by
 unfold zlY at h
 refine zaq fun γ=>?_
 obtain ⟨res,h1,h⟩:=zac h
 rcases zaa h with ⟨h2,h⟩ | ⟨h2,h⟩
 obtain ⟨res1,h3,h⟩:=zac h
 rcases zaa h with ⟨h4,h⟩ | ⟨h4,h⟩
 have h5:=ask_some h
 rcases r with res2
 refine ⟨gam [],zak ?_⟩;rotate_left
 cases h;refine ⟨gam [],zak ?_⟩;rotate_left
 cases h;refine ⟨gam [],zak ?_⟩;rotate_left
 all_goals (dsimp only [R1,zgN] at *;show Ifc.apart IF_ _ zD6 _=_;exact fin_)
def zqH (a:Node) (b:Node):Option (Bool):=
 bif Ops.std.ieq a.me.id b.me.id then
  bif Ops.std.ieq a.me.addr b.me.addr then
   bif Ops.std.ieq a.clock b.clock then
    bif Ops.std.beq a.joined b.joined then
     bif Ops.std.ieq a.rid b.rid then
      bif Ops.std.ieq a.jobID b.jobID then
       bif Ops.std.ieq a.nextBit b.nextBit then zon a b else
       some false
      else
       some false
     else
      some false
    else
     some false
   else
    some false
  else
   some false
 else
  some false
theorem zDG {a b r} (h:zqH a b=some r):zqG a b=some r:=by
 unfold zqH at h
 refine zar ?_
 rcases zaa h with ⟨h1,h⟩ | ⟨h1,h⟩
 rcases zaa h with ⟨h2,h⟩ | ⟨h2,h⟩
 rcases zaa h with ⟨h3,h⟩ | ⟨h3,h⟩
 rcases zaa h with ⟨h4,h⟩ | ⟨h4,h⟩
 rcases zaa h with ⟨h5,h⟩ | ⟨h5,h⟩
 rcases zaa h with ⟨h6,h⟩ | ⟨h6,h⟩
 rcases zaa h with ⟨h7,h⟩ | ⟨h7,h⟩
 obtain ⟨γ1,h8⟩:=zai h (gam [])
 rcases r with t4
 refine zab rfl ?_;rotate_left
 cases h;refine zab rfl ?_;rotate_left
 cases h;refine zab rfl ?_;rotate_left
 cases h;refine zab rfl ?_;rotate_left
 cases h;refine zab rfl ?_;rotate_left
 cases h;refine zab rfl ?_;rotate_left
 cases h;refine zab rfl ?_;rotate_left
 cases h;refine zab rfl ?_;rotate_left
 all_goals (dsimp only [R1,zgO] at *;show zat IF_ (g17F zyo) _ _=_;generalize zyo=c0 at *;exact fin_)
def zgM (γ:Nat → Nat):Unit ⊕ Unit → X × St
 | .inl ()=>(.ret,⟨bd 4 (vF false :: bd 37 []),[]⟩)
 | .inr ()=>(.brk 0,⟨bd 42 [],[]⟩)
instance:InjS zgM:=⟨fun γ γ' x y h=>by
 rcases x with _ | _ <;> rcases y with _ | _ <;> simp only [zgM] at h <;> exact inj_⟩
def zlg (a:List Out) (b:List Out) (i:Int):Option (Unit ⊕ Unit):=asks (fun γ=>(lim F pr).loop [0,1,5] 0 ztg ⟨.lit 56 false (List.map eOut a) :: .lit 56 false (List.map eOut b) :: bd 3 (vI i :: bd 36 []),[]⟩) zgM
def zi6 (a:List Out) (b:List Out) (i:Int):Option (Unit ⊕ Unit):=
 bif Ops.std.ilt i (xlen eOut a) then
  (xget eOut a i).bind fun x=>
  (xget eOut b i).bind fun x1=>
  bif Ops.std.ieq x.to_.id x1.to_.id then
   bif Ops.std.ieq x.to_.addr x1.to_.addr then
    (zqu x.msg x1.msg).bind fun res=>
    bif res then zlg a b (Ops.std.iadd .i64 i 1) else
    some (.inl ())
   else
    some (.inl ())
  else
   some (.inl ())
 else
  some (.inr ())
theorem zrd {a b i r} (h:zi6 a b i=some r):zlg a b i=some r:=by
 unfold zi6 at h
 refine zaq fun γ=>?_
 rcases zaa h with ⟨h1,h⟩ | ⟨h1,h⟩
 obtain ⟨x,h2,h⟩:=zac h
 obtain ⟨x1,h3,h⟩:=zac h
 rcases zaa h with ⟨h4,h⟩ | ⟨h4,h⟩
 rcases zaa h with ⟨h5,h⟩ | ⟨h5,h⟩
 obtain ⟨res,h6,h⟩:=zac h
 rcases zaa h with ⟨h7,h⟩ | ⟨h7,h⟩
 replace h:=zai h (gam []);obtain ⟨γ',h0⟩:=h;refine ⟨γ',zad ?_⟩;rotate_left
 cases h;refine ⟨gam [],zad ?_⟩;rotate_left
 cases h;refine ⟨gam [],zad ?_⟩;rotate_left
 cases h;refine ⟨gam [],zad ?_⟩;rotate_left
 cases h;refine ⟨gam [],zad ?_⟩;rotate_left
 all_goals (dsimp only [R1,zgM] at *;show zaH IF_ _ _ ztg zD8 _=_;generalize ztg=c0 at *;exact fin_)
def zqF (a:List Out) (b:List Out):Option (Bool):=
 bif Ops.std.ieq (xlen eOut a) (xlen eOut b) then
  (zlg a b 0).bind fun r=>match r with
   | .inl ()=>
    some false
   | .inr ()=>
    some true
 else
  some false
theorem zDF {a b r} (h:zqF a b=some r):zuQ a b=some r:=by
 unfold zqF at h
 refine zar ?_
 rcases zaa h with ⟨h1,h⟩ | ⟨h1,h⟩
 obtain ⟨r2,γ1,h2,h⟩:=zan h (gam [])
 rcases r2 with _ | _
 cases h;refine zab rfl ?_;rotate_left
 cases h;refine zab rfl ?_;rotate_left
 cases h;refine zab rfl ?_;rotate_left
 all_goals (dsimp only [R1,zgM] at *;show zat IF_ (g18F ztg) _ _=_;generalize ztg=c0 at *;exact fin_)
def zfX (γ:Nat → Nat):Unit ⊕ Unit → X × St
 | .inl ()=>(.ret,⟨bd 2 (vF true :: bd 26 []),[]⟩)
 | .inr ()=>(.brk 0,⟨bd 29 [],[]⟩)
instance:InjS zfX:=⟨fun γ γ' x y h=>by
 rcases x with _ | _ <;> rcases y with _ | _ <;> simp only [zfX] at h <;> exact inj_⟩
def zkj (l:List Pair) (i:Int):Option (Unit ⊕ Unit):=asks (fun γ=>(lim F pr).loop [0,3] 0 zth ⟨.lit 78 false (List.map zae l) :: bd 2 (vI i :: bd 25 []),[]⟩) zfX
def zfW (l:List Pair) (i:Int):Option (Unit ⊕ Unit):=
 bif Ops.std.ilt i (xlen zae l) then
  (xget zae l i).bind fun x=>
  bif Ops.std.ilt 300 (Ops.std.slen x.key) then some (.inl ()) else
  bif Ops.std.ilt 700 (Ops.std.slen x.val) then some (.inl ()) else
  zkj l (Ops.std.iadd .i64 i 1)
 else
  some (.inr ())
theorem zkW {l i r} (h:zfW l i=some r):zkj l i=some r:=by
 unfold zfW at h
 refine zaq fun γ=>?_
 rcases zaa h with ⟨h1,h⟩ | ⟨h1,h⟩
 obtain ⟨x,h2,h⟩:=zac h
 rcases zaa h with ⟨h3,h⟩ | ⟨h3,h⟩
 cases h;refine ⟨gam [],zad ?_⟩;rotate_left
 rcases zaa h with ⟨h4,h⟩ | ⟨h4,h⟩
 cases h;refine ⟨gam [],zad ?_⟩;rotate_left
 replace h:=zai h (gam []);obtain ⟨γ',h0⟩:=h;refine ⟨γ',zad ?_⟩;rotate_left
 cases h;refine ⟨gam [],zad ?_⟩;rotate_left
 all_goals (dsimp only [zfX] at *;show zaH IF_ _ _ zth zD9 _=_;generalize zth=c0 at *;exact fin_)
def zoE (l:List Pair):Option (Bool):=
 bif Ops.std.ilt 100 (xlen zae l) then some true else
 (zkj l 0).bind fun r=>match r with
  | .inl ()=>
   some true
  | .inr ()=>
   some false
theorem zBz {l r} (h:zoE l=some r):zs3 l=some r:=by
 unfold zoE at h
 refine zar ?_
 rcases zaa h with ⟨h1,h⟩ | ⟨h1,h⟩
 cases h;refine zab rfl ?_;rotate_left
 obtain ⟨r2,γ1,h2,h⟩:=zan h (gam [])
 rcases r2 with _ | _
 cases h;refine zab rfl ?_;rotate_left
 cases h;refine zab rfl ?_;rotate_left
 all_goals (dsimp only [R1,zfX] at *;show zat IF_ (g19F zth) _ _=_;generalize zth=c0 at *;exact fin_)
abbrev zkf:=(Node × (List Entry) × (List Entry) × (List Finger) × (List Pair) × (List Pend) × (List Job) × (List Result) × (List Peer) × (List Out))
def zeH (γ:Nat → Nat):zkf → X × St
 | (a0,a1,a2,a3,a4,a5,a6,a7,a8,a9)=>(.brk 0,⟨bd 3 (.bptr 0 0 :: bd 2 (.bptr 1 0 :: bd 5 (.sl 11 ((γ 11)) :: bd 50 []))),[.box 34 (zau a0),.box 34 ([vU 0,vH 0,vI 0,vF false,.lit 0 true [],.lit 0 true [],.lit 0 true [],.lit 0 true [],.lit 0 true [],.lit 0 true [],.lit 0 true [],vW 0,vI 0,vI 0]),.row 56 (γ 2) false (List.map eOut []),.row 81 (γ 3) true (List.map zag a1),.row 81 (γ 4) true (List.map zag a2),.row 84 (γ 5) true (List.map zaU a3),.row 78 (γ 6) true (List.map zae a4),.row 88 (γ 7) true (List.map zbe a5),.row 67 (γ 8) true (List.map eJob a6),.row 60 (γ 9) true (List.map za7 a7),.row 25 (γ 10) true (List.map zaf a8),.row 56 (γ 11) false (List.map eOut a9)]⟩)
instance:InjS zeH:=⟨fun γ γ' x y h=>by
 rcases x with ⟨a0,a1,a2,a3,a4,a5,a6,a7,a8,a9⟩ <;> rcases y with ⟨a0',a1',a2',a3',a4',a5',a6',a7',a8',a9'⟩ <;> simp only [zeH] at h <;> exact inj_⟩
def zem (key:ByteArray) (val:ByteArray) (t40:List Peer) (t41:Int) (t42:Int) (b0:Node) (r3:List Entry) (r4:List Entry) (r5:List Finger) (r6:List Pair) (r7:List Pend) (r8:List Job) (r9:List Result) (r10:List Peer) (r11:List Out):Option (zkf):=asks (fun γ=>(lim F pr).loop [41,40,1,2,42,3,12,6] 12 zti ⟨bd 1 (vT key :: vT val :: .bptr 0 0 :: bd 2 (.bptr 1 0 :: bd 5 (.sl 11 ((γ 11)) :: bd 27 (.lit 25 false (List.map zaf t40) :: vI t41 :: vI t42 :: bd 20 [])))),[.box 34 (zau b0),.box 34 ([vU 0,vH 0,vI 0,vF false,.lit 0 true [],.lit 0 true [],.lit 0 true [],.lit 0 true [],.lit 0 true [],.lit 0 true [],.lit 0 true [],vW 0,vI 0,vI 0]),.row 56 (γ 2) false (List.map eOut []),.row 81 (γ 3) true (List.map zag r3),.row 81 (γ 4) true (List.map zag r4),.row 84 (γ 5) true (List.map zaU r5),.row 78 (γ 6) true (List.map zae r6),.row 88 (γ 7) true (List.map zbe r7),.row 67 (γ 8) true (List.map eJob r8),.row 60 (γ 9) true (List.map za7 r9),.row 25 (γ 10) true (List.map zaf r10),.row 56 (γ 11) false (List.map eOut r11)]⟩) zeH
def zhq (key:ByteArray) (val:ByteArray) (t40:List Peer) (t41:Int) (t42:Int) (b0:Node) (r3:List Entry) (r4:List Entry) (r5:List Finger) (r6:List Pair) (r7:List Pend) (r8:List Job) (r9:List Result) (r10:List Peer) (r11:List Out):Option (zkf):=
 bif Ops.std.ilt t42 t41 then
  (xget zaf t40 t42).bind fun x=>
  (zmv b0 x [(⟨key,val⟩:Pair)] true).bind fun ⟨r0,r1⟩=>
  bif zaN eOut 136 r11 r1 then
   zem key val t40 t41 (Ops.std.iadd .i64 t42 1) r0 r3 r4 r5 r6 r7 r8 r9 r10 (r11 ++ r1)
  else
   none
 else
  some (b0,r3,r4,r5,r6,r7,r8,r9,r10,r11)
theorem znP {key val t40 t41 t42 b0 r3 r4 r5 r6 r7 r8 r9 r10 r11 r} (h:zhq key val t40 t41 t42 b0 r3 r4 r5 r6 r7 r8 r9 r10 r11=some r):zem key val t40 t41 t42 b0 r3 r4 r5 r6 r7 r8 r9 r10 r11=some r:=by
 unfold zhq at h
 refine zaq fun γ=>?_
 rcases zaa h with ⟨h1,h⟩ | ⟨h1,h⟩
 obtain ⟨x,h2,h⟩:=zac h
 obtain ⟨r3,h3,h⟩:=zac h
 rcases r3 with ⟨r0,r1⟩
 obtain ⟨h4,h⟩:=zaw h
 replace h:=zai h (gam [0,0,(γ 2),(γ 3),(γ 4),(γ 5),(γ 6),(γ 7),(γ 8),(γ 9),(γ 10),((γ 11) + 1)]);obtain ⟨γ',h0⟩:=h;refine ⟨γ',zad ?_⟩;rotate_left
 cases h;refine ⟨gam [0,0,(γ 2),(γ 3),(γ 4),(γ 5),(γ 6),(γ 7),(γ 8),(γ 9),(γ 10),(γ 11)],zad ?_⟩;rotate_left
 all_goals (dsimp only [R2,zeH] at *;show zaH IF_ _ _ zti zEa _=_;generalize zti=c0 at *;exact fin_)
def zne (n:Node) (key:ByteArray) (val:ByteArray):Option ((Node × (List Out) × Int)):=
 (zhC n).bind fun ⟨zba,zaX,za8,za4,za6,za3,zaP,zaZ,zaV,za5,zaQ,zbj,za9,zaY⟩=>
 (zh3 zaZ key val).bind fun ⟨r0,r1⟩=>
 bif Ops.std.ieq r1 0 then
  (zjX za3).bind fun res=>
  bif Ops.std.ilt 2 (xlen zaf res) then
   (xsub zaf res 0 2).bind fun ys=>
   (zem key val ys (xlen zaf ys) 0 (⟨(⟨zba,zaX⟩:Peer),za8,za4,za6,za3,zaP,r0,zaV,za5,zaQ,zbj,za9,zaY⟩:Node) za6 za3 zaP zaZ zaV za5 zaQ res []).bind fun ⟨b0,r3,r4,r5,r6,r7,r8,r9,r10,r11⟩=>
   some (b0,r11,0)
  else
   (xsub zaf res 0 (xlen zaf res)).bind fun ys=>
   (zem key val ys (xlen zaf ys) 0 (⟨(⟨zba,zaX⟩:Peer),za8,za4,za6,za3,zaP,r0,zaV,za5,zaQ,zbj,za9,zaY⟩:Node) za6 za3 zaP zaZ zaV za5 zaQ res []).bind fun ⟨b0,r3,r4,r5,r6,r7,r8,r9,r10,r11⟩=>
   some (b0,r11,0)
 else
  some ((⟨(⟨zba,zaX⟩:Peer),za8,za4,za6,za3,zaP,zaZ,zaV,za5,zaQ,zbj,za9,zaY⟩:Node),[],r1)
theorem zz8 {n key val r} (h:zne n key val=some r):zqV n key val=some r:=by
 unfold zne at h
 refine zar ?_
 obtain ⟨r1,h1,h⟩:=zac h
 rcases r1 with ⟨zba,zaX,za8,za4,za6,za3,zaP,zaZ,zaV,za5,zaQ,zbj,za9,zaY⟩
 obtain ⟨r2,h2,h⟩:=zac h
 rcases r2 with ⟨r0,r1⟩
 rcases zaa h with ⟨h3,h⟩ | ⟨h3,h⟩
 obtain ⟨res,h4,h⟩:=zac h
 rcases zaa h with ⟨h5,h⟩ | ⟨h5,h⟩
 obtain ⟨ys,h6,h⟩:=zac h
 obtain ⟨r7,γ4,h7,h⟩:=zan h (gam [0,0,0,0,0,0,0,0,0,0,0,0])
 rcases r7 with ⟨b0,r3,r4,r5,r6,r7,r8,r9,r10,r11⟩
 cases h;refine zab rfl ?_;rotate_left
 obtain ⟨ys,h6,h⟩:=zac h
 obtain ⟨r7,γ4,h7,h⟩:=zan h (gam [0,0,0,0,0,0,0,0,0,0,0,0])
 rcases r7 with ⟨b0,r3,r4,r5,r6,r7,r8,r9,r10,r11⟩
 cases h;refine zab rfl ?_;rotate_left
 cases h;refine zab rfl ?_;rotate_left
 all_goals (dsimp only [K1,R2,R3,zc9,zeH] at *;show zat IF_ (g20F zti) _ _=_;generalize zti=c0 at *;exact fin_)
def zgV (γ:Nat → Nat):(Node × (List Out) × (List Peer)) → X × St
 | (a0,a1,a2)=>(.brk 0,⟨bd 3 (.bptr 0 0 :: bd 2 (.bptr 1 0 :: bd 4 (.sl 3 ((γ 3)) :: bd 50 []))),[.box 34 (zau a0),.box 34 ([vU 0,vH 0,vI 0,vF false,.lit 0 true [],.lit 0 true [],.lit 0 true [],.lit 0 true [],.lit 0 true [],.lit 0 true [],.lit 0 true [],vW 0,vI 0,vI 0]),.row 56 (γ 2) false (List.map eOut []),.row 56 (γ 3) false (List.map eOut a1),.row 25 (γ 4) false (List.map zaf a2)]⟩)
instance:InjS zgV:=⟨fun γ γ' x y h=>by
 rcases x with ⟨a0,a1,a2⟩ <;> rcases y with ⟨a0',a1',a2'⟩ <;> simp only [zgV] at h <;> exact inj_⟩
def zlk (key:ByteArray) (val:ByteArray) (i:Int) (b0:Node) (r3:List Out) (r4:List Peer):Option ((Node × (List Out) × (List Peer))):=asks (fun γ=>(lim F pr).loop [12,1,2,13,3,11,6] 5 ztj ⟨bd 1 (vT key :: vT val :: .bptr 0 0 :: bd 2 (.bptr 1 0 :: bd 4 (.sl 3 ((γ 3)) :: .sl 4 ((γ 4)) :: vI i :: bd 48 []))),[.box 34 (zau b0),.box 34 ([vU 0,vH 0,vI 0,vF false,.lit 0 true [],.lit 0 true [],.lit 0 true [],.lit 0 true [],.lit 0 true [],.lit 0 true [],.lit 0 true [],vW 0,vI 0,vI 0]),.row 56 (γ 2) false (List.map eOut []),.row 56 (γ 3) false (List.map eOut r3),.row 25 (γ 4) false (List.map zaf r4)]⟩) zgV
def zgW (key:ByteArray) (val:ByteArray) (γ:Nat → Nat):(Int × Node × (List Out) × (List Peer)) → X × St
 | (a0,a1,a2,a3)=>(.nor,⟨bd 1 (vT key :: vT val :: .bptr 0 0 :: bd 2 (.bptr 1 0 :: bd 4 (.sl 3 ((γ 3)) :: .sl 4 ((γ 4)) :: vI a0 :: bd 48 []))),[.box 34 (zau a1),.box 34 ([vU 0,vH 0,vI 0,vF false,.lit 0 true [],.lit 0 true [],.lit 0 true [],.lit 0 true [],.lit 0 true [],.lit 0 true [],.lit 0 true [],vW 0,vI 0,vI 0]),.row 56 (γ 2) false (List.map eOut []),.row 56 (γ 3) false (List.map eOut a2),.row 25 (γ 4) false (List.map zaf a3)]⟩)
instance {key val}:InjS (zgW key val):=⟨fun γ γ' x y h=>by
 rcases x with ⟨a0,a1,a2,a3⟩ <;> rcases y with ⟨a0',a1',a2',a3'⟩ <;> simp only [zgW] at h <;> exact inj_⟩
def zop (key:ByteArray) (val:ByteArray) (i:Int) (b0:Node) (r3:List Out) (r4:List Peer):Option ((Int × Node × (List Out) × (List Peer))):=asks (fun γ=>(lim F pr).seg [12,1,2,13,3,11,6] zyp ⟨bd 1 (vT key :: vT val :: .bptr 0 0 :: bd 2 (.bptr 1 0 :: bd 4 (.sl 3 ((γ 3)) :: .sl 4 ((γ 4)) :: vI i :: bd 48 []))),[.box 34 (zau b0),.box 34 ([vU 0,vH 0,vI 0,vF false,.lit 0 true [],.lit 0 true [],.lit 0 true [],.lit 0 true [],.lit 0 true [],.lit 0 true [],.lit 0 true [],vW 0,vI 0,vI 0]),.row 56 (γ 2) false (List.map eOut []),.row 56 (γ 3) false (List.map eOut r3),.row 25 (γ 4) false (List.map zaf r4)]⟩) (zgW key val)
def zjc (key:ByteArray) (val:ByteArray) (i:Int) (b0:Node) (r3:List Out) (r4:List Peer):Option ((Node × (List Out) × (List Peer))):=
 bif Ops.std.ilt i (xlen zaf r4) then
  bif Ops.std.ilt i 2 then
   (zop key val i b0 r3 r4).bind fun ⟨i1,b01,r31,r41⟩=>
   zlk key val i1 b01 r31 r41
  else
   some (b0,r3,r4)
 else
  some (b0,r3,r4)
theorem zri {key val i b0 r3 r4 r} (h:zjc key val i b0 r3 r4=some r):zlk key val i b0 r3 r4=some r:=by
 unfold zjc at h
 refine zaq fun γ=>?_
 rcases zaa h with ⟨h1,h⟩ | ⟨h1,h⟩
 rcases zaa h with ⟨h2,h⟩ | ⟨h2,h⟩
 obtain ⟨r3,γ1,h3,h⟩:=zan h (gam [0,0,(γ 2),(γ 3),(γ 4)])
 rcases r3 with ⟨i1,b01,r31,r41⟩
 replace h:=zai h (gam [0,0,(γ1 2),(γ1 3),(γ1 4)]);obtain ⟨γ',h0⟩:=h;refine ⟨γ',zad ?_⟩;rotate_left
 cases h;refine ⟨gam [0,0,(γ 2),(γ 3),(γ 4)],zad ?_⟩;rotate_left
 cases h;refine ⟨gam [0,0,(γ 2),(γ 3),(γ 4)],zad ?_⟩;rotate_left
 all_goals (dsimp only [zgV,zgW] at *;show zaH IF_ _ _ ztj (zEc zyp) _=_;generalize ztj=c0,zyp=c1 at *;exact fin_)
def zl4 (key:ByteArray) (val:ByteArray) (i:Int) (b0:Node) (r3:List Out) (r4:List Peer):Option ((Int × Node × (List Out) × (List Peer))):=
 (xget zaf r4 i).bind fun x=>
 (zhU b0 x [(⟨key,val⟩:Pair)] true).bind fun ⟨r0,r1⟩=>
 bif zaN eOut 136 r3 r1 then some (Ops.std.iadd .i64 i 1,r0,(r3 ++ r1),r4) else
 none
theorem zx6 {key val i b0 r3 r4 r} (h:zl4 key val i b0 r3 r4=some r):zop key val i b0 r3 r4=some r:=by
 unfold zl4 at h
 refine zaq fun γ=>?_
 obtain ⟨x,h1,h⟩:=zac h
 obtain ⟨r2,h2,h⟩:=zac h
 rcases r2 with ⟨r0,r1⟩
 obtain ⟨h3,h⟩:=zaw h
 cases h;refine ⟨gam [0,0,(γ 2),((γ 3) + 1),(γ 4)],zak ?_⟩;rotate_left
 all_goals (dsimp only [R2,zgW] at *;show Ifc.apart IF_ _ zEb _=_;exact fin_)
def zqO (n:Node) (key:ByteArray) (val:ByteArray):Option ((Node × (List Out) × Int)):=
 (zpj n.store key val).bind fun ⟨r0,r1⟩=>
 bif Ops.std.ieq r1 0 then
  (zm6 n.list).bind fun res=>
  (zlk key val 0 (⟨n.me,n.clock,n.joined,n.pred,n.list,n.fingers,r0,n.pends,n.jobs,n.results,n.rid,n.jobID,n.nextBit⟩:Node) [] res).bind fun ⟨b0,r3,r4⟩=>
  some (b0,r3,0)
 else
  some (n,[],r1)
theorem zDL {n key val r} (h:zqO n key val=some r):zuT n key val=some r:=by
 unfold zqO at h
 refine zar ?_
 obtain ⟨r1,h1,h⟩:=zac h
 rcases r1 with ⟨r0,r1⟩
 rcases zaa h with ⟨h2,h⟩ | ⟨h2,h⟩
 obtain ⟨res,h3,h⟩:=zac h
 obtain ⟨r4,γ3,h4,h⟩:=zan h (gam [0,0,0,0,0])
 rcases r4 with ⟨b0,r3,r4⟩
 cases h;refine zab rfl ?_;rotate_left
 cases h;refine zab rfl ?_;rotate_left
 all_goals (dsimp only [K1,R2,R3,zgV] at *;show zat IF_ (g21F ztj) _ _=_;generalize ztj=c0 at *;exact fin_)
abbrev zke:=(Node × (List Entry) × (List Entry) × (List Finger) × (List Pair) × (List Pend) × (List Job) × (List Result) × (List Out))
def zeG (to_:Peer) (γ:Nat → Nat):zke → X × St
 | (a0,a1,a2,a3,a4,a5,a6,a7,a8)=>(.brk 0,⟨bd 4 (.bptr 0 0 :: bd 3 (.bptr 2 0 :: bd 1 (.sl 11 ((γ 11)) :: bd 29 []))),[.box 34 (zau a0),.box 25 [vU to_.id,vH to_.addr],.box 34 ([vU 0,vH 0,vI 0,vF false,.lit 0 true [],.lit 0 true [],.lit 0 true [],.lit 0 true [],.lit 0 true [],.lit 0 true [],.lit 0 true [],vW 0,vI 0,vI 0]),.row 56 (γ 3) false (List.map eOut []),.row 81 (γ 4) true (List.map zag a1),.row 81 (γ 5) true (List.map zag a2),.row 84 (γ 6) true (List.map zaU a3),.row 78 (γ 7) true (List.map zae a4),.row 88 (γ 8) true (List.map zbe a5),.row 67 (γ 9) true (List.map eJob a6),.row 60 (γ 10) true (List.map za7 a7),.row 56 (γ 11) false (List.map eOut a8)]⟩)
instance {to_}:InjS (zeG to_):=⟨fun γ γ' x y h=>by
 rcases x with ⟨a0,a1,a2,a3,a4,a5,a6,a7,a8⟩ <;> rcases y with ⟨a0',a1',a2',a3',a4',a5',a6',a7',a8'⟩ <;> simp only [zeG] at h <;> exact inj_⟩
def zje (to_:Peer) (fresh:Bool) (t18:List (List Pair)) (t19:Int) (t20:Int) (b0:Node) (r4:List Entry) (r5:List Entry) (r6:List Finger) (r7:List Pair) (r8:List Pend) (r9:List Job) (r10:List Result) (r11:List Out):Option (zke):=asks (fun γ=>(lim F pr).loop [19,18,5,3,20,4,10,8] 12 ztk ⟨bd 3 (vF fresh :: .bptr 0 0 :: .bptr 1 0 :: bd 2 (.bptr 2 0 :: bd 1 (.sl 11 ((γ 11)) :: bd 7 (.lit 28 false (List.map (eL 78 zae) t18) :: vI t19 :: vI t20 :: bd 19 [])))),[.box 34 (zau b0),.box 25 [vU to_.id,vH to_.addr],.box 34 ([vU 0,vH 0,vI 0,vF false,.lit 0 true [],.lit 0 true [],.lit 0 true [],.lit 0 true [],.lit 0 true [],.lit 0 true [],.lit 0 true [],vW 0,vI 0,vI 0]),.row 56 (γ 3) false (List.map eOut []),.row 81 (γ 4) true (List.map zag r4),.row 81 (γ 5) true (List.map zag r5),.row 84 (γ 6) true (List.map zaU r6),.row 78 (γ 7) true (List.map zae r7),.row 88 (γ 8) true (List.map zbe r8),.row 67 (γ 9) true (List.map eJob r9),.row 60 (γ 10) true (List.map za7 r10),.row 56 (γ 11) false (List.map eOut r11)]⟩) (zeG to_)
def zhp (to_:Peer) (fresh:Bool) (t18:List (List Pair)) (t19:Int) (t20:Int) (b0:Node) (r4:List Entry) (r5:List Entry) (r6:List Finger) (r7:List Pair) (r8:List Pend) (r9:List Job) (r10:List Result) (r11:List Out):Option (zke):=
 bif Ops.std.ilt t20 t19 then
  (xget (eL 78 zae) t18 t20).bind fun x=>
  (zuG b0 to_ (⟨10,0,0,fresh,0,⟨#[]⟩,⟨#[]⟩,(⟨0,0⟩:Peer),[],x⟩:Msg) 6 0).bind fun ⟨r0,r1⟩=>
  bif zaN eOut 136 r11 r1 then
   zje to_ fresh t18 t19 (Ops.std.iadd .i64 t20 1) r0 r4 r5 r6 r7 r8 r9 r10 (r11 ++ r1)
  else
   none
 else
  some (b0,r4,r5,r6,r7,r8,r9,r10,r11)
theorem znO {to_ fresh t18 t19 t20 b0 r4 r5 r6 r7 r8 r9 r10 r11 r} (h:zhp to_ fresh t18 t19 t20 b0 r4 r5 r6 r7 r8 r9 r10 r11=some r):zje to_ fresh t18 t19 t20 b0 r4 r5 r6 r7 r8 r9 r10 r11=some r:=by
 unfold zhp at h
 refine zaq fun γ=>?_
 rcases zaa h with ⟨h1,h⟩ | ⟨h1,h⟩
 obtain ⟨x,h2,h⟩:=zac h
 obtain ⟨r3,h3,h⟩:=zac h
 rcases r3 with ⟨r0,r1⟩
 obtain ⟨h4,h⟩:=zaw h
 replace h:=zai h (gam [0,0,0,(γ 3),(γ 4),(γ 5),(γ 6),(γ 7),(γ 8),(γ 9),(γ 10),((γ 11) + 1)]);obtain ⟨γ',h0⟩:=h;refine ⟨γ',zad ?_⟩;rotate_left
 cases h;refine ⟨gam [0,0,0,(γ 3),(γ 4),(γ 5),(γ 6),(γ 7),(γ 8),(γ 9),(γ 10),(γ 11)],zad ?_⟩;rotate_left
 all_goals (dsimp only [R2,zeG] at *;show zaH IF_ _ _ ztk zEd _=_;generalize ztk=c0 at *;exact fin_)
def znd (n:Node) (to_:Peer) (l:List Pair) (fresh:Bool):Option ((Node × (List Out))):=
 (zhC n).bind fun ⟨zba,zaX,za8,za4,za6,za3,zaP,zaZ,zaV,za5,zaQ,zbj,za9,zaY⟩=>
 (xcut zae 78 l).bind fun cs=>
 (zje to_ fresh cs (xlen (eL 78 zae) cs) 0 (⟨(⟨zba,zaX⟩:Peer),za8,za4,za6,za3,zaP,zaZ,zaV,za5,zaQ,zbj,za9,zaY⟩:Node) za6 za3 zaP zaZ zaV za5 zaQ []).bind fun ⟨b0,r4,r5,r6,r7,r8,r9,r10,r11⟩=>
 some (b0,r11)
theorem zz7 {n to_ l fresh r} (h:znd n to_ l fresh=some r):zmv n to_ l fresh=some r:=by
 unfold znd at h
 refine zar ?_
 obtain ⟨r1,h1,h⟩:=zac h
 rcases r1 with ⟨zba,zaX,za8,za4,za6,za3,zaP,zaZ,zaV,za5,zaQ,zbj,za9,zaY⟩
 obtain ⟨cs,h2,h⟩:=zac h
 obtain ⟨r3,γ2,h3,h⟩:=zan h (gam [0,0,0,0,0,0,0,0,0,0,0,0])
 rcases r3 with ⟨b0,r4,r5,r6,r7,r8,r9,r10,r11⟩
 cases h;refine zab rfl ?_;rotate_left
 all_goals (dsimp only [R2,zc9,zeG] at *;show zat IF_ (g22F ztk) _ _=_;generalize ztk=c0 at *;exact fin_)
def zgU (to_:Peer) (γ:Nat → Nat):(Node × (List Out)) → X × St
 | (a0,a1)=>(.brk 0,⟨bd 4 (.bptr 0 0 :: bd 3 (.bptr 2 0 :: bd 1 (.sl 4 ((γ 4)) :: bd 30 []))),[.box 34 (zau a0),.box 25 [vU to_.id,vH to_.addr],.box 34 ([vU 0,vH 0,vI 0,vF false,.lit 0 true [],.lit 0 true [],.lit 0 true [],.lit 0 true [],.lit 0 true [],.lit 0 true [],.lit 0 true [],vW 0,vI 0,vI 0]),.row 56 (γ 3) false (List.map eOut []),.row 56 (γ 4) false (List.map eOut a1)]⟩)
instance {to_}:InjS (zgU to_):=⟨fun γ γ' x y h=>by
 rcases x with ⟨a0,a1⟩ <;> rcases y with ⟨a0',a1'⟩ <;> simp only [zgU] at h <;> exact inj_⟩
def zlj (to_:Peer) (fresh:Bool) (c:List (List Pair)) (i:Int) (b0:Node) (r4:List Out):Option ((Node × (List Out))):=asks (fun γ=>(lim F pr).loop [5,3,11,12,4,10,8] 5 ztl ⟨bd 3 (vF fresh :: .bptr 0 0 :: .bptr 1 0 :: bd 2 (.bptr 2 0 :: bd 1 (.sl 4 ((γ 4)) :: .lit 28 false (List.map (eL 78 zae) c) :: vI i :: bd 28 []))),[.box 34 (zau b0),.box 25 [vU to_.id,vH to_.addr],.box 34 ([vU 0,vH 0,vI 0,vF false,.lit 0 true [],.lit 0 true [],.lit 0 true [],.lit 0 true [],.lit 0 true [],.lit 0 true [],.lit 0 true [],vW 0,vI 0,vI 0]),.row 56 (γ 3) false (List.map eOut []),.row 56 (γ 4) false (List.map eOut r4)]⟩) (zgU to_)
def zjb (to_:Peer) (fresh:Bool) (c:List (List Pair)) (i:Int) (b0:Node) (r4:List Out):Option ((Node × (List Out))):=
 bif Ops.std.ilt i (xlen (eL 78 zae) c) then
  (xget (eL 78 zae) c i).bind fun x=>
  (zwN b0 to_ (⟨10,0,0,fresh,0,⟨#[]⟩,⟨#[]⟩,(⟨0,0⟩:Peer),[],x⟩:Msg) 6 0).bind fun ⟨r0,r1⟩=>
  bif zaN eOut 136 r4 r1 then zlj to_ fresh c (Ops.std.iadd .i64 i 1) r0 (r4 ++ r1) else
  none
 else
  some (b0,r4)
theorem zrh {to_ fresh c i b0 r4 r} (h:zjb to_ fresh c i b0 r4=some r):zlj to_ fresh c i b0 r4=some r:=by
 unfold zjb at h
 refine zaq fun γ=>?_
 rcases zaa h with ⟨h1,h⟩ | ⟨h1,h⟩
 obtain ⟨x,h2,h⟩:=zac h
 obtain ⟨r3,h3,h⟩:=zac h
 rcases r3 with ⟨r0,r1⟩
 obtain ⟨h4,h⟩:=zaw h
 replace h:=zai h (gam [0,0,0,(γ 3),((γ 4) + 1)]);obtain ⟨γ',h0⟩:=h;refine ⟨γ',zad ?_⟩;rotate_left
 cases h;refine ⟨gam [0,0,0,(γ 3),(γ 4)],zad ?_⟩;rotate_left
 all_goals (dsimp only [R2,zgU] at *;show zaH IF_ _ _ ztl zEe _=_;generalize ztl=c0 at *;exact fin_)
def zqN (n:Node) (to_:Peer) (l:List Pair) (fresh:Bool):Option ((Node × (List Out))):=
 (xcut zae 78 l).bind fun cs=>
 zlj to_ fresh cs 0 n []
theorem zDK {n to_ l fresh r} (h:zqN n to_ l fresh=some r):zhU n to_ l fresh=some r:=by
 unfold zqN at h
 refine zar ?_
 obtain ⟨cs,h1,h⟩:=zac h
 obtain ⟨γ1,h2⟩:=zai h (gam [0,0,0,0,0])
 rcases r with ⟨b0,r4⟩
 refine zab rfl ?_;rotate_left
 all_goals (dsimp only [R2,zgU] at *;show zat IF_ (g23F ztl) _ _=_;generalize ztl=c0 at *;exact fin_)
def zr8 (s:ByteArray):Option (Bool):=
 bif Ops.std.seq s ⟨#[]⟩ then some false else
 bif Ops.std.ile (Ops.std.slen s) 96 then
  (zs0 s).bind fun res=>
  bif res then
   (zsZ s).bind fun res1=>
   some (Ops.std.ile res1 32)
  else
   some false
 else
  some false
theorem zFk {s r} (h:zr8 s=some r):zmA s=some r:=by
 unfold zr8 at h
 refine zar ?_
 rcases zaa h with ⟨h1,h⟩ | ⟨h1,h⟩
 cases h;refine zab rfl ?_;rotate_left
 rcases zaa h with ⟨h2,h⟩ | ⟨h2,h⟩
 obtain ⟨res,h3,h⟩:=zac h
 rcases zaa h with ⟨h4,h⟩ | ⟨h4,h⟩
 obtain ⟨res1,h5,h⟩:=zac h
 cases h;refine zab rfl ?_;rotate_left
 cases h;refine zab rfl ?_;rotate_left
 cases h;refine zab rfl ?_;rotate_left
 all_goals (dsimp only [R1] at *;show zat IF_ g24F _ _=_;exact fin_)
def zd2 (me:Peer) (l:List Entry) (γ:Nat → Nat):Unit ⊕ Unit → X × St
 | .inl ()=>(.ret,⟨bd 4 (vF false :: bd 53 []),[.box 25 [vU me.id,vH me.addr]]⟩)
 | .inr ()=>(.brk 0,⟨bd 1 (.lit 81 false (List.map zag l) :: bd 56 []),[.box 25 [vU me.id,vH me.addr]]⟩)
instance {me l}:InjS (zd2 me l):=⟨fun γ γ' x y h=>by
 rcases x with _ | _ <;> rcases y with _ | _ <;> simp only [zd2] at h <;> exact inj_⟩
def zig (me:Peer) (l:List Entry) (t9:Int):Option (Unit ⊕ Unit):=asks (fun γ=>(lim F pr).loop [8,7,2,9,1] 1 ztm ⟨bd 1 (.lit 81 false (List.map zag l) :: .bptr 0 0 :: bd 4 (.lit 81 false (List.map zag l) :: vI (xlen zag l) :: vI t9 :: bd 48 [])),[.box 25 [vU me.id,vH me.addr]]⟩) (zd2 me l)
abbrev zjs:=(Int × Int × Int × Int) ⊕ (Int × Int × Int)
def zd3 (me:Peer) (l:List Entry) (γ:Nat → Nat):zjs → X × St
 | .inl (a0,a1,a2,a3)=>(.nor,⟨bd 1 (.lit 81 false (List.map zag l) :: .bptr 0 0 :: bd 4 (.lit 81 false (List.map zag l) :: vI (xlen zag l) :: vI a0 :: bd 48 [])),[.box 25 [vU me.id,vH me.addr],.box 81 [vU a1,vH a2,vI a3]]⟩)
 | .inr (b0,b1,b2)=>(.ret,⟨bd 4 (vF false :: bd 53 []),[.box 25 [vU me.id,vH me.addr],.box 81 [vU b0,vH b1,vI b2]]⟩)
instance {me l}:InjS (zd3 me l):=⟨fun γ γ' x y h=>by
 rcases x with ⟨a0,a1,a2,a3⟩ | ⟨b0,b1,b2⟩ <;> rcases y with ⟨a0',a1',a2',a3'⟩ | ⟨b0',b1',b2'⟩ <;> simp only [zd3] at h <;> exact inj_⟩
def zih (me:Peer) (l:List Entry) (i:Int) (t9:Int) (zao:Int) (zal:Int) (zcH:Int):Option (zjs):=asks (fun γ=>(lim F pr).seg [9,8,7,2,1] zyq ⟨bd 1 (.lit 81 false (List.map zag l) :: .bptr 0 0 :: bd 2 (vI i :: .bptr 1 0 :: .lit 81 false (List.map zag l) :: vI (xlen zag l) :: vI t9 :: bd 48 [])),[.box 25 [vU me.id,vH me.addr],.box 81 [vU zao,vH zal,vI zcH]]⟩) (zd3 me l)
def zd1 (me:Peer) (l:List Entry) (t9:Int):Option (Unit ⊕ Unit):=
 bif Ops.std.ilt t9 (xlen zag l) then
  (xget zag l t9).bind fun x=>
  bif Ops.std.ilt x.misses 0 then some (.inl ()) else
  bif Ops.std.ile 3 x.misses then some (.inl ()) else
  bif Ops.std.ieq x.peer.addr me.addr then some (.inl ()) else
  (zk5 l x.peer.addr).bind fun res=>
  bif Ops.std.ieq res t9 then
   (zih me l t9 t9 x.peer.id x.peer.addr x.misses).bind fun r=>match r with
    | .inl (t91,zao,zal,zcH)=>
     zig me l (Ops.std.iadd .i64 t91 1)
    | .inr (zao,zal,zcH)=>
     some (.inl ())
  else
   some (.inl ())
 else
  some (.inr ())
theorem zjr {me l t9 r} (h:zd1 me l t9=some r):zig me l t9=some r:=by
 unfold zd1 at h
 refine zaq fun γ=>?_
 rcases zaa h with ⟨h1,h⟩ | ⟨h1,h⟩
 obtain ⟨x,h2,h⟩:=zac h
 rcases zaa h with ⟨h3,h⟩ | ⟨h3,h⟩
 cases h;refine ⟨gam [],zad ?_⟩;rotate_left
 rcases zaa h with ⟨h4,h⟩ | ⟨h4,h⟩
 cases h;refine ⟨gam [],zad ?_⟩;rotate_left
 rcases zaa h with ⟨h5,h⟩ | ⟨h5,h⟩
 cases h;refine ⟨gam [],zad ?_⟩;rotate_left
 obtain ⟨res,h6,h⟩:=zac h
 rcases zaa h with ⟨h7,h⟩ | ⟨h7,h⟩
 obtain ⟨r8,γ2,h8,h⟩:=zan h (gam [])
 rcases r8 with ⟨t91,zao,zal,zcH⟩ | ⟨zao,zal,zcH⟩
 replace h:=zai h (gam []);obtain ⟨γ',h0⟩:=h;refine ⟨γ',zad ?_⟩;rotate_left
 cases h;refine ⟨gam [],zad ?_⟩;rotate_left
 cases h;refine ⟨gam [],zad ?_⟩;rotate_left
 cases h;refine ⟨gam [],zad ?_⟩;rotate_left
 all_goals (dsimp only [R1,zd2,zd3] at *;show zaH IF_ _ _ ztm (zEg zyq) _=_;generalize ztm=c0,zyq=c1 at *;exact fin_)
def zgd (me:Peer) (l:List Entry) (i:Int) (t9:Int) (zao:Int) (zal:Int) (zcH:Int):Option (zjs):=
 bif Ops.std.ilt 0 i then
  (xget zag l (Ops.std.isub .i64 i 1)).bind fun x=>
  (zk4 me x.peer (⟨zao,zal⟩:Peer)).bind fun res=>
  bif res then some (.inl (t9,zao,zal,zcH)) else
  some (.inr (zao,zal,zcH))
 else
  some (.inl (t9,zao,zal,zcH))
theorem zm3 {me l i t9 zao zal zcH r} (h:zgd me l i t9 zao zal zcH=some r):zih me l i t9 zao zal zcH=some r:=by
 unfold zgd at h
 refine zaq fun γ=>?_
 rcases zaa h with ⟨h1,h⟩ | ⟨h1,h⟩
 obtain ⟨x,h2,h⟩:=zac h
 obtain ⟨res,h3,h⟩:=zac h
 rcases zaa h with ⟨h4,h⟩ | ⟨h4,h⟩
 cases h;refine ⟨gam [],zak ?_⟩;rotate_left
 cases h;refine ⟨gam [],zak ?_⟩;rotate_left
 cases h;refine ⟨gam [],zak ?_⟩;rotate_left
 all_goals (dsimp only [R1,zd3] at *;show Ifc.apart IF_ _ zEf _=_;exact fin_)
def zlP (me:Peer) (l:List Entry):Option (Bool):=
 (zig me l 0).bind fun r=>match r with
  | .inl ()=>
   some false
  | .inr ()=>
   some (Ops.std.ile (xlen zag l) 15)
theorem zxP {me l r} (h:zlP me l=some r):zk6 me l=some r:=by
 unfold zlP at h
 refine zar ?_
 obtain ⟨r1,γ1,h1,h⟩:=zan h (gam [])
 rcases r1 with _ | _
 cases h;refine zab rfl ?_;rotate_left
 cases h;refine zab rfl ?_;rotate_left
 all_goals (dsimp only [R1,zd2] at *;show zat IF_ (g35F ztm) _ _=_;generalize ztm=c0 at *;exact fin_)
def zea (l:List Pair) (γ:Nat → Nat):Unit ⊕ Unit → X × St
 | .inl ()=>(.ret,⟨bd 2 (vF false :: bd 38 []),[]⟩)
 | .inr ()=>(.brk 0,⟨.lit 78 false (List.map zae l) :: bd 40 [],[]⟩)
instance {l}:InjS (zea l):=⟨fun γ γ' x y h=>by
 rcases x with _ | _ <;> rcases y with _ | _ <;> simp only [zea] at h <;> exact inj_⟩
def zc5 (l:List Pair) (t7:Int):Option (Unit ⊕ Unit):=asks (fun γ=>(lim F pr).loop [6,5,7,0] 0 ztn ⟨.lit 78 false (List.map zae l) :: bd 4 (.lit 78 false (List.map zae l) :: vI (xlen zae l) :: vI t7 :: bd 33 []),[]⟩) (zea l)
def zd9 (l:List Pair) (t7:Int):Option (Unit ⊕ Unit):=
 bif Ops.std.ilt t7 (xlen zae l) then
  (xget zae l t7).bind fun x=>
  (zmA x.key).bind fun res=>
  bif res then
   bif Ops.std.ilt 512 (Ops.std.slen x.val) then some (.inl ()) else
   bif Ops.std.ilt 0 t7 then
    (xget zae l (Ops.std.isub .i64 t7 1)).bind fun x1=>
    bif Ops.std.slt x1.key x.key then zc5 l (Ops.std.iadd .i64 t7 1) else
    some (.inl ())
   else
    zc5 l (Ops.std.iadd .i64 t7 1)
  else
   some (.inl ())
 else
  some (.inr ())
theorem zjB {l t7 r} (h:zd9 l t7=some r):zc5 l t7=some r:=by
 unfold zd9 at h
 refine zaq fun γ=>?_
 rcases zaa h with ⟨h1,h⟩ | ⟨h1,h⟩
 obtain ⟨x,h2,h⟩:=zac h
 obtain ⟨res,h3,h⟩:=zac h
 rcases zaa h with ⟨h4,h⟩ | ⟨h4,h⟩
 rcases zaa h with ⟨h5,h⟩ | ⟨h5,h⟩
 cases h;refine ⟨gam [],zad ?_⟩;rotate_left
 rcases zaa h with ⟨h6,h⟩ | ⟨h6,h⟩
 obtain ⟨x1,h7,h⟩:=zac h
 rcases zaa h with ⟨h8,h⟩ | ⟨h8,h⟩
 replace h:=zai h (gam []);obtain ⟨γ',h0⟩:=h;refine ⟨γ',zad ?_⟩;rotate_left
 cases h;refine ⟨gam [],zad ?_⟩;rotate_left
 replace h:=zai h (gam []);obtain ⟨γ',h0⟩:=h;refine ⟨γ',zad ?_⟩;rotate_left
 cases h;refine ⟨gam [],zad ?_⟩;rotate_left
 cases h;refine ⟨gam [],zad ?_⟩;rotate_left
 all_goals (dsimp only [R1,zea] at *;show zaH IF_ _ _ ztn zEh _=_;generalize ztn=c0 at *;exact fin_)
def zl9 (l:List Pair):Option (Bool):=
 (zc5 l 0).bind fun r=>match r with
  | .inl ()=>
   some false
  | .inr ()=>
   some (Ops.std.ile (xlen zae l) 64)
theorem zyi {l r} (h:zl9 l=some r):zln l=some r:=by
 unfold zl9 at h
 refine zar ?_
 obtain ⟨r1,γ1,h1,h⟩:=zan h (gam [])
 rcases r1 with _ | _
 cases h;refine zab rfl ?_;rotate_left
 cases h;refine zab rfl ?_;rotate_left
 all_goals (dsimp only [R1,zea] at *;show zat IF_ (g36F ztn) _ _=_;generalize ztn=c0 at *;exact fin_)
def znY (m:Msg):Option (Int):=
 (zmn m).bind fun res=>
 (zuB m.kind).bind fun res1=>
 bif Ops.std.seq res1 ⟨#[63]⟩ then some 9 else
 (zuz m).bind fun res2=>
 (zuC m res2).bind fun res3=>
 bif res3 then
  (zuF m res).bind fun res4=>
  bif res4 then
   (zuD m).bind fun res5=>
   bif res5 then some 5 else
   (zsd m).bind fun res6=>
   bif res6 then some 2 else
   some 0
  else
   some 7
 else
  some 1
theorem zAN {m r} (h:znY m=some r):zr9 m=some r:=by
 unfold znY at h
 refine zar ?_
 obtain ⟨res,h1,h⟩:=zac h
 obtain ⟨res1,h2,h⟩:=zac h
 rcases zaa h with ⟨h3,h⟩ | ⟨h3,h⟩
 cases h;refine zab rfl ?_;rotate_left
 obtain ⟨res2,h4,h⟩:=zac h
 obtain ⟨res3,h5,h⟩:=zac h
 rcases zaa h with ⟨h6,h⟩ | ⟨h6,h⟩
 obtain ⟨res4,h7,h⟩:=zac h
 rcases zaa h with ⟨h8,h⟩ | ⟨h8,h⟩
 obtain ⟨res5,h9,h⟩:=zac h
 rcases zaa h with ⟨h10,h⟩ | ⟨h10,h⟩
 cases h;refine zab rfl ?_;rotate_left
 obtain ⟨res6,h11,h⟩:=zac h
 rcases zaa h with ⟨h12,h⟩ | ⟨h12,h⟩
 cases h;refine zab rfl ?_;rotate_left
 cases h;refine zab rfl ?_;rotate_left
 cases h;refine zab rfl ?_;rotate_left
 cases h;refine zab rfl ?_;rotate_left
 all_goals (dsimp only [R1] at *;show zat IF_ g37F _ _=_;exact fin_)
def zfD (m:Msg) (γ:Nat → Nat):Int → X × St
 | a0=>(.ret,⟨bd 2 (vI a0 :: bd 95 []),[.box 37 [vI m.kind,vW m.rid,vB m.code,vF m.has,vU m.id,vT m.key,vT m.val,vU m.peer.id,vH m.peer.addr,.lit 25 false (List.map zaf m.peers),.lit 78 false (List.map zae m.pairs)]]⟩)
instance {m}:InjS (zfD m):=⟨fun γ γ' x y h=>by
 rcases x with a0 <;> rcases y with a0' <;> simp only [zfD] at h <;> exact inj_⟩
def zhL (m:Msg):Option (Int):=asks (fun γ=>(lim F pr).seg [2] zys ⟨bd 1 (.bptr 0 0 :: bd 96 []),[.box 37 [vI m.kind,vW m.rid,vB m.code,vF m.has,vU m.id,vT m.key,vT m.val,vU m.peer.id,vH m.peer.addr,.lit 25 false (List.map zaf m.peers),.lit 78 false (List.map zae m.pairs)]]⟩) (zfD m)
def zfC (m:Msg) (γ:Nat → Nat):Int → X × St
 | a0=>(.ret,⟨bd 2 (vI a0 :: bd 95 []),[.box 37 [vI m.kind,vW m.rid,vB m.code,vF m.has,vU m.id,vT m.key,vT m.val,vU m.peer.id,vH m.peer.addr,.lit 25 false (List.map zaf m.peers),.lit 78 false (List.map zae m.pairs)]]⟩)
instance {m}:InjS (zfC m):=⟨fun γ γ' x y h=>by
 rcases x with a0 <;> rcases y with a0' <;> simp only [zfC] at h <;> exact inj_⟩
def zhK (m:Msg) (long:Bool):Option (Int):=asks (fun γ=>(lim F pr).seg [2] zyr ⟨bd 1 (.bptr 0 0 :: bd 1 (vF long :: bd 94 [])),[.box 37 [vI m.kind,vW m.rid,vB m.code,vF m.has,vU m.id,vT m.key,vT m.val,vU m.peer.id,vH m.peer.addr,.lit 25 false (List.map zaf m.peers),.lit 78 false (List.map zae m.pairs)]]⟩) (zfC m)
def zfB (m:Msg) (γ:Nat → Nat):Unit ⊕ Bool → X × St
 | .inl ()=>(.ret,⟨bd 2 (vI 7 :: bd 95 []),[.box 37 [vI m.kind,vW m.rid,vB m.code,vF m.has,vU m.id,vT m.key,vT m.val,vU m.peer.id,vH m.peer.addr,.lit 25 false (List.map zaf m.peers),.lit 78 false (List.map zae m.pairs)]]⟩)
 | .inr b0=>(.brk 0,⟨bd 1 (.bptr 0 0 :: bd 1 (vF b0 :: bd 94 [])),[.box 37 [vI m.kind,vW m.rid,vB m.code,vF m.has,vU m.id,vT m.key,vT m.val,vU m.peer.id,vH m.peer.addr,.lit 25 false (List.map zaf m.peers),.lit 78 false (List.map zae m.pairs)]]⟩)
instance {m}:InjS (zfB m):=⟨fun γ γ' x y h=>by
 rcases x with _ | b0 <;> rcases y with _ | b0' <;> simp only [zfB] at h <;> exact inj_⟩
def zfA (m:Msg) (long:Bool) (i:Int):Option (Unit ⊕ Bool):=asks (fun γ=>(lim F pr).loop [4,3,1] 1 zto ⟨bd 1 (.bptr 0 0 :: bd 1 (vF long :: vI i :: bd 93 [])),[.box 37 [vI m.kind,vW m.rid,vB m.code,vF m.has,vU m.id,vT m.key,vT m.val,vU m.peer.id,vH m.peer.addr,.lit 25 false (List.map zaf m.peers),.lit 78 false (List.map zae m.pairs)]]⟩) (zfB m)
def zkM (m:Msg):Option (Int):=
 bif Ops.std.ilt 512 (Ops.std.slen m.val) then zhK m true else
 bif Ops.std.ilt 16 (xlen zaf m.peers) then zhK m true else
 zhK m (Ops.std.ilt 8 (xlen zae m.pairs))
theorem zwJ {m r} (h:zkM m=some r):zhL m=some r:=by
 unfold zkM at h
 refine zaq fun γ=>?_
 rcases zaa h with ⟨h1,h⟩ | ⟨h1,h⟩
 obtain ⟨γ1,h2⟩:=zai h (gam [])
 rcases r with t2
 refine ⟨gam [],zak ?_⟩;rotate_left
 rcases zaa h with ⟨h2,h⟩ | ⟨h2,h⟩
 obtain ⟨γ1,h3⟩:=zai h (gam [])
 rcases r with t2
 refine ⟨gam [],zak ?_⟩;rotate_left
 obtain ⟨γ1,h3⟩:=zai h (gam [])
 rcases r with t2
 refine ⟨gam [],zak ?_⟩;rotate_left
 all_goals (dsimp only [zfC,zfD] at *;show Ifc.apart IF_ _ (zEk zyr) _=_;generalize zyr=c0 at *;exact fin_)
def zkL (m:Msg) (long:Bool):Option (Int):=
 (zfA m long 0).bind fun r=>match r with
  | .inl ()=>
   some 7
  | .inr long1=>
   bif long1 then some 5 else
   bif Ops.std.ieq m.kind 2 then
    bif Ops.std.ieq (xlen zaf m.peers) 0 then some 2 else
    some 0
   else
    bif Ops.std.ieq m.kind 10 then
     bif Ops.std.ieq (xlen zae m.pairs) 0 then some 2 else
     some 0
    else
     bif Ops.std.ieq m.kind 12 then
      bif Ops.std.ieq m.code 0 then some 2 else
      some 0
     else
      some 0
theorem zwI {m long r} (h:zkL m long=some r):zhK m long=some r:=by
 unfold zkL at h
 refine zaq fun γ=>?_
 obtain ⟨r1,γ1,h1,h⟩:=zan h (gam [])
 rcases r1 with _ | long1
 cases h;refine ⟨gam [],zak ?_⟩;rotate_left
 rcases zaa h with ⟨h2,h⟩ | ⟨h2,h⟩
 cases h;refine ⟨gam [],zak ?_⟩;rotate_left
 rcases zaa h with ⟨h3,h⟩ | ⟨h3,h⟩
 rcases zaa h with ⟨h4,h⟩ | ⟨h4,h⟩
 cases h;refine ⟨gam [],zak ?_⟩;rotate_left
 have h5:=zlu h3 (b:=10) (by decide)
 have h6:=zlu h3 (b:=12) (by decide)
 cases h;refine ⟨gam [],zak ?_⟩;rotate_left
 rcases zaa h with ⟨h4,h⟩ | ⟨h4,h⟩
 rcases zaa h with ⟨h5,h⟩ | ⟨h5,h⟩
 cases h;refine ⟨gam [],zak ?_⟩;rotate_left
 have h6:=zlu h4 (b:=12) (by decide)
 cases h;refine ⟨gam [],zak ?_⟩;rotate_left
 rcases zaa h with ⟨h5,h⟩ | ⟨h5,h⟩
 rcases zaa h with ⟨h6,h⟩ | ⟨h6,h⟩
 cases h;refine ⟨gam [],zak ?_⟩;rotate_left
 cases h;refine ⟨gam [],zak ?_⟩;rotate_left
 cases h;refine ⟨gam [],zak ?_⟩;rotate_left
 all_goals (dsimp only [zfB,zfC] at *;show Ifc.apart IF_ _ (zEj zto) _=_;generalize zto=c0 at *;exact fin_)
def zik (m:Msg) (long:Bool) (i:Int):Option (Unit ⊕ Bool):=
 bif Ops.std.ilt i (xlen zae m.pairs) then
  (xget zae m.pairs i).bind fun x=>
  (zmB x.key).bind fun res=>
  bif res then
   bif Ops.std.ilt 512 (Ops.std.slen x.val) then zfA m true (Ops.std.iadd .i64 i 1) else
   zfA m long (Ops.std.iadd .i64 i 1)
  else
   some (.inl ())
 else
  some (.inr long)
theorem zpg {m long i r} (h:zik m long i=some r):zfA m long i=some r:=by
 unfold zik at h
 refine zaq fun γ=>?_
 rcases zaa h with ⟨h1,h⟩ | ⟨h1,h⟩
 obtain ⟨x,h2,h⟩:=zac h
 obtain ⟨res,h3,h⟩:=zac h
 rcases zaa h with ⟨h4,h⟩ | ⟨h4,h⟩
 rcases zaa h with ⟨h5,h⟩ | ⟨h5,h⟩
 replace h:=zai h (gam []);obtain ⟨γ',h0⟩:=h;refine ⟨γ',zad ?_⟩;rotate_left
 replace h:=zai h (gam []);obtain ⟨γ',h0⟩:=h;refine ⟨γ',zad ?_⟩;rotate_left
 cases h;refine ⟨gam [],zad ?_⟩;rotate_left
 cases h;refine ⟨gam [],zad ?_⟩;rotate_left
 all_goals (dsimp only [R1,zfB] at *;show zaH IF_ _ _ zto zEi _=_;generalize zto=c0 at *;exact fin_)
def zoe (m:Msg):Option (Int):=
 (zuM m.kind).bind fun res=>
 bif Ops.std.seq res ⟨#[63]⟩ then some 9 else
 (zuL m).bind fun res1=>
 (zqu m res1).bind fun res2=>
 bif res2 then
  bif Ops.std.ieq m.kind 7 then
   (zmB m.key).bind fun res3=>
   bif res3 then zhL m else
   some 7
  else
   bif Ops.std.ieq m.kind 8 then
    (zmB m.key).bind fun res3=>
    bif res3 then zhL m else
    some 7
   else
    zhL m
 else
  some 1
theorem zA5 {m r} (h:zoe m=some r):zsv m=some r:=by
 unfold zoe at h
 refine zar ?_
 obtain ⟨res,h1,h⟩:=zac h
 rcases zaa h with ⟨h2,h⟩ | ⟨h2,h⟩
 cases h;refine zab rfl ?_;rotate_left
 obtain ⟨res1,h3,h⟩:=zac h
 obtain ⟨res2,h4,h⟩:=zac h
 rcases zaa h with ⟨h5,h⟩ | ⟨h5,h⟩
 rcases zaa h with ⟨h6,h⟩ | ⟨h6,h⟩
 obtain ⟨res3,h7,h⟩:=zac h
 rcases zaa h with ⟨h8,h⟩ | ⟨h8,h⟩
 obtain ⟨γ5,h9⟩:=zai h (gam [])
 rcases r with t2
 refine zab rfl ?_;rotate_left
 cases h;refine zab rfl ?_;rotate_left
 rcases zaa h with ⟨h7,h⟩ | ⟨h7,h⟩
 obtain ⟨res3,h8,h⟩:=zac h
 rcases zaa h with ⟨h9,h⟩ | ⟨h9,h⟩
 obtain ⟨γ5,h10⟩:=zai h (gam [])
 rcases r with t2
 refine zab rfl ?_;rotate_left
 cases h;refine zab rfl ?_;rotate_left
 obtain ⟨γ4,h8⟩:=zai h (gam [])
 rcases r with t2
 refine zab rfl ?_;rotate_left
 cases h;refine zab rfl ?_;rotate_left
 all_goals (dsimp only [R1,zfD] at *;show zat IF_ (g38F zys) _ _=_;generalize zys=c0 at *;exact fin_)
def zgy (γ:Nat → Nat):Unit ⊕ Unit → X × St
 | .inl ()=>(.ret,⟨bd 2 (vF true :: bd 8 []),[]⟩)
 | .inr ()=>(.brk 0,⟨bd 11 [],[]⟩)
instance:InjS zgy:=⟨fun γ γ' x y h=>by
 rcases x with _ | _ <;> rcases y with _ | _ <;> simp only [zgy] at h <;> exact inj_⟩
def zeS (kind:Int) (i:Int):Option (Unit ⊕ Unit):=asks (fun γ=>(lim F pr).loop [0,3] 0 ztp ⟨vI kind :: bd 2 (vI i :: bd 7 []),[]⟩) zgy
def zgx (kind:Int) (i:Int):Option (Unit ⊕ Unit):=
 bif Ops.std.ilt i 13 then
  (zla kind i).bind fun res=>
  bif res then some (.inl ()) else
  zeS kind (Ops.std.iadd .i64 i 1)
 else
  some (.inr ())
theorem zlS {kind i r} (h:zgx kind i=some r):zeS kind i=some r:=by
 unfold zgx at h
 refine zaq fun γ=>?_
 rcases zaa h with ⟨h1,h⟩ | ⟨h1,h⟩
 obtain ⟨res,h2,h⟩:=zac h
 rcases zaa h with ⟨h3,h⟩ | ⟨h3,h⟩
 cases h;refine ⟨gam [],zad ?_⟩;rotate_left
 replace h:=zai h (gam []);obtain ⟨γ',h0⟩:=h;refine ⟨γ',zad ?_⟩;rotate_left
 cases h;refine ⟨gam [],zad ?_⟩;rotate_left
 all_goals (dsimp only [R1,zgy] at *;show zaH IF_ _ _ ztp zEl _=_;generalize ztp=c0 at *;exact fin_)
def zqq (kind:Int):Option (Bool):=
 (zeS kind 1).bind fun r=>match r with
  | .inl ()=>
   some true
  | .inr ()=>
   some false
theorem zDu {kind r} (h:zqq kind=some r):zqp kind=some r:=by
 unfold zqq at h
 refine zar ?_
 obtain ⟨r1,γ1,h1,h⟩:=zan h (gam [])
 rcases r1 with _ | _
 cases h;refine zab rfl ?_;rotate_left
 cases h;refine zab rfl ?_;rotate_left
 all_goals (dsimp only [R1,zgy] at *;show zat IF_ (g39F ztp) _ _=_;generalize ztp=c0 at *;exact fin_)
def zd5 (γ:Nat → Nat):Bool → X × St
 | a0=>(.ret,⟨bd 4 (vF a0 :: bd 35 []),[]⟩)
instance:InjS zd5:=⟨fun γ γ' x y h=>by
 rcases x with a0 <;> rcases y with a0' <;> simp only [zd5] at h <;> exact inj_⟩
def zfw (kind:Int) (reply:Int) (t18:Bool):Option (Bool):=asks (fun γ=>(lim F pr).seg [4] zyt ⟨bd 1 (vI reply :: bd 3 (vI kind :: bd 12 (vF t18 :: bd 21 []))),[]⟩) zd5
def zju (kind:Int) (reply:Int) (t18:Bool):Option (Bool):=
 bif t18 then some (Ops.std.ieq reply 6) else
 bif Ops.std.ieq kind 7 then
  bif Ops.std.ieq reply 6 then some true else
  some (Ops.std.ieq reply 12)
 else
  bif Ops.std.ieq kind 8 then
   bif Ops.std.ieq reply 9 then some true else
   some (Ops.std.ieq reply 12)
  else
   some false
theorem zuK {kind reply t18 r} (h:zju kind reply t18=some r):zfw kind reply t18=some r:=by
 unfold zju at h
 refine zaq fun γ=>?_
 rcases zaa h with ⟨h1,h⟩ | ⟨h1,h⟩
 cases h;refine ⟨gam [],zak ?_⟩;rotate_left
 rcases zaa h with ⟨h2,h⟩ | ⟨h2,h⟩
 rcases zaa h with ⟨h3,h⟩ | ⟨h3,h⟩
 cases h;refine ⟨gam [],zak ?_⟩;rotate_left
 cases h;refine ⟨gam [],zak ?_⟩;rotate_left
 rcases zaa h with ⟨h3,h⟩ | ⟨h3,h⟩
 rcases zaa h with ⟨h4,h⟩ | ⟨h4,h⟩
 cases h;refine ⟨gam [],zak ?_⟩;rotate_left
 cases h;refine ⟨gam [],zak ?_⟩;rotate_left
 cases h;refine ⟨gam [],zak ?_⟩;rotate_left
 all_goals (dsimp only [zd5] at *;show Ifc.apart IF_ _ zEm _=_;exact fin_)
def zlR (kind:Int) (reply:Int):Option (Bool):=
 bif Ops.std.ieq kind 1 then
  bif Ops.std.ieq reply 2 then some true else
  some (Ops.std.ieq reply 12)
 else
  bif Ops.std.ieq kind 3 then some (Ops.std.ieq reply 4) else
  bif Ops.std.ieq kind 5 then zfw kind reply true else
  bif Ops.std.ieq kind 10 then zfw kind reply true else
  zfw kind reply (Ops.std.ieq kind 11)
theorem zxR {kind reply r} (h:zlR kind reply=some r):zla kind reply=some r:=by
 unfold zlR at h
 refine zar ?_
 rcases zaa h with ⟨h1,h⟩ | ⟨h1,h⟩
 rcases zaa h with ⟨h2,h⟩ | ⟨h2,h⟩
 cases h;refine zab rfl ?_;rotate_left
 cases h;refine zab rfl ?_;rotate_left
 rcases zaa h with ⟨h2,h⟩ | ⟨h2,h⟩
 cases h;refine zab rfl ?_;rotate_left
 rcases zaa h with ⟨h3,h⟩ | ⟨h3,h⟩
 obtain ⟨γ1,h4⟩:=zai h (gam [])
 rcases r with t4
 refine zab rfl ?_;rotate_left
 rcases zaa h with ⟨h4,h⟩ | ⟨h4,h⟩
 obtain ⟨γ1,h5⟩:=zai h (gam [])
 rcases r with t4
 refine zab rfl ?_;rotate_left
 obtain ⟨γ1,h5⟩:=zai h (gam [])
 rcases r with t4
 refine zab rfl ?_;rotate_left
 all_goals (dsimp only [R1,zd5] at *;show zat IF_ (g40F zyt) _ _=_;generalize zyt=c0 at *;exact fin_)
def zp6 (k:Int):Option (Bool):=
 (zsb k).bind fun res=>
 some (Ops.std.ilt 0 (xlen vI res.replies))
theorem zDa {k r} (h:zp6 k=some r):zuy k=some r:=by
 unfold zp6 at h
 refine zar ?_
 obtain ⟨res,h1,h⟩:=zac h
 cases h;refine zab rfl ?_;rotate_left
 all_goals (dsimp only [R1] at *;show zat IF_ g54F _ _=_;exact fin_)
abbrev zka:=(Int × Int × (List Peer)) ⊕ ((List Peer) × (List Peer))
def zeE (n:Node) (γ:Nat → Nat):zka → X × St
 | .inl (a0,a1,a2)=>(.ret,⟨bd 4 (.bptr 1 0 :: .sl 4 ((γ 4)) :: vF true :: bd 49 []),[.box 34 (zau n),.box 25 [vU a0,vH a1],.row 25 (γ 2) false (List.map zaf []),.row 25 (γ 3) false (List.map zaf a2),.row 25 (γ 4) false (List.map zaf [])]⟩)
 | .inr (b0,b1)=>(.ret,⟨bd 4 (.bptr 1 0 :: .lit 25 false (List.map zaf b0) :: vF false :: bd 49 []),[.box 34 (zau n),.box 25 [vU 0,vH 0],.row 25 (γ 2) false (List.map zaf []),.row 25 (γ 3) false (List.map zaf b1)]⟩)
instance {n}:InjS (zeE n):=⟨fun γ γ' x y h=>by
 rcases x with ⟨a0,a1,a2⟩ | ⟨b0,b1⟩ <;> rcases y with ⟨a0',a1',a2'⟩ | ⟨b0',b1'⟩ <;> simp only [zeE] at h <;> exact inj_⟩
def zl6 (n:Node) (key:Int) (r3:List Peer):Option (zka):=asks (fun γ=>(lim F pr).seg [4,5,6] zvg ⟨bd 1 (vU key :: .bptr 0 0 :: bd 1 (.bptr 1 0 :: bd 2 (.sl 3 ((γ 3)) :: bd 48 []))),[.box 34 (zau n),.box 25 [vU 0,vH 0],.row 25 (γ 2) false (List.map zaf []),.row 25 (γ 3) false (List.map zaf r3)]⟩) (zeE n)
def zkb (n:Node) (key:Int) (r3:List Peer):Option (zka):=
 (xget zaf r3 0).bind fun x=>
 (zhW n.me.id key x.id).bind fun res=>
 bif res then some (.inl (x.id,x.addr,r3)) else
 (znc n key).bind fun res1=>
 bif res1 then some (.inl (n.me.id,n.me.addr,r3)) else
 (zpV n.me n.list n.fingers key 4).bind fun res2=>
 bif Ops.std.ilt 0 (xlen zaf res2) then some (.inr (res2,r3)) else
 some (.inl (n.me.id,n.me.addr,r3))
theorem zv3 {n key r3 r} (h:zkb n key r3=some r):zl6 n key r3=some r:=by
 unfold zkb at h
 refine zaq fun γ=>?_
 obtain ⟨x,h1,h⟩:=zac h
 obtain ⟨res,h2,h⟩:=zac h
 rcases zaa h with ⟨h3,h⟩ | ⟨h3,h⟩
 cases h;refine ⟨gam [0,0,(γ 2),(γ 3),0],zak ?_⟩;rotate_left
 obtain ⟨res1,h4,h⟩:=zac h
 rcases zaa h with ⟨h5,h⟩ | ⟨h5,h⟩
 cases h;refine ⟨gam [0,0,(γ 2),(γ 3),0],zak ?_⟩;rotate_left
 obtain ⟨res2,h6,h⟩:=zac h
 rcases zaa h with ⟨h7,h⟩ | ⟨h7,h⟩
 cases h;refine ⟨gam [0,0,(γ 2),(γ 3)],zak ?_⟩;rotate_left
 cases h;refine ⟨gam [0,0,(γ 2),(γ 3),0],zak ?_⟩;rotate_left
 all_goals (dsimp only [R1,zeE] at *;show Ifc.apart IF_ _ zBK _=_;exact fin_)
def znb (n:Node) (key:Int):Option ((Peer × (List Peer) × Bool)):=
 (zjX n.list).bind fun res=>
 bif Ops.std.ieq (xlen zaf res) 0 then some (n.me,[],true) else
 bif Ops.std.ieq key n.me.id then some (n.me,[],true) else
 (zl6 n key res).bind fun r=>match r with
  | .inl (zav,za1,r3)=>
   some ((⟨zav,za1⟩:Peer),[],true)
  | .inr (t5,r3)=>
   some ((⟨0,0⟩:Peer),t5,false)
theorem zz3 {n key r} (h:znb n key=some r):zms n key=some r:=by
 unfold znb at h
 refine zar ?_
 obtain ⟨res,h1,h⟩:=zac h
 rcases zaa h with ⟨h2,h⟩ | ⟨h2,h⟩
 cases h;refine zab rfl ?_;rotate_left
 rcases zaa h with ⟨h3,h⟩ | ⟨h3,h⟩
 cases h;refine zab rfl ?_;rotate_left
 obtain ⟨r4,γ2,h4,h⟩:=zan h (gam [0,0,0,0])
 rcases r4 with ⟨zav,za1,r3⟩ | ⟨t5,r3⟩
 cases h;refine zab rfl ?_;rotate_left
 cases h;refine zab rfl ?_;rotate_left
 all_goals (dsimp only [K1,R3,zeE] at *;show zat IF_ (zHM zvg) _ _=_;generalize zvg=c0 at *;exact fin_)
end Go.Ab.Tryz
