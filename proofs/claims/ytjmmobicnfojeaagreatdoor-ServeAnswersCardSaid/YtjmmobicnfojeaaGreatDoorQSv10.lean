/- Our texts for this statement, merged: what its theorem leads to. -/
import Derived.Test.YtjmmobicnfojeaaGreatDoorQSv9
set_option linter.unusedVariables false
set_option linter.unusedSimpArgs false
noncomputable section
namespace Go.Ab.Tryz
open Go Go.Ab Go.Proofs
set_option maxRecDepth 10000
set_option maxHeartbeats 4000000
abbrev zf1:=(Bool × (List Entry) × (List Entry) × (List Finger) × (List Pair) × (List Pend) × (List Job) × (List Result))
def zct (n:Node) (m:Msg) (γ:Nat → Nat):zf1 → X × St
 | (a0,a1,a2,a3,a4,a5,a6,a7)=>(.ret,⟨bd 6 (vF a0 :: bd 44 []),[.box 34 (zau n),.box 37 [vI m.kind,vW m.rid,vB m.code,vF m.has,vU m.id,vT m.key,vT m.val,vU m.peer.id,vH m.peer.addr,.lit 25 false (List.map zaf m.peers),.lit 78 false (List.map zae m.pairs)],.row 81 (γ 2) true (List.map zag a1),.row 81 (γ 3) true (List.map zag a2),.row 84 (γ 4) true (List.map zaU a3),.row 78 (γ 5) true (List.map zae a4),.row 88 (γ 6) true (List.map zbe a5),.row 67 (γ 7) true (List.map eJob a6),.row 60 (γ 8) true (List.map za7 a7)]⟩)
instance {n m}:InjS (zct n m):=⟨fun γ γ' x y h=>by
 rcases x with ⟨a0,a1,a2,a3,a4,a5,a6,a7⟩ <;> rcases y with ⟨a0',a1',a2',a3',a4',a5',a6',a7'⟩ <;> simp only [zct] at h <;> exact inj_⟩
def zhh (n:Node) (from_:Int) (m:Msg):Option (zf1):=asks (fun γ=>(lim F pr).seg [6] b3_0 ⟨bd 1 (vH from_ :: bd 1 (.bptr 0 0 :: bd 1 (.bptr 1 0 :: bd 45 []))),[.box 34 (zau n),.box 37 [vI m.kind,vW m.rid,vB m.code,vF m.has,vU m.id,vT m.key,vT m.val,vU m.peer.id,vH m.peer.addr,.lit 25 false (List.map zaf m.peers),.lit 78 false (List.map zae m.pairs)]]⟩) (zct n m)
def zf2 (n:Node) (from_:Int) (m:Msg):Option (zf1):=
 (zhC n).bind fun ⟨zba,zaX,za8,za4,za6,za3,zaP,zaZ,zaV,za5,zaQ,zbj,za9,zaY⟩=>
 (zkd (⟨(⟨zba,zaX⟩:Peer),za8,za4,za6,za3,zaP,zaZ,zaV,za5,zaQ,zbj,za9,zaY⟩:Node) from_ m).bind fun ⟨r0,r1⟩=>
 (zqM n from_ m).bind fun ⟨r01,r11⟩=>
 (zqG r0 r01).bind fun res=>
 bif res then
  (zuQ r1 r11).bind fun res1=>
  bif res1 then
   (zqG (⟨(⟨zba,zaX⟩:Peer),za8,za4,za6,za3,zaP,zaZ,zaV,za5,zaQ,zbj,za9,zaY⟩:Node) n).bind fun res2=>
   bif res2 then
    (zdp).bind fun res3=>
    some (res3,za6,za3,zaP,zaZ,zaV,za5,zaQ)
   else
    some (false,za6,za3,zaP,zaZ,zaV,za5,zaQ)
  else
   some (false,za6,za3,zaP,zaZ,zaV,za5,zaQ)
 else
  some (false,za6,za3,zaP,zaZ,zaV,za5,zaQ)
theorem zpy {n from_ m r} (h:zf2 n from_ m=some r):zhh n from_ m=some r:=by
 unfold zf2 at h
 refine zaq fun γ=>?_
 obtain ⟨r1,h1,h⟩:=zac h
 rcases r1 with ⟨zba,zaX,za8,za4,za6,za3,zaP,zaZ,zaV,za5,zaQ,zbj,za9,zaY⟩
 obtain ⟨r2,h2,h⟩:=zac h
 rcases r2 with ⟨r0,r1⟩
 obtain ⟨r3,h3,h⟩:=zac h
 rcases r3 with ⟨r01,r11⟩
 obtain ⟨res,h4,h⟩:=zac h
 rcases zaa h with ⟨h5,h⟩ | ⟨h5,h⟩
 obtain ⟨res1,h6,h⟩:=zac h
 rcases zaa h with ⟨h7,h⟩ | ⟨h7,h⟩
 obtain ⟨res2,h8,h⟩:=zac h
 rcases zaa h with ⟨h9,h⟩ | ⟨h9,h⟩
 obtain ⟨res3,h10,h⟩:=zac h
 cases h;refine ⟨gam [0,0,0,0,0,0,0,0,0],zak ?_⟩;rotate_left
 cases h;refine ⟨gam [0,0,0,0,0,0,0,0,0],zak ?_⟩;rotate_left
 cases h;refine ⟨gam [0,0,0,0,0,0,0,0,0],zak ?_⟩;rotate_left
 cases h;refine ⟨gam [0,0,0,0,0,0,0,0,0],zak ?_⟩;rotate_left
 all_goals (dsimp only [R1,R2,zc9,zct] at *;show Ifc.apart IF_ _ zHv _=_;exact fin_)
def zia (n:Node) (from_:Int) (m:Msg):Option (Bool):=
 (znU n).bind fun res=>
 bif res then zdp else
 (znT m).bind fun res1=>
 bif res1 then zdp else
 (zhh n from_ m).bind fun ⟨t6,r2,r3,r4,r5,r6,r7,r8⟩=>
 some t6
theorem zs4 {n from_ m r} (h:zia n from_ m=some r):znl n from_ m=some r:=by
 unfold zia at h
 refine zar ?_
 obtain ⟨res,h1,h⟩:=zac h
 rcases zaa h with ⟨h2,h⟩ | ⟨h2,h⟩
 have h3:=ask_some h
 rcases r with res1
 refine zab rfl ?_;rotate_left
 obtain ⟨res1,h3,h⟩:=zac h
 rcases zaa h with ⟨h4,h⟩ | ⟨h4,h⟩
 have h5:=ask_some h
 rcases r with res2
 refine zab rfl ?_;rotate_left
 obtain ⟨r5,γ3,h5,h⟩:=zan h (gam [])
 rcases r5 with ⟨t6,r2,r3,r4,r5,r6,r7,r8⟩
 cases h;refine zab rfl ?_;rotate_left
 all_goals (dsimp only [R1,zct] at *;show zat IF_ (g3F b3_0) _ _=_;generalize b3_0=c0 at *;exact fin_)
def zcY (n:Node) (m:Msg) (γ:Nat → Nat):Bool → X × St
 | a0=>(.ret,⟨bd 6 (vF a0 :: bd 106 []),[.box 34 (zau n),.box 37 [vI m.kind,vW m.rid,vB m.code,vF m.has,vU m.id,vT m.key,vT m.val,vU m.peer.id,vH m.peer.addr,.lit 25 false (List.map zaf m.peers),.lit 78 false (List.map zae m.pairs)]]⟩)
instance {n m}:InjS (zcY n m):=⟨fun γ γ' x y h=>by
 rcases x with a0 <;> rcases y with a0' <;> simp only [zcY] at h <;> exact inj_⟩
def zmc (n:Node) (from_:Int) (m:Msg):Option (Bool):=asks (fun γ=>(lim F pr).seg [6] b9_2 ⟨bd 1 (vH from_ :: bd 1 (.bptr 0 0 :: bd 1 (.bptr 1 0 :: bd 107 []))),[.box 34 (zau n),.box 37 [vI m.kind,vW m.rid,vB m.code,vF m.has,vU m.id,vT m.key,vT m.val,vU m.peer.id,vH m.peer.addr,.lit 25 false (List.map zaf m.peers),.lit 78 false (List.map zae m.pairs)]]⟩) (zcY n m)
def zcX (n:Node) (m:Msg) (γ:Nat → Nat):(Bool × Node) → X × St
 | (a0,a1)=>(.ret,⟨bd 6 (vF a0 :: bd 106 []),[.box 34 (zau n),.box 37 [vI m.kind,vW m.rid,vB m.code,vF m.has,vU m.id,vT m.key,vT m.val,vU m.peer.id,vH m.peer.addr,.lit 25 false (List.map zaf m.peers),.lit 78 false (List.map zae m.pairs)],.box 34 (zau a1)]⟩)
instance {n m}:InjS (zcX n m):=⟨fun γ γ' x y h=>by
 rcases x with ⟨a0,a1⟩ <;> rcases y with ⟨a0',a1'⟩ <;> simp only [zcX] at h <;> exact inj_⟩
def ze6 (n:Node) (from_:Int) (m:Msg) (out:List Out) (b2:Node):Option ((Bool × Node)):=asks (fun γ=>(lim F pr).seg [6] b9_1 ⟨bd 1 (vH from_ :: bd 3 (.bptr 1 0 :: bd 2 (.lit 56 false (List.map eOut out) :: bd 104 []))),[.box 34 (zau n),.box 37 [vI m.kind,vW m.rid,vB m.code,vF m.has,vU m.id,vT m.key,vT m.val,vU m.peer.id,vH m.peer.addr,.lit 25 false (List.map zaf m.peers),.lit 78 false (List.map zae m.pairs)],.box 34 (zau b2)]⟩) (zcX n m)
def zcW (n:Node) (from_:Int) (m:Msg) (γ:Nat → Nat):Node ⊕ ((List Out) × Node) → X × St
 | .inl a0=>(.ret,⟨bd 6 (vF false :: bd 106 []),[.box 34 (zau n),.box 37 [vI m.kind,vW m.rid,vB m.code,vF m.has,vU m.id,vT m.key,vT m.val,vU m.peer.id,vH m.peer.addr,.lit 25 false (List.map zaf m.peers),.lit 78 false (List.map zae m.pairs)],.box 34 (zau a0)]⟩)
 | .inr (b0,b1)=>(.brk 0,⟨bd 1 (vH from_ :: bd 3 (.bptr 1 0 :: bd 2 (.lit 56 false (List.map eOut b0) :: bd 104 []))),[.box 34 (zau n),.box 37 [vI m.kind,vW m.rid,vB m.code,vF m.has,vU m.id,vT m.key,vT m.val,vU m.peer.id,vH m.peer.addr,.lit 25 false (List.map zaf m.peers),.lit 78 false (List.map zae m.pairs)],.box 34 (zau b1)]⟩)
instance {n from_ m}:InjS (zcW n from_ m):=⟨fun γ γ' x y h=>by
 rcases x with a0 | ⟨b0,b1⟩ <;> rcases y with a0' | ⟨b0',b1'⟩ <;> simp only [zcW] at h <;> exact inj_⟩
def zdF (n:Node) (from_:Int) (m:Msg) (out:List Out) (i:Int) (b2:Node):Option (Node ⊕ ((List Out) × Node)):=asks (fun γ=>(lim F pr).loop [9,1,5,8] 3 b9_0 ⟨bd 1 (vH from_ :: bd 3 (.bptr 1 0 :: bd 2 (.lit 56 false (List.map eOut out) :: vI i :: bd 103 []))),[.box 34 (zau n),.box 37 [vI m.kind,vW m.rid,vB m.code,vF m.has,vU m.id,vT m.key,vT m.val,vU m.peer.id,vH m.peer.addr,.lit 25 false (List.map zaf m.peers),.lit 78 false (List.map zae m.pairs)],.box 34 (zau b2)]⟩) (zcW n from_ m)
def zhj (n:Node) (from_:Int) (m:Msg):Option (Bool):=
 (zkd n from_ m).bind fun ⟨r0,r1⟩=>
 (zk6 n.me r0.list).bind fun res=>
 bif res then
  (zln r0.store).bind fun res1=>
  bif res1 then
   (ze6 n from_ m r1 r0).bind fun ⟨t6,b2⟩=>
   some t6
  else
   some false
 else
  some false
theorem zrD {n from_ m r} (h:zhj n from_ m=some r):zmc n from_ m=some r:=by
 unfold zhj at h
 refine zaq fun γ=>?_
 obtain ⟨r1,h1,h⟩:=zac h
 rcases r1 with ⟨r0,r1⟩
 obtain ⟨res,h2,h⟩:=zac h
 rcases zaa h with ⟨h3,h⟩ | ⟨h3,h⟩
 obtain ⟨res1,h4,h⟩:=zac h
 rcases zaa h with ⟨h5,h⟩ | ⟨h5,h⟩
 obtain ⟨r6,γ4,h6,h⟩:=zan h (gam [])
 rcases r6 with ⟨t6,b2⟩
 cases h;refine ⟨gam [],zak ?_⟩;rotate_left
 cases h;refine ⟨gam [],zak ?_⟩;rotate_left
 cases h;refine ⟨gam [],zak ?_⟩;rotate_left
 all_goals (dsimp only [R1,R2,zcX,zcY] at *;show Ifc.apart IF_ _ (zHy b9_1) _=_;generalize b9_1=c0 at *;exact fin_)
def zhi (n:Node) (from_:Int) (m:Msg) (out:List Out) (b2:Node):Option ((Bool × Node)):=
 (zdF n from_ m out 0 b2).bind fun r=>match r with
  | .inl b21=>
   some (false,b21)
  | .inr (out1,b21)=>
   (zqp m.kind).bind fun res=>
   bif res then
    bif Ops.std.ilt 0 (xlen eOut out1) then
     (xget eOut out1 0).bind fun x=>
     bif Ops.std.ieq x.to_.id 0 then
      bif Ops.std.ieq x.to_.addr from_ then
       bif Ops.std.ieq x.msg.rid m.rid then
        (zla m.kind x.msg.kind).bind fun res1=>
        bif res1 then
         (zdp).bind fun res2=>
         some (res2,b21)
        else
         some (false,b21)
       else
        some (false,b21)
      else
       some (false,b21)
     else
      some (false,b21)
    else
     some (false,b21)
   else
    bif Ops.std.ieq (xlen eOut out1) 0 then
     (zdp).bind fun res1=>
     some (res1,b21)
    else
     some (false,b21)
theorem zrC {n from_ m out b2 r} (h:zhi n from_ m out b2=some r):ze6 n from_ m out b2=some r:=by
 unfold zhi at h
 refine zaq fun γ=>?_
 obtain ⟨r1,γ1,h1,h⟩:=zan h (gam [])
 rcases r1 with b21 | ⟨out1,b21⟩
 cases h;refine ⟨gam [],zak ?_⟩;rotate_left
 obtain ⟨res,h2,h⟩:=zac h
 rcases zaa h with ⟨h3,h⟩ | ⟨h3,h⟩
 rcases zaa h with ⟨h4,h⟩ | ⟨h4,h⟩
 obtain ⟨x,h5,h⟩:=zac h
 rcases zaa h with ⟨h6,h⟩ | ⟨h6,h⟩
 rcases zaa h with ⟨h7,h⟩ | ⟨h7,h⟩
 rcases zaa h with ⟨h8,h⟩ | ⟨h8,h⟩
 obtain ⟨res1,h9,h⟩:=zac h
 rcases zaa h with ⟨h10,h⟩ | ⟨h10,h⟩
 obtain ⟨res2,h11,h⟩:=zac h
 cases h;refine ⟨gam [],zak ?_⟩;rotate_left
 cases h;refine ⟨gam [],zak ?_⟩;rotate_left
 cases h;refine ⟨gam [],zak ?_⟩;rotate_left
 cases h;refine ⟨gam [],zak ?_⟩;rotate_left
 cases h;refine ⟨gam [],zak ?_⟩;rotate_left
 cases h;refine ⟨gam [],zak ?_⟩;rotate_left
 rcases zaa h with ⟨h4,h⟩ | ⟨h4,h⟩
 obtain ⟨res1,h5,h⟩:=zac h
 cases h;refine ⟨gam [],zak ?_⟩;rotate_left
 cases h;refine ⟨gam [],zak ?_⟩;rotate_left
 all_goals (dsimp only [R1,zcW,zcX] at *;show Ifc.apart IF_ _ (zHx b9_0) _=_;generalize b9_0=c0 at *;exact fin_)
def zei (n:Node) (from_:Int) (m:Msg) (out:List Out) (i:Int) (b2:Node):Option (Node ⊕ ((List Out) × Node)):=
 bif Ops.std.ilt i (xlen eOut out) then
  (xget eOut out i).bind fun x=>
  (zsv x.msg).bind fun res=>
  bif Ops.std.ieq res 0 then zdF n from_ m out (Ops.std.iadd .i64 i 1) b2 else
  some (.inl b2)
 else
  some (.inr (out,b2))
theorem zkm {n from_ m out i b2 r} (h:zei n from_ m out i b2=some r):zdF n from_ m out i b2=some r:=by
 unfold zei at h
 refine zaq fun γ=>?_
 rcases zaa h with ⟨h1,h⟩ | ⟨h1,h⟩
 obtain ⟨x,h2,h⟩:=zac h
 obtain ⟨res,h3,h⟩:=zac h
 rcases zaa h with ⟨h4,h⟩ | ⟨h4,h⟩
 replace h:=zai h (gam []);obtain ⟨γ',h0⟩:=h;refine ⟨γ',zad ?_⟩;rotate_left
 cases h;refine ⟨gam [],zad ?_⟩;rotate_left
 cases h;refine ⟨gam [],zad ?_⟩;rotate_left
 all_goals (dsimp only [R1,zcW] at *;show zaH IF_ _ _ b9_0 zHw _=_;generalize b9_0=c0 at *;exact fin_)
def zjC (n:Node) (from_:Int) (m:Msg):Option (Bool):=
 (znU n).bind fun res=>
 bif res then zdp else
 (znT m).bind fun res1=>
 bif res1 then zdp else
 (zk6 n.me n.list).bind fun res2=>
 bif res2 then
  (zln n.store).bind fun res3=>
  bif res3 then
   (zr9 m).bind fun res4=>
   bif Ops.std.ieq res4 0 then zmc n from_ m else
   zdp
  else
   zdp
 else
  zdp
theorem zu4 {n from_ m r} (h:zjC n from_ m=some r):zpz n from_ m=some r:=by
 unfold zjC at h
 refine zar ?_
 obtain ⟨res,h1,h⟩:=zac h
 rcases zaa h with ⟨h2,h⟩ | ⟨h2,h⟩
 have h3:=ask_some h
 rcases r with res1
 refine zab rfl ?_;rotate_left
 obtain ⟨res1,h3,h⟩:=zac h
 rcases zaa h with ⟨h4,h⟩ | ⟨h4,h⟩
 have h5:=ask_some h
 rcases r with res2
 refine zab rfl ?_;rotate_left
 obtain ⟨res2,h5,h⟩:=zac h
 rcases zaa h with ⟨h6,h⟩ | ⟨h6,h⟩
 obtain ⟨res3,h7,h⟩:=zac h
 rcases zaa h with ⟨h8,h⟩ | ⟨h8,h⟩
 obtain ⟨res4,h9,h⟩:=zac h
 rcases zaa h with ⟨h10,h⟩ | ⟨h10,h⟩
 obtain ⟨γ6,h11⟩:=zai h (gam [])
 rcases r with t6
 refine zab rfl ?_;rotate_left
 have h11:=ask_some h
 rcases r with res5
 refine zab rfl ?_;rotate_left
 have h9:=ask_some h
 rcases r with res4
 refine zab rfl ?_;rotate_left
 have h7:=ask_some h
 rcases r with res3
 refine zab rfl ?_;rotate_left
 all_goals (dsimp only [R1,zcY] at *;show zat IF_ (g9F b9_2) _ _=_;generalize b9_2=c0 at *;exact fin_)
def zf0 (n:Node) (γ:Nat → Nat):Bool → X × St
 | a0=>(.ret,⟨bd 2 (vF a0 :: bd 91 []),[.box 34 (zau n)]⟩)
instance {n}:InjS (zf0 n):=⟨fun γ γ' x y h=>by
 rcases x with a0 <;> rcases y with a0' <;> simp only [zf0] at h <;> exact inj_⟩
def znk (n:Node):Option (Bool):=asks (fun γ=>(lim F pr).seg [2] zyl ⟨bd 1 (.bptr 0 0 :: bd 92 []),[.box 34 (zau n)]⟩) (zf0 n)
def zfY (n:Node) (γ:Nat → Nat):Unit ⊕ Unit → X × St
 | .inl ()=>(.ret,⟨bd 2 (vF true :: bd 91 []),[.box 34 (zau n)]⟩)
 | .inr ()=>(.brk 0,⟨bd 1 (.bptr 0 0 :: bd 92 []),[.box 34 (zau n)]⟩)
instance {n}:InjS (zfY n):=⟨fun γ γ' x y h=>by
 rcases x with _ | _ <;> rcases y with _ | _ <;> simp only [zfY] at h <;> exact inj_⟩
def zh8 (n:Node) (i:Int):Option (Unit ⊕ Unit):=asks (fun γ=>(lim F pr).loop [3,1] 1 ztb ⟨bd 1 (.bptr 0 0 :: bd 1 (vI i :: bd 90 [])),[.box 34 (zau n)]⟩) (zfY n)
def zfZ (n:Node) (γ:Nat → Nat):Unit ⊕ Unit → X × St
 | .inl ()=>(.ret,⟨bd 2 (vF true :: bd 91 []),[.box 34 (zau n)]⟩)
 | .inr ()=>(.brk 2,⟨bd 94 [],[.box 34 (zau n)]⟩)
instance {n}:InjS (zfZ n):=⟨fun γ γ' x y h=>by
 rcases x with _ | _ <;> rcases y with _ | _ <;> simp only [zfZ] at h <;> exact inj_⟩
def zh9 (n:Node) (i:Int):Option (Unit ⊕ Unit):=asks (fun γ=>(lim F pr).loop [1,4] 1 ztc ⟨bd 1 (.bptr 0 0 :: bd 2 (vI i :: bd 89 [])),[.box 34 (zau n)]⟩) (zfZ n)
def zkX (n:Node):Option (Bool):=
 (zh8 n 0).bind fun r=>match r with
  | .inl ()=>
   some true
  | .inr ()=>
   (zh9 n 0).bind fun r=>match r with
    | .inl ()=>
     some true
    | .inr ()=>
     some false
theorem zw1 {n r} (h:zkX n=some r):znk n=some r:=by
 unfold zkX at h
 refine zaq fun γ=>?_
 obtain ⟨r1,γ1,h1,h⟩:=zan h (gam [])
 rcases r1 with _ | _
 cases h;refine ⟨gam [],zak ?_⟩;rotate_left
 obtain ⟨r2,γ2,h2,h⟩:=zan h (gam [])
 rcases r2 with _ | _
 cases h;refine ⟨gam [],zak ?_⟩;rotate_left
 cases h;refine ⟨gam [],zak ?_⟩;rotate_left
 all_goals (dsimp only [zfY,zfZ,zf0] at *;show Ifc.apart IF_ _ (zD3 ztb ztc) _=_;generalize ztb=c0,ztc=c1 at *;exact fin_)
def ziv (n:Node) (i:Int):Option (Unit ⊕ Unit):=
 bif Ops.std.ilt i (xlen eJob n.jobs) then
  (xget eJob n.jobs i).bind fun x=>
  bif Ops.std.ilt 300 (Ops.std.slen x.key) then some (.inl ()) else
  bif Ops.std.ilt 700 (Ops.std.slen x.val) then some (.inl ()) else
  zh8 n (Ops.std.iadd .i64 i 1)
 else
  some (.inr ())
theorem zpw {n i r} (h:ziv n i=some r):zh8 n i=some r:=by
 unfold ziv at h
 refine zaq fun γ=>?_
 rcases zaa h with ⟨h1,h⟩ | ⟨h1,h⟩
 obtain ⟨x,h2,h⟩:=zac h
 rcases zaa h with ⟨h3,h⟩ | ⟨h3,h⟩
 cases h;refine ⟨gam [],zad ?_⟩;rotate_left
 rcases zaa h with ⟨h4,h⟩ | ⟨h4,h⟩
 cases h;refine ⟨gam [],zad ?_⟩;rotate_left
 replace h:=zai h (gam []);obtain ⟨γ',h0⟩:=h;refine ⟨γ',zad ?_⟩;rotate_left
 cases h;refine ⟨gam [],zad ?_⟩;rotate_left
 all_goals (dsimp only [zfY] at *;show zaH IF_ _ _ ztb zD1 _=_;generalize ztb=c0 at *;exact fin_)
def ziw (n:Node) (i:Int):Option (Unit ⊕ Unit):=
 bif Ops.std.ilt i (xlen za7 n.results) then
  (xget za7 n.results i).bind fun x=>
  bif Ops.std.ilt 300 (Ops.std.slen x.key) then some (.inl ()) else
  bif Ops.std.ilt 700 (Ops.std.slen x.val) then some (.inl ()) else
  zh9 n (Ops.std.iadd .i64 i 1)
 else
  some (.inr ())
theorem zpx {n i r} (h:ziw n i=some r):zh9 n i=some r:=by
 unfold ziw at h
 refine zaq fun γ=>?_
 rcases zaa h with ⟨h1,h⟩ | ⟨h1,h⟩
 obtain ⟨x,h2,h⟩:=zac h
 rcases zaa h with ⟨h3,h⟩ | ⟨h3,h⟩
 cases h;refine ⟨gam [],zad ?_⟩;rotate_left
 rcases zaa h with ⟨h4,h⟩ | ⟨h4,h⟩
 cases h;refine ⟨gam [],zad ?_⟩;rotate_left
 replace h:=zai h (gam []);obtain ⟨γ',h0⟩:=h;refine ⟨γ',zad ?_⟩;rotate_left
 cases h;refine ⟨gam [],zad ?_⟩;rotate_left
 all_goals (dsimp only [zfZ] at *;show zaH IF_ _ _ ztc zD2 _=_;generalize ztc=c0 at *;exact fin_)
def zlo (n:Node):Option (Bool):=
 bif Ops.std.ilt 5 (xlen zag n.pred) then some true else
 bif Ops.std.ilt 40 (xlen zag n.list) then some true else
 bif Ops.std.ilt 80 (xlen zaU n.fingers) then some true else
 bif Ops.std.ilt 100 (xlen zbe n.pends) then some true else
 bif Ops.std.ilt 20 (xlen eJob n.jobs) then some true else
 bif Ops.std.ilt 40 (xlen za7 n.results) then some true else
 (zs3 n.store).bind fun res=>
 bif res then some true else
 znk n
theorem zBA {n r} (h:zlo n=some r):znU n=some r:=by
 unfold zlo at h
 refine zar ?_
 rcases zaa h with ⟨h1,h⟩ | ⟨h1,h⟩
 cases h;refine zab rfl ?_;rotate_left
 rcases zaa h with ⟨h2,h⟩ | ⟨h2,h⟩
 cases h;refine zab rfl ?_;rotate_left
 rcases zaa h with ⟨h3,h⟩ | ⟨h3,h⟩
 cases h;refine zab rfl ?_;rotate_left
 rcases zaa h with ⟨h4,h⟩ | ⟨h4,h⟩
 cases h;refine zab rfl ?_;rotate_left
 rcases zaa h with ⟨h5,h⟩ | ⟨h5,h⟩
 cases h;refine zab rfl ?_;rotate_left
 rcases zaa h with ⟨h6,h⟩ | ⟨h6,h⟩
 cases h;refine zab rfl ?_;rotate_left
 obtain ⟨res,h7,h⟩:=zac h
 rcases zaa h with ⟨h8,h⟩ | ⟨h8,h⟩
 cases h;refine zab rfl ?_;rotate_left
 obtain ⟨γ2,h9⟩:=zai h (gam [])
 rcases r with t2
 refine zab rfl ?_;rotate_left
 all_goals (dsimp only [R1,zf0] at *;show zat IF_ (g11F zyl) _ _=_;generalize zyl=c0 at *;exact fin_)
def zfV (m:Msg) (γ:Nat → Nat):Unit ⊕ Unit → X × St
 | .inl ()=>(.ret,⟨bd 2 (vF true :: bd 48 []),[.box 37 [vI m.kind,vW m.rid,vB m.code,vF m.has,vU m.id,vT m.key,vT m.val,vU m.peer.id,vH m.peer.addr,.lit 25 false (List.map zaf m.peers),.lit 78 false (List.map zae m.pairs)]]⟩)
 | .inr ()=>(.brk 0,⟨bd 51 [],[.box 37 [vI m.kind,vW m.rid,vB m.code,vF m.has,vU m.id,vT m.key,vT m.val,vU m.peer.id,vH m.peer.addr,.lit 25 false (List.map zaf m.peers),.lit 78 false (List.map zae m.pairs)]]⟩)
instance {m}:InjS (zfV m):=⟨fun γ γ' x y h=>by
 rcases x with _ | _ <;> rcases y with _ | _ <;> simp only [zfV] at h <;> exact inj_⟩
def zh7 (m:Msg) (i:Int):Option (Unit ⊕ Unit):=asks (fun γ=>(lim F pr).loop [1,3] 1 ztd ⟨bd 1 (.bptr 0 0 :: bd 1 (vI i :: bd 47 [])),[.box 37 [vI m.kind,vW m.rid,vB m.code,vF m.has,vU m.id,vT m.key,vT m.val,vU m.peer.id,vH m.peer.addr,.lit 25 false (List.map zaf m.peers),.lit 78 false (List.map zae m.pairs)]]⟩) (zfV m)
def ziu (m:Msg) (i:Int):Option (Unit ⊕ Unit):=
 bif Ops.std.ilt i (xlen zae m.pairs) then
  (xget zae m.pairs i).bind fun x=>
  bif Ops.std.ilt 300 (Ops.std.slen x.key) then some (.inl ()) else
  bif Ops.std.ilt 700 (Ops.std.slen x.val) then some (.inl ()) else
  zh7 m (Ops.std.iadd .i64 i 1)
 else
  some (.inr ())
theorem zpv {m i r} (h:ziu m i=some r):zh7 m i=some r:=by
 unfold ziu at h
 refine zaq fun γ=>?_
 rcases zaa h with ⟨h1,h⟩ | ⟨h1,h⟩
 obtain ⟨x,h2,h⟩:=zac h
 rcases zaa h with ⟨h3,h⟩ | ⟨h3,h⟩
 cases h;refine ⟨gam [],zad ?_⟩;rotate_left
 rcases zaa h with ⟨h4,h⟩ | ⟨h4,h⟩
 cases h;refine ⟨gam [],zad ?_⟩;rotate_left
 replace h:=zai h (gam []);obtain ⟨γ',h0⟩:=h;refine ⟨γ',zad ?_⟩;rotate_left
 cases h;refine ⟨gam [],zad ?_⟩;rotate_left
 all_goals (dsimp only [zfV] at *;show zaH IF_ _ _ ztd zD4 _=_;generalize ztd=c0 at *;exact fin_)
def zoD (m:Msg):Option (Bool):=
 bif Ops.std.ilt 300 (Ops.std.slen m.key) then some true else
 bif Ops.std.ilt 700 (Ops.std.slen m.val) then some true else
 bif Ops.std.ilt 40 (xlen zaf m.peers) then some true else
 bif Ops.std.ilt 20 (xlen zae m.pairs) then some true else
 (zh7 m 0).bind fun r=>match r with
  | .inl ()=>
   some true
  | .inr ()=>
   some false
theorem zBy {m r} (h:zoD m=some r):znT m=some r:=by
 unfold zoD at h
 refine zar ?_
 rcases zaa h with ⟨h1,h⟩ | ⟨h1,h⟩
 cases h;refine zab rfl ?_;rotate_left
 rcases zaa h with ⟨h2,h⟩ | ⟨h2,h⟩
 cases h;refine zab rfl ?_;rotate_left
 rcases zaa h with ⟨h3,h⟩ | ⟨h3,h⟩
 cases h;refine zab rfl ?_;rotate_left
 rcases zaa h with ⟨h4,h⟩ | ⟨h4,h⟩
 cases h;refine zab rfl ?_;rotate_left
 obtain ⟨r5,γ1,h5,h⟩:=zan h (gam [])
 rcases r5 with _ | _
 cases h;refine zab rfl ?_;rotate_left
 cases h;refine zab rfl ?_;rotate_left
 all_goals (dsimp only [R1,zfV] at *;show zat IF_ (g12F ztd) _ _=_;generalize ztd=c0 at *;exact fin_)
def zn5 (n:Node):Option (zn4):=
 bif zaN zag 24 [] n.pred then
  bif zaN zag 24 [] n.list then
   bif zaN zaU 24 [] n.fingers then
    bif zaN zae 32 [] n.store then
     bif zaN zbe 56 [] n.pends then
      bif zaN eJob 128 [] n.jobs then
       bif zaN za7 64 [] n.results then
        some (n.me.id,n.me.addr,n.clock,n.joined,n.pred,n.list,n.fingers,n.store,n.pends,n.jobs,n.results,n.rid,n.jobID,n.nextBit)
       else
        none
      else
       none
     else
      none
    else
     none
   else
    none
  else
   none
 else
  none
theorem zAW {n r} (h:zn5 n=some r):zhC n=some r:=by
 unfold zn5 at h
 refine zar ?_
 obtain ⟨h1,h⟩:=zaw h
 obtain ⟨h2,h⟩:=zaw h
 obtain ⟨h3,h⟩:=zaw h
 obtain ⟨h4,h⟩:=zaw h
 obtain ⟨h5,h⟩:=zaw h
 obtain ⟨h6,h⟩:=zaw h
 obtain ⟨h7,h⟩:=zaw h
 cases h;refine zab rfl ?_;rotate_left
 all_goals (dsimp only [zc9] at *;show zat IF_ g14F _ _=_;exact fin_)
def zkR (n:Node) (from_:Int) (m:Msg):Option ((Node × (List Out))):=
 (zhC n).bind fun ⟨zba,zaX,za8,za4,za6,za3,zaP,zaZ,zaV,za5,zaQ,zbj,za9,zaY⟩=>
 (zuy m.kind).bind fun res=>
 bif res then
  bif Ops.std.ieq m.kind 1 then
   ziB (⟨(⟨zba,zaX⟩:Peer),za8,za4,za6,za3,zaP,zaZ,zaV,za5,zaQ,zbj,za9,zaY⟩:Node) from_ m []
  else
   bif Ops.std.ieq m.kind 3 then
    (zjx (⟨(⟨zba,zaX⟩:Peer),za8,za4,za6,za3,zaP,zaZ,zaV,za5,zaQ,zbj,za9,zaY⟩:Node) from_ m []).bind fun r1=>
    some ((⟨(⟨zba,zaX⟩:Peer),za8,za4,za6,za3,zaP,zaZ,zaV,za5,zaQ,zbj,za9,zaY⟩:Node),r1)
   else
    bif Ops.std.ieq m.kind 5 then
     ziE (⟨(⟨zba,zaX⟩:Peer),za8,za4,za6,za3,zaP,zaZ,zaV,za5,zaQ,zbj,za9,zaY⟩:Node) from_ m []
    else
     bif Ops.std.ieq m.kind 7 then
      zjz (⟨(⟨zba,zaX⟩:Peer),za8,za4,za6,za3,zaP,zaZ,zaV,za5,zaQ,zbj,za9,zaY⟩:Node) from_ m []
     else
      bif Ops.std.ieq m.kind 8 then
       zjy (⟨(⟨zba,zaX⟩:Peer),za8,za4,za6,za3,zaP,zaZ,zaV,za5,zaQ,zbj,za9,zaY⟩:Node) from_ m []
      else
       bif Ops.std.ieq m.kind 10 then
        (ziD (⟨(⟨zba,zaX⟩:Peer),za8,za4,za6,za3,zaP,zaZ,zaV,za5,zaQ,zbj,za9,zaY⟩:Node) from_ m []).bind fun ⟨b0_n,b0_m,r1⟩=>
        some (b0_n,r1)
       else
        (zcG (⟨(⟨zba,zaX⟩:Peer),za8,za4,za6,za3,zaP,zaZ,zaV,za5,zaQ,zbj,za9,zaY⟩:Node) from_ m []).bind fun r1=>
        some ((⟨(⟨zba,zaX⟩:Peer),za8,za4,za6,za3,zaP,zaZ,zaV,za5,zaQ,zbj,za9,zaY⟩:Node),r1)
 else
  some ((⟨(⟨zba,zaX⟩:Peer),za8,za4,za6,za3,zaP,zaZ,zaV,za5,zaQ,zbj,za9,zaY⟩:Node),[])
theorem zwT {n from_ m r} (h:zkR n from_ m=some r):zkd n from_ m=some r:=by
 unfold zkR at h
 refine zar ?_
 obtain ⟨r1,h1,h⟩:=zac h
 rcases r1 with ⟨zba,zaX,za8,za4,za6,za3,zaP,zaZ,zaV,za5,zaQ,zbj,za9,zaY⟩
 obtain ⟨res,h2,h⟩:=zac h
 rcases zaa h with ⟨h3,h⟩ | ⟨h3,h⟩
 rcases zaa h with ⟨h4,h⟩ | ⟨h4,h⟩
 obtain ⟨γ3,h5⟩:=zai h (gam [0,0])
 rcases r with ⟨b0_n,r1⟩
 refine zab rfl ?_;rotate_left
 rcases zaa h with ⟨h5,h⟩ | ⟨h5,h⟩
 obtain ⟨r1,γ3,h6,h⟩:=zan h (gam [0,0])
 cases h;refine zab rfl ?_;rotate_left
 rcases zaa h with ⟨h6,h⟩ | ⟨h6,h⟩
 obtain ⟨γ3,h7⟩:=zai h (gam [0,0])
 rcases r with ⟨b0_n,r1⟩
 refine zab rfl ?_;rotate_left
 rcases zaa h with ⟨h7,h⟩ | ⟨h7,h⟩
 obtain ⟨γ3,h8⟩:=zai h (gam [0,0])
 rcases r with ⟨b0_n,r1⟩
 refine zab rfl ?_;rotate_left
 rcases zaa h with ⟨h8,h⟩ | ⟨h8,h⟩
 obtain ⟨γ3,h9⟩:=zai h (gam [0,0])
 rcases r with ⟨b0_n,r1⟩
 refine zab rfl ?_;rotate_left
 rcases zaa h with ⟨h9,h⟩ | ⟨h9,h⟩
 obtain ⟨r10,γ3,h10,h⟩:=zan h (gam [0,0])
 rcases r10 with ⟨b0_n,b0_m,r1⟩
 cases h;refine zab rfl ?_;rotate_left
 obtain ⟨r1,γ3,h10,h⟩:=zan h (gam [0,0])
 cases h;refine zab rfl ?_;rotate_left
 cases h;refine zab rfl ?_;rotate_left
 all_goals (dsimp only [R1,R2,zc9,zdm,zcS,zdn,zcU,zcV,zbz,zdo] at *;show zat IF_ g15F _ _=_;exact fin_)
abbrev zhn:=(Node × Node × (List Out) × Int × Int × (List Out)) ⊕ ((Node × Node × (List Out) × (List Peer) × Bool × Int × Int × (List Out)) ⊕ ((Node × Node × (List Out) × (List Peer) × Bool × Int × Int × (List Out)) ⊕ ((Node × Node × (List Out)) ⊕ ((Node × Node × (List Out) × (List Out)) ⊕ (Node × Node × (List Out) × Node × (List Out))))))
def zeD (m:Msg) (γ:Nat → Nat):zhn → X × St
 | .inl (a0,a1,a2,a3,a4,a5)=>(.ret,⟨bd 6 (.bptr 2 0 :: .sl 6 ((γ 6)) :: bd 177 []),[.box 34 (zau a0),.box 37 [vI m.kind,vW m.rid,vB m.code,vF m.has,vU m.id,vT m.key,vT m.val,vU m.peer.id,vH m.peer.addr,.lit 25 false (List.map zaf m.peers),.lit 78 false (List.map zae m.pairs)],.box 34 (zau a1),.row 56 (γ 3) false (List.map eOut []),.row 56 (γ 4) false (List.map eOut a2),.box 25 [vU a3,vH a4],.row 56 (γ 6) false (List.map eOut a5)]⟩)
 | .inr (.inl (b0,b1,b2,b3,b4,b5,b6,b7))=>(.ret,⟨bd 6 (.bptr 2 0 :: .sl 7 ((γ 7)) :: bd 177 []),[.box 34 (zau b0),.box 37 [vI m.kind,vW m.rid,vB m.code,vF m.has,vU m.id,vT m.key,vT m.val,vU m.peer.id,vH m.peer.addr,.lit 25 false (List.map zaf m.peers),.lit 78 false (List.map zae m.pairs)],.box 34 (zau b1),.row 56 (γ 3) false (List.map eOut []),.row 56 (γ 4) false (List.map eOut b2),.row 25 (γ 5) true (List.map zaf b3),.box 37 ([vI 4,vW 0,vB 0,vF b4,vU 0,vT ⟨#[]⟩,vT ⟨#[]⟩,vU b5,vH b6,.sub 5 ((γ 5)) (0) (16),.lit 0 true []]),.row 56 (γ 7) false (List.map eOut b7)]⟩)
 | .inr (.inr (.inl (c0,c1,c2,c3,c4,c5,c6,c7)))=>(.ret,⟨bd 6 (.bptr 2 0 :: .sl 7 ((γ 7)) :: bd 177 []),[.box 34 (zau c0),.box 37 [vI m.kind,vW m.rid,vB m.code,vF m.has,vU m.id,vT m.key,vT m.val,vU m.peer.id,vH m.peer.addr,.lit 25 false (List.map zaf m.peers),.lit 78 false (List.map zae m.pairs)],.box 34 (zau c1),.row 56 (γ 3) false (List.map eOut []),.row 56 (γ 4) false (List.map eOut c2),.row 25 (γ 5) true (List.map zaf c3),.box 37 ([vI 4,vW 0,vB 0,vF c4,vU 0,vT ⟨#[]⟩,vT ⟨#[]⟩,vU c5,vH c6,.sl 5 ((γ 5)),.lit 0 true []]),.row 56 (γ 7) false (List.map eOut c7)]⟩)
 | .inr (.inr (.inr (.inl (d0,d1,d2))))=>(.ret,⟨bd 6 (.bptr 2 0 :: .sl 4 ((γ 4)) :: bd 177 []),[.box 34 (zau d0),.box 37 [vI m.kind,vW m.rid,vB m.code,vF m.has,vU m.id,vT m.key,vT m.val,vU m.peer.id,vH m.peer.addr,.lit 25 false (List.map zaf m.peers),.lit 78 false (List.map zae m.pairs)],.box 34 (zau d1),.row 56 (γ 3) false (List.map eOut []),.row 56 (γ 4) false (List.map eOut d2)]⟩)
 | .inr (.inr (.inr (.inr (.inl (e0,e1,e2,e3)))))=>(.ret,⟨bd 6 (.bptr 2 0 :: .sl 5 ((γ 5)) :: bd 177 []),[.box 34 (zau e0),.box 37 [vI m.kind,vW m.rid,vB m.code,vF m.has,vU m.id,vT m.key,vT m.val,vU m.peer.id,vH m.peer.addr,.lit 25 false (List.map zaf m.peers),.lit 78 false (List.map zae m.pairs)],.box 34 (zau e1),.row 56 (γ 3) false (List.map eOut []),.row 56 (γ 4) false (List.map eOut e2),.row 56 (γ 5) false (List.map eOut e3)]⟩)
 | .inr (.inr (.inr (.inr (.inr (f0,f1,f2,f3,f4)))))=>(.ret,⟨bd 6 (.bptr 2 0 :: .sl 6 ((γ 6)) :: bd 177 []),[.box 34 (zau f0),.box 37 [vI m.kind,vW m.rid,vB m.code,vF m.has,vU m.id,vT m.key,vT m.val,vU m.peer.id,vH m.peer.addr,.lit 25 false (List.map zaf m.peers),.lit 78 false (List.map zae m.pairs)],.box 34 (zau f1),.row 56 (γ 3) false (List.map eOut []),.row 56 (γ 4) false (List.map eOut f2),.box 34 (zau f3),.row 56 (γ 6) false (List.map eOut f4)]⟩)
instance {m}:InjS (zeD m):=⟨fun γ γ' x y h=>by
 rcases x with ⟨a0,a1,a2,a3,a4,a5⟩ | ⟨b0,b1,b2,b3,b4,b5,b6,b7⟩ | ⟨c0,c1,c2,c3,c4,c5,c6,c7⟩ | ⟨d0,d1,d2⟩ | ⟨e0,e1,e2,e3⟩ | ⟨f0,f1,f2,f3,f4⟩ <;> rcases y with ⟨a0',a1',a2',a3',a4',a5'⟩ | ⟨b0',b1',b2',b3',b4',b5',b6',b7'⟩ | ⟨c0',c1',c2',c3',c4',c5',c6',c7'⟩ | ⟨d0',d1',d2'⟩ | ⟨e0',e1',e2',e3'⟩ | ⟨f0',f1',f2',f3',f4'⟩ <;> simp only [zeD] at h <;> exact inj_⟩
def zja (from_:Int) (m:Msg) (b0:Node) (r4:List Out):Option (zhn):=asks (fun γ=>(lim F pr).seg [6,7] zym ⟨bd 1 (vH from_ :: bd 1 (.bptr 0 0 :: bd 1 (.bptr 1 0 :: .bptr 2 0 :: bd 1 (.sl 4 ((γ 4)) :: bd 176 [])))),[.box 34 (zau b0),.box 37 [vI m.kind,vW m.rid,vB m.code,vF m.has,vU m.id,vT m.key,vT m.val,vU m.peer.id,vH m.peer.addr,.lit 25 false (List.map zaf m.peers),.lit 78 false (List.map zae m.pairs)],.box 34 ([vU 0,vH 0,vI 0,vF false,.lit 0 true [],.lit 0 true [],.lit 0 true [],.lit 0 true [],.lit 0 true [],.lit 0 true [],.lit 0 true [],vW 0,vI 0,vI 0]),.row 56 (γ 3) false (List.map eOut []),.row 56 (γ 4) false (List.map eOut r4)]⟩) (zeD m)
def zho (from_:Int) (m:Msg) (b0:Node) (r4:List Out):Option (zhn):=
 bif Ops.std.ieq m.kind 1 then
  (zqK b0 m.id).bind fun ⟨r0,r1,r2⟩=>
  bif r2 then
   (zc2 from_ m.rid (⟨2,0,0,true,0,⟨#[]⟩,⟨#[]⟩,(⟨0,0⟩:Peer),[r0],[]⟩:Msg)).bind fun res=>
   some (.inl (b0,b0,r4,r0.id,r0.addr,res))
  else
   (zc2 from_ m.rid (⟨2,0,0,false,0,⟨#[]⟩,⟨#[]⟩,(⟨0,0⟩:Peer),r1,[]⟩:Msg)).bind fun res=>
   some (.inl (b0,b0,r4,r0.id,r0.addr,res))
 else
  bif Ops.std.ieq m.kind 3 then
   (zwL b0.list).bind fun res=>
   bif Ops.std.ilt 16 (xlen zaf res) then
    (xsub zaf res 0 16).bind fun ys=>
    bif Ops.std.ilt 0 (xlen zag b0.pred) then
     (xget zag b0.pred 0).bind fun x=>
     (zc2 from_ m.rid (⟨4,0,0,true,0,⟨#[]⟩,⟨#[]⟩,x.peer,ys,[]⟩:Msg)).bind fun res1=>
     some (.inr (.inl (b0,b0,r4,res,true,x.peer.id,x.peer.addr,res1)))
    else
     (zc2 from_ m.rid (⟨4,0,0,false,0,⟨#[]⟩,⟨#[]⟩,(⟨0,0⟩:Peer),ys,[]⟩:Msg)).bind fun res1=>
     some (.inr (.inl (b0,b0,r4,res,false,0,0,res1)))
   else
    bif Ops.std.ilt 0 (xlen zag b0.pred) then
     (xget zag b0.pred 0).bind fun x=>
     (zc2 from_ m.rid (⟨4,0,0,true,0,⟨#[]⟩,⟨#[]⟩,x.peer,res,[]⟩:Msg)).bind fun res1=>
     some (.inr (.inr (.inl (b0,b0,r4,res,true,x.peer.id,x.peer.addr,res1))))
    else
     (zc2 from_ m.rid (⟨4,0,0,false,0,⟨#[]⟩,⟨#[]⟩,(⟨0,0⟩:Peer),res,[]⟩:Msg)).bind fun res1=>
     some (.inr (.inr (.inl (b0,b0,r4,res,false,0,0,res1))))
  else
   bif Ops.std.ieq m.kind 5 then
    (zuV b0 from_ m.peer).bind fun ⟨r0,r1⟩=>
    bif zaN eOut 136 r4 r1 then some (.inr (.inr (.inr (.inl (b0,r0,(r4 ++ r1)))))) else
    none
   else
    bif Ops.std.ieq m.kind 10 then
     (zuU b0.store m.pairs m.has).bind fun res=>
     some (.inr (.inr (.inr (.inl ((⟨b0.me,b0.clock,b0.joined,b0.pred,b0.list,b0.fingers,res,b0.pends,b0.jobs,b0.results,b0.rid,b0.jobID,b0.nextBit⟩:Node),(⟨b0.me,b0.clock,b0.joined,b0.pred,b0.list,b0.fingers,res,b0.pends,b0.jobs,b0.results,b0.rid,b0.jobID,b0.nextBit⟩:Node),r4)))))
    else
     bif Ops.std.ieq m.kind 11 then some (.inr (.inr (.inr (.inl (b0,b0,r4))))) else
     (zoq b0 m.key).bind fun res=>
     bif Ops.std.ieq res 0 then
      bif Ops.std.ieq m.kind 8 then
       (zwM b0.store m.key).bind fun ⟨r0,r1⟩=>
       (zc2 from_ m.rid (⟨9,0,0,r1,0,⟨#[]⟩,r0,(⟨0,0⟩:Peer),[],[]⟩:Msg)).bind fun res1=>
       some (.inr (.inr (.inr (.inr (.inl (b0,b0,r4,res1))))))
      else
       (zuT b0 m.key m.val).bind fun ⟨r0,r1,r2⟩=>
       bif Ops.std.ieq r2 0 then
        bif zaN eOut 136 r4 r1 then some (.inr (.inr (.inr (.inl (b0,r0,(r4 ++ r1)))))) else
        none
       else
        (zc2 from_ m.rid (⟨12,0,Ops.std.iwrap .u8 r2,false,0,⟨#[]⟩,⟨#[]⟩,(⟨0,0⟩:Peer),[],[]⟩:Msg)).bind fun res1=>
        some (.inr (.inr (.inr (.inr (.inr (b0,b0,r4,r0,res1))))))
     else
      (zc2 from_ m.rid (⟨12,0,Ops.std.iwrap .u8 res,false,0,⟨#[]⟩,⟨#[]⟩,(⟨0,0⟩:Peer),[],[]⟩:Msg)).bind fun res1=>
      some (.inr (.inr (.inr (.inr (.inl (b0,b0,r4,res1))))))
theorem zv0 {from_ m b0 r4 r} (h:zho from_ m b0 r4=some r):zja from_ m b0 r4=some r:=by
 unfold zho at h
 refine zaq fun γ=>?_
 rcases zaa h with ⟨h1,h⟩ | ⟨h1,h⟩
 obtain ⟨r2,h2,h⟩:=zac h
 rcases r2 with ⟨r0,r1,r2⟩
 rcases zaa h with ⟨h3,h⟩ | ⟨h3,h⟩
 obtain ⟨res,h4,h⟩:=zac h
 cases h;refine ⟨gam [0,0,0,(γ 3),(γ 4),0,0],zak ?_⟩;rotate_left
 obtain ⟨res,h4,h⟩:=zac h
 cases h;refine ⟨gam [0,0,0,(γ 3),(γ 4),0,0],zak ?_⟩;rotate_left
 rcases zaa h with ⟨h2,h⟩ | ⟨h2,h⟩
 obtain ⟨res,h3,h⟩:=zac h
 rcases zaa h with ⟨h4,h⟩ | ⟨h4,h⟩
 obtain ⟨ys,h5,h⟩:=zac h
 rcases zaa h with ⟨h6,h⟩ | ⟨h6,h⟩
 obtain ⟨x,h7,h⟩:=zac h
 obtain ⟨res1,h8,h⟩:=zac h
 cases h;refine ⟨gam [0,0,0,(γ 3),(γ 4),0,0,0],zak ?_⟩;rotate_left
 obtain ⟨res1,h7,h⟩:=zac h
 cases h;refine ⟨gam [0,0,0,(γ 3),(γ 4),0,0,0],zak ?_⟩;rotate_left
 rcases zaa h with ⟨h5,h⟩ | ⟨h5,h⟩
 obtain ⟨x,h6,h⟩:=zac h
 obtain ⟨res1,h7,h⟩:=zac h
 cases h;refine ⟨gam [0,0,0,(γ 3),(γ 4),0,0,0],zak ?_⟩;rotate_left
 obtain ⟨res1,h6,h⟩:=zac h
 cases h;refine ⟨gam [0,0,0,(γ 3),(γ 4),0,0,0],zak ?_⟩;rotate_left
 rcases zaa h with ⟨h3,h⟩ | ⟨h3,h⟩
 obtain ⟨r4,h4,h⟩:=zac h
 rcases r4 with ⟨r0,r1⟩
 obtain ⟨h5,h⟩:=zaw h
 cases h;refine ⟨gam [0,0,0,(γ 3),((γ 4) + 1)],zak ?_⟩;rotate_left
 rcases zaa h with ⟨h4,h⟩ | ⟨h4,h⟩
 obtain ⟨res,h5,h⟩:=zac h
 cases h;refine ⟨gam [0,0,0,(γ 3),(γ 4)],zak ?_⟩;rotate_left
 rcases zaa h with ⟨h5,h⟩ | ⟨h5,h⟩
 cases h;refine ⟨gam [0,0,0,(γ 3),(γ 4)],zak ?_⟩;rotate_left
 obtain ⟨res,h6,h⟩:=zac h
 rcases zaa h with ⟨h7,h⟩ | ⟨h7,h⟩
 rcases zaa h with ⟨h8,h⟩ | ⟨h8,h⟩
 obtain ⟨r9,h9,h⟩:=zac h
 rcases r9 with ⟨r0,r1⟩
 obtain ⟨res1,h10,h⟩:=zac h
 cases h;refine ⟨gam [0,0,0,(γ 3),(γ 4),0],zak ?_⟩;rotate_left
 obtain ⟨r9,h9,h⟩:=zac h
 rcases r9 with ⟨r0,r1,r2⟩
 rcases zaa h with ⟨h10,h⟩ | ⟨h10,h⟩
 obtain ⟨h11,h⟩:=zaw h
 cases h;refine ⟨gam [0,0,0,(γ 3),((γ 4) + 1)],zak ?_⟩;rotate_left
 obtain ⟨res1,h11,h⟩:=zac h
 cases h;refine ⟨gam [0,0,0,(γ 3),(γ 4),0,0],zak ?_⟩;rotate_left
 obtain ⟨res1,h8,h⟩:=zac h
 cases h;refine ⟨gam [0,0,0,(γ 3),(γ 4),0],zak ?_⟩;rotate_left
 all_goals (dsimp only [K1,R1,R2,R3,zeD] at *;show Ifc.apart IF_ _ zD5 _=_;exact fin_)
def zm7 (n:Node) (from_:Int) (m:Msg):Option ((Node × (List Out))):=
 (zqp m.kind).bind fun res=>
 bif res then
  (zc2 from_ m.rid (⟨6,0,0,false,0,⟨#[]⟩,⟨#[]⟩,(⟨0,0⟩:Peer),[],[]⟩:Msg)).bind fun res1=>
  bif Ops.std.ieq m.kind 1 then
   bif n.joined then
    (zja from_ m (⟨n.me,n.clock,true,n.pred,n.list,n.fingers,n.store,n.pends,n.jobs,n.results,n.rid,n.jobID,n.nextBit⟩:Node) res1).bind fun r=>match r with
     | .inl (b0,b2,r4,zCM,zwi,r6)=>
      some (b2,r6)
     | .inr (.inl (b0,b2,r4,r5,zmK,zf9,zdX,r7))=>
      some (b2,r7)
     | .inr (.inr (.inl (b0,b2,r4,r5,zmK,zf9,zdX,r7)))=>
      some (b2,r7)
     | .inr (.inr (.inr (.inl (b0,b2,r4))))=>
      some (b2,r4)
     | .inr (.inr (.inr (.inr (.inl (b0,b2,r4,r5)))))=>
      some (b2,r5)
     | .inr (.inr (.inr (.inr (.inr (b0,b2,r4,b5,r6)))))=>
      some (b2,r6)
   else
    (zc2 from_ m.rid (⟨12,0,17,false,0,⟨#[]⟩,⟨#[]⟩,(⟨0,0⟩:Peer),[],[]⟩:Msg)).bind fun res2=>
    some ((⟨n.me,n.clock,false,n.pred,n.list,n.fingers,n.store,n.pends,n.jobs,n.results,n.rid,n.jobID,n.nextBit⟩:Node),res2)
  else
   (zja from_ m n res1).bind fun r=>match r with
    | .inl (b0,b2,r4,zCM,zwi,r6)=>
     some (b2,r6)
    | .inr (.inl (b0,b2,r4,r5,zmK,zf9,zdX,r7))=>
     some (b2,r7)
    | .inr (.inr (.inl (b0,b2,r4,r5,zmK,zf9,zdX,r7)))=>
     some (b2,r7)
    | .inr (.inr (.inr (.inl (b0,b2,r4))))=>
     some (b2,r4)
    | .inr (.inr (.inr (.inr (.inl (b0,b2,r4,r5)))))=>
     some (b2,r5)
    | .inr (.inr (.inr (.inr (.inr (b0,b2,r4,b5,r6)))))=>
     some (b2,r6)
 else
  some (n,[])
theorem zzX {n from_ m r} (h:zm7 n from_ m=some r):zqM n from_ m=some r:=by
 unfold zm7 at h
 refine zar ?_
 obtain ⟨res,h1,h⟩:=zac h
 rcases zaa h with ⟨h2,h⟩ | ⟨h2,h⟩
 obtain ⟨res1,h3,h⟩:=zac h
 rcases zaa h with ⟨h4,h⟩ | ⟨h4,h⟩
 rcases zaa h with ⟨h5,h⟩ | ⟨h5,h⟩
 obtain ⟨r6,γ3,h6,h⟩:=zan h (gam [0,0,0,0,0])
 rcases r6 with ⟨b0,b2,r4,zCM,zwi,r6⟩ | ⟨b0,b2,r4,r5,zmK,zf9,zdX,r7⟩ | ⟨b0,b2,r4,r5,zmK,zf9,zdX,r7⟩ | ⟨b0,b2,r4⟩ | ⟨b0,b2,r4,r5⟩ | ⟨b0,b2,r4,b5,r6⟩
 cases h;refine zab rfl ?_;rotate_left
 cases h;refine zab rfl ?_;rotate_left
 cases h;refine zab rfl ?_;rotate_left
 cases h;refine zab rfl ?_;rotate_left
 cases h;refine zab rfl ?_;rotate_left
 cases h;refine zab rfl ?_;rotate_left
 obtain ⟨res2,h6,h⟩:=zac h
 cases h;refine zab rfl ?_;rotate_left
 obtain ⟨r5,γ3,h5,h⟩:=zan h (gam [0,0,0,0,0])
 rcases r5 with ⟨b0,b2,r4,zCM,zwi,r6⟩ | ⟨b0,b2,r4,r5,zmK,zf9,zdX,r7⟩ | ⟨b0,b2,r4,r5,zmK,zf9,zdX,r7⟩ | ⟨b0,b2,r4⟩ | ⟨b0,b2,r4,r5⟩ | ⟨b0,b2,r4,b5,r6⟩
 cases h;refine zab rfl ?_;rotate_left
 cases h;refine zab rfl ?_;rotate_left
 cases h;refine zab rfl ?_;rotate_left
 cases h;refine zab rfl ?_;rotate_left
 cases h;refine zab rfl ?_;rotate_left
 cases h;refine zab rfl ?_;rotate_left
 cases h;refine zab rfl ?_;rotate_left
 all_goals (dsimp only [K1,R1,R2,zeD] at *;show zat IF_ (g16F zym) _ _=_;generalize zym=c0 at *;(try dsimp only [zaf,zag,zaU,zae,zbe,eJob,za7,zbc,eMsg,eOut,zbw,zbm,zau,cMsg,capp] at *);(try simp only [List.map_cons,List.map_nil] at *);(try generalize n.joined=q0 at *);exact fin_)
end Go.Ab.Tryz
