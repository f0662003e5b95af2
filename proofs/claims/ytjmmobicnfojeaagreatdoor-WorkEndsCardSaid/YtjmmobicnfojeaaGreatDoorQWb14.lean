/- Our texts for this statement, merged: what its theorem leads to. -/
import Derived.Test.YtjmmobicnfojeaaGreatDoorQWb9
set_option linter.unusedVariables false
set_option linter.unusedSimpArgs false
noncomputable section
namespace Go.Ab.Tryz
open Go Go.Ab Go.Proofs
set_option maxRecDepth 10000
set_option maxHeartbeats 4000000
def zqa (m:Msg):Option (Msg):=
 bif zaV zai 16 [] m.peers then
  bif zaV zan 32 [] m.pairs then some m else
  none
 else
  none
theorem zCZ {m r} (h:zqa m=some r):zuu m=some r:=by
 unfold zqa at h
 refine zau ?_
 obtain ⟨h1,h⟩:=zaH h
 obtain ⟨h2,h⟩:=zaH h
 cases h;refine zab rfl ?_;rotate_left
 all_goals (dsimp only [R1] at *;show zas IF_ zHM _ _=_;exact fin_)
def zqj (n:Node):Option (Int):=
 bif Ops.std.ilt n.clock 0 then some 0 else
 bif Ops.std.ilt 1099511627776 n.clock then some 0 else
 some n.clock
theorem zC3 {n r} (h:zqj n=some r):zqi n=some r:=by
 unfold zqj at h
 refine zau ?_
 rcases zaa h with ⟨h1,h⟩ | ⟨h1,h⟩
 cases h;refine zab rfl ?_;rotate_left
 rcases zaa h with ⟨h2,h⟩ | ⟨h2,h⟩
 cases h;refine zab rfl ?_;rotate_left
 cases h;refine zab rfl ?_;rotate_left
 all_goals (dsimp only [R1] at *;show zas IF_ zHN _ _=_;exact fin_)
def zmQ (l:List Entry):Option ((List Peer)):=
 zsi l
theorem zzo {l r} (h:zmQ l=some r):zjK l=some r:=by
 unfold zmQ at h
 refine zau ?_
 have h1:=ask_some h
 rcases r with res
 refine zab rfl ?_;rotate_left
 all_goals (dsimp only [K1] at *;show zas IF_ g76F _ _=_;exact fin_)
def zoJ (a:Int) (x:Int) (b:Int):Option (Bool):=
 bif Ops.std.ieq a b then some true else
 bif Ops.std.ieq x b then some true else
 zhG a x b
theorem zAZ {a x b r} (h:zoJ a x b=some r):zjA a x b=some r:=by
 unfold zoJ at h
 refine zau ?_
 rcases zaa h with ⟨h1,h⟩ | ⟨h1,h⟩
 cases h;refine zab rfl ?_;rotate_left
 rcases zaa h with ⟨h2,h⟩ | ⟨h2,h⟩
 cases h;refine zab rfl ?_;rotate_left
 have h3:=ask_some h
 rcases r with res
 refine zab rfl ?_;rotate_left
 all_goals (dsimp only [R1] at *;show zas IF_ zIb _ _=_;exact fin_)
def zkP (n:Node) (key:Int):Option (Bool):=
 bif Ops.std.ilt 0 (xlen zat n.pred) then
  (xget zat n.pred 0).bind fun x=>
  bif Ops.std.ile x.misses 0 then zjA x.peer.id key n.me.id else
  some false
 else
  some false
theorem zwT {n key r} (h:zkP n key=some r):zm6 n key=some r:=by
 unfold zkP at h
 refine zau ?_
 rcases zaa h with ⟨h1,h⟩ | ⟨h1,h⟩
 obtain ⟨x,h2,h⟩:=zac h
 rcases zaa h with ⟨h3,h⟩ | ⟨h3,h⟩
 have h4:=ask_some h
 rcases r with res
 refine zab rfl ?_;rotate_left
 cases h;refine zab rfl ?_;rotate_left
 cases h;refine zab rfl ?_;rotate_left
 all_goals (dsimp only [R1] at *;show zas IF_ zIc _ _=_;exact fin_)
def zek (me:Peer) (key:Int) (most:Int) (γ:Nat → Nat):(List Peer) → X × St
 | a0=>(.brk 0,⟨bd 3 (vU key :: vI most :: .bptr 0 0 :: bd 5 (.sl 2 ((γ 2)) :: bd 63 [])),[.box 25 [vU me.id,vH me.addr],.row 25 (γ 1) false (List.map zai []),.row 25 (γ 2) false (List.map zai a0)]⟩)
instance {me key most}:InjS (zek me key most):=⟨fun γ γ' x y h=>by
 rcases x with a0 <;> rcases y with a0' <;> simp only [zek] at h <;> exact inj_⟩
def ziH (me:Peer) (f:List Finger) (key:Int) (most:Int) (t22:Int) (r2:List Peer):Option ((List Peer)):=asks (fun γ=>(lim F pr).loop [21,20,22,11,3,5,4] 3 zo8 ⟨bd 3 (vU key :: vI most :: .bptr 0 0 :: bd 5 (.sl 2 ((γ 2)) :: bd 8 (.lit 84 false (List.map zae f) :: vI (xlen zae f) :: vI t22 :: bd 52 []))),[.box 25 [vU me.id,vH me.addr],.row 25 (γ 1) false (List.map zai []),.row 25 (γ 2) false (List.map zai r2)]⟩) (zek me key most)
def zel (me:Peer) (most:Int) (γ:Nat → Nat):((List Peer) × (List Peer)) → X × St
 | (a0,a1)=>(.brk 2,⟨bd 4 (vI most :: .bptr 0 0 :: bd 8 (.sl 3 ((γ 3)) :: bd 60 [])),[.box 25 [vU me.id,vH me.addr],.row 25 (γ 1) false (List.map zai []),.row 25 (γ 2) true (List.map zai a0),.row 25 (γ 3) false (List.map zai a1)]⟩)
instance {me most}:InjS (zel me most):=⟨fun γ γ' x y h=>by
 rcases x with ⟨a0,a1⟩ <;> rcases y with ⟨a0',a1'⟩ <;> simp only [zel] at h <;> exact inj_⟩
def zcz (me:Peer) (key:Int) (most:Int) (t32:List Peer) (t33:Int) (t34:Int) (r2:List Peer) (r3:List Peer):Option (((List Peer) × (List Peer))):=asks (fun γ=>(lim F pr).loop [33,32,11,3,34,5,14,4] 4 zo9 ⟨bd 3 (vU key :: vI most :: .bptr 0 0 :: bd 5 (.sl 2 ((γ 2)) :: bd 2 (.sl 3 ((γ 3)) :: bd 17 (.lit 25 false (List.map zai t32) :: vI t33 :: vI t34 :: bd 40 [])))),[.box 25 [vU me.id,vH me.addr],.row 25 (γ 1) false (List.map zai []),.row 25 (γ 2) true (List.map zai r2),.row 25 (γ 3) false (List.map zai r3)]⟩) (zel me most)
def zgX (me:Peer) (f:List Finger) (key:Int) (most:Int) (t22:Int) (r2:List Peer):Option ((List Peer)):=
 bif Ops.std.ilt t22 (xlen zae f) then
  (xget zae f t22).bind fun x=>
  bif zaV zai 16 r2 [x.peer] then
   ziH me f key most (Ops.std.iadd .i64 t22 1) (r2 ++ [x.peer])
  else
   none
 else
  some r2
theorem znC {me f key most t22 r2 r} (h:zgX me f key most t22 r2=some r):ziH me f key most t22 r2=some r:=by
 unfold zgX at h
 refine zao fun γ=>?_
 rcases zaa h with ⟨h1,h⟩ | ⟨h1,h⟩
 obtain ⟨x,h2,h⟩:=zac h
 obtain ⟨h3,h⟩:=zaH h
 replace h:=zak h (gam [0,(γ 1),((γ 2) + 1)]);obtain ⟨γ',h0⟩:=h;refine ⟨γ',zad ?_⟩;rotate_left
 cases h;refine ⟨gam [0,(γ 1),(γ 2)],zad ?_⟩;rotate_left
 all_goals (dsimp only [zek] at *;show zaT IF_ _ _ zo8 zBN _=_;generalize zo8=c0 at *;exact fin_)
def zgY (me:Peer) (key:Int) (most:Int) (t32:List Peer) (t33:Int) (t34:Int) (r2:List Peer) (r3:List Peer):Option (((List Peer) × (List Peer))):=
 bif Ops.std.ilt t34 t33 then
  (xget zai t32 t34).bind fun x=>
  (zkm r2 x.id x.addr).bind fun res=>
  bif Ops.std.ieq res t34 then
   bif Ops.std.ieq x.addr me.addr then zcz me key most t32 t33 (Ops.std.iadd .i64 t34 1) r2 r3 else
   (zhG me.id x.id key).bind fun res1=>
   bif res1 then
    bif zaV zai 16 r3 [x] then
     zcz me key most t32 t33 (Ops.std.iadd .i64 t34 1) r2 (r3 ++ [x])
    else
     none
   else
    zcz me key most t32 t33 (Ops.std.iadd .i64 t34 1) r2 r3
  else
   zcz me key most t32 t33 (Ops.std.iadd .i64 t34 1) r2 r3
 else
  some (r2,r3)
theorem znD {me key most t32 t33 t34 r2 r3 r} (h:zgY me key most t32 t33 t34 r2 r3=some r):zcz me key most t32 t33 t34 r2 r3=some r:=by
 unfold zgY at h
 refine zao fun γ=>?_
 rcases zaa h with ⟨h1,h⟩ | ⟨h1,h⟩
 obtain ⟨x,h2,h⟩:=zac h
 obtain ⟨res,h3,h⟩:=zac h
 rcases zaa h with ⟨h4,h⟩ | ⟨h4,h⟩
 rcases zaa h with ⟨h5,h⟩ | ⟨h5,h⟩
 replace h:=zak h (gam [0,(γ 1),(γ 2),(γ 3)]);obtain ⟨γ',h0⟩:=h;refine ⟨γ',zad ?_⟩;rotate_left
 obtain ⟨res1,h6,h⟩:=zac h
 rcases zaa h with ⟨h7,h⟩ | ⟨h7,h⟩
 obtain ⟨h8,h⟩:=zaH h
 replace h:=zak h (gam [0,(γ 1),(γ 2),((γ 3) + 1)]);obtain ⟨γ',h0⟩:=h;refine ⟨γ',zad ?_⟩;rotate_left
 replace h:=zak h (gam [0,(γ 1),(γ 2),(γ 3)]);obtain ⟨γ',h0⟩:=h;refine ⟨γ',zad ?_⟩;rotate_left
 replace h:=zak h (gam [0,(γ 1),(γ 2),(γ 3)]);obtain ⟨γ',h0⟩:=h;refine ⟨γ',zad ?_⟩;rotate_left
 cases h;refine ⟨gam [0,(γ 1),(γ 2),(γ 3)],zad ?_⟩;rotate_left
 all_goals (dsimp only [zdN,R1,zel] at *;show zaT IF_ _ _ zo9 zBO _=_;generalize zo9=c0 at *;exact fin_)
def zmK (me:Peer) (l:List Entry) (f:List Finger) (key:Int) (most:Int):Option ((List Peer)):=
 (zjK l).bind fun res=>
 (ziH me f key most 0 res).bind fun r2=>
 (zcz me key most r2 (xlen zai r2) 0 r2 []).bind fun ⟨r21,r3⟩=>
 (xsrt zai me.id r3).bind fun out=>
 bif Ops.std.ilt most 0 then
  bif Ops.std.ilt 0 (xlen zai out) then
   (xsub zai out 0 0).bind fun ys=>
   some ys
  else
   (xsub zai out 0 (xlen zai out)).bind fun ys=>
   some ys
 else
  bif Ops.std.ilt most (xlen zai out) then
   (xsub zai out 0 most).bind fun ys=>
   some ys
  else
   (xsub zai out 0 (xlen zai out)).bind fun ys=>
   some ys
theorem zy6 {me l f key most r} (h:zmK me l f key most=some r):zpW me l f key most=some r:=by
 unfold zmK at h
 refine zau ?_
 obtain ⟨res,h1,h⟩:=zac h
 obtain ⟨r2,γ2,h2,h⟩:=zah h (gam [0,0,0])
 obtain ⟨r3,γ3,h3,h⟩:=zah h (gam [0,(γ2 1),(γ2 2),0])
 rcases r3 with ⟨r21,r3⟩
 obtain ⟨out,h4,h⟩:=zac h
 rcases zaa h with ⟨h5,h⟩ | ⟨h5,h⟩
 rcases zaa h with ⟨h6,h⟩ | ⟨h6,h⟩
 obtain ⟨ys,h7,h⟩:=zac h
 cases h;refine zab rfl ?_;rotate_left
 obtain ⟨ys,h7,h⟩:=zac h
 cases h;refine zab rfl ?_;rotate_left
 rcases zaa h with ⟨h6,h⟩ | ⟨h6,h⟩
 obtain ⟨ys,h7,h⟩:=zac h
 cases h;refine zab rfl ?_;rotate_left
 obtain ⟨ys,h7,h⟩:=zac h
 cases h;refine zab rfl ?_;rotate_left
 all_goals (dsimp only [K1,R1,zek,zel] at *;show zas IF_ (zId zo8 zo9) _ _=_;generalize zo8=c0,zo9=c1 at *;exact fin_)
def zq7 (f:Finger) (b0:Int):Option (Bool):=
 some (Ops.std.ieq f.bit b0)
theorem zxF {f b0 r} (h:zq7 f b0=some r):zn9 f b0=some r:=by
 unfold zq7 at h
 refine zau ?_
 cases h;refine zab rfl ?_;rotate_left
 all_goals (dsimp only [zf6] at *;show zas IF_ zIu _ _=_;exact fin_)
def zbY (r0:List Finger) (b1:Int) (γ:Nat → Nat):Int ⊕ Unit → X × St
 | .inl a0=>(.ret,⟨bd 4 (vI a0 :: bd 14 []),[.row 84 (γ 0) false (List.map zae r0),.box 3 [vI b1]]⟩)
 | .inr ()=>(.brk 0,⟨bd 19 [],[.row 84 (γ 0) false (List.map zae r0),.box 3 [vI b1]]⟩)
instance {r0 b1}:InjS (zbY r0 b1):=⟨fun γ γ' x y h=>by
 rcases x with a0 | _ <;> rcases y with a0' | _ <;> simp only [zbY] at h <;> exact inj_⟩
def zdi (r0:List Finger) (b1:Int) (t8:Int):Option (Int ⊕ Unit):=askg (fun γ=>(lim F pr).loop [7,1,0,8] 2 zdx ⟨.sl 0 ((γ 0)) :: .fn 234 [.bptr 1 0] :: bd 5 (vI (xlen zae r0) :: vI t8 :: bd 10 []),[.row 84 (γ 0) false (List.map zae r0),.box 3 [vI b1]]⟩) (zbY r0 b1)
def zbX (r0:List Finger) (b1:Int) (t8:Int):Option (Int ⊕ Unit):=
 bif Ops.std.ilt t8 (xlen zae r0) then
  (xget zae r0 t8).bind fun x=>
  (zn9 x b1).bind fun res=>
  bif res then some (.inl t8) else
  zdi r0 b1 (Ops.std.iadd .i64 t8 1)
 else
  some (.inr ())
theorem zd5 {r0 b1 t8 r} (h:zbX r0 b1 t8=some r):zdi r0 b1 t8=some r:=by
 unfold zbX at h
 refine zko fun γ=>?_
 rcases zaa h with ⟨h1,h⟩ | ⟨h1,h⟩
 obtain ⟨x,h2,h⟩:=zac h
 obtain ⟨res,h3,h⟩:=zac h
 rcases zaa h with ⟨h4,h⟩ | ⟨h4,h⟩
 cases h;refine zad ?_;rotate_left
 have h0:=znq h (gam [(γ 0)]);clear h;refine zad ?_;rotate_left
 cases h;refine zad ?_;rotate_left
 all_goals (dsimp only [zbY,zf6] at *;show zaT IF_ _ _ zdx ztk _=_;generalize zdx=c0 at *;exact fin_)
def zfO (r0:List Finger) (b1:Int):Option (Int):=
 (zdi r0 b1 0).bind fun r=>match r with
  | .inl t4=>
   some t4
  | .inr ()=>
   some (-1)
theorem zpF {r0 b1 r} (h:zfO r0 b1=some r):zg5 r0 b1=some r:=by
 unfold zfO at h
 refine zko fun γ=>?_
 obtain ⟨r1,h1,h⟩:=zfK h (gam [γ 0])
 rcases r1 with t4 | _
 cases h;refine zab rfl ?_;rotate_left
 cases h;refine zab rfl ?_;rotate_left
 all_goals (dsimp only [zcr,zbY] at *;show zas IF_ (zyy zdx) _ _=_;generalize zdx=c0 at *;exact fin_)
def zq8 (f:Finger) (b0:Int):Option (Bool):=
 some (Ops.std.ilt b0 f.bit)
theorem zxG {f b0 r} (h:zq8 f b0=some r):zoa f b0=some r:=by
 unfold zq8 at h
 refine zau ?_
 cases h;refine zab rfl ?_;rotate_left
 all_goals (dsimp only [zf7] at *;show zas IF_ zIv _ _=_;exact fin_)
def zb0 (r0:List Finger) (b1:Int) (γ:Nat → Nat):Int ⊕ Unit → X × St
 | .inl a0=>(.ret,⟨bd 4 (vI a0 :: bd 14 []),[.row 84 (γ 0) false (List.map zae r0),.box 3 [vI b1]]⟩)
 | .inr ()=>(.brk 0,⟨bd 19 [],[.row 84 (γ 0) false (List.map zae r0),.box 3 [vI b1]]⟩)
instance {r0 b1}:InjS (zb0 r0 b1):=⟨fun γ γ' x y h=>by
 rcases x with a0 | _ <;> rcases y with a0' | _ <;> simp only [zb0] at h <;> exact inj_⟩
def zdj (r0:List Finger) (b1:Int) (t8:Int):Option (Int ⊕ Unit):=askg (fun γ=>(lim F pr).loop [7,1,0,8] 2 zdx ⟨.sl 0 ((γ 0)) :: .fn 235 [.bptr 1 0] :: bd 5 (vI (xlen zae r0) :: vI t8 :: bd 10 []),[.row 84 (γ 0) false (List.map zae r0),.box 3 [vI b1]]⟩) (zb0 r0 b1)
def zbZ (r0:List Finger) (b1:Int) (t8:Int):Option (Int ⊕ Unit):=
 bif Ops.std.ilt t8 (xlen zae r0) then
  (xget zae r0 t8).bind fun x=>
  (zoa x b1).bind fun res=>
  bif res then some (.inl t8) else
  zdj r0 b1 (Ops.std.iadd .i64 t8 1)
 else
  some (.inr ())
theorem zd6 {r0 b1 t8 r} (h:zbZ r0 b1 t8=some r):zdj r0 b1 t8=some r:=by
 unfold zbZ at h
 refine zko fun γ=>?_
 rcases zaa h with ⟨h1,h⟩ | ⟨h1,h⟩
 obtain ⟨x,h2,h⟩:=zac h
 obtain ⟨res,h3,h⟩:=zac h
 rcases zaa h with ⟨h4,h⟩ | ⟨h4,h⟩
 cases h;refine zad ?_;rotate_left
 have h0:=znq h (gam [(γ 0)]);clear h;refine zad ?_;rotate_left
 cases h;refine zad ?_;rotate_left
 all_goals (dsimp only [zb0,zf7] at *;show zaT IF_ _ _ zdx ztk _=_;generalize zdx=c0 at *;exact fin_)
def zfP (r0:List Finger) (b1:Int):Option (Int):=
 (zdj r0 b1 0).bind fun r=>match r with
  | .inl t4=>
   some t4
  | .inr ()=>
   some (-1)
theorem zpG {r0 b1 r} (h:zfP r0 b1=some r):zg6 r0 b1=some r:=by
 unfold zfP at h
 refine zko fun γ=>?_
 obtain ⟨r1,h1,h⟩:=zfK h (gam [γ 0])
 rcases r1 with t4 | _
 cases h;refine zab rfl ?_;rotate_left
 cases h;refine zab rfl ?_;rotate_left
 all_goals (dsimp only [zcs,zb0] at *;show zas IF_ (zyy zdx) _ _=_;generalize zdx=c0 at *;exact fin_)
def zfx (key:ByteArray) (γ:Nat → Nat):(List Pair) → X × St
 | a0=>(.ret,⟨bd 6 (.sl 2 ((γ 2)) :: vI 0 :: bd 45 []),[.box 9 [vT key],.row 78 (γ 1) false (List.map zan []),.row 78 (γ 2) false (List.map zan a0)]⟩)
instance {key}:InjS (zfx key):=⟨fun γ γ' x y h=>by
 rcases x with a0 <;> rcases y with a0' <;> simp only [zfx] at h <;> exact inj_⟩
def zna (l:List Pair) (key:ByteArray) (val:ByteArray):Option ((List Pair)):=asks (fun γ=>(lim F pr).seg [6,7] zyu ⟨bd 2 (vT val :: bd 1 (.bptr 0 0 :: bd 3 (.sl 2 ((γ 2)) :: bd 44 []))),[.box 9 [vT key],.row 78 (γ 1) false (List.map zan []),.row 78 (γ 2) false (List.map zan l)]⟩) (zfx key)
def zkR (l:List Pair) (key:ByteArray) (val:ByteArray):Option ((List Pair)):=
 (zi8 l key).bind fun res=>
 bif Ops.std.ilt res 0 then
  bif zaV zan 32 l [(⟨key,val⟩:Pair)] then
   (xsub zan l 0 (xlen zan l)).bind fun ys=>
   (xsub zan l (xlen zan l) (xlen zan l)).bind fun ys1=>
   some (ys ++ ([(⟨key,val⟩:Pair)] ++ ys1))
  else
   none
 else
  bif zaV zan 32 l [(⟨key,val⟩:Pair)] then
   (xsub zan l 0 res).bind fun ys=>
   (xsub zan l res (xlen zan l)).bind fun ys1=>
   some (ys ++ ([(⟨key,val⟩:Pair)] ++ ys1))
  else
   none
theorem zwY {l key val r} (h:zkR l key val=some r):zna l key val=some r:=by
 unfold zkR at h
 refine zao fun γ=>?_
 obtain ⟨res,h1,h⟩:=zac h
 rcases zaa h with ⟨h2,h⟩ | ⟨h2,h⟩
 obtain ⟨h3,h⟩:=zaH h
 obtain ⟨ys,h4,h⟩:=zac h
 obtain ⟨ys1,h5,h⟩:=zac h
 cases h;refine ⟨gam [0,(γ 1),((γ 2) + 1)],zaj ?_⟩;rotate_left
 obtain ⟨h3,h⟩:=zaH h
 obtain ⟨ys,h4,h⟩:=zac h
 obtain ⟨ys1,h5,h⟩:=zac h
 cases h;refine ⟨gam [0,(γ 1),((γ 2) + 1)],zaj ?_⟩;rotate_left
 all_goals (dsimp only [zc2,zfx] at *;show Ifc.apart IF_ _ zEl _=_;exact fin_)
def zoL (l:List Pair) (key:ByteArray) (val:ByteArray):Option (((List Pair) × Int)):=
 bif zaV zan 32 [] l then
  (zlk l key).bind fun res=>
  (ztK key).bind fun res1=>
  bif res1 then
   bif Ops.std.ilt 512 (Ops.std.slen val) then some (l,5) else
   bif Ops.std.ile 0 res then
    (xget zan l res).bind fun x=>
    some (xset l res (⟨x.key,val⟩:Pair),0)
   else
    bif Ops.std.ile 64 (xlen zan l) then some (l,10) else
    (zna l key val).bind fun r2=>
    some (r2,0)
  else
   some (l,7)
 else
  none
theorem zA9 {l key val r} (h:zoL l key val=some r):zsT l key val=some r:=by
 unfold zoL at h
 refine zau ?_
 obtain ⟨h1,h⟩:=zaH h
 obtain ⟨res,h2,h⟩:=zac h
 obtain ⟨res1,h3,h⟩:=zac h
 rcases zaa h with ⟨h4,h⟩ | ⟨h4,h⟩
 rcases zaa h with ⟨h5,h⟩ | ⟨h5,h⟩
 cases h;refine zab rfl ?_;rotate_left
 rcases zaa h with ⟨h6,h⟩ | ⟨h6,h⟩
 obtain ⟨x,h7,h⟩:=zac h
 cases h;refine zab rfl ?_;rotate_left
 rcases zaa h with ⟨h7,h⟩ | ⟨h7,h⟩
 cases h;refine zab rfl ?_;rotate_left
 obtain ⟨r2,γ3,h8,h⟩:=zah h (gam [0,0,0])
 cases h;refine zab rfl ?_;rotate_left
 cases h;refine zab rfl ?_;rotate_left
 all_goals (dsimp only [R1,R2,zfx] at *;show zas IF_ (g75F zyu) _ _=_;generalize zyu=c0 at *;exact fin_)
abbrev zj4:=(Node × (List Entry) × (List Entry) × (List Finger) × (List Pair) × (List Pend) × (List Job) × (List Result) × (List Out))
def zew (to_:Peer) (γ:Nat → Nat):zj4 → X × St
 | (a0,a1,a2,a3,a4,a5,a6,a7,a8)=>(.brk 0,⟨bd 4 (.bptr 0 0 :: bd 3 (.bptr 2 0 :: bd 1 (.sl 11 ((γ 11)) :: bd 29 []))),[.box 34 (zam a0),.box 25 [vU to_.id,vH to_.addr],.box 34 ([vU 0,vH 0,vI 0,vF false,.lit 0 true [],.lit 0 true [],.lit 0 true [],.lit 0 true [],.lit 0 true [],.lit 0 true [],.lit 0 true [],vW 0,vI 0,vI 0]),.row 56 (γ 3) false (List.map eOut []),.row 81 (γ 4) true (List.map zat a1),.row 81 (γ 5) true (List.map zat a2),.row 84 (γ 6) true (List.map zae a3),.row 78 (γ 7) true (List.map zan a4),.row 88 (γ 8) true (List.map zaX a5),.row 67 (γ 9) true (List.map eJob a6),.row 60 (γ 10) true (List.map zal a7),.row 56 (γ 11) false (List.map eOut a8)]⟩)
instance {to_}:InjS (zew to_):=⟨fun γ γ' x y h=>by
 rcases x with ⟨a0,a1,a2,a3,a4,a5,a6,a7,a8⟩ <;> rcases y with ⟨a0',a1',a2',a3',a4',a5',a6',a7',a8'⟩ <;> simp only [zew] at h <;> exact inj_⟩
def zi0 (to_:Peer) (fresh:Bool) (t18:List (List Pair)) (t19:Int) (t20:Int) (b0:Node) (r4:List Entry) (r5:List Entry) (r6:List Finger) (r7:List Pair) (r8:List Pend) (r9:List Job) (r10:List Result) (r11:List Out):Option (zj4):=asks (fun γ=>(lim F pr).loop [19,18,5,3,20,4,10,8] 12 ztj ⟨bd 3 (vF fresh :: .bptr 0 0 :: .bptr 1 0 :: bd 2 (.bptr 2 0 :: bd 1 (.sl 11 ((γ 11)) :: bd 7 (.lit 28 false (List.map (eL 78 zan) t18) :: vI t19 :: vI t20 :: bd 19 [])))),[.box 34 (zam b0),.box 25 [vU to_.id,vH to_.addr],.box 34 ([vU 0,vH 0,vI 0,vF false,.lit 0 true [],.lit 0 true [],.lit 0 true [],.lit 0 true [],.lit 0 true [],.lit 0 true [],.lit 0 true [],vW 0,vI 0,vI 0]),.row 56 (γ 3) false (List.map eOut []),.row 81 (γ 4) true (List.map zat r4),.row 81 (γ 5) true (List.map zat r5),.row 84 (γ 6) true (List.map zae r6),.row 78 (γ 7) true (List.map zan r7),.row 88 (γ 8) true (List.map zaX r8),.row 67 (γ 9) true (List.map eJob r9),.row 60 (γ 10) true (List.map zal r10),.row 56 (γ 11) false (List.map eOut r11)]⟩) (zew to_)
def zg0 (to_:Peer) (fresh:Bool) (t18:List (List Pair)) (t19:Int) (t20:Int) (b0:Node) (r4:List Entry) (r5:List Entry) (r6:List Finger) (r7:List Pair) (r8:List Pend) (r9:List Job) (r10:List Result) (r11:List Out):Option (zj4):=
 bif Ops.std.ilt t20 t19 then
  (xget (eL 78 zan) t18 t20).bind fun x=>
  (zmR b0 to_ (⟨10,0,0,fresh,0,⟨#[]⟩,⟨#[]⟩,(⟨0,0⟩:Peer),[],x⟩:Msg) 6 0).bind fun ⟨r0,r1⟩=>
  bif zaV eOut 136 r11 r1 then
   zi0 to_ fresh t18 t19 (Ops.std.iadd .i64 t20 1) r0 r4 r5 r6 r7 r8 r9 r10 (r11 ++ r1)
  else
   none
 else
  some (b0,r4,r5,r6,r7,r8,r9,r10,r11)
theorem znX {to_ fresh t18 t19 t20 b0 r4 r5 r6 r7 r8 r9 r10 r11 r} (h:zg0 to_ fresh t18 t19 t20 b0 r4 r5 r6 r7 r8 r9 r10 r11=some r):zi0 to_ fresh t18 t19 t20 b0 r4 r5 r6 r7 r8 r9 r10 r11=some r:=by
 unfold zg0 at h
 refine zao fun γ=>?_
 rcases zaa h with ⟨h1,h⟩ | ⟨h1,h⟩
 obtain ⟨x,h2,h⟩:=zac h
 obtain ⟨r3,h3,h⟩:=zac h
 rcases r3 with ⟨r0,r1⟩
 obtain ⟨h4,h⟩:=zaH h
 replace h:=zak h (gam [0,0,0,(γ 3),(γ 4),(γ 5),(γ 6),(γ 7),(γ 8),(γ 9),(γ 10),((γ 11) + 1)]);obtain ⟨γ',h0⟩:=h;refine ⟨γ',zad ?_⟩;rotate_left
 cases h;refine ⟨gam [0,0,0,(γ 3),(γ 4),(γ 5),(γ 6),(γ 7),(γ 8),(γ 9),(γ 10),(γ 11)],zad ?_⟩;rotate_left
 all_goals (dsimp only [R2,zew] at *;show zaT IF_ _ _ ztj zD1 _=_;generalize ztj=c0 at *;exact fin_)
def zm7 (n:Node) (to_:Peer) (l:List Pair) (fresh:Bool):Option ((Node × (List Out))):=
 (zcj n).bind fun ⟨zaF,zav,zaD,zay,zaG,zaC,zaq,zaz,zax,zaB,zar,zaK,zaE,zaw⟩=>
 (xcut zan 78 l).bind fun cs=>
 (zi0 to_ fresh cs (xlen (eL 78 zan) cs) 0 (⟨(⟨zaF,zav⟩:Peer),zaD,zay,zaG,zaC,zaq,zaz,zax,zaB,zar,zaK,zaE,zaw⟩:Node) zaG zaC zaq zaz zax zaB zar []).bind fun ⟨b0,r4,r5,r6,r7,r8,r9,r10,r11⟩=>
 some (b0,r11)
theorem zzS {n to_ l fresh r} (h:zm7 n to_ l fresh=some r):zqS n to_ l fresh=some r:=by
 unfold zm7 at h
 refine zau ?_
 obtain ⟨r1,h1,h⟩:=zac h
 rcases r1 with ⟨zaF,zav,zaD,zay,zaG,zaC,zaq,zaz,zax,zaB,zar,zaK,zaE,zaw⟩
 obtain ⟨cs,h2,h⟩:=zac h
 obtain ⟨r3,γ2,h3,h⟩:=zah h (gam [0,0,0,0,0,0,0,0,0,0,0,0])
 rcases r3 with ⟨b0,r4,r5,r6,r7,r8,r9,r10,r11⟩
 cases h;refine zab rfl ?_;rotate_left
 all_goals (dsimp only [R2,zbu,zew] at *;show zas IF_ (g22F ztj) _ _=_;generalize ztj=c0 at *;exact fin_)
def zrw (l:List Pair) (key:ByteArray):Option (Int):=
 zmz l key
theorem zya {l key r} (h:zrw l key=some r):zlk l key=some r:=by
 unfold zrw at h
 refine zau ?_
 have h1:=ask_some h
 rcases r with res
 refine zab rfl ?_;rotate_left
 all_goals (dsimp only [zc3,R1] at *;show zas IF_ zHH _ _=_;exact fin_)
def zqo (c:Int):Option (Bool):=
 bif Ops.std.ile 128 c then some (Ops.std.ile c 191) else
 some false
theorem zC9 {c r} (h:zqo c=some r):zho c=some r:=by
 unfold zqo at h
 refine zau ?_
 rcases zaa h with ⟨h1,h⟩ | ⟨h1,h⟩
 cases h;refine zab rfl ?_;rotate_left
 cases h;refine zab rfl ?_;rotate_left
 all_goals (dsimp only [R1] at *;show zas IF_ zIh _ _=_;exact fin_)
def zoO (s:ByteArray) (at_:Int) (c:Int):Option (Bool):=
 bif Ops.std.ieq c 65533 then
  (ztP s at_ (Ops.std.slen s)).bind fun z=>
  xopt (zq1 z 0) (fun ⟨c1,nx⟩=>
   some (Ops.std.ieq nx 1))
   (some (Ops.std.ieq 0 1))
 else
  some false
theorem zBc {s at_ c r} (h:zoO s at_ c=some r):zsX s at_ c=some r:=by
 unfold zoO at h
 refine zau ?_
 rcases zaa h with ⟨h1,h⟩ | ⟨h1,h⟩
 obtain ⟨z,h2,h⟩:=bind_some h
 rcases ztb h with ⟨⟨c1,nx⟩,h3,h⟩ | ⟨h3,h⟩
 cases h;refine zab rfl ?_;rotate_left
 cases h;refine zab rfl ?_;rotate_left
 cases h;refine zab rfl ?_;rotate_left
 all_goals (dsimp only [R1] at *;show zas IF_ zHP _ _=_;exact fin_)
def zgd (γ:Nat → Nat):Int → X × St
 | a0=>(.brk 0,⟨vU a0 :: bd 13 [],[]⟩)
instance :InjS zgd:=⟨fun γ γ' x y h=>by
 rcases x with a0 <;> rcases y with a0' <;> simp only [zgd] at h <;> exact inj_⟩
def zk6 (by_:Int) (u':Int) (i:Int):Option (Int):=asks (fun γ=>(lim F pr).loop [1,5,0] 0 zpc ⟨vU u' :: vI by_ :: bd 3 (vI i :: bd 8 []),[]⟩) zgd
def ziM (by_:Int) (u':Int) (i:Int):Option (Int):=
 bif Ops.std.ilt i by_ then
  bif Ops.std.ieq 2 0 then none else
  zk6 by_ (Ops.std.iquo .u64 u' 2) (Ops.std.iadd .i64 i 1)
 else
  some u'
theorem zrd {by_ u' i r} (h:ziM by_ u' i=some r):zk6 by_ u' i=some r:=by
 unfold ziM at h
 refine zao fun γ=>?_
 rcases zaa h with ⟨h1,h⟩ | ⟨h1,h⟩
 obtain ⟨h2,h⟩:=zmi h
 replace h:=zak h (gam []);obtain ⟨γ',h0⟩:=h;refine ⟨γ',zad ?_⟩;rotate_left
 cases h;refine ⟨gam [],zad ?_⟩;rotate_left
 all_goals (dsimp only [zgd] at *;show zaT IF_ _ _ zpc zBQ _=_;generalize zpc=c0 at *;exact fin_)
def zvM (u:Int) (by_:Int):Option (Int):=
 zk6 by_ u 0
theorem zDb {u by_ r} (h:zvM u by_=some r):zhq u by_=some r:=by
 unfold zvM at h
 refine zau ?_
 obtain ⟨γ1,h1⟩:=zak h (gam [])
 rcases r with u'
 refine zab rfl ?_;rotate_left
 all_goals (dsimp only [R1,zgd] at *;show zas IF_ (zIi zpc) _ _=_;generalize zpc=c0 at *;exact fin_)
def zsx (n:Node):Option (Int):=
 bif Ops.std.ilt 0 n.clock then
  bif Ops.std.ile n.clock 1099511627776 then some n.clock else
  some 0
 else
  some 0
theorem zFm {n r} (h:zsx n=some r):ztL n=some r:=by
 unfold zsx at h
 refine zau ?_
 rcases zaa h with ⟨h1,h⟩ | ⟨h1,h⟩
 rcases zaa h with ⟨h2,h⟩ | ⟨h2,h⟩
 cases h;refine zab rfl ?_;rotate_left
 cases h;refine zab rfl ?_;rotate_left
 cases h;refine zab rfl ?_;rotate_left
 all_goals (dsimp only [R1] at *;show zas IF_ zHO _ _=_;exact fin_)
def ziB (n:Node) (id:Int):Option (Int):=
 (zhz n.jobs id).bind fun res=>
 bif Ops.std.ile 0 res then
  (xget eJob n.jobs res).bind fun x=>
  bif Ops.std.ilt x.kind 1 then some (-1) else
  bif Ops.std.ilt 4 x.kind then some (-1) else
  some res
 else
  some res
theorem zoH {n id r} (h:ziB n id=some r):zsK n id=some r:=by
 unfold ziB at h
 refine zau ?_
 obtain ⟨res,h1,h⟩:=zac h
 rcases zaa h with ⟨h2,h⟩ | ⟨h2,h⟩
 obtain ⟨x,h3,h⟩:=zac h
 rcases zaa h with ⟨h4,h⟩ | ⟨h4,h⟩
 cases h;refine zab rfl ?_;rotate_left
 rcases zaa h with ⟨h5,h⟩ | ⟨h5,h⟩
 cases h;refine zab rfl ?_;rotate_left
 cases h;refine zab rfl ?_;rotate_left
 cases h;refine zab rfl ?_;rotate_left
 all_goals (dsimp only [R1] at *;show zas IF_ zHt _ _=_;exact fin_)
def zqN (n:Node) (j:Job):Option ((Node × (List Out))):=
 bif Ops.std.ieq j.kind 1 then
  zqM n (⟨j.id,j.kind,j.bit,j.key,j.val,j.target,j.via,j.at_,false,0,j.tries,j.due⟩:Job) j.via
 else
  (zuB n j.target).bind fun ⟨r0,r1,r2⟩=>
  bif r2 then
   zwR n (⟨j.id,j.kind,j.bit,j.key,j.val,j.target,j.via,j.at_,false,0,j.tries,j.due⟩:Job) r0
  else
   (xget zai r1 0).bind fun x=>
   zqM n (⟨j.id,j.kind,j.bit,j.key,j.val,j.target,j.via,j.at_,false,1,j.tries,j.due⟩:Job) x
theorem zDA {n j r} (h:zqN n j=some r):zuG n j=some r:=by
 unfold zqN at h
 refine zau ?_
 rcases zaa h with ⟨h1,h⟩ | ⟨h1,h⟩
 have h2:=ask_some h
 rcases r with ⟨r0,r1⟩
 refine zab rfl ?_;rotate_left
 obtain ⟨r2,h2,h⟩:=zac h
 rcases r2 with ⟨r0,r1,r2⟩
 rcases zaa h with ⟨h3,h⟩ | ⟨h3,h⟩
 have h4:=ask_some h
 rcases r with ⟨r01,r11⟩
 refine zab rfl ?_;rotate_left
 obtain ⟨x,h4,h⟩:=zac h
 have h5:=ask_some h
 rcases r with ⟨r01,r11⟩
 refine zab rfl ?_;rotate_left
 all_goals (dsimp only [R2,R3] at *;show zas IF_ zHu _ _=_;exact fin_)
def zdA (γ:Nat → Nat):(List Peer) → X × St
 | a0=>(.brk 0,⟨bd 5 (.sl 1 ((γ 1)) :: bd 18 []),[.row 25 (γ 0) false (List.map zai []),.row 25 (γ 1) false (List.map zai a0)]⟩)
instance :InjS zdA:=⟨fun γ γ' x y h=>by
 rcases x with a0 <;> rcases y with a0' <;> simp only [zdA] at h <;> exact inj_⟩
def zeq (l:List Entry) (t10:Int) (r1:List Peer):Option ((List Peer)):=asks (fun γ=>(lim F pr).loop [9,8,1,10,5] 2 zo1 ⟨bd 1 (.fn 146 [] :: bd 3 (.sl 1 ((γ 1)) :: bd 2 (.lit 81 false (List.map zat l) :: vI (xlen zat l) :: vI t10 :: bd 13 []))),[.row 25 (γ 0) false (List.map zai []),.row 25 (γ 1) false (List.map zai r1)]⟩) zdA
def zdz (l:List Entry) (t10:Int) (r1:List Peer):Option ((List Peer)):=
 bif Ops.std.ilt t10 (xlen zat l) then
  (xget zat l t10).bind fun x=>
  (zqg x).bind fun res=>
  bif res then
   bif zaV zai 16 r1 [x.peer] then zeq l (Ops.std.iadd .i64 t10 1) (r1 ++ [x.peer]) else
   none
  else
   zeq l (Ops.std.iadd .i64 t10 1) r1
 else
  some r1
theorem zl4 {l t10 r1 r} (h:zdz l t10 r1=some r):zeq l t10 r1=some r:=by
 unfold zdz at h
 refine zao fun γ=>?_
 rcases zaa h with ⟨h1,h⟩ | ⟨h1,h⟩
 obtain ⟨x,h2,h⟩:=zac h
 obtain ⟨res,h3,h⟩:=zac h
 rcases zaa h with ⟨h4,h⟩ | ⟨h4,h⟩
 obtain ⟨h5,h⟩:=zaH h
 replace h:=zak h (gam [(γ 0),((γ 1) + 1)]);obtain ⟨γ',h0⟩:=h;refine ⟨γ',zad ?_⟩;rotate_left
 replace h:=zak h (gam [(γ 0),(γ 1)]);obtain ⟨γ',h0⟩:=h;refine ⟨γ',zad ?_⟩;rotate_left
 cases h;refine ⟨gam [(γ 0),(γ 1)],zad ?_⟩;rotate_left
 all_goals (dsimp only [R1,zdA] at *;show zaT IF_ _ _ zo1 zBw _=_;generalize zo1=c0 at *;exact fin_)
def zkB (l:List Entry):Option ((List Peer)):=
 zeq l 0 []
theorem zwB {l r} (h:zkB l=some r):zsi l=some r:=by
 unfold zkB at h
 refine zau ?_
 obtain ⟨γ1,h1⟩:=zak h (gam [0,0])
 rcases r with r1
 refine zab rfl ?_;rotate_left
 all_goals (dsimp only [K1,zdA] at *;show zas IF_ (zHJ zo1) _ _=_;generalize zo1=c0 at *;exact fin_)
def zid (a:Int) (x:Int) (b:Int):Option (Bool):=
 bif Ops.std.ieq x a then some false else
 bif Ops.std.ieq a b then some true else
 (zlB a x).bind fun res=>
 (zlB a b).bind fun res1=>
 some (Ops.std.ilt res res1)
theorem zpu {a x b r} (h:zid a x b=some r):zhG a x b=some r:=by
 unfold zid at h
 refine zau ?_
 rcases zaa h with ⟨h1,h⟩ | ⟨h1,h⟩
 cases h;refine zab rfl ?_;rotate_left
 rcases zaa h with ⟨h2,h⟩ | ⟨h2,h⟩
 cases h;refine zab rfl ?_;rotate_left
 obtain ⟨res,h3,h⟩:=zac h
 obtain ⟨res1,h4,h⟩:=zac h
 cases h;refine zab rfl ?_;rotate_left
 all_goals (dsimp only [R1] at *;show zas IF_ zHB _ _=_;exact fin_)
def zpj (q:Peer) (zbi:Int) (za5:Int):Option (Bool):=
 some (Ops.std.ieq q.addr za5)
theorem zwo {q zbi za5 r} (h:zpj q zbi za5=some r):zmJ q zbi za5=some r:=by
 unfold zpj at h
 refine zau ?_
 cases h;refine zab rfl ?_;rotate_left
 all_goals (dsimp only [ze3] at *;show zas IF_ zIt _ _=_;exact fin_)
def zcF (zbi:Int) (za5:Int) (γ:Nat → Nat):Int ⊕ Unit → X × St
 | .inl a0=>(.ret,⟨bd 4 (vI a0 :: bd 14 []),[.box 25 [vU zbi,vH za5]]⟩)
 | .inr ()=>(.brk 0,⟨bd 19 [],[.box 25 [vU zbi,vH za5]]⟩)
instance {zbi za5}:InjS (zcF zbi za5):=⟨fun γ γ' x y h=>by
 rcases x with a0 | _ <;> rcases y with a0' | _ <;> simp only [zcF] at h <;> exact inj_⟩
def zeN (s:List Peer) (zbi:Int) (za5:Int) (t8:Int):Option (Int ⊕ Unit):=asks (fun γ=>(lim F pr).loop [7,1,0,8] 1 zo5 ⟨.lit 25 false (List.map zai s) :: .fn 221 [.bptr 0 0] :: bd 5 (vI (xlen zai s) :: vI t8 :: bd 10 []),[.box 25 [vU zbi,vH za5]]⟩) (zcF zbi za5)
def zcE (s:List Peer) (zbi:Int) (za5:Int) (t8:Int):Option (Int ⊕ Unit):=
 bif Ops.std.ilt t8 (xlen zai s) then
  (xget zai s t8).bind fun x=>
  (zmJ x zbi za5).bind fun res=>
  bif res then some (.inl t8) else
  zeN s zbi za5 (Ops.std.iadd .i64 t8 1)
 else
  some (.inr ())
theorem zgS {s zbi za5 t8 r} (h:zcE s zbi za5 t8=some r):zeN s zbi za5 t8=some r:=by
 unfold zcE at h
 refine zao fun γ=>?_
 rcases zaa h with ⟨h1,h⟩ | ⟨h1,h⟩
 obtain ⟨x,h2,h⟩:=zac h
 obtain ⟨res,h3,h⟩:=zac h
 rcases zaa h with ⟨h4,h⟩ | ⟨h4,h⟩
 cases h;refine ⟨gam [],zad ?_⟩;rotate_left
 replace h:=zak h (gam []);obtain ⟨γ',h0⟩:=h;refine ⟨γ',zad ?_⟩;rotate_left
 cases h;refine ⟨gam [],zad ?_⟩;rotate_left
 all_goals (dsimp only [zcF,ze3] at *;show zaT IF_ _ _ zo5 zBH _=_;generalize zo5=c0 at *;exact fin_)
def zi9 (s:List Peer) (zbi:Int) (za5:Int):Option (Int):=
 (zeN s zbi za5 0).bind fun r=>match r with
  | .inl t4=>
   some t4
  | .inr ()=>
   some (-1)
theorem zug {s zbi za5 r} (h:zi9 s zbi za5=some r):zkm s zbi za5=some r:=by
 unfold zi9 at h
 refine zau ?_
 obtain ⟨r1,γ1,h1,h⟩:=zah h (gam [])
 rcases r1 with t4 | _
 cases h;refine zab rfl ?_;rotate_left
 cases h;refine zab rfl ?_;rotate_left
 all_goals (dsimp only [zdN,zcF] at *;show zas IF_ (zH4 zo5) _ _=_;generalize zo5=c0 at *;exact fin_)
def zrv (p:Pair) (b0:ByteArray):Option (Bool):=
 some (Ops.std.slt b0 p.key)
theorem zx9 {p b0 r} (h:zrv p b0=some r):zoK p b0=some r:=by
 unfold zrv at h
 refine zau ?_
 cases h;refine zab rfl ?_;rotate_left
 all_goals (dsimp only [zgF] at *;show zas IF_ zHI _ _=_;exact fin_)
def zcf (b0:ByteArray) (γ:Nat → Nat):Int ⊕ Unit → X × St
 | .inl a0=>(.ret,⟨bd 4 (vI a0 :: bd 14 []),[.box 9 [vT b0]]⟩)
 | .inr ()=>(.brk 0,⟨bd 19 [],[.box 9 [vT b0]]⟩)
instance {b0}:InjS (zcf b0):=⟨fun γ γ' x y h=>by
 rcases x with a0 | _ <;> rcases y with a0' | _ <;> simp only [zcf] at h <;> exact inj_⟩
def zd1 (s:List Pair) (b0:ByteArray) (t8:Int):Option (Int ⊕ Unit):=asks (fun γ=>(lim F pr).loop [7,1,0,8] 1 zhc ⟨.lit 78 false (List.map zan s) :: .fn 143 [.bptr 0 0] :: bd 5 (vI (xlen zan s) :: vI t8 :: bd 10 []),[.box 9 [vT b0]]⟩) (zcf b0)
def zce (s:List Pair) (b0:ByteArray) (t8:Int):Option (Int ⊕ Unit):=
 bif Ops.std.ilt t8 (xlen zan s) then
  (xget zan s t8).bind fun x=>
  (zoK x b0).bind fun res=>
  bif res then some (.inl t8) else
  zd1 s b0 (Ops.std.iadd .i64 t8 1)
 else
  some (.inr ())
theorem zeU {s b0 t8 r} (h:zce s b0 t8=some r):zd1 s b0 t8=some r:=by
 unfold zce at h
 refine zao fun γ=>?_
 rcases zaa h with ⟨h1,h⟩ | ⟨h1,h⟩
 obtain ⟨x,h2,h⟩:=zac h
 obtain ⟨res,h3,h⟩:=zac h
 rcases zaa h with ⟨h4,h⟩ | ⟨h4,h⟩
 cases h;refine ⟨gam [],zad ?_⟩;rotate_left
 replace h:=zak h (gam []);obtain ⟨γ',h0⟩:=h;refine ⟨γ',zad ?_⟩;rotate_left
 cases h;refine ⟨gam [],zad ?_⟩;rotate_left
 all_goals (dsimp only [zcf,zgF] at *;show zaT IF_ _ _ zhc zwe _=_;generalize zhc=c0 at *;exact fin_)
def zg9 (s:List Pair) (b0:ByteArray):Option (Int):=
 (zd1 s b0 0).bind fun r=>match r with
  | .inl t4=>
   some t4
  | .inr ()=>
   some (-1)
theorem zrF {s b0 r} (h:zg9 s b0=some r):zi8 s b0=some r:=by
 unfold zg9 at h
 refine zau ?_
 obtain ⟨r1,γ1,h1,h⟩:=zah h (gam [])
 rcases r1 with t4 | _
 cases h;refine zab rfl ?_;rotate_left
 cases h;refine zab rfl ?_;rotate_left
 all_goals (dsimp only [zc2,zcf] at *;show zas IF_ (zCG zhc) _ _=_;generalize zhc=c0 at *;exact fin_)
def znZ (p:Pair) (b0:ByteArray):Option (Bool):=
 some (Ops.std.seq p.key b0)
theorem zn0 {p b0 r} (h:znZ p b0=some r):zi2 p b0=some r:=by
 unfold znZ at h
 refine zau ?_
 cases h;refine zab rfl ?_;rotate_left
 all_goals (dsimp only [zez] at *;show zas IF_ zIg _ _=_;exact fin_)
def zch (b0:ByteArray) (γ:Nat → Nat):Int ⊕ Unit → X × St
 | .inl a0=>(.ret,⟨bd 4 (vI a0 :: bd 14 []),[.box 9 [vT b0]]⟩)
 | .inr ()=>(.brk 0,⟨bd 19 [],[.box 9 [vT b0]]⟩)
instance {b0}:InjS (zch b0):=⟨fun γ γ' x y h=>by
 rcases x with a0 | _ <;> rcases y with a0' | _ <;> simp only [zch] at h <;> exact inj_⟩
def zd2 (s:List Pair) (b0:ByteArray) (t8:Int):Option (Int ⊕ Unit):=asks (fun γ=>(lim F pr).loop [7,1,0,8] 1 zhc ⟨.lit 78 false (List.map zan s) :: .fn 202 [.bptr 0 0] :: bd 5 (vI (xlen zan s) :: vI t8 :: bd 10 []),[.box 9 [vT b0]]⟩) (zch b0)
def zcg (s:List Pair) (b0:ByteArray) (t8:Int):Option (Int ⊕ Unit):=
 bif Ops.std.ilt t8 (xlen zan s) then
  (xget zan s t8).bind fun x=>
  (zi2 x b0).bind fun res=>
  bif res then some (.inl t8) else
  zd2 s b0 (Ops.std.iadd .i64 t8 1)
 else
  some (.inr ())
theorem zeV {s b0 t8 r} (h:zcg s b0 t8=some r):zd2 s b0 t8=some r:=by
 unfold zcg at h
 refine zao fun γ=>?_
 rcases zaa h with ⟨h1,h⟩ | ⟨h1,h⟩
 obtain ⟨x,h2,h⟩:=zac h
 obtain ⟨res,h3,h⟩:=zac h
 rcases zaa h with ⟨h4,h⟩ | ⟨h4,h⟩
 cases h;refine ⟨gam [],zad ?_⟩;rotate_left
 replace h:=zak h (gam []);obtain ⟨γ',h0⟩:=h;refine ⟨γ',zad ?_⟩;rotate_left
 cases h;refine ⟨gam [],zad ?_⟩;rotate_left
 all_goals (dsimp only [zch,zez] at *;show zaT IF_ _ _ zhc zwe _=_;generalize zhc=c0 at *;exact fin_)
def zha (s:List Pair) (b0:ByteArray):Option (Int):=
 (zd2 s b0 0).bind fun r=>match r with
  | .inl t4=>
   some t4
  | .inr ()=>
   some (-1)
theorem zrG {s b0 r} (h:zha s b0=some r):zmz s b0=some r:=by
 unfold zha at h
 refine zau ?_
 obtain ⟨r1,γ1,h1,h⟩:=zah h (gam [])
 rcases r1 with t4 | _
 cases h;refine zab rfl ?_;rotate_left
 cases h;refine zab rfl ?_;rotate_left
 all_goals (dsimp only [zc3,zch] at *;show zas IF_ (zCG zhc) _ _=_;generalize zhc=c0 at *;exact fin_)
def zvP (n:Node) (j:Job) (to_:Peer):Option ((Node × (List Out))):=
 (zh8 n (⟨j.id,j.kind,j.bit,j.key,j.val,j.target,j.via,to_,j.doing,j.hops,j.tries,j.due⟩:Job)).bind fun res=>
 zmt res to_ (⟨1,0,0,false,j.target,⟨#[]⟩,⟨#[]⟩,(⟨0,0⟩:Peer),[],[]⟩:Msg) 4 j.id
theorem zDz {n j to_ r} (h:zvP n j to_=some r):zqM n j to_=some r:=by
 unfold zvP at h
 refine zau ?_
 obtain ⟨res,h1,h⟩:=zac h
 have h2:=ask_some h
 rcases r with ⟨r0,r1⟩
 refine zab rfl ?_;rotate_left
 all_goals (dsimp only [R1,R2] at *;show zas IF_ zHz _ _=_;exact fin_)
abbrev zlX:=(Int × Int × (List Peer)) ⊕ ((List Peer) × (List Peer))
def zgA (n:Node) (γ:Nat → Nat):zlX → X × St
 | .inl (a0,a1,a2)=>(.ret,⟨bd 4 (.bptr 1 0 :: .sl 4 ((γ 4)) :: vF true :: bd 71 []),[.box 34 (zam n),.box 25 [vU a0,vH a1],.row 25 (γ 2) false (List.map zai []),.row 25 (γ 3) false (List.map zai a2),.row 25 (γ 4) false (List.map zai [])]⟩)
 | .inr (b0,b1)=>(.ret,⟨bd 4 (.bptr 1 0 :: .lit 25 false (List.map zai b0) :: vF false :: bd 71 []),[.box 34 (zam n),.box 25 [vU 0,vH 0],.row 25 (γ 2) false (List.map zai []),.row 25 (γ 3) false (List.map zai b1)]⟩)
instance {n}:InjS (zgA n):=⟨fun γ γ' x y h=>by
 rcases x with ⟨a0,a1,a2⟩ | ⟨b0,b1⟩ <;> rcases y with ⟨a0',a1',a2'⟩ | ⟨b0',b1'⟩ <;> simp only [zgA] at h <;> exact inj_⟩
def zoE (n:Node) (key:Int) (r3:List Peer):Option (zlX):=asks (fun γ=>(lim F pr).seg [4,5,6] zys ⟨bd 1 (vU key :: .bptr 0 0 :: bd 1 (.bptr 1 0 :: bd 2 (.sl 3 ((γ 3)) :: bd 70 []))),[.box 34 (zam n),.box 25 [vU 0,vH 0],.row 25 (γ 2) false (List.map zai []),.row 25 (γ 3) false (List.map zai r3)]⟩) (zgA n)
abbrev zlV:=(List Peer) ⊕ ((List Peer) × (List Peer))
def zgz (n:Node) (γ:Nat → Nat):zlV → X × St
 | .inl a0=>(.ret,⟨bd 4 (.bptr 1 0 :: .sl 4 ((γ 4)) :: vF true :: bd 71 []),[.box 34 (zam n),.box 25 [vU n.me.id,vH n.me.addr],.row 25 (γ 2) false (List.map zai []),.row 25 (γ 3) false (List.map zai a0),.row 25 (γ 4) false (List.map zai [])]⟩)
 | .inr (b0,b1)=>(.ret,⟨bd 4 (.bptr 1 0 :: .lit 25 false (List.map zai b0) :: vF false :: bd 71 []),[.box 34 (zam n),.box 25 [vU 0,vH 0],.row 25 (γ 2) false (List.map zai []),.row 25 (γ 3) false (List.map zai b1)]⟩)
instance {n}:InjS (zgz n):=⟨fun γ γ' x y h=>by
 rcases x with a0 | ⟨b0,b1⟩ <;> rcases y with a0' | ⟨b0',b1'⟩ <;> simp only [zgz] at h <;> exact inj_⟩
def zgO (n:Node) (key:Int) (r3:List Peer):Option (zlV):=asks (fun γ=>(lim F pr).seg [4,5,6] zyr ⟨bd 1 (vU key :: .bptr 0 0 :: bd 1 (.bptr 1 0 :: bd 73 [])),[.box 34 (zam n),.box 25 [vU 0,vH 0],.row 25 (γ 2) false (List.map zai []),.row 25 (γ 3) false (List.map zai r3)]⟩) (zgz n)
def ziX (n:Node) (key:Int) (r3:List Peer):Option (zlX):=
 (xget zai r3 0).bind fun x=>
 (zmS n.me.id key x.id).bind fun res=>
 bif res then some (.inl (x.id,x.addr,r3)) else
 bif Ops.std.ilt 0 (xlen zat n.pred) then
  (xget zat n.pred 0).bind fun x1=>
  bif Ops.std.ilt x1.misses 1 then
   (zmS x1.peer.id key n.me.id).bind fun res1=>
   bif res1 then some (.inl (n.me.id,n.me.addr,r3)) else
   (zgO n key r3).bind fun r=>match r with
    | .inl r31=>
     some (.inl (n.me.id,n.me.addr,r31))
    | .inr (t5,r31)=>
     some (.inr (t5,r31))
  else
   (zgO n key r3).bind fun r=>match r with
    | .inl r31=>
     some (.inl (n.me.id,n.me.addr,r31))
    | .inr (t5,r31)=>
     some (.inr (t5,r31))
 else
  (zgO n key r3).bind fun r=>match r with
   | .inl r31=>
    some (.inl (n.me.id,n.me.addr,r31))
   | .inr (t5,r31)=>
    some (.inr (t5,r31))
theorem zx0 {n key r3 r} (h:ziX n key r3=some r):zoE n key r3=some r:=by
 unfold ziX at h
 refine zao fun γ=>?_
 obtain ⟨x,h1,h⟩:=zac h
 obtain ⟨res,h2,h⟩:=zac h
 rcases zaa h with ⟨h3,h⟩ | ⟨h3,h⟩
 cases h;refine ⟨gam [0,0,(γ 2),(γ 3),0],zaj ?_⟩;rotate_left
 rcases zaa h with ⟨h4,h⟩ | ⟨h4,h⟩
 obtain ⟨x1,h5,h⟩:=zac h
 rcases zaa h with ⟨h6,h⟩ | ⟨h6,h⟩
 obtain ⟨res1,h7,h⟩:=zac h
 rcases zaa h with ⟨h8,h⟩ | ⟨h8,h⟩
 cases h;refine ⟨gam [0,0,(γ 2),(γ 3),0],zaj ?_⟩;rotate_left
 obtain ⟨r9,γ3,h9,h⟩:=zah h (gam [0,0,(γ 2),(γ 3)])
 rcases r9 with r31 | ⟨t5,r31⟩
 cases h;refine ⟨gam [0,0,(γ3 2),(γ3 3),(γ3 4)],zaj ?_⟩;rotate_left
 cases h;refine ⟨gam [0,0,(γ3 2),(γ3 3)],zaj ?_⟩;rotate_left
 obtain ⟨r7,γ2,h7,h⟩:=zah h (gam [0,0,(γ 2),(γ 3)])
 rcases r7 with r31 | ⟨t5,r31⟩
 cases h;refine ⟨gam [0,0,(γ2 2),(γ2 3),(γ2 4)],zaj ?_⟩;rotate_left
 cases h;refine ⟨gam [0,0,(γ2 2),(γ2 3)],zaj ?_⟩;rotate_left
 obtain ⟨r5,γ2,h5,h⟩:=zah h (gam [0,0,(γ 2),(γ 3)])
 rcases r5 with r31 | ⟨t5,r31⟩
 cases h;refine ⟨gam [0,0,(γ2 2),(γ2 3),(γ2 4)],zaj ?_⟩;rotate_left
 cases h;refine ⟨gam [0,0,(γ2 2),(γ2 3)],zaj ?_⟩;rotate_left
 all_goals (dsimp only [R1,zgz,zgA] at *;show Ifc.apart IF_ _ (zEd zyr) _=_;generalize zyr=c0 at *;exact fin_)
def zlW (n:Node) (key:Int) (r3:List Peer):Option (zlV):=
 (zux n.me n.list n.fingers key 4).bind fun res=>
 bif Ops.std.ieq (xlen zai res) 0 then some (.inl r3) else
 some (.inr (res,r3))
theorem zxZ {n key r3 r} (h:zlW n key r3=some r):zgO n key r3=some r:=by
 unfold zlW at h
 refine zao fun γ=>?_
 obtain ⟨res,h1,h⟩:=zac h
 rcases zaa h with ⟨h2,h⟩ | ⟨h2,h⟩
 cases h;refine ⟨gam [0,0,(γ 2),(γ 3),0],zaj ?_⟩;rotate_left
 cases h;refine ⟨gam [0,0,(γ 2),(γ 3)],zaj ?_⟩;rotate_left
 all_goals (dsimp only [R1,zgz] at *;show Ifc.apart IF_ _ zEc _=_;exact fin_)
def zqF (n:Node) (key:Int):Option ((Peer × (List Peer) × Bool)):=
 (zmT n.list).bind fun res=>
 bif Ops.std.ieq (xlen zai res) 0 then some (n.me,[],true) else
 bif Ops.std.ieq key n.me.id then some (n.me,[],true) else
 (zoE n key res).bind fun r=>match r with
  | .inl (zvk,zpa,r3)=>
   some ((⟨zvk,zpa⟩:Peer),[],true)
  | .inr (t5,r3)=>
   some ((⟨0,0⟩:Peer),t5,false)
theorem zDs {n key r} (h:zqF n key=some r):zuB n key=some r:=by
 unfold zqF at h
 refine zau ?_
 obtain ⟨res,h1,h⟩:=zac h
 rcases zaa h with ⟨h2,h⟩ | ⟨h2,h⟩
 cases h;refine zab rfl ?_;rotate_left
 rcases zaa h with ⟨h3,h⟩ | ⟨h3,h⟩
 cases h;refine zab rfl ?_;rotate_left
 obtain ⟨r4,γ2,h4,h⟩:=zah h (gam [0,0,0,0])
 rcases r4 with ⟨zvk,zpa,r3⟩ | ⟨t5,r3⟩
 cases h;refine zab rfl ?_;rotate_left
 cases h;refine zab rfl ?_;rotate_left
 all_goals (dsimp only [K1,R3,zgA] at *;show zas IF_ (g63F zys) _ _=_;generalize zys=c0 at *;exact fin_)
abbrev zjZ:=((List Out) × Node × Node) ⊕ ((Node × Node × Node) ⊕ ((Node × Node) ⊕ (Node × Node)))
def zhF (j:Job) (owner:Peer) (γ:Nat → Nat):zjZ → X × St
 | .inl (a0,a1,a2)=>(.ret,⟨bd 6 (.bptr 3 0 :: .lit 56 false (List.map eOut a0) :: bd 123 []),[.box 34 (zam a1),.box 67 (cJob j),.box 25 [vU owner.id,vH owner.addr],.box 34 (zam a2),.row 56 (γ 4) false (List.map eOut [])]⟩)
 | .inr (.inl (b0,b1,b2))=>(.ret,⟨bd 6 (.bptr 3 0 :: .sl 6 ((γ 6)) :: bd 123 []),[.box 34 (zam b0),.box 67 (cJob j),.box 25 [vU owner.id,vH owner.addr],.box 34 (zam b1),.row 56 (γ 4) false (List.map eOut []),.box 34 (zam b2),.row 56 (γ 6) false (List.map eOut [])]⟩)
 | .inr (.inr (.inl (c0,c1)))=>(.ret,⟨bd 6 (.bptr 3 0 :: .sl 5 ((γ 5)) :: bd 123 []),[.box 34 (zam c0),.box 67 (cJob j),.box 25 [vU owner.id,vH owner.addr],.box 34 (zam c1),.row 56 (γ 4) false (List.map eOut []),.row 56 (γ 5) false (List.map eOut [])]⟩)
 | .inr (.inr (.inr (d0,d1)))=>(.ret,⟨bd 6 (.bptr 3 0 :: .sl 6 ((γ 6)) :: bd 123 []),[.box 34 (zaR d0 (.sl 5 ((γ 5)))),.box 67 (cJob j),.box 25 [vU owner.id,vH owner.addr],.box 34 (zam d1),.row 56 (γ 4) false (List.map eOut []),.row 84 (γ 5) true (List.map zae d0.fingers),.row 56 (γ 6) false (List.map eOut [])]⟩)
instance {j owner}:InjS (zhF j owner):=⟨fun γ γ' x y h=>by
 rcases x with ⟨a0,a1,a2⟩ | ⟨b0,b1,b2⟩ | ⟨c0,c1⟩ | ⟨d0,d1⟩ <;> rcases y with ⟨a0',a1',a2'⟩ | ⟨b0',b1',b2'⟩ | ⟨c0',c1'⟩ | ⟨d0',d1'⟩ <;> simp only [zhF] at h <;> exact inj_⟩
def zjY (n:Node) (j:Job) (owner:Peer):Option (zjZ):=asks (fun γ=>(lim F pr).seg [6,7] zu7 ⟨bd 3 (.bptr 0 0 :: .bptr 1 0 :: .bptr 2 0 :: .bptr 3 0 :: bd 124 []),[.box 34 (zam n),.box 67 (cJob j),.box 25 [vU owner.id,vH owner.addr],.box 34 ([vU 0,vH 0,vI 0,vF false,.lit 0 true [],.lit 0 true [],.lit 0 true [],.lit 0 true [],.lit 0 true [],.lit 0 true [],.lit 0 true [],vW 0,vI 0,vI 0]),.row 56 (γ 4) false (List.map eOut [])]⟩) (zhF j owner)
def zhE (j:Job) (owner:Peer) (γ:Nat → Nat):(Node × (List Finger)) → X × St
 | (a0,a1)=>(.brk 0,⟨bd 3 (.bptr 0 0 :: .bptr 1 0 :: bd 1 (.bptr 3 0 :: bd 6 (.sl 5 ((γ 5)) :: bd 117 []))),[.box 34 (zam a0),.box 67 (cJob j),.box 25 [vU owner.id,vH owner.addr],.box 34 ([vU 0,vH 0,vI 0,vF false,.lit 0 true [],.lit 0 true [],.lit 0 true [],.lit 0 true [],.lit 0 true [],.lit 0 true [],.lit 0 true [],vW 0,vI 0,vI 0]),.row 56 (γ 4) false (List.map eOut []),.row 84 (γ 5) false (List.map zae a1)]⟩)
instance {j owner}:InjS (zhE j owner):=⟨fun γ γ' x y h=>by
 rcases x with ⟨a0,a1⟩ <;> rcases y with ⟨a0',a1'⟩ <;> simp only [zhE] at h <;> exact inj_⟩
def zib (j:Job) (owner:Peer) (i:Int) (b0:Node) (r5:List Finger):Option ((Node × (List Finger))):=asks (fun γ=>(lim F pr).loop [14,13,3,4,6] 6 zoV ⟨bd 3 (.bptr 0 0 :: .bptr 1 0 :: bd 1 (.bptr 3 0 :: bd 6 (.sl 5 ((γ 5)) :: vI i :: bd 116 []))),[.box 34 (zam b0),.box 67 (cJob j),.box 25 [vU owner.id,vH owner.addr],.box 34 ([vU 0,vH 0,vI 0,vF false,.lit 0 true [],.lit 0 true [],.lit 0 true [],.lit 0 true [],.lit 0 true [],.lit 0 true [],.lit 0 true [],vW 0,vI 0,vI 0]),.row 56 (γ 4) false (List.map eOut []),.row 84 (γ 5) false (List.map zae r5)]⟩) (zhE j owner)
def zc6 (n:Node) (j:Job) (owner:Peer):Option (zjZ):=
 (zh8 n j).bind fun res=>
 bif Ops.std.ieq j.kind 1 then
  (ztM res j j.via).bind fun ⟨r0,r1⟩=>
  some (.inl (r1,res,r0))
 else
  bif Ops.std.ieq j.kind 2 then
   (zuD res j.key j.val).bind fun ⟨r0,r1,r2⟩=>
   bif Ops.std.ieq r2 0 then
    (zdG r0 j true j.val 0).bind fun res1=>
    some (.inl (r1,res,res1))
   else
    (zdG res j false ⟨#[]⟩ r2).bind fun res1=>
    some (.inr (.inl (res,res1,r0)))
  else
   bif Ops.std.ieq j.kind 3 then
    (zwL res.store j.key).bind fun ⟨r0,r1⟩=>
    (zdG res j r1 r0 0).bind fun res1=>
    some (.inr (.inr (.inl (res,res1))))
   else
    bif Ops.std.ieq owner.addr res.me.addr then
     (zib j owner 0 res []).bind fun ⟨b0,r5⟩=>
     (zdG (⟨b0.me,b0.clock,b0.joined,b0.pred,b0.list,r5,b0.store,b0.pends,b0.jobs,b0.results,b0.rid,b0.jobID,b0.nextBit⟩:Node) j false ⟨#[]⟩ 0).bind fun res1=>
     some (.inr (.inr (.inr ((⟨b0.me,b0.clock,b0.joined,b0.pred,b0.list,r5,b0.store,b0.pends,b0.jobs,b0.results,b0.rid,b0.jobID,b0.nextBit⟩:Node),res1))))
    else
     (zwK res.fingers j.bit owner).bind fun res1=>
     (zdG (⟨res.me,res.clock,res.joined,res.pred,res.list,res1,res.store,res.pends,res.jobs,res.results,res.rid,res.jobID,res.nextBit⟩:Node) j false ⟨#[]⟩ 0).bind fun res2=>
     some (.inr (.inr (.inl ((⟨res.me,res.clock,res.joined,res.pred,res.list,res1,res.store,res.pends,res.jobs,res.results,res.rid,res.jobID,res.nextBit⟩:Node),res2))))
theorem zfv {n j owner r} (h:zc6 n j owner=some r):zjY n j owner=some r:=by
 unfold zc6 at h
 refine zao fun γ=>?_
 obtain ⟨res,h1,h⟩:=zac h
 rcases zaa h with ⟨h2,h⟩ | ⟨h2,h⟩
 obtain ⟨r3,h3,h⟩:=zac h
 rcases r3 with ⟨r0,r1⟩
 cases h;refine ⟨gam [0,0,0,0,(γ 4)],zaj ?_⟩;rotate_left
 rcases zaa h with ⟨h3,h⟩ | ⟨h3,h⟩
 obtain ⟨r4,h4,h⟩:=zac h
 rcases r4 with ⟨r0,r1,r2⟩
 rcases zaa h with ⟨h5,h⟩ | ⟨h5,h⟩
 obtain ⟨res1,h6,h⟩:=zac h
 cases h;refine ⟨gam [0,0,0,0,(γ 4)],zaj ?_⟩;rotate_left
 obtain ⟨res1,h6,h⟩:=zac h
 cases h;refine ⟨gam [0,0,0,0,(γ 4),0,0],zaj ?_⟩;rotate_left
 rcases zaa h with ⟨h4,h⟩ | ⟨h4,h⟩
 obtain ⟨r5,h5,h⟩:=zac h
 rcases r5 with ⟨r0,r1⟩
 obtain ⟨res1,h6,h⟩:=zac h
 cases h;refine ⟨gam [0,0,0,0,(γ 4),0],zaj ?_⟩;rotate_left
 rcases zaa h with ⟨h5,h⟩ | ⟨h5,h⟩
 obtain ⟨r6,γ2,h6,h⟩:=zah h (gam [0,0,0,0,(γ 4),0])
 rcases r6 with ⟨b0,r5⟩
 obtain ⟨res1,h7,h⟩:=zac h
 cases h;refine ⟨gam [0,0,0,0,(γ2 4),(γ2 5),0],zaj ?_⟩;rotate_left
 obtain ⟨res1,h6,h⟩:=zac h
 obtain ⟨res2,h7,h⟩:=zac h
 cases h;refine ⟨gam [0,0,0,0,(γ 4),0],zaj ?_⟩;rotate_left
 all_goals (dsimp only [R1,R2,R3,zhE,zhF] at *;show Ifc.apart IF_ _ (zBo zoV) _=_;generalize zoV=c0 at *;exact fin_)
def zjX (j:Job) (owner:Peer) (i:Int) (b0:Node) (r5:List Finger):Option ((Node × (List Finger))):=
 bif Ops.std.ilt i (xlen zae b0.fingers) then
  (xget zae b0.fingers i).bind fun x=>
  bif Ops.std.ieq x.bit j.bit then zib j owner (Ops.std.iadd .i64 i 1) b0 r5 else
  bif zaV zae 24 r5 [x] then zib j owner (Ops.std.iadd .i64 i 1) b0 (r5 ++ [x]) else
  none
 else
  some (b0,r5)
theorem zsI {j owner i b0 r5 r} (h:zjX j owner i b0 r5=some r):zib j owner i b0 r5=some r:=by
 unfold zjX at h
 refine zao fun γ=>?_
 rcases zaa h with ⟨h1,h⟩ | ⟨h1,h⟩
 obtain ⟨x,h2,h⟩:=zac h
 rcases zaa h with ⟨h3,h⟩ | ⟨h3,h⟩
 replace h:=zak h (gam [0,0,0,0,(γ 4),(γ 5)]);obtain ⟨γ',h0⟩:=h;refine ⟨γ',zad ?_⟩;rotate_left
 obtain ⟨h4,h⟩:=zaH h
 replace h:=zak h (gam [0,0,0,0,(γ 4),((γ 5) + 1)]);obtain ⟨γ',h0⟩:=h;refine ⟨γ',zad ?_⟩;rotate_left
 cases h;refine ⟨gam [0,0,0,0,(γ 4),(γ 5)],zad ?_⟩;rotate_left
 all_goals (dsimp only [zhE] at *;show zaT IF_ _ _ zoV zBn _=_;generalize zoV=c0 at *;exact fin_)
def zsH (n:Node) (j:Job) (owner:Peer):Option ((Node × (List Out))):=
 bif Ops.std.ieq owner.addr n.me.addr then
  (zjY n j owner).bind fun r=>match r with
   | .inl (t7,b0,b3)=>
    some (b3,t7)
   | .inr (.inl (b0,b3,b5))=>
    some (b3,[])
   | .inr (.inr (.inl (b0,b3)))=>
    some (b3,[])
   | .inr (.inr (.inr (b0,b3)))=>
    some (b3,[])
 else
  bif Ops.std.ieq j.kind 4 then
   (zjY n j owner).bind fun r=>match r with
    | .inl (t7,b0,b3)=>
     some (b3,t7)
    | .inr (.inl (b0,b3,b5))=>
     some (b3,[])
    | .inr (.inr (.inl (b0,b3)))=>
     some (b3,[])
    | .inr (.inr (.inr (b0,b3)))=>
     some (b3,[])
  else
   ztM n j owner
theorem zFs {n j owner r} (h:zsH n j owner=some r):zwR n j owner=some r:=by
 unfold zsH at h
 refine zau ?_
 rcases zaa h with ⟨h1,h⟩ | ⟨h1,h⟩
 obtain ⟨r2,γ1,h2,h⟩:=zah h (gam [0,0,0,0,0])
 rcases r2 with ⟨t7,b0,b3⟩ | ⟨b0,b3,b5⟩ | ⟨b0,b3⟩ | ⟨b0,b3⟩
 cases h;refine zab rfl ?_;rotate_left
 cases h;refine zab rfl ?_;rotate_left
 cases h;refine zab rfl ?_;rotate_left
 cases h;refine zab rfl ?_;rotate_left
 rcases zaa h with ⟨h2,h⟩ | ⟨h2,h⟩
 obtain ⟨r3,γ1,h3,h⟩:=zah h (gam [0,0,0,0,0])
 rcases r3 with ⟨t7,b0,b3⟩ | ⟨b0,b3,b5⟩ | ⟨b0,b3⟩ | ⟨b0,b3⟩
 cases h;refine zab rfl ?_;rotate_left
 cases h;refine zab rfl ?_;rotate_left
 cases h;refine zab rfl ?_;rotate_left
 cases h;refine zab rfl ?_;rotate_left
 have h3:=ask_some h
 rcases r with ⟨r0,r1⟩
 refine zab rfl ?_;rotate_left
 all_goals (dsimp only [R2,zhF] at *;show zas IF_ (zHw zu7) _ _=_;generalize zu7=c0 at *;exact fin_)
end Go.Ab.Tryz
