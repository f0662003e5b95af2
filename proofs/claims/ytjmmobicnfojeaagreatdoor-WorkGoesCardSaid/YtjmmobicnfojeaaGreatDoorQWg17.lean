/- Our texts for this statement, merged: what its theorem leads to. -/
import Derived.Test.YtjmmobicnfojeaaGreatDoorQWg10
set_option linter.unusedVariables false
set_option linter.unusedSimpArgs false
noncomputable section
namespace Go.Ab.Tryz
open Go Go.Ab Go.Proofs
set_option maxRecDepth 10000
set_option maxHeartbeats 4000000
def zqo (q:Peer) (zaU:Int) (zav:Int):Option (Bool):=
 some (Ops.std.ieq q.addr zav)
theorem zxb {q zaU zav r} (h:zqo q zaU zav=some r):znI q zaU zav=some r:=by
 unfold zqo at h
 refine zas ?_
 cases h;refine zab rfl ?_;rotate_left
 all_goals (dsimp only [zfH] at *;show zar IF_ zJa _ _=_;exact fin_)
def zc3 (zaU:Int) (zav:Int) (γ:Nat → Nat):Int ⊕ Unit → X × St
 | .inl a0=>(.ret,⟨bd 4 (vI a0 :: bd 14 []),[.box 25 [vU zaU,vH zav]]⟩)
 | .inr ()=>(.brk 0,⟨bd 19 [],[.box 25 [vU zaU,vH zav]]⟩)
instance {zaU zav}:InjS (zc3 zaU zav):=⟨fun γ γ' x y h=>by
 rcases x with a0 | _ <;> rcases y with a0' | _ <;> simp only [zc3] at h <;> exact inj_⟩
def zfs (s:List Peer) (zaU:Int) (zav:Int) (t8:Int):Option (Int ⊕ Unit):=asks (fun γ=>(lim F pr).loop [7,1,0,8] 1 zh3 ⟨.lit 25 false (List.map zah s) :: .fn 221 [.bptr 0 0] :: bd 5 (vI (xlen zah s) :: vI t8 :: bd 10 []),[.box 25 [vU zaU,vH zav]]⟩) (zc3 zaU zav)
def zc2 (s:List Peer) (zaU:Int) (zav:Int) (t8:Int):Option (Int ⊕ Unit):=
 bif Ops.std.ilt t8 (xlen zah s) then
  (xget zah s t8).bind fun x=>
  (znI x zaU zav).bind fun res=>
  bif res then some (.inl t8) else
  zfs s zaU zav (Ops.std.iadd .i64 t8 1)
 else
  some (.inr ())
theorem zhM {s zaU zav t8 r} (h:zc2 s zaU zav t8=some r):zfs s zaU zav t8=some r:=by
 unfold zc2 at h
 refine zap fun γ=>?_
 rcases zaa h with ⟨h1,h⟩ | ⟨h1,h⟩
 obtain ⟨x,h2,h⟩:=zac h
 obtain ⟨res,h3,h⟩:=zac h
 rcases zaa h with ⟨h4,h⟩ | ⟨h4,h⟩
 cases h;refine ⟨gam [],zad ?_⟩;rotate_left
 replace h:=zal h (gam []);obtain ⟨γ',h0⟩:=h;refine ⟨γ',zad ?_⟩;rotate_left
 cases h;refine ⟨gam [],zad ?_⟩;rotate_left
 all_goals (dsimp only [zc3,zfH] at *;show zaR IF_ _ _ zh3 zw2 _=_;generalize zh3=c0 at *;exact fin_)
def zkh (s:List Peer) (zaU:Int) (zav:Int):Option (Int):=
 (zfs s zaU zav 0).bind fun r=>match r with
  | .inl t4=>
   some t4
  | .inr ()=>
   some (-1)
theorem zve {s zaU zav r} (h:zkh s zaU zav=some r):zlx s zaU zav=some r:=by
 unfold zkh at h
 refine zas ?_
 obtain ⟨r1,γ1,h1,h⟩:=zag h (gam [])
 rcases r1 with t4 | _
 cases h;refine zab rfl ?_;rotate_left
 cases h;refine zab rfl ?_;rotate_left
 all_goals (dsimp only [zel,zc3] at *;show zar IF_ (zDO zh3) _ _=_;generalize zh3=c0 at *;exact fin_)
def zsr (p:Pair) (b0:ByteArray):Option (Bool):=
 some (Ops.std.slt b0 p.key)
theorem zyY {p b0 r} (h:zsr p b0=some r):zpN p b0=some r:=by
 unfold zsr at h
 refine zas ?_
 cases h;refine zab rfl ?_;rotate_left
 all_goals (dsimp only [zhz] at *;show zar IF_ zIs _ _=_;exact fin_)
def zcw (b0:ByteArray) (γ:Nat → Nat):Int ⊕ Unit → X × St
 | .inl a0=>(.ret,⟨bd 4 (vI a0 :: bd 14 []),[.box 9 [vT b0]]⟩)
 | .inr ()=>(.brk 0,⟨bd 19 [],[.box 9 [vT b0]]⟩)
instance {b0}:InjS (zcw b0):=⟨fun γ γ' x y h=>by
 rcases x with a0 | _ <;> rcases y with a0' | _ <;> simp only [zcw] at h <;> exact inj_⟩
def zey (s:List Pair) (b0:ByteArray) (t8:Int):Option (Int ⊕ Unit):=asks (fun γ=>(lim F pr).loop [7,1,0,8] 1 zh2 ⟨.lit 78 false (List.map zan s) :: .fn 143 [.bptr 0 0] :: bd 5 (vI (xlen zan s) :: vI t8 :: bd 10 []),[.box 9 [vT b0]]⟩) (zcw b0)
def zcv (s:List Pair) (b0:ByteArray) (t8:Int):Option (Int ⊕ Unit):=
 bif Ops.std.ilt t8 (xlen zan s) then
  (xget zan s t8).bind fun x=>
  (zpN x b0).bind fun res=>
  bif res then some (.inl t8) else
  zey s b0 (Ops.std.iadd .i64 t8 1)
 else
  some (.inr ())
theorem zfx {s b0 t8 r} (h:zcv s b0 t8=some r):zey s b0 t8=some r:=by
 unfold zcv at h
 refine zap fun γ=>?_
 rcases zaa h with ⟨h1,h⟩ | ⟨h1,h⟩
 obtain ⟨x,h2,h⟩:=zac h
 obtain ⟨res,h3,h⟩:=zac h
 rcases zaa h with ⟨h4,h⟩ | ⟨h4,h⟩
 cases h;refine ⟨gam [],zad ?_⟩;rotate_left
 replace h:=zal h (gam []);obtain ⟨γ',h0⟩:=h;refine ⟨γ',zad ?_⟩;rotate_left
 cases h;refine ⟨gam [],zad ?_⟩;rotate_left
 all_goals (dsimp only [zcw,zhz] at *;show zaR IF_ _ _ zh2 zw1 _=_;generalize zh2=c0 at *;exact fin_)
def zhY (s:List Pair) (b0:ByteArray):Option (Int):=
 (zey s b0 0).bind fun r=>match r with
  | .inl t4=>
   some t4
  | .inr ()=>
   some (-1)
theorem zsy {s b0 r} (h:zhY s b0=some r):zkf s b0=some r:=by
 unfold zhY at h
 refine zas ?_
 obtain ⟨r1,γ1,h1,h⟩:=zag h (gam [])
 rcases r1 with t4 | _
 cases h;refine zab rfl ?_;rotate_left
 cases h;refine zab rfl ?_;rotate_left
 all_goals (dsimp only [zdm,zcw] at *;show zar IF_ (zDL zh2) _ _=_;generalize zh2=c0 at *;exact fin_)
def zo0 (p:Pair) (b0:ByteArray):Option (Bool):=
 some (Ops.std.seq p.key b0)
theorem zo1 {p b0 r} (h:zo0 p b0=some r):zkb p b0=some r:=by
 unfold zo0 at h
 refine zas ?_
 cases h;refine zab rfl ?_;rotate_left
 all_goals (dsimp only [ze7] at *;show zar IF_ zIX _ _=_;exact fin_)
def zcy (b0:ByteArray) (γ:Nat → Nat):Int ⊕ Unit → X × St
 | .inl a0=>(.ret,⟨bd 4 (vI a0 :: bd 14 []),[.box 9 [vT b0]]⟩)
 | .inr ()=>(.brk 0,⟨bd 19 [],[.box 9 [vT b0]]⟩)
instance {b0}:InjS (zcy b0):=⟨fun γ γ' x y h=>by
 rcases x with a0 | _ <;> rcases y with a0' | _ <;> simp only [zcy] at h <;> exact inj_⟩
def zez (s:List Pair) (b0:ByteArray) (t8:Int):Option (Int ⊕ Unit):=asks (fun γ=>(lim F pr).loop [7,1,0,8] 1 zh2 ⟨.lit 78 false (List.map zan s) :: .fn 202 [.bptr 0 0] :: bd 5 (vI (xlen zan s) :: vI t8 :: bd 10 []),[.box 9 [vT b0]]⟩) (zcy b0)
def zcx (s:List Pair) (b0:ByteArray) (t8:Int):Option (Int ⊕ Unit):=
 bif Ops.std.ilt t8 (xlen zan s) then
  (xget zan s t8).bind fun x=>
  (zkb x b0).bind fun res=>
  bif res then some (.inl t8) else
  zez s b0 (Ops.std.iadd .i64 t8 1)
 else
  some (.inr ())
theorem zfy {s b0 t8 r} (h:zcx s b0 t8=some r):zez s b0 t8=some r:=by
 unfold zcx at h
 refine zap fun γ=>?_
 rcases zaa h with ⟨h1,h⟩ | ⟨h1,h⟩
 obtain ⟨x,h2,h⟩:=zac h
 obtain ⟨res,h3,h⟩:=zac h
 rcases zaa h with ⟨h4,h⟩ | ⟨h4,h⟩
 cases h;refine ⟨gam [],zad ?_⟩;rotate_left
 replace h:=zal h (gam []);obtain ⟨γ',h0⟩:=h;refine ⟨γ',zad ?_⟩;rotate_left
 cases h;refine ⟨gam [],zad ?_⟩;rotate_left
 all_goals (dsimp only [zcy,ze7] at *;show zaR IF_ _ _ zh2 zw1 _=_;generalize zh2=c0 at *;exact fin_)
def zhZ (s:List Pair) (b0:ByteArray):Option (Int):=
 (zez s b0 0).bind fun r=>match r with
  | .inl t4=>
   some t4
  | .inr ()=>
   some (-1)
theorem zsz {s b0 r} (h:zhZ s b0=some r):zny s b0=some r:=by
 unfold zhZ at h
 refine zas ?_
 obtain ⟨r1,γ1,h1,h⟩:=zag h (gam [])
 rcases r1 with t4 | _
 cases h;refine zab rfl ?_;rotate_left
 cases h;refine zab rfl ?_;rotate_left
 all_goals (dsimp only [zdn,zcy] at *;show zar IF_ (zDL zh2) _ _=_;generalize zh2=c0 at *;exact fin_)
def zg8 (γ:Nat → Nat):(List Peer) → X × St
 | a0=>(.brk 0,⟨bd 3 (.sl 1 ((γ 1)) :: bd 22 []),[.row 25 (γ 0) false (List.map zah []),.row 25 (γ 1) false (List.map zah a0)]⟩)
instance :InjS zg8:=⟨fun γ γ' x y h=>by
 rcases x with a0 <;> rcases y with a0' <;> simp only [zg8] at h <;> exact inj_⟩
def zjC (l:List Entry) (i:Int) (r1:List Peer):Option ((List Peer)):=asks (fun γ=>(lim F pr).loop [0,4,3] 2 zut ⟨.lit 81 false (List.map zai l) :: bd 2 (.sl 1 ((γ 1)) :: vI i :: bd 21 []),[.row 25 (γ 0) false (List.map zah []),.row 25 (γ 1) false (List.map zah r1)]⟩) zg8
def zg7 (l:List Entry) (i:Int) (r1:List Peer):Option ((List Peer)):=
 bif Ops.std.ilt i (xlen zai l) then
  (xget zai l i).bind fun x=>
  bif Ops.std.ilt x.misses 1 then
   bif zaK zah 16 r1 [x.peer] then zjC l (Ops.std.iadd .i64 i 1) (r1 ++ [x.peer]) else
   none
  else
   zjC l (Ops.std.iadd .i64 i 1) r1
 else
  some r1
theorem zsa {l i r1 r} (h:zg7 l i r1=some r):zjC l i r1=some r:=by
 unfold zg7 at h
 refine zap fun γ=>?_
 rcases zaa h with ⟨h1,h⟩ | ⟨h1,h⟩
 obtain ⟨x,h2,h⟩:=zac h
 rcases zaa h with ⟨h3,h⟩ | ⟨h3,h⟩
 obtain ⟨h4,h⟩:=zat h
 replace h:=zal h (gam [(γ 0),((γ 1) + 1)]);obtain ⟨γ',h0⟩:=h;refine ⟨γ',zad ?_⟩;rotate_left
 replace h:=zal h (gam [(γ 0),(γ 1)]);obtain ⟨γ',h0⟩:=h;refine ⟨γ',zad ?_⟩;rotate_left
 cases h;refine ⟨gam [(γ 0),(γ 1)],zad ?_⟩;rotate_left
 all_goals (dsimp only [zg8] at *;show zaR IF_ _ _ zut zFq _=_;generalize zut=c0 at *;exact fin_)
def zrt (l:List Entry):Option ((List Peer)):=
 zjC l 0 []
theorem zEg {l r} (h:zrt l=some r):znU l=some r:=by
 unfold zrt at h
 refine zas ?_
 obtain ⟨γ1,h1⟩:=zal h (gam [0,0])
 rcases r with r1
 refine zab rfl ?_;rotate_left
 all_goals (dsimp only [K1,zg8] at *;show zar IF_ (g78F zut) _ _=_;generalize zut=c0 at *;exact fin_)
def zhb (me:Peer) (key:Int) (most:Int) (γ:Nat → Nat):(List Peer) → X × St
 | a0=>(.brk 0,⟨bd 3 (vU key :: vI most :: .bptr 0 0 :: bd 5 (.sl 2 ((γ 2)) :: bd 125 [])),[.box 25 [vU me.id,vH me.addr],.row 25 (γ 1) false (List.map zah []),.row 25 (γ 2) false (List.map zah a0)]⟩)
instance {me key most}:InjS (zhb me key most):=⟨fun γ γ' x y h=>by
 rcases x with a0 <;> rcases y with a0' <;> simp only [zhb] at h <;> exact inj_⟩
def zmk (me:Peer) (f:List Finger) (key:Int) (most:Int) (i:Int) (r2:List Peer):Option ((List Peer)):=asks (fun γ=>(lim F pr).loop [2,12,11,3,5,4] 3 zp2 ⟨bd 2 (.lit 84 false (List.map zae f) :: vU key :: vI most :: .bptr 0 0 :: bd 5 (.sl 2 ((γ 2)) :: vI i :: bd 124 [])),[.box 25 [vU me.id,vH me.addr],.row 25 (γ 1) false (List.map zah []),.row 25 (γ 2) false (List.map zah r2)]⟩) (zhb me key most)
abbrev zmW:=((List Peer) × (List Peer) × (List Peer))
def zhd (me:Peer) (most:Int) (γ:Nat → Nat):zmW → X × St
 | (a0,a1,a2)=>(.brk 2,⟨bd 4 (vI most :: bd 9 (.lit 25 false (List.map zah a0) :: bd 122 [])),[.box 25 [vU me.id,vH me.addr],.row 25 (γ 1) false (List.map zah []),.row 25 (γ 2) false (List.map zah a1),.row 25 (γ 3) false (List.map zah a2)]⟩)
instance {me most}:InjS (zhd me most):=⟨fun γ γ' x y h=>by
 rcases x with ⟨a0,a1,a2⟩ <;> rcases y with ⟨a0',a1',a2'⟩ <;> simp only [zhd] at h <;> exact inj_⟩
def zeb (me:Peer) (key:Int) (most:Int) (out:List Peer) (i:Int) (r2:List Peer) (r3:List Peer):Option (zmW):=asks (fun γ=>(lim F pr).loop [11,13,3,5,15,4,14] 4 zp4 ⟨bd 3 (vU key :: vI most :: .bptr 0 0 :: bd 5 (.sl 2 ((γ 2)) :: bd 1 (.sl 3 ((γ 3)) :: .lit 25 false (List.map zah out) :: vI i :: bd 121 []))),[.box 25 [vU me.id,vH me.addr],.row 25 (γ 1) false (List.map zah []),.row 25 (γ 2) false (List.map zah r2),.row 25 (γ 3) false (List.map zah r3)]⟩) (zhd me most)
abbrev zmX:=((List Peer) × Int × (List Peer) × (List Peer) × Int × Int) ⊕ ((List Peer) × Int × (List Peer) × (List Peer) × Int × Int)
def zhe (me:Peer) (key:Int) (most:Int) (γ:Nat → Nat):zmX → X × St
 | .inl (a0,a1,a2,a3,a4,a5)=>(.nor,⟨bd 3 (vU key :: vI most :: .bptr 0 0 :: bd 5 (.sl 2 ((γ 2)) :: bd 1 (.sl 3 ((γ 3)) :: .lit 25 false (List.map zah a0) :: vI a1 :: bd 121 []))),[.box 25 [vU me.id,vH me.addr],.row 25 (γ 1) false (List.map zah []),.row 25 (γ 2) false (List.map zah a2),.row 25 (γ 3) false (List.map zah a3),.box 25 [vU a4,vH a5]]⟩)
 | .inr (b0,b1,b2,b3,b4,b5)=>(.brk 3,⟨bd 3 (vU key :: vI most :: .bptr 0 0 :: bd 5 (.sl 2 ((γ 2)) :: bd 1 (.sl 3 ((γ 3)) :: .lit 25 false (List.map zah b0) :: vI b1 :: bd 121 []))),[.box 25 [vU me.id,vH me.addr],.row 25 (γ 1) false (List.map zah []),.row 25 (γ 2) false (List.map zah b2),.row 25 (γ 3) false (List.map zah b3),.box 25 [vU b4,vH b5]]⟩)
instance {me key most}:InjS (zhe me key most):=⟨fun γ γ' x y h=>by
 rcases x with ⟨a0,a1,a2,a3,a4,a5⟩ | ⟨b0,b1,b2,b3,b4,b5⟩ <;> rcases y with ⟨a0',a1',a2',a3',a4',a5'⟩ | ⟨b0',b1',b2',b3',b4',b5'⟩ <;> simp only [zhe] at h <;> exact inj_⟩
def zpv (me:Peer) (key:Int) (most:Int) (out:List Peer) (i:Int) (r2:List Peer) (r3:List Peer) (zb0:Int) (zbt:Int):Option (zmX):=asks (fun γ=>(lim F pr).seg [15,11,13,3,5,4,14] zv9 ⟨bd 3 (vU key :: vI most :: .bptr 0 0 :: bd 5 (.sl 2 ((γ 2)) :: bd 1 (.sl 3 ((γ 3)) :: .lit 25 false (List.map zah out) :: vI i :: .bptr 4 0 :: bd 120 []))),[.box 25 [vU me.id,vH me.addr],.row 25 (γ 1) false (List.map zah []),.row 25 (γ 2) false (List.map zah r2),.row 25 (γ 3) false (List.map zah r3),.box 25 [vU zb0,vH zbt]]⟩) (zhe me key most)
abbrev zmV:=((List Peer) × Int × Int × (List Peer) × (List Peer) × Int × Int)
def zhc (me:Peer) (key:Int) (most:Int) (γ:Nat → Nat):zmV → X × St
 | (a0,a1,a2,a3,a4,a5,a6)=>(.brk 4,⟨bd 3 (vU key :: vI most :: .bptr 0 0 :: bd 5 (.sl 2 ((γ 2)) :: bd 1 (.sl 3 ((γ 3)) :: .lit 25 false (List.map zah a0) :: vI a1 :: .bptr 4 0 :: vI a2 :: bd 119 []))),[.box 25 [vU me.id,vH me.addr],.row 25 (γ 1) false (List.map zah []),.row 25 (γ 2) false (List.map zah a3),.row 25 (γ 3) false (List.map zah a4),.box 25 [vU a5,vH a6]]⟩)
instance {me key most}:InjS (zhc me key most):=⟨fun γ γ' x y h=>by
 rcases x with ⟨a0,a1,a2,a3,a4,a5,a6⟩ <;> rcases y with ⟨a0',a1',a2',a3',a4',a5',a6'⟩ <;> simp only [zhc] at h <;> exact inj_⟩
def zhG (me:Peer) (key:Int) (most:Int) (out:List Peer) (i:Int) (at_:Int) (far:Int) (r2:List Peer) (r3:List Peer) (zb0:Int) (zbt:Int):Option (zmV):=asks (fun γ=>(lim F pr).loop [18,16,14,17,15,11,13,3,5,4] 5 zp3 ⟨bd 3 (vU key :: vI most :: .bptr 0 0 :: bd 5 (.sl 2 ((γ 2)) :: bd 1 (.sl 3 ((γ 3)) :: .lit 25 false (List.map zah out) :: vI i :: .bptr 4 0 :: vI at_ :: vU far :: bd 118 []))),[.box 25 [vU me.id,vH me.addr],.row 25 (γ 1) false (List.map zah []),.row 25 (γ 2) false (List.map zah r2),.row 25 (γ 3) false (List.map zah r3),.box 25 [vU zb0,vH zbt]]⟩) (zhc me key most)
def zjV (me:Peer) (f:List Finger) (key:Int) (most:Int) (i:Int) (r2:List Peer):Option ((List Peer)):=
 bif Ops.std.ilt i (xlen zae f) then
  (xget zae f i).bind fun x=>
  bif zaK zah 16 r2 [x.peer] then zmk me f key most (Ops.std.iadd .i64 i 1) (r2 ++ [x.peer]) else
  none
 else
  some r2
theorem zsb {me f key most i r2 r} (h:zjV me f key most i r2=some r):zmk me f key most i r2=some r:=by
 unfold zjV at h
 refine zap fun γ=>?_
 rcases zaa h with ⟨h1,h⟩ | ⟨h1,h⟩
 obtain ⟨x,h2,h⟩:=zac h
 obtain ⟨h3,h⟩:=zat h
 replace h:=zal h (gam [0,(γ 1),((γ 2) + 1)]);obtain ⟨γ',h0⟩:=h;refine ⟨γ',zad ?_⟩;rotate_left
 cases h;refine ⟨gam [0,(γ 1),(γ 2)],zad ?_⟩;rotate_left
 all_goals (dsimp only [zhb] at *;show zaR IF_ _ _ zp2 zCx _=_;generalize zp2=c0 at *;exact fin_)
def zjX (me:Peer) (key:Int) (most:Int) (out:List Peer) (i:Int) (r2:List Peer) (r3:List Peer):Option (zmW):=
 bif Ops.std.ilt i (xlen zah r2) then
  (xget zah r2 i).bind fun x=>
  (zto r3 x.addr).bind fun res=>
  bif res then zeb me key most out (Ops.std.iadd .i64 i 1) r2 r3 else
  bif Ops.std.ieq x.addr me.addr then zeb me key most out (Ops.std.iadd .i64 i 1) r2 r3 else
  (zpv me key most out i r2 r3 x.id x.addr).bind fun r=>match r with
   | .inl (out1,i1,r21,r31,zb0,zbt)=>
    zeb me key most out1 (Ops.std.iadd .i64 i1 1) r21 r31
   | .inr (out1,i1,r21,r31,zb0,zbt)=>
    zeb me key most out1 (Ops.std.iadd .i64 i1 1) r21 r31
 else
  some (out,r2,r3)
theorem zsd {me key most out i r2 r3 r} (h:zjX me key most out i r2 r3=some r):zeb me key most out i r2 r3=some r:=by
 unfold zjX at h
 refine zap fun γ=>?_
 rcases zaa h with ⟨h1,h⟩ | ⟨h1,h⟩
 obtain ⟨x,h2,h⟩:=zac h
 obtain ⟨res,h3,h⟩:=zac h
 rcases zaa h with ⟨h4,h⟩ | ⟨h4,h⟩
 replace h:=zal h (gam [0,(γ 1),(γ 2),(γ 3)]);obtain ⟨γ',h0⟩:=h;refine ⟨γ',zad ?_⟩;rotate_left
 rcases zaa h with ⟨h5,h⟩ | ⟨h5,h⟩
 replace h:=zal h (gam [0,(γ 1),(γ 2),(γ 3)]);obtain ⟨γ',h0⟩:=h;refine ⟨γ',zad ?_⟩;rotate_left
 obtain ⟨r6,γ2,h6,h⟩:=zag h (gam [0,(γ 1),(γ 2),(γ 3)])
 rcases r6 with ⟨out1,i1,r21,r31,zb0,zbt⟩ | ⟨out1,i1,r21,r31,zb0,zbt⟩
 replace h:=zal h (gam [0,(γ2 1),(γ2 2),(γ2 3)]);obtain ⟨γ',h0⟩:=h;refine ⟨γ',zad ?_⟩;rotate_left
 replace h:=zal h (gam [0,(γ2 1),(γ2 2),(γ2 3)]);obtain ⟨γ',h0⟩:=h;refine ⟨γ',zad ?_⟩;rotate_left
 cases h;refine ⟨gam [0,(γ 1),(γ 2),(γ 3)],zad ?_⟩;rotate_left
 all_goals (dsimp only [R1,zhd,zhe] at *;show zaR IF_ _ _ zp4 (zCA zv9) _=_;generalize zp4=c0,zv9=c1 at *;exact fin_)
def zmY (me:Peer) (key:Int) (most:Int) (out:List Peer) (i:Int) (r2:List Peer) (r3:List Peer) (zb0:Int) (zbt:Int):Option (zmX):=
 bif zaK zah 16 r3 [(⟨zb0,zbt⟩:Peer)] then
  (zmg me.id zb0 key).bind fun res=>
  bif res then
   (zlO me.id zb0).bind fun res1=>
   (zhG me key most out i 0 res1 r2 (r3 ++ [(⟨zb0,zbt⟩:Peer)]) zb0 zbt).bind fun ⟨out1,i1,at_,r21,r31,zsH,znC⟩=>
   (xsub zah out1 0 at_).bind fun ys=>
   bif zaK zah 16 [] ys then
    bif zaK zah 16 ys [(⟨zsH,znC⟩:Peer)] then
     (xsub zah out1 at_ (xlen zah out1)).bind fun ys1=>
     bif zaK zah 16 (ys ++ [(⟨zsH,znC⟩:Peer)]) ys1 then
      some (.inl (((ys ++ [(⟨zsH,znC⟩:Peer)]) ++ ys1),i1,r21,r31,zsH,znC))
     else
      none
    else
     none
   else
    none
  else
   some (.inr (out,i,r2,(r3 ++ [(⟨zb0,zbt⟩:Peer)]),zb0,zbt))
 else
  none
theorem zyA {me key most out i r2 r3 zb0 zbt r} (h:zmY me key most out i r2 r3 zb0 zbt=some r):zpv me key most out i r2 r3 zb0 zbt=some r:=by
 unfold zmY at h
 refine zap fun γ=>?_
 obtain ⟨h1,h⟩:=zat h
 obtain ⟨res,h2,h⟩:=zac h
 rcases zaa h with ⟨h3,h⟩ | ⟨h3,h⟩
 obtain ⟨res1,h4,h⟩:=zac h
 obtain ⟨r5,γ3,h5,h⟩:=zag h (gam [0,(γ 1),(γ 2),((γ 3) + 1)])
 rcases r5 with ⟨out1,i1,at_,r21,r31,zsH,znC⟩
 obtain ⟨ys,h6,h⟩:=zac h
 obtain ⟨h7,h⟩:=zat h
 obtain ⟨h8,h⟩:=zat h
 obtain ⟨ys1,h9,h⟩:=zac h
 obtain ⟨h10,h⟩:=zat h
 cases h;refine ⟨gam [0,(γ3 1),(γ3 2),(γ3 3)],zak ?_⟩;rotate_left
 cases h;refine ⟨gam [0,(γ 1),(γ 2),((γ 3) + 1)],zak ?_⟩;rotate_left
 all_goals (dsimp only [R1,zhc,zhe] at *;show Ifc.apart IF_ _ (zCz zp3) _=_;generalize zp3=c0 at *;exact fin_)
def zjW (me:Peer) (key:Int) (most:Int) (out:List Peer) (i:Int) (at_:Int) (far:Int) (r2:List Peer) (r3:List Peer) (zb0:Int) (zbt:Int):Option (zmV):=
 bif Ops.std.ilt at_ (xlen zah out) then
  (xget zah out at_).bind fun x=>
  (zlO me.id x.id).bind fun res=>
  bif Ops.std.ilt far res then
   zhG me key most out i (Ops.std.iadd .i64 at_ 1) far r2 r3 zb0 zbt
  else
   bif Ops.std.ieq res far then
    bif Ops.std.ilt x.addr zbt then
     zhG me key most out i (Ops.std.iadd .i64 at_ 1) far r2 r3 zb0 zbt
    else
     some (out,i,at_,r2,r3,zb0,zbt)
   else
    some (out,i,at_,r2,r3,zb0,zbt)
 else
  some (out,i,at_,r2,r3,zb0,zbt)
theorem zsc {me key most out i at_ far r2 r3 zb0 zbt r} (h:zjW me key most out i at_ far r2 r3 zb0 zbt=some r):zhG me key most out i at_ far r2 r3 zb0 zbt=some r:=by
 unfold zjW at h
 refine zap fun γ=>?_
 rcases zaa h with ⟨h1,h⟩ | ⟨h1,h⟩
 obtain ⟨x,h2,h⟩:=zac h
 obtain ⟨res,h3,h⟩:=zac h
 rcases zaa h with ⟨h4,h⟩ | ⟨h4,h⟩
 replace h:=zal h (gam [0,(γ 1),(γ 2),(γ 3)]);obtain ⟨γ',h0⟩:=h;refine ⟨γ',zad ?_⟩;rotate_left
 rcases zaa h with ⟨h5,h⟩ | ⟨h5,h⟩
 rcases zaa h with ⟨h6,h⟩ | ⟨h6,h⟩
 replace h:=zal h (gam [0,(γ 1),(γ 2),(γ 3)]);obtain ⟨γ',h0⟩:=h;refine ⟨γ',zad ?_⟩;rotate_left
 cases h;refine ⟨gam [0,(γ 1),(γ 2),(γ 3)],zad ?_⟩;rotate_left
 cases h;refine ⟨gam [0,(γ 1),(γ 2),(γ 3)],zad ?_⟩;rotate_left
 cases h;refine ⟨gam [0,(γ 1),(γ 2),(γ 3)],zad ?_⟩;rotate_left
 all_goals (dsimp only [R1,zhc] at *;show zaR IF_ _ _ zp3 zCy _=_;generalize zp3=c0 at *;exact fin_)
def zrw (me:Peer) (l:List Entry) (f:List Finger) (key:Int) (most:Int):Option ((List Peer)):=
 (znU l).bind fun res=>
 (zmk me f key most 0 res).bind fun r2=>
 (zeb me key most [] 0 r2 []).bind fun ⟨out,r21,r3⟩=>
 bif Ops.std.ilt most 0 then some [] else
 bif Ops.std.ilt most (xlen zah out) then
  (xsub zah out 0 most).bind fun ys=>
  some ys
 else
  some out
theorem zEj {me l f key most r} (h:zrw me l f key most=some r):zvt me l f key most=some r:=by
 unfold zrw at h
 refine zas ?_
 obtain ⟨res,h1,h⟩:=zac h
 obtain ⟨r2,γ2,h2,h⟩:=zag h (gam [0,0,0])
 obtain ⟨r3,γ3,h3,h⟩:=zag h (gam [0,(γ2 1),(γ2 2),0])
 rcases r3 with ⟨out,r21,r3⟩
 rcases zaa h with ⟨h4,h⟩ | ⟨h4,h⟩
 cases h;refine zab rfl ?_;rotate_left
 rcases zaa h with ⟨h5,h⟩ | ⟨h5,h⟩
 obtain ⟨ys,h6,h⟩:=zac h
 cases h;refine zab rfl ?_;rotate_left
 cases h;refine zab rfl ?_;rotate_left
 all_goals (dsimp only [K1,R1,zhb,zhd] at *;show zar IF_ (zIo zp2 zp4) _ _=_;generalize zp2=c0,zp4=c1 at *;exact fin_)
def ziq (l:List Pair) (key:ByteArray) (val:ByteArray) (γ:Nat → Nat):Int → X × St
 | a0=>(.brk 0,⟨.lit 78 false (List.map zan l) :: vT key :: vT val :: bd 5 (vI a0 :: bd 60 []),[.row 78 (γ 0) false (List.map zan [])]⟩)
instance {l key val}:InjS (ziq l key val):=⟨fun γ γ' x y h=>by
 rcases x with a0 <;> rcases y with a0' <;> simp only [ziq] at h <;> exact inj_⟩
def zk1 (l:List Pair) (key:ByteArray) (val:ByteArray) (at_:Int):Option (Int):=asks (fun γ=>(lim F pr).loop [1,2,0,8] 1 zus ⟨.lit 78 false (List.map zan l) :: vT key :: vT val :: bd 5 (vI at_ :: bd 60 []),[.row 78 (γ 0) false (List.map zan [])]⟩) (ziq l key val)
def zk2 (l:List Pair) (key:ByteArray) (val:ByteArray) (at_:Int):Option (Int):=
 bif Ops.std.ilt at_ (xlen zan l) then
  (xget zan l at_).bind fun x=>
  (zrq key x.key).bind fun res=>
  bif res then some at_ else
  zk1 l key val (Ops.std.iadd .i64 at_ 1)
 else
  some at_
theorem ztq {l key val at_ r} (h:zk2 l key val at_=some r):zk1 l key val at_=some r:=by
 unfold zk2 at h
 refine zap fun γ=>?_
 rcases zaa h with ⟨h1,h⟩ | ⟨h1,h⟩
 obtain ⟨x,h2,h⟩:=zac h
 obtain ⟨res,h3,h⟩:=zac h
 rcases zaa h with ⟨h4,h⟩ | ⟨h4,h⟩
 cases h;refine ⟨gam [(γ 0)],zad ?_⟩;rotate_left
 replace h:=zal h (gam [(γ 0)]);obtain ⟨γ',h0⟩:=h;refine ⟨γ',zad ?_⟩;rotate_left
 cases h;refine ⟨gam [(γ 0)],zad ?_⟩;rotate_left
 all_goals (dsimp only [R1,ziq] at *;show zaR IF_ _ _ zus zFp _=_;generalize zus=c0 at *;exact fin_)
def ztp (l:List Pair) (key:ByteArray) (val:ByteArray):Option (((List Pair) × Int)):=
 (zxt key).bind fun res=>
 bif res then
  bif Ops.std.ilt 512 (Ops.std.slen val) then some (l,5) else
  (zoT l key).bind fun res1=>
  bif Ops.std.ile 0 res1 then
   bif zaK zan 32 [] l then
    (xget zan l res1).bind fun x=>
    some (xset l res1 (⟨x.key,val⟩:Pair),0)
   else
    none
  else
   bif Ops.std.ilt 63 (xlen zan l) then some (l,10) else
   (zk1 l key val 0).bind fun at_=>
   (xsub zan l 0 at_).bind fun ys=>
   bif zaK zan 32 [] ys then
    bif zaK zan 32 ys [(⟨key,val⟩:Pair)] then
     (xsub zan l at_ (xlen zan l)).bind fun ys1=>
     bif zaK zan 32 (ys ++ [(⟨key,val⟩:Pair)]) ys1 then some (((ys ++ [(⟨key,val⟩:Pair)]) ++ ys1),0) else
     none
    else
     none
   else
    none
 else
  some (l,7)
theorem zGk {l key val r} (h:ztp l key val=some r):zxx l key val=some r:=by
 unfold ztp at h
 refine zas ?_
 obtain ⟨res,h1,h⟩:=zac h
 rcases zaa h with ⟨h2,h⟩ | ⟨h2,h⟩
 rcases zaa h with ⟨h3,h⟩ | ⟨h3,h⟩
 cases h;refine zab rfl ?_;rotate_left
 obtain ⟨res1,h4,h⟩:=zac h
 rcases zaa h with ⟨h5,h⟩ | ⟨h5,h⟩
 obtain ⟨h6,h⟩:=zat h
 obtain ⟨x,h7,h⟩:=zac h
 cases h;refine zab rfl ?_;rotate_left
 rcases zaa h with ⟨h6,h⟩ | ⟨h6,h⟩
 cases h;refine zab rfl ?_;rotate_left
 obtain ⟨at_,γ3,h7,h⟩:=zag h (gam [0])
 obtain ⟨ys,h8,h⟩:=zac h
 obtain ⟨h9,h⟩:=zat h
 obtain ⟨h10,h⟩:=zat h
 obtain ⟨ys1,h11,h⟩:=zac h
 obtain ⟨h12,h⟩:=zat h
 cases h;refine zab rfl ?_;rotate_left
 cases h;refine zab rfl ?_;rotate_left
 all_goals (dsimp only [R1,R2,ziq] at *;show zar IF_ (g77F zus) _ _=_;generalize zus=c0 at *;exact fin_)
def zhr (to_:Peer) (γ:Nat → Nat):(Node × (List Out)) → X × St
 | (a0,a1)=>(.brk 0,⟨bd 4 (.bptr 0 0 :: bd 3 (.bptr 2 0 :: bd 1 (.sl 4 ((γ 4)) :: bd 30 []))),[.box 34 (zao a0),.box 25 [vU to_.id,vH to_.addr],.box 34 ([vU 0,vH 0,vI 0,vF false,.lit 0 true [],.lit 0 true [],.lit 0 true [],.lit 0 true [],.lit 0 true [],.lit 0 true [],.lit 0 true [],vW 0,vI 0,vI 0]),.row 56 (γ 3) false (List.map eOut []),.row 56 (γ 4) false (List.map eOut a1)]⟩)
instance {to_}:InjS (zhr to_):=⟨fun γ γ' x y h=>by
 rcases x with ⟨a0,a1⟩ <;> rcases y with ⟨a0',a1'⟩ <;> simp only [zhr] at h <;> exact inj_⟩
def zmq (to_:Peer) (fresh:Bool) (c:List (List Pair)) (i:Int) (b0:Node) (r4:List Out):Option ((Node × (List Out))):=asks (fun γ=>(lim F pr).loop [5,3,11,12,4,10,8] 5 zuj ⟨bd 3 (vF fresh :: .bptr 0 0 :: .bptr 1 0 :: bd 2 (.bptr 2 0 :: bd 1 (.sl 4 ((γ 4)) :: .lit 28 false (List.map (eL 78 zan) c) :: vI i :: bd 28 []))),[.box 34 (zao b0),.box 25 [vU to_.id,vH to_.addr],.box 34 ([vU 0,vH 0,vI 0,vF false,.lit 0 true [],.lit 0 true [],.lit 0 true [],.lit 0 true [],.lit 0 true [],.lit 0 true [],.lit 0 true [],vW 0,vI 0,vI 0]),.row 56 (γ 3) false (List.map eOut []),.row 56 (γ 4) false (List.map eOut r4)]⟩) (zhr to_)
def zj3 (to_:Peer) (fresh:Bool) (c:List (List Pair)) (i:Int) (b0:Node) (r4:List Out):Option ((Node × (List Out))):=
 bif Ops.std.ilt i (xlen (eL 78 zan) c) then
  (xget (eL 78 zan) c i).bind fun x=>
  (zlX b0 to_ (⟨10,0,0,fresh,0,⟨#[]⟩,⟨#[]⟩,(⟨0,0⟩:Peer),[],x⟩:Msg) 6 0).bind fun ⟨r0,r1⟩=>
  bif zaK eOut 136 r4 r1 then zmq to_ fresh c (Ops.std.iadd .i64 i 1) r0 (r4 ++ r1) else
  none
 else
  some (b0,r4)
theorem zsl {to_ fresh c i b0 r4 r} (h:zj3 to_ fresh c i b0 r4=some r):zmq to_ fresh c i b0 r4=some r:=by
 unfold zj3 at h
 refine zap fun γ=>?_
 rcases zaa h with ⟨h1,h⟩ | ⟨h1,h⟩
 obtain ⟨x,h2,h⟩:=zac h
 obtain ⟨r3,h3,h⟩:=zac h
 rcases r3 with ⟨r0,r1⟩
 obtain ⟨h4,h⟩:=zat h
 replace h:=zal h (gam [0,0,0,(γ 3),((γ 4) + 1)]);obtain ⟨γ',h0⟩:=h;refine ⟨γ',zad ?_⟩;rotate_left
 cases h;refine ⟨gam [0,0,0,(γ 3),(γ 4)],zad ?_⟩;rotate_left
 all_goals (dsimp only [R2,zhr] at *;show zaR IF_ _ _ zuj zE0 _=_;generalize zuj=c0 at *;exact fin_)
def zrG (n:Node) (to_:Peer) (l:List Pair) (fresh:Bool):Option ((Node × (List Out))):=
 (xcut zan 78 l).bind fun cs=>
 zmq to_ fresh cs 0 n []
theorem zEu {n to_ l fresh r} (h:zrG n to_ l fresh=some r):zvy n to_ l fresh=some r:=by
 unfold zrG at h
 refine zas ?_
 obtain ⟨cs,h1,h⟩:=zac h
 obtain ⟨γ1,h2⟩:=zal h (gam [0,0,0,0,0])
 rcases r with ⟨b0,r4⟩
 refine zab rfl ?_;rotate_left
 all_goals (dsimp only [R2,zhr] at *;show zar IF_ (g23F zuj) _ _=_;generalize zuj=c0 at *;exact fin_)
def zf5 (γ:Nat → Nat):Int ⊕ Unit → X × St
 | .inl a0=>(.ret,⟨bd 4 (vI a0 :: bd 15 []),[]⟩)
 | .inr ()=>(.brk 0,⟨bd 20 [],[]⟩)
instance :InjS zf5:=⟨fun γ γ' x y h=>by
 rcases x with a0 | _ <;> rcases y with a0' | _ <;> simp only [zf5] at h <;> exact inj_⟩
def zk3 (l:List Pair) (key:ByteArray) (i:Int):Option (Int ⊕ Unit):=asks (fun γ=>(lim F pr).loop [0,1,5] 0 zp5 ⟨.lit 78 false (List.map zan l) :: vT key :: bd 3 (vI i :: bd 14 []),[]⟩) zf5
def zf4 (l:List Pair) (key:ByteArray) (i:Int):Option (Int ⊕ Unit):=
 bif Ops.std.ilt i (xlen zan l) then
  (xget zan l i).bind fun x=>
  bif Ops.std.seq x.key key then some (.inl i) else
  zk3 l key (Ops.std.iadd .i64 i 1)
 else
  some (.inr ())
theorem zlW {l key i r} (h:zf4 l key i=some r):zk3 l key i=some r:=by
 unfold zf4 at h
 refine zap fun γ=>?_
 rcases zaa h with ⟨h1,h⟩ | ⟨h1,h⟩
 obtain ⟨x,h2,h⟩:=zac h
 rcases zaa h with ⟨h3,h⟩ | ⟨h3,h⟩
 cases h;refine ⟨gam [],zad ?_⟩;rotate_left
 replace h:=zal h (gam []);obtain ⟨γ',h0⟩:=h;refine ⟨γ',zad ?_⟩;rotate_left
 cases h;refine ⟨gam [],zad ?_⟩;rotate_left
 all_goals (dsimp only [zf5] at *;show zaR IF_ _ _ zp5 zCB _=_;generalize zp5=c0 at *;exact fin_)
def zpx (l:List Pair) (key:ByteArray):Option (Int):=
 (zk3 l key 0).bind fun r=>match r with
  | .inl t4=>
   some t4
  | .inr ()=>
   some (-1)
theorem zBQ {l key r} (h:zpx l key=some r):zoT l key=some r:=by
 unfold zpx at h
 refine zas ?_
 obtain ⟨r1,γ1,h1,h⟩:=zag h (gam [])
 rcases r1 with t4 | _
 cases h;refine zab rfl ?_;rotate_left
 cases h;refine zab rfl ?_;rotate_left
 all_goals (dsimp only [R1,zf5] at *;show zar IF_ (zIp zp5) _ _=_;generalize zp5=c0 at *;exact fin_)
def zim (γ:Nat → Nat):(Int × Int) ⊕ Unit → X × St
 | .inl (a0,a1)=>(.ret,⟨bd 4 (.bptr 0 0 :: vF true :: bd 20 []),[.box 25 [vU a0,vH a1]]⟩)
 | .inr ()=>(.brk 0,⟨bd 4 (.bptr 0 0 :: bd 21 []),[.box 25 [vU 0,vH 0]]⟩)
instance :InjS zim:=⟨fun γ γ' x y h=>by
 rcases x with ⟨a0,a1⟩ | _ <;> rcases y with ⟨a0',a1'⟩ | _ <;> simp only [zim] at h <;> exact inj_⟩
def ze0 (l:List Finger) (bit:Int) (i:Int):Option ((Int × Int) ⊕ Unit):=asks (fun γ=>(lim F pr).loop [1,0,6,4] 1 zqi ⟨.lit 84 false (List.map zae l) :: vI bit :: bd 2 (.bptr 0 0 :: bd 1 (vI i :: bd 19 [])),[.box 25 [vU 0,vH 0]]⟩) zim
def zil (l:List Finger) (bit:Int) (i:Int):Option ((Int × Int) ⊕ Unit):=
 bif Ops.std.ilt i (xlen zae l) then
  (xget zae l i).bind fun x=>
  bif Ops.std.ieq x.bit bit then some (.inl (x.peer.id,x.peer.addr)) else
  ze0 l bit (Ops.std.iadd .i64 i 1)
 else
  some (.inr ())
theorem znV {l bit i r} (h:zil l bit i=some r):ze0 l bit i=some r:=by
 unfold zil at h
 refine zap fun γ=>?_
 rcases zaa h with ⟨h1,h⟩ | ⟨h1,h⟩
 obtain ⟨x,h2,h⟩:=zac h
 rcases zaa h with ⟨h3,h⟩ | ⟨h3,h⟩
 cases h;refine ⟨gam [],zad ?_⟩;rotate_left
 replace h:=zal h (gam []);obtain ⟨γ',h0⟩:=h;refine ⟨γ',zad ?_⟩;rotate_left
 cases h;refine ⟨gam [],zad ?_⟩;rotate_left
 all_goals (dsimp only [zim] at *;show zaR IF_ _ _ zqi zCX _=_;generalize zqi=c0 at *;exact fin_)
def zoQ (l:List Finger) (bit:Int):Option ((Peer × Bool)):=
 (ze0 l bit 0).bind fun r=>match r with
  | .inl (zaU,zav)=>
   some ((⟨zaU,zav⟩:Peer),true)
  | .inr ()=>
   some ((⟨0,0⟩:Peer),false)
theorem zx8 {l bit r} (h:zoQ l bit=some r):zxu l bit=some r:=by
 unfold zoQ at h
 refine zas ?_
 obtain ⟨r1,γ1,h1,h⟩:=zag h (gam [])
 rcases r1 with ⟨zaU,zav⟩ | _
 cases h;refine zab rfl ?_;rotate_left
 cases h;refine zab rfl ?_;rotate_left
 all_goals (dsimp only [R2,zim] at *;show zar IF_ (zI5 zqi) _ _=_;generalize zqi=c0 at *;exact fin_)
def zho (l:List Result) (j:Job) (has:Bool) (val:ByteArray) (e_:Int) (γ:Nat → Nat):Unit ⊕ (Int × Int) → X × St
 | .inl ()=>(.ret,⟨bd 10 (.sl 2 ((γ 2)) :: bd 32 []),[.box 67 (cJob j),.row 60 (γ 1) false (List.map zaq []),.row 60 (γ 2) false (List.map zaq (l ++ [(⟨j.id,j.kind,j.key,val,has,e_⟩:Result)]))]⟩)
 | .inr (b0,b1)=>(.ret,⟨bd 10 (.sub 2 ((γ 2)) (b0) (b1) :: bd 32 []),[.box 67 (cJob j),.row 60 (γ 1) false (List.map zaq []),.row 60 (γ 2) false (List.map zaq (l ++ [(⟨j.id,j.kind,j.key,val,has,e_⟩:Result)]))]⟩)
instance {l j has val e_}:InjS (zho l j has val e_):=⟨fun γ γ' x y h=>by
 rcases x with _ | ⟨b0,b1⟩ <;> rcases y with _ | ⟨b0',b1'⟩ <;> simp only [zho] at h <;> exact inj_⟩
def zjE (l:List Result) (j:Job) (has:Bool) (val:ByteArray) (e_:Int):Option (Unit ⊕ (Int × Int)):=asks (fun γ=>(lim F pr).seg [10] zwj ⟨.lit 60 false (List.map zaq l) :: bd 1 (vF has :: vT val :: vI e_ :: bd 1 (.bptr 0 0 :: bd 36 [])),[.box 67 (cJob j),.row 60 (γ 1) false (List.map zaq [])]⟩) (zho l j has val e_)
def zdS (l:List Result) (j:Job) (has:Bool) (val:ByteArray) (e_:Int) (γ:Nat → Nat):Unit ⊕ (Int × Int) → X × St
 | .inl ()=>(.brk 0,⟨bd 11 (.sl 2 ((γ 2)) :: bd 31 []),[.box 67 (cJob j),.row 60 (γ 1) false (List.map zaq []),.row 60 (γ 2) false (List.map zaq (l ++ [(⟨j.id,j.kind,j.key,val,has,e_⟩:Result)]))]⟩)
 | .inr (b0,b1)=>(.brk 0,⟨bd 11 (.sub 2 ((γ 2)) (b0) (b1) :: bd 31 []),[.box 67 (cJob j),.row 60 (γ 1) false (List.map zaq []),.row 60 (γ 2) false (List.map zaq (l ++ [(⟨j.id,j.kind,j.key,val,has,e_⟩:Result)]))]⟩)
instance {l j has val e_}:InjS (zdS l j has val e_):=⟨fun γ γ' x y h=>by
 rcases x with _ | ⟨b0,b1⟩ <;> rcases y with _ | ⟨b0',b1'⟩ <;> simp only [zdS] at h <;> exact inj_⟩
def zpB (l:List Result) (j:Job) (has:Bool) (val:ByteArray) (e_:Int):Option (Unit ⊕ (Int × Int)):=asks (fun γ=>(lim F pr).loop [11] 3 zkO ⟨bd 11 (.sl 2 ((γ 2)) :: bd 31 []),[.box 67 (cJob j),.row 60 (γ 1) false (List.map zaq []),.row 60 (γ 2) false (List.map zaq (l ++ [(⟨j.id,j.kind,j.key,val,has,e_⟩:Result)]))]⟩) (zdS l j has val e_)
def zeJ (l:List Result) (j:Job) (has:Bool) (val:ByteArray) (e_:Int) (out_lo:Int) (out_hi:Int):Option (Unit ⊕ (Int × Int)):=asks (fun γ=>(lim F pr).loop [11] 3 zkO ⟨bd 11 (.sub 2 ((γ 2)) (out_lo) (out_hi) :: bd 31 []),[.box 67 (cJob j),.row 60 (γ 1) false (List.map zaq []),.row 60 (γ 2) false (List.map zaq (l ++ [(⟨j.id,j.kind,j.key,val,has,e_⟩:Result)]))]⟩) (zdS l j has val e_)
def zsk (l:List Result) (j:Job) (has:Bool) (val:ByteArray) (e_:Int):Option (Unit ⊕ (Int × Int)):=
 bif zaK zaq 64 [] l then
  bif zaK zaq 64 l [(⟨j.id,j.kind,j.key,val,has,e_⟩:Result)] then zpB l j has val e_ else
  none
 else
  none
theorem zyK {l j has val e_ r} (h:zsk l j has val e_=some r):zjE l j has val e_=some r:=by
 unfold zsk at h
 refine zap fun γ=>?_
 obtain ⟨h1,h⟩:=zat h
 obtain ⟨h2,h⟩:=zat h
 obtain ⟨γ1,h3⟩:=zal h (gam [0,(γ 1),1])
 rcases r with _ | ⟨out_lo,out_hi⟩
 refine ⟨gam [0,(γ1 1),(γ1 2)],zak ?_⟩;rotate_left
 refine ⟨gam [0,(γ1 1),(γ1 2)],zak ?_⟩;rotate_left
 all_goals (dsimp only [zdS,zho] at *;show Ifc.apart IF_ _ (zCY zkO) _=_;generalize zkO=c0 at *;exact fin_)
def zsj (l:List Result) (j:Job) (has:Bool) (val:ByteArray) (e_:Int):Option (Unit ⊕ (Int × Int)):=
 bif Ops.std.ilt 16 (xlen zaq (l ++ [(⟨j.id,j.kind,j.key,val,has,e_⟩:Result)])) then
  (xsub zaq (l ++ [(⟨j.id,j.kind,j.key,val,has,e_⟩:Result)]) 1 (xlen zaq (l ++ [(⟨j.id,j.kind,j.key,val,has,e_⟩:Result)]))).bind fun ys=>
  zeJ l j has val e_ 1 (xlen zaq (l ++ [(⟨j.id,j.kind,j.key,val,has,e_⟩:Result)]))
 else
  some (.inl ())
theorem zyJ {l j has val e_ r} (h:zsj l j has val e_=some r):zpB l j has val e_=some r:=by
 unfold zsj at h
 refine zap fun γ=>?_
 rcases zaa h with ⟨h1,h⟩ | ⟨h1,h⟩
 obtain ⟨ys,h2,h⟩:=zac h
 replace h:=zal h (gam [0,(γ 1),(γ 2)]);obtain ⟨γ',h0⟩:=h;refine ⟨γ',zad ?_⟩;rotate_left
 cases h;refine ⟨gam [0,(γ 1),(γ 2)],zad ?_⟩;rotate_left
 all_goals (dsimp only [zdS] at *;show zaR IF_ _ _ zkO zw3 _=_;generalize zkO=c0 at *;exact fin_)
def zoU (l:List Result) (j:Job) (has:Bool) (val:ByteArray) (e_:Int) (out_lo:Int) (out_hi:Int):Option (Unit ⊕ (Int × Int)):=
 (xsub zaq (l ++ [(⟨j.id,j.kind,j.key,val,has,e_⟩:Result)]) out_lo out_hi).bind fun ys=>
 bif Ops.std.ilt 16 (xlen zaq ys) then
  bif Ops.std.ieq out_lo 0 then
   (xsub zaq (l ++ [(⟨j.id,j.kind,j.key,val,has,e_⟩:Result)]) 1 (xlen zaq ys)).bind fun ys1=>
   zeJ l j has val e_ 1 (xlen zaq ys)
  else
   (xsub zaq ys 1 (xlen zaq ys)).bind fun ys1=>
   zeJ l j has val e_ (Ops.std.iadd .i64 out_lo 1) (Ops.std.iadd .i64 out_lo (xlen zaq ys))
 else
  some (.inr (out_lo,out_hi))
theorem zoV {l j has val e_ out_lo out_hi r} (h:zoU l j has val e_ out_lo out_hi=some r):zeJ l j has val e_ out_lo out_hi=some r:=by
 unfold zoU at h
 refine zap fun γ=>?_
 obtain ⟨ys,h1,h⟩:=zac h
 rcases zaa h with ⟨h2,h⟩ | ⟨h2,h⟩
 rcases zaa h with ⟨h3,h⟩ | ⟨h3,h⟩
 obtain ⟨ys1,h4,h⟩:=zac h
 replace h:=zal h (gam [0,(γ 1),(γ 2)]);obtain ⟨γ',h0⟩:=h;refine ⟨γ',zad ?_⟩;rotate_left
 obtain ⟨ys1,h4,h⟩:=zac h
 replace h:=zal h (gam [0,(γ 1),(γ 2)]);obtain ⟨γ',h0⟩:=h;refine ⟨γ',zad ?_⟩;rotate_left
 cases h;refine ⟨gam [0,(γ 1),(γ 2)],zad ?_⟩;rotate_left
 all_goals (dsimp only [zdS] at *;show zaR IF_ _ _ zkO zw3 _=_;generalize zkO=c0 at *;exact fin_)
def zrE (l:List Result) (j:Job) (has:Bool) (val:ByteArray) (e_:Int):Option ((List Result)):=
 bif Ops.std.ieq j.kind 2 then
  (zjE l j has val e_).bind fun r=>match r with
   | .inl ()=>
    some (l ++ [(⟨j.id,j.kind,j.key,val,has,e_⟩:Result)])
   | .inr (t10_lo,t10_hi)=>
    (xsub zaq (l ++ [(⟨j.id,j.kind,j.key,val,has,e_⟩:Result)]) t10_lo t10_hi).bind fun ys=>
    some ys
 else
  bif Ops.std.ieq j.kind 3 then
   (zjE l j has val e_).bind fun r=>match r with
    | .inl ()=>
     some (l ++ [(⟨j.id,j.kind,j.key,val,has,e_⟩:Result)])
    | .inr (t10_lo,t10_hi)=>
     (xsub zaq (l ++ [(⟨j.id,j.kind,j.key,val,has,e_⟩:Result)]) t10_lo t10_hi).bind fun ys=>
     some ys
  else
   some l
theorem zEs {l j has val e_ r} (h:zrE l j has val e_=some r):zvw l j has val e_=some r:=by
 unfold zrE at h
 refine zas ?_
 rcases zaa h with ⟨h1,h⟩ | ⟨h1,h⟩
 obtain ⟨r2,γ1,h2,h⟩:=zag h (gam [0,0])
 rcases r2 with _ | ⟨t10_lo,t10_hi⟩
 cases h;refine zab rfl ?_;rotate_left
 obtain ⟨ys,h3,h⟩:=zac h
 cases h;refine zab rfl ?_;rotate_left
 rcases zaa h with ⟨h2,h⟩ | ⟨h2,h⟩
 obtain ⟨r3,γ1,h3,h⟩:=zag h (gam [0,0])
 rcases r3 with _ | ⟨t10_lo,t10_hi⟩
 cases h;refine zab rfl ?_;rotate_left
 obtain ⟨ys,h4,h⟩:=zac h
 cases h;refine zab rfl ?_;rotate_left
 cases h;refine zab rfl ?_;rotate_left
 all_goals (dsimp only [R1,zho] at *;show zar IF_ (zI6 zwj) _ _=_;generalize zwj=c0 at *;exact fin_)
def zes (γ:Nat → Nat):(List Job) → X × St
 | a0=>(.brk 0,⟨bd 5 (.sl 1 ((γ 1)) :: bd 18 []),[.row 67 (γ 0) false (List.map eJob []),.row 67 (γ 1) false (List.map eJob a0)]⟩)
instance :InjS zes:=⟨fun γ γ' x y h=>by
 rcases x with a0 <;> rcases y with a0' <;> simp only [zes] at h <;> exact inj_⟩
def zf8 (l:List Job) (at_:Int) (i:Int) (r1:List Job):Option ((List Job)):=asks (fun γ=>(lim F pr).loop [1,0,6,5] 2 zqj ⟨.lit 67 false (List.map eJob l) :: vI at_ :: bd 3 (.sl 1 ((γ 1)) :: vI i :: bd 17 []),[.row 67 (γ 0) false (List.map eJob []),.row 67 (γ 1) false (List.map eJob r1)]⟩) zes
def zgO (l:List Job) (at_:Int) (i:Int) (r1:List Job):Option ((List Job)):=
 bif Ops.std.ilt i (xlen eJob l) then
  bif Ops.std.ieq i at_ then zf8 l at_ (Ops.std.iadd .i64 i 1) r1 else
  (xget eJob l i).bind fun x=>
  bif zaK eJob 128 r1 [x] then zf8 l at_ (Ops.std.iadd .i64 i 1) (r1 ++ [x]) else
  none
 else
  some r1
theorem zn1 {l at_ i r1 r} (h:zgO l at_ i r1=some r):zf8 l at_ i r1=some r:=by
 unfold zgO at h
 refine zap fun γ=>?_
 rcases zaa h with ⟨h1,h⟩ | ⟨h1,h⟩
 rcases zaa h with ⟨h2,h⟩ | ⟨h2,h⟩
 replace h:=zal h (gam [(γ 0),(γ 1)]);obtain ⟨γ',h0⟩:=h;refine ⟨γ',zad ?_⟩;rotate_left
 obtain ⟨x,h3,h⟩:=zac h
 obtain ⟨h4,h⟩:=zat h
 replace h:=zal h (gam [(γ 0),((γ 1) + 1)]);obtain ⟨γ',h0⟩:=h;refine ⟨γ',zad ?_⟩;rotate_left
 cases h;refine ⟨gam [(γ 0),(γ 1)],zad ?_⟩;rotate_left
 all_goals (dsimp only [zes] at *;show zaR IF_ _ _ zqj zCZ _=_;generalize zqj=c0 at *;exact fin_)
def zm3 (l:List Job) (at_:Int):Option ((List Job)):=
 zf8 l at_ 0 []
theorem zyL {l at_ r} (h:zm3 l at_=some r):zpC l at_=some r:=by
 unfold zm3 at h
 refine zas ?_
 obtain ⟨γ1,h1⟩:=zal h (gam [0,0])
 rcases r with r1
 refine zab rfl ?_;rotate_left
 all_goals (dsimp only [R1,zes] at *;show zar IF_ (zI7 zqj) _ _=_;generalize zqj=c0 at *;exact fin_)
def zoK (x:Entry) (b0:Int):Option (Bool):=
 some (Ops.std.ieq x.peer.addr b0)
theorem zoL {x b0 r} (h:zoK x b0=some r):zjS x b0=some r:=by
 unfold zoK at h
 refine zas ?_
 cases h;refine zab rfl ?_;rotate_left
 all_goals (dsimp only [zeW] at *;show zar IF_ zIC _ _=_;exact fin_)
def zcg (b0:Int) (γ:Nat → Nat):Int ⊕ Unit → X × St
 | .inl a0=>(.ret,⟨bd 4 (vI a0 :: bd 14 []),[.box 23 [vH b0]]⟩)
 | .inr ()=>(.brk 0,⟨bd 19 [],[.box 23 [vH b0]]⟩)
instance {b0}:InjS (zcg b0):=⟨fun γ γ' x y h=>by
 rcases x with a0 | _ <;> rcases y with a0' | _ <;> simp only [zcg] at h <;> exact inj_⟩
def zd3 (s:List Entry) (b0:Int) (t8:Int):Option (Int ⊕ Unit):=asks (fun γ=>(lim F pr).loop [7,1,0,8] 1 zdV ⟨.lit 81 false (List.map zai s) :: .fn 165 [.bptr 0 0] :: bd 5 (vI (xlen zai s) :: vI t8 :: bd 10 []),[.box 23 [vH b0]]⟩) (zcg b0)
def zcf (s:List Entry) (b0:Int) (t8:Int):Option (Int ⊕ Unit):=
 bif Ops.std.ilt t8 (xlen zai s) then
  (xget zai s t8).bind fun x=>
  (zjS x b0).bind fun res=>
  bif res then some (.inl t8) else
  zd3 s b0 (Ops.std.iadd .i64 t8 1)
 else
  some (.inr ())
theorem zfo {s b0 t8 r} (h:zcf s b0 t8=some r):zd3 s b0 t8=some r:=by
 unfold zcf at h
 refine zap fun γ=>?_
 rcases zaa h with ⟨h1,h⟩ | ⟨h1,h⟩
 obtain ⟨x,h2,h⟩:=zac h
 obtain ⟨res,h3,h⟩:=zac h
 rcases zaa h with ⟨h4,h⟩ | ⟨h4,h⟩
 cases h;refine ⟨gam [],zad ?_⟩;rotate_left
 replace h:=zal h (gam []);obtain ⟨γ',h0⟩:=h;refine ⟨γ',zad ?_⟩;rotate_left
 cases h;refine ⟨gam [],zad ?_⟩;rotate_left
 all_goals (dsimp only [zcg,zeW] at *;show zaR IF_ _ _ zdV zuc _=_;generalize zdV=c0 at *;exact fin_)
def zhK (s:List Entry) (b0:Int):Option (Int):=
 (zd3 s b0 0).bind fun r=>match r with
  | .inl t4=>
   some t4
  | .inr ()=>
   some (-1)
theorem zsu {s b0 r} (h:zhK s b0=some r):zjl s b0=some r:=by
 unfold zhK at h
 refine zas ?_
 obtain ⟨r1,γ1,h1,h⟩:=zag h (gam [])
 rcases r1 with t4 | _
 cases h;refine zab rfl ?_;rotate_left
 cases h;refine zab rfl ?_;rotate_left
 all_goals (dsimp only [zc0,zcg] at *;show zar IF_ (zzt zdV) _ _=_;generalize zdV=c0 at *;exact fin_)
def zqt (x:Entry) (b0:Int):Option (Bool):=
 some (Ops.std.ieq x.peer.addr b0)
theorem zlL {x b0 r} (h:zqt x b0=some r):zfN x b0=some r:=by
 unfold zqt at h
 refine zas ?_
 cases h;refine zab rfl ?_;rotate_left
 all_goals (dsimp only [zee] at *;show zar IF_ zJc _ _=_;exact fin_)
def zci (b0:Int) (γ:Nat → Nat):Int ⊕ Unit → X × St
 | .inl a0=>(.ret,⟨bd 4 (vI a0 :: bd 14 []),[.box 23 [vH b0]]⟩)
 | .inr ()=>(.brk 0,⟨bd 19 [],[.box 23 [vH b0]]⟩)
instance {b0}:InjS (zci b0):=⟨fun γ γ' x y h=>by
 rcases x with a0 | _ <;> rcases y with a0' | _ <;> simp only [zci] at h <;> exact inj_⟩
def zd4 (s:List Entry) (b0:Int) (t8:Int):Option (Int ⊕ Unit):=asks (fun γ=>(lim F pr).loop [7,1,0,8] 1 zdV ⟨.lit 81 false (List.map zai s) :: .fn 228 [.bptr 0 0] :: bd 5 (vI (xlen zai s) :: vI t8 :: bd 10 []),[.box 23 [vH b0]]⟩) (zci b0)
def zch (s:List Entry) (b0:Int) (t8:Int):Option (Int ⊕ Unit):=
 bif Ops.std.ilt t8 (xlen zai s) then
  (xget zai s t8).bind fun x=>
  (zfN x b0).bind fun res=>
  bif res then some (.inl t8) else
  zd4 s b0 (Ops.std.iadd .i64 t8 1)
 else
  some (.inr ())
theorem zfp {s b0 t8 r} (h:zch s b0 t8=some r):zd4 s b0 t8=some r:=by
 unfold zch at h
 refine zap fun γ=>?_
 rcases zaa h with ⟨h1,h⟩ | ⟨h1,h⟩
 obtain ⟨x,h2,h⟩:=zac h
 obtain ⟨res,h3,h⟩:=zac h
 rcases zaa h with ⟨h4,h⟩ | ⟨h4,h⟩
 cases h;refine ⟨gam [],zad ?_⟩;rotate_left
 replace h:=zal h (gam []);obtain ⟨γ',h0⟩:=h;refine ⟨γ',zad ?_⟩;rotate_left
 cases h;refine ⟨gam [],zad ?_⟩;rotate_left
 all_goals (dsimp only [zci,zee] at *;show zaR IF_ _ _ zdV zuc _=_;generalize zdV=c0 at *;exact fin_)
def zhL (s:List Entry) (b0:Int):Option (Int):=
 (zd4 s b0 0).bind fun r=>match r with
  | .inl t4=>
   some t4
  | .inr ()=>
   some (-1)
theorem zsv {s b0 r} (h:zhL s b0=some r):zjm s b0=some r:=by
 unfold zhL at h
 refine zas ?_
 obtain ⟨r1,γ1,h1,h⟩:=zag h (gam [])
 rcases r1 with t4 | _
 cases h;refine zab rfl ?_;rotate_left
 cases h;refine zab rfl ?_;rotate_left
 all_goals (dsimp only [zc1,zci] at *;show zar IF_ (zzt zdV) _ _=_;generalize zdV=c0 at *;exact fin_)
def zcs (b1:Int) (γ:Nat → Nat):(Int × (List Entry)) → X × St
 | (a0,a1)=>(.brk 0,⟨.sl 0 ((γ 0)) :: bd 4 (vI a0 :: bd 36 []),[.row 81 (γ 0) false (List.map zai a1),.box 23 [vH b1],.row 81 (γ 2) false (List.map zai [])]⟩)
instance {b1}:InjS (zcs b1):=⟨fun γ γ' x y h=>by
 rcases x with ⟨a0,a1⟩ <;> rcases y with ⟨a0',a1'⟩ <;> simp only [zcs] at h <;> exact inj_⟩
def zcd (b1:Int) (i:Int) (j:Int) (r0':List Entry):Option ((Int × (List Entry))):=asks (fun γ=>(lim F pr).loop [1,6,0,5] 3 zqk ⟨.sl 0 ((γ 0)) :: .fn 228 [.bptr 1 0] :: bd 3 (vI i :: vI j :: bd 35 []),[.row 81 (γ 0) false (List.map zai r0'),.box 23 [vH b1],.row 81 (γ 2) false (List.map zai [])]⟩) (zcs b1)
def zbS (b1:Int) (i:Int) (j:Int) (r0':List Entry):Option ((Int × (List Entry))):=
 bif Ops.std.ilt j (xlen zai r0') then
  (xget zai r0' j).bind fun x=>
  (zfN x b1).bind fun res=>
  bif res then zcd b1 i (Ops.std.iadd .i64 j 1) r0' else
  (xget zai r0' i).bind fun x1=>
  zcd b1 (Ops.std.iadd .i64 i 1) (Ops.std.iadd .i64 j 1) (xset r0' i x)
 else
  some (i,r0')
theorem zdF {b1 i j r0' r} (h:zbS b1 i j r0'=some r):zcd b1 i j r0'=some r:=by
 unfold zbS at h
 refine zap fun γ=>?_
 rcases zaa h with ⟨h1,h⟩ | ⟨h1,h⟩
 obtain ⟨x,h2,h⟩:=zac h
 obtain ⟨res,h3,h⟩:=zac h
 rcases zaa h with ⟨h4,h⟩ | ⟨h4,h⟩
 replace h:=zal h (gam [(γ 0),0,(γ 2)]);obtain ⟨γ',h0⟩:=h;refine ⟨γ',zad ?_⟩;rotate_left
 obtain ⟨x1,h5,h⟩:=zac h
 replace h:=zal h (gam [(γ 0),0,(γ 2)]);obtain ⟨γ',h0⟩:=h;refine ⟨γ',zad ?_⟩;rotate_left
 cases h;refine ⟨gam [(γ 0),0,(γ 2)],zad ?_⟩;rotate_left
 all_goals (dsimp only [zcs,zee] at *;show zaR IF_ _ _ zqk zC1 _=_;generalize zqk=c0 at *;exact fin_)
def zhT (r0:List Entry) (b1:Int):Option ((List Entry)):=
 (zjm r0 b1).bind fun res=>
 bif Ops.std.ieq res (-1) then some r0 else
 (zcd b1 res (Ops.std.iadd .i64 res 1) r0).bind fun ⟨i,r0'⟩=>
 (xsub zai r0' i (xlen zai r0')).bind fun ys=>
 (xsub zai (xfil r0' i (xlen zai r0') (⟨(⟨0,0⟩:Peer),0⟩:Entry)) 0 i).bind fun ys1=>
 bif Ops.std.ieq 0 0 then some ys1 else
 none
theorem zsw {r0 b1 r} (h:zhT r0 b1=some r):zkd r0 b1=some r:=by
 unfold zhT at h
 refine zap fun γ=>?_
 obtain ⟨res,h1,h⟩:=zac h
 rcases zaa h with ⟨h2,h⟩ | ⟨h2,h⟩
 cases h;refine ⟨gam [γ 0,0],zab rfl ?_⟩;rotate_left
 obtain ⟨r3,γ2,h3,h⟩:=zag h (gam [γ 0,0,0])
 rcases r3 with ⟨i,r0'⟩
 obtain ⟨ys,h4,h⟩:=zac h
 obtain ⟨ys1,h5,h⟩:=zac h
 obtain ⟨h6,h⟩:=zat h
 cases h;refine ⟨gam [((γ2 0) + 1),0],zab rfl ?_⟩;rotate_left
 all_goals (dsimp only [zdk,zcs,zc1] at *;show zar IF_ (zJb zqk) _ _=_;generalize zqk=c0 at *;exact fin_)
def zrm (a:Int) (b:Int):Option (Int):=
 bif Ops.std.ile a b then some (Ops.std.isub .u64 b a) else
 some (Ops.std.iadd .u64 (Ops.std.isub .u64 18446744073709551615 (Ops.std.isub .u64 a b)) 1)
theorem zD9 {a b r} (h:zrm a b=some r):zlO a b=some r:=by
 unfold zrm at h
 refine zas ?_
 rcases zaa h with ⟨h1,h⟩ | ⟨h1,h⟩
 cases h;refine zab rfl ?_;rotate_left
 cases h;refine zab rfl ?_;rotate_left
 all_goals (dsimp only [R1] at *;show zar IF_ zIW _ _=_;exact fin_)
def zpR (s:ByteArray) (at_:Int) (c:Int):Option (Bool):=
 bif Ops.std.ieq c 65533 then
  (zuO s at_ (Ops.std.slen s)).bind fun z=>
  xopt (zrY z 0) (fun ⟨c1,nx⟩=>
   some (Ops.std.ieq nx 1))
   (some (Ops.std.ieq 0 1))
 else
  some false
theorem zCb {s at_ c r} (h:zpR s at_ c=some r):ztP s at_ c=some r:=by
 unfold zpR at h
 refine zas ?_
 rcases zaa h with ⟨h1,h⟩ | ⟨h1,h⟩
 obtain ⟨z,h2,h⟩:=bind_some h
 rcases zt6 h with ⟨⟨c1,nx⟩,h3,h⟩ | ⟨h3,h⟩
 cases h;refine zab rfl ?_;rotate_left
 cases h;refine zab rfl ?_;rotate_left
 cases h;refine zab rfl ?_;rotate_left
 all_goals (dsimp only [R1] at *;show zar IF_ zIz _ _=_;exact fin_)
def ztb (x:Entry):Option (Bool):=
 some (Ops.std.ile x.misses 0)
theorem zAs {x r} (h:ztb x=some r):zrj x=some r:=by
 unfold ztb at h
 refine zas ?_
 cases h;refine zab rfl ?_;rotate_left
 all_goals (dsimp only [R1] at *;show zar IF_ zIu _ _=_;exact fin_)
def zf3 (γ:Nat → Nat):Unit ⊕ Unit → X × St
 | .inl ()=>(.ret,⟨bd 4 (vF true :: bd 14 []),[]⟩)
 | .inr ()=>(.brk 0,⟨bd 19 [],[]⟩)
instance :InjS zf3:=⟨fun γ γ' x y h=>by
 rcases x with _ | _ <;> rcases y with _ | _ <;> simp only [zf3] at h <;> exact inj_⟩
def zk0 (l:List Peer) (addr:Int) (i:Int):Option (Unit ⊕ Unit):=asks (fun γ=>(lim F pr).loop [0,1,5] 0 zqf ⟨.lit 25 false (List.map zah l) :: vH addr :: bd 3 (vI i :: bd 13 []),[]⟩) zf3
def ziZ (l:List Peer) (addr:Int) (i:Int):Option (Unit ⊕ Unit):=
 bif Ops.std.ilt i (xlen zah l) then
  (xget zah l i).bind fun x=>
  bif Ops.std.ieq x.addr addr then some (.inl ()) else
  zk0 l addr (Ops.std.iadd .i64 i 1)
 else
  some (.inr ())
theorem zqy {l addr i r} (h:ziZ l addr i=some r):zk0 l addr i=some r:=by
 unfold ziZ at h
 refine zap fun γ=>?_
 rcases zaa h with ⟨h1,h⟩ | ⟨h1,h⟩
 obtain ⟨x,h2,h⟩:=zac h
 rcases zaa h with ⟨h3,h⟩ | ⟨h3,h⟩
 cases h;refine ⟨gam [],zad ?_⟩;rotate_left
 replace h:=zal h (gam []);obtain ⟨γ',h0⟩:=h;refine ⟨γ',zad ?_⟩;rotate_left
 cases h;refine ⟨gam [],zad ?_⟩;rotate_left
 all_goals (dsimp only [zf3] at *;show zaR IF_ _ _ zqf zCT _=_;generalize zqf=c0 at *;exact fin_)
def zpw (l:List Peer) (addr:Int):Option (Bool):=
 (zk0 l addr 0).bind fun r=>match r with
  | .inl ()=>
   some true
  | .inr ()=>
   some false
theorem zBP {l addr r} (h:zpw l addr=some r):zto l addr=some r:=by
 unfold zpw at h
 refine zas ?_
 obtain ⟨r1,γ1,h1,h⟩:=zag h (gam [])
 rcases r1 with _ | _
 cases h;refine zab rfl ?_;rotate_left
 cases h;refine zab rfl ?_;rotate_left
 all_goals (dsimp only [R1,zf3] at *;show zar IF_ (zIV zqf) _ _=_;generalize zqf=c0 at *;exact fin_)
end Go.Ab.Tryz
