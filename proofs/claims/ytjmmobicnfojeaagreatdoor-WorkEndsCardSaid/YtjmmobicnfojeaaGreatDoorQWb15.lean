/- Our texts for this statement, merged: what its theorem leads to. -/
import Derived.Test.YtjmmobicnfojeaaGreatDoorQWb9
set_option linter.unusedVariables false
set_option linter.unusedSimpArgs false
noncomputable section
namespace Go.Ab.Tryz
open Go Go.Ab Go.Proofs
set_option maxRecDepth 10000
set_option maxHeartbeats 4000000
def zsh (x:Entry):Option (Bool):=
 some (Ops.std.ile x.misses 0)
theorem zzr {x r} (h:zsh x=some r):zqg x=some r:=by
 unfold zsh at h
 refine zau ?_
 cases h;refine zab rfl ?_;rotate_left
 all_goals (dsimp only [R1] at *;show zas IF_ zHK _ _=_;exact fin_)
def zoI (a:Int) (b:Int):Option (Int):=
 some (Ops.std.isub .u64 b a)
theorem zt9 {a b r} (h:zoI a b=some r):zlB a b=some r:=by
 unfold zoI at h
 refine zau ?_
 cases h;refine zab rfl ?_;rotate_left
 all_goals (dsimp only [R1] at *;show zas IF_ zH0 _ _=_;exact fin_)
def zhA (n:Node) (j:Job) (γ:Nat → Nat):(List Job) → X × St
 | a0=>(.brk 0,⟨bd 2 (.bptr 0 0 :: bd 1 (.bptr 2 0 :: bd 1 (.sl 3 ((γ 3)) :: bd 31 []))),[.box 34 (zam n),.box 67 (cJob j),.box 34 ([vU 0,vH 0,vI 0,vF false,.lit 0 true [],.lit 0 true [],.lit 0 true [],.lit 0 true [],.lit 0 true [],.lit 0 true [],.lit 0 true [],vW 0,vI 0,vI 0]),.row 67 (γ 3) false (List.map eJob a0)]⟩)
instance {n j}:InjS (zhA n j):=⟨fun γ γ' x y h=>by
 rcases x with a0 <;> rcases y with a0' <;> simp only [zhA] at h <;> exact inj_⟩
def zh9 (n:Node) (j:Job) (at_:Int) (i:Int) (r3:List Job):Option ((List Job)):=asks (fun γ=>(lim F pr).loop [5,3,7,6,2,4] 4 zo6 ⟨bd 2 (.bptr 0 0 :: .bptr 1 0 :: .bptr 2 0 :: vI at_ :: .sl 3 ((γ 3)) :: vI i :: bd 30 []),[.box 34 (zam n),.box 67 (cJob j),.box 34 ([vU 0,vH 0,vI 0,vF false,.lit 0 true [],.lit 0 true [],.lit 0 true [],.lit 0 true [],.lit 0 true [],.lit 0 true [],.lit 0 true [],vW 0,vI 0,vI 0]),.row 67 (γ 3) false (List.map eJob r3)]⟩) (zhA n j)
def zjV (n:Node) (j:Job) (at_:Int) (i:Int) (r3:List Job):Option ((List Job)):=
 bif Ops.std.ilt i (xlen eJob n.jobs) then
  bif Ops.std.ieq i at_ then
   bif zaV eJob 128 r3 [j] then zh9 n j at_ (Ops.std.iadd .i64 i 1) (r3 ++ [j]) else
   none
  else
   (xget eJob n.jobs i).bind fun x=>
   bif zaV eJob 128 r3 [x] then zh9 n j at_ (Ops.std.iadd .i64 i 1) (r3 ++ [x]) else
   none
 else
  some r3
theorem zsB {n j at_ i r3 r} (h:zjV n j at_ i r3=some r):zh9 n j at_ i r3=some r:=by
 unfold zjV at h
 refine zao fun γ=>?_
 rcases zaa h with ⟨h1,h⟩ | ⟨h1,h⟩
 rcases zaa h with ⟨h2,h⟩ | ⟨h2,h⟩
 obtain ⟨h3,h⟩:=zaH h
 replace h:=zak h (gam [0,0,0,((γ 3) + 1)]);obtain ⟨γ',h0⟩:=h;refine ⟨γ',zad ?_⟩;rotate_left
 obtain ⟨x,h3,h⟩:=zac h
 obtain ⟨h4,h⟩:=zaH h
 replace h:=zak h (gam [0,0,0,((γ 3) + 1)]);obtain ⟨γ',h0⟩:=h;refine ⟨γ',zad ?_⟩;rotate_left
 cases h;refine ⟨gam [0,0,0,(γ 3)],zad ?_⟩;rotate_left
 all_goals (dsimp only [zhA] at *;show zaT IF_ _ _ zo6 zBI _=_;generalize zo6=c0 at *;exact fin_)
def zsA (n:Node) (j:Job):Option (Node):=
 (zhz n.jobs j.id).bind fun res=>
 (zh9 n j res 0 []).bind fun r3=>
 some (⟨n.me,n.clock,n.joined,n.pred,n.list,n.fingers,n.store,n.pends,r3,n.results,n.rid,n.jobID,n.nextBit⟩:Node)
theorem zFo {n j r} (h:zsA n j=some r):zh8 n j=some r:=by
 unfold zsA at h
 refine zau ?_
 obtain ⟨res,h1,h⟩:=zac h
 obtain ⟨r3,γ2,h2,h⟩:=zah h (gam [0,0,0,0])
 cases h;refine zab rfl ?_;rotate_left
 all_goals (dsimp only [R1,zhA] at *;show zas IF_ (zH5 zo6) _ _=_;generalize zo6=c0 at *;exact fin_)
def zsw (n:Node) (to_:Peer) (m:Msg) (why:Int) (job:Int):Option ((Node × (List Out))):=
 bif Ops.std.ilt 63 (xlen zaX n.pends) then some (n,[]) else
 bif zaV zaX 56 [] n.pends then
  (ztL (⟨n.me,n.clock,n.joined,n.pred,n.list,n.fingers,n.store,n.pends,n.jobs,n.results,Ops.std.iadd .u32 n.rid 1,n.jobID,n.nextBit⟩:Node)).bind fun res=>
  bif zaV zaX 56 n.pends [(⟨Ops.std.iadd .u32 n.rid 1,m.kind,why,job,to_,Ops.std.iadd .i64 res 8⟩:Pend)] then
   some ((⟨n.me,n.clock,n.joined,n.pred,n.list,n.fingers,n.store,(n.pends ++ [(⟨Ops.std.iadd .u32 n.rid 1,m.kind,why,job,to_,Ops.std.iadd .i64 res 8⟩:Pend)]),n.jobs,n.results,Ops.std.iadd .u32 n.rid 1,n.jobID,n.nextBit⟩:Node),[(⟨to_,(⟨m.kind,Ops.std.iadd .u32 n.rid 1,m.code,m.has,m.id,m.key,m.val,m.peer,m.peers,m.pairs⟩:Msg)⟩:Out)])
  else
   none
 else
  none
theorem zFl {n to_ m why job r} (h:zsw n to_ m why job=some r):zmt n to_ m why job=some r:=by
 unfold zsw at h
 refine zau ?_
 rcases zaa h with ⟨h1,h⟩ | ⟨h1,h⟩
 cases h;refine zab rfl ?_;rotate_left
 obtain ⟨h2,h⟩:=zaH h
 obtain ⟨res,h3,h⟩:=zac h
 obtain ⟨h4,h⟩:=zaH h
 cases h;refine zab rfl ?_;rotate_left
 all_goals (dsimp only [R1,R2] at *;show zas IF_ g82F _ _=_;exact fin_)
def zgh (γ:Nat → Nat):(List Peer) → X × St
 | a0=>(.brk 0,⟨bd 3 (.sl 1 ((γ 1)) :: bd 22 []),[.row 25 (γ 0) false (List.map zai []),.row 25 (γ 1) false (List.map zai a0)]⟩)
instance :InjS zgh:=⟨fun γ γ' x y h=>by
 rcases x with a0 <;> rcases y with a0' <;> simp only [zgh] at h <;> exact inj_⟩
def ziy (l:List Entry) (i:Int) (r1:List Peer):Option ((List Peer)):=asks (fun γ=>(lim F pr).loop [0,4,3] 2 ztu ⟨.lit 81 false (List.map zat l) :: bd 2 (.sl 1 ((γ 1)) :: vI i :: bd 21 []),[.row 25 (γ 0) false (List.map zai []),.row 25 (γ 1) false (List.map zai r1)]⟩) zgh
def zgg (l:List Entry) (i:Int) (r1:List Peer):Option ((List Peer)):=
 bif Ops.std.ilt i (xlen zat l) then
  (xget zat l i).bind fun x=>
  bif Ops.std.ilt x.misses 1 then
   bif zaV zai 16 r1 [x.peer] then ziy l (Ops.std.iadd .i64 i 1) (r1 ++ [x.peer]) else
   none
  else
   ziy l (Ops.std.iadd .i64 i 1) r1
 else
  some r1
theorem zrf {l i r1 r} (h:zgg l i r1=some r):ziy l i r1=some r:=by
 unfold zgg at h
 refine zao fun γ=>?_
 rcases zaa h with ⟨h1,h⟩ | ⟨h1,h⟩
 obtain ⟨x,h2,h⟩:=zac h
 rcases zaa h with ⟨h3,h⟩ | ⟨h3,h⟩
 obtain ⟨h4,h⟩:=zaH h
 replace h:=zak h (gam [(γ 0),((γ 1) + 1)]);obtain ⟨γ',h0⟩:=h;refine ⟨γ',zad ?_⟩;rotate_left
 replace h:=zak h (gam [(γ 0),(γ 1)]);obtain ⟨γ',h0⟩:=h;refine ⟨γ',zad ?_⟩;rotate_left
 cases h;refine ⟨gam [(γ 0),(γ 1)],zad ?_⟩;rotate_left
 all_goals (dsimp only [zgh] at *;show zaT IF_ _ _ ztu zEn _=_;generalize ztu=c0 at *;exact fin_)
def zqs (l:List Entry):Option ((List Peer)):=
 ziy l 0 []
theorem zDe {l r} (h:zqs l=some r):zmT l=some r:=by
 unfold zqs at h
 refine zau ?_
 obtain ⟨γ1,h1⟩:=zak h (gam [0,0])
 rcases r with r1
 refine zab rfl ?_;rotate_left
 all_goals (dsimp only [K1,zgh] at *;show zas IF_ (g78F ztu) _ _=_;generalize ztu=c0 at *;exact fin_)
def zqn (a:Int) (x:Int) (b:Int):Option (Bool):=
 bif Ops.std.ilt a b then
  bif Ops.std.ilt a x then some (Ops.std.ile x b) else
  some false
 else
  bif Ops.std.ilt b a then
   bif Ops.std.ilt a x then some true else
   some (Ops.std.ile x b)
  else
   some true
theorem zC8 {a x b r} (h:zqn a x b=some r):zmS a x b=some r:=by
 unfold zqn at h
 refine zau ?_
 rcases zaa h with ⟨h1,h⟩ | ⟨h1,h⟩
 rcases zaa h with ⟨h2,h⟩ | ⟨h2,h⟩
 cases h;refine zab rfl ?_;rotate_left
 cases h;refine zab rfl ?_;rotate_left
 rcases zaa h with ⟨h2,h⟩ | ⟨h2,h⟩
 rcases zaa h with ⟨h3,h⟩ | ⟨h3,h⟩
 cases h;refine zab rfl ?_;rotate_left
 cases h;refine zab rfl ?_;rotate_left
 cases h;refine zab rfl ?_;rotate_left
 all_goals (dsimp only [R1] at *;show zas IF_ zHD _ _=_;exact fin_)
def zgk (me:Peer) (key:Int) (most:Int) (γ:Nat → Nat):(List Peer) → X × St
 | a0=>(.brk 0,⟨bd 3 (vU key :: vI most :: .bptr 0 0 :: bd 5 (.sl 2 ((γ 2)) :: bd 125 [])),[.box 25 [vU me.id,vH me.addr],.row 25 (γ 1) false (List.map zai []),.row 25 (γ 2) false (List.map zai a0)]⟩)
instance {me key most}:InjS (zgk me key most):=⟨fun γ γ' x y h=>by
 rcases x with a0 <;> rcases y with a0' <;> simp only [zgk] at h <;> exact inj_⟩
def zla (me:Peer) (f:List Finger) (key:Int) (most:Int) (i:Int) (r2:List Peer):Option ((List Peer)):=asks (fun γ=>(lim F pr).loop [2,12,11,3,5,4] 3 zoW ⟨bd 2 (.lit 84 false (List.map zae f) :: vU key :: vI most :: .bptr 0 0 :: bd 5 (.sl 2 ((γ 2)) :: vI i :: bd 124 [])),[.box 25 [vU me.id,vH me.addr],.row 25 (γ 1) false (List.map zai []),.row 25 (γ 2) false (List.map zai r2)]⟩) (zgk me key most)
abbrev zlO:=((List Peer) × (List Peer) × (List Peer))
def zgm (me:Peer) (most:Int) (γ:Nat → Nat):zlO → X × St
 | (a0,a1,a2)=>(.brk 2,⟨bd 4 (vI most :: bd 9 (.lit 25 false (List.map zai a0) :: bd 122 [])),[.box 25 [vU me.id,vH me.addr],.row 25 (γ 1) false (List.map zai []),.row 25 (γ 2) false (List.map zai a1),.row 25 (γ 3) false (List.map zai a2)]⟩)
instance {me most}:InjS (zgm me most):=⟨fun γ γ' x y h=>by
 rcases x with ⟨a0,a1,a2⟩ <;> rcases y with ⟨a0',a1',a2'⟩ <;> simp only [zgm] at h <;> exact inj_⟩
def zdK (me:Peer) (key:Int) (most:Int) (out:List Peer) (i:Int) (r2:List Peer) (r3:List Peer):Option (zlO):=asks (fun γ=>(lim F pr).loop [11,13,3,5,15,4,14] 4 zoY ⟨bd 3 (vU key :: vI most :: .bptr 0 0 :: bd 5 (.sl 2 ((γ 2)) :: bd 1 (.sl 3 ((γ 3)) :: .lit 25 false (List.map zai out) :: vI i :: bd 121 []))),[.box 25 [vU me.id,vH me.addr],.row 25 (γ 1) false (List.map zai []),.row 25 (γ 2) false (List.map zai r2),.row 25 (γ 3) false (List.map zai r3)]⟩) (zgm me most)
abbrev zlP:=((List Peer) × Int × (List Peer) × (List Peer) × Int × Int) ⊕ ((List Peer) × Int × (List Peer) × (List Peer) × Int × Int)
def zgn (me:Peer) (key:Int) (most:Int) (γ:Nat → Nat):zlP → X × St
 | .inl (a0,a1,a2,a3,a4,a5)=>(.nor,⟨bd 3 (vU key :: vI most :: .bptr 0 0 :: bd 5 (.sl 2 ((γ 2)) :: bd 1 (.sl 3 ((γ 3)) :: .lit 25 false (List.map zai a0) :: vI a1 :: bd 121 []))),[.box 25 [vU me.id,vH me.addr],.row 25 (γ 1) false (List.map zai []),.row 25 (γ 2) false (List.map zai a2),.row 25 (γ 3) false (List.map zai a3),.box 25 [vU a4,vH a5]]⟩)
 | .inr (b0,b1,b2,b3,b4,b5)=>(.brk 3,⟨bd 3 (vU key :: vI most :: .bptr 0 0 :: bd 5 (.sl 2 ((γ 2)) :: bd 1 (.sl 3 ((γ 3)) :: .lit 25 false (List.map zai b0) :: vI b1 :: bd 121 []))),[.box 25 [vU me.id,vH me.addr],.row 25 (γ 1) false (List.map zai []),.row 25 (γ 2) false (List.map zai b2),.row 25 (γ 3) false (List.map zai b3),.box 25 [vU b4,vH b5]]⟩)
instance {me key most}:InjS (zgn me key most):=⟨fun γ γ' x y h=>by
 rcases x with ⟨a0,a1,a2,a3,a4,a5⟩ | ⟨b0,b1,b2,b3,b4,b5⟩ <;> rcases y with ⟨a0',a1',a2',a3',a4',a5'⟩ | ⟨b0',b1',b2',b3',b4',b5'⟩ <;> simp only [zgn] at h <;> exact inj_⟩
def zov (me:Peer) (key:Int) (most:Int) (out:List Peer) (i:Int) (r2:List Peer) (r3:List Peer) (zbQ:Int) (zbo:Int):Option (zlP):=asks (fun γ=>(lim F pr).seg [15,11,13,3,5,4,14] zu9 ⟨bd 3 (vU key :: vI most :: .bptr 0 0 :: bd 5 (.sl 2 ((γ 2)) :: bd 1 (.sl 3 ((γ 3)) :: .lit 25 false (List.map zai out) :: vI i :: .bptr 4 0 :: bd 120 []))),[.box 25 [vU me.id,vH me.addr],.row 25 (γ 1) false (List.map zai []),.row 25 (γ 2) false (List.map zai r2),.row 25 (γ 3) false (List.map zai r3),.box 25 [vU zbQ,vH zbo]]⟩) (zgn me key most)
abbrev zlN:=((List Peer) × Int × Int × (List Peer) × (List Peer) × Int × Int)
def zgl (me:Peer) (key:Int) (most:Int) (γ:Nat → Nat):zlN → X × St
 | (a0,a1,a2,a3,a4,a5,a6)=>(.brk 4,⟨bd 3 (vU key :: vI most :: .bptr 0 0 :: bd 5 (.sl 2 ((γ 2)) :: bd 1 (.sl 3 ((γ 3)) :: .lit 25 false (List.map zai a0) :: vI a1 :: .bptr 4 0 :: vI a2 :: bd 119 []))),[.box 25 [vU me.id,vH me.addr],.row 25 (γ 1) false (List.map zai []),.row 25 (γ 2) false (List.map zai a3),.row 25 (γ 3) false (List.map zai a4),.box 25 [vU a5,vH a6]]⟩)
instance {me key most}:InjS (zgl me key most):=⟨fun γ γ' x y h=>by
 rcases x with ⟨a0,a1,a2,a3,a4,a5,a6⟩ <;> rcases y with ⟨a0',a1',a2',a3',a4',a5',a6'⟩ <;> simp only [zgl] at h <;> exact inj_⟩
def zgM (me:Peer) (key:Int) (most:Int) (out:List Peer) (i:Int) (at_:Int) (far:Int) (r2:List Peer) (r3:List Peer) (zbQ:Int) (zbo:Int):Option (zlN):=asks (fun γ=>(lim F pr).loop [18,16,14,17,15,11,13,3,5,4] 5 zoX ⟨bd 3 (vU key :: vI most :: .bptr 0 0 :: bd 5 (.sl 2 ((γ 2)) :: bd 1 (.sl 3 ((γ 3)) :: .lit 25 false (List.map zai out) :: vI i :: .bptr 4 0 :: vI at_ :: vU far :: bd 118 []))),[.box 25 [vU me.id,vH me.addr],.row 25 (γ 1) false (List.map zai []),.row 25 (γ 2) false (List.map zai r2),.row 25 (γ 3) false (List.map zai r3),.box 25 [vU zbQ,vH zbo]]⟩) (zgl me key most)
def ziP (me:Peer) (f:List Finger) (key:Int) (most:Int) (i:Int) (r2:List Peer):Option ((List Peer)):=
 bif Ops.std.ilt i (xlen zae f) then
  (xget zae f i).bind fun x=>
  bif zaV zai 16 r2 [x.peer] then zla me f key most (Ops.std.iadd .i64 i 1) (r2 ++ [x.peer]) else
  none
 else
  some r2
theorem zrg {me f key most i r2 r} (h:ziP me f key most i r2=some r):zla me f key most i r2=some r:=by
 unfold ziP at h
 refine zao fun γ=>?_
 rcases zaa h with ⟨h1,h⟩ | ⟨h1,h⟩
 obtain ⟨x,h2,h⟩:=zac h
 obtain ⟨h3,h⟩:=zaH h
 replace h:=zak h (gam [0,(γ 1),((γ 2) + 1)]);obtain ⟨γ',h0⟩:=h;refine ⟨γ',zad ?_⟩;rotate_left
 cases h;refine ⟨gam [0,(γ 1),(γ 2)],zad ?_⟩;rotate_left
 all_goals (dsimp only [zgk] at *;show zaT IF_ _ _ zoW zBq _=_;generalize zoW=c0 at *;exact fin_)
def ziR (me:Peer) (key:Int) (most:Int) (out:List Peer) (i:Int) (r2:List Peer) (r3:List Peer):Option (zlO):=
 bif Ops.std.ilt i (xlen zai r2) then
  (xget zai r2 i).bind fun x=>
  (zst r3 x.addr).bind fun res=>
  bif res then zdK me key most out (Ops.std.iadd .i64 i 1) r2 r3 else
  bif Ops.std.ieq x.addr me.addr then zdK me key most out (Ops.std.iadd .i64 i 1) r2 r3 else
  (zov me key most out i r2 r3 x.id x.addr).bind fun r=>match r with
   | .inl (out1,i1,r21,r31,zbQ,zbo)=>
    zdK me key most out1 (Ops.std.iadd .i64 i1 1) r21 r31
   | .inr (out1,i1,r21,r31,zbQ,zbo)=>
    zdK me key most out1 (Ops.std.iadd .i64 i1 1) r21 r31
 else
  some (out,r2,r3)
theorem zri {me key most out i r2 r3 r} (h:ziR me key most out i r2 r3=some r):zdK me key most out i r2 r3=some r:=by
 unfold ziR at h
 refine zao fun γ=>?_
 rcases zaa h with ⟨h1,h⟩ | ⟨h1,h⟩
 obtain ⟨x,h2,h⟩:=zac h
 obtain ⟨res,h3,h⟩:=zac h
 rcases zaa h with ⟨h4,h⟩ | ⟨h4,h⟩
 replace h:=zak h (gam [0,(γ 1),(γ 2),(γ 3)]);obtain ⟨γ',h0⟩:=h;refine ⟨γ',zad ?_⟩;rotate_left
 rcases zaa h with ⟨h5,h⟩ | ⟨h5,h⟩
 replace h:=zak h (gam [0,(γ 1),(γ 2),(γ 3)]);obtain ⟨γ',h0⟩:=h;refine ⟨γ',zad ?_⟩;rotate_left
 obtain ⟨r6,γ2,h6,h⟩:=zah h (gam [0,(γ 1),(γ 2),(γ 3)])
 rcases r6 with ⟨out1,i1,r21,r31,zbQ,zbo⟩ | ⟨out1,i1,r21,r31,zbQ,zbo⟩
 replace h:=zak h (gam [0,(γ2 1),(γ2 2),(γ2 3)]);obtain ⟨γ',h0⟩:=h;refine ⟨γ',zad ?_⟩;rotate_left
 replace h:=zak h (gam [0,(γ2 1),(γ2 2),(γ2 3)]);obtain ⟨γ',h0⟩:=h;refine ⟨γ',zad ?_⟩;rotate_left
 cases h;refine ⟨gam [0,(γ 1),(γ 2),(γ 3)],zad ?_⟩;rotate_left
 all_goals (dsimp only [R1,zgm,zgn] at *;show zaT IF_ _ _ zoY (zBt zu9) _=_;generalize zoY=c0,zu9=c1 at *;exact fin_)
def zlQ (me:Peer) (key:Int) (most:Int) (out:List Peer) (i:Int) (r2:List Peer) (r3:List Peer) (zbQ:Int) (zbo:Int):Option (zlP):=
 bif zaV zai 16 r3 [(⟨zbQ,zbo⟩:Peer)] then
  (zol me.id zbQ key).bind fun res=>
  bif res then
   (zql me.id zbQ).bind fun res1=>
   (zgM me key most out i 0 res1 r2 (r3 ++ [(⟨zbQ,zbo⟩:Peer)]) zbQ zbo).bind fun ⟨out1,i1,at_,r21,r31,zrO,zmC⟩=>
   (xsub zai out1 0 at_).bind fun ys=>
   bif zaV zai 16 [] ys then
    bif zaV zai 16 ys [(⟨zrO,zmC⟩:Peer)] then
     (xsub zai out1 at_ (xlen zai out1)).bind fun ys1=>
     bif zaV zai 16 (ys ++ [(⟨zrO,zmC⟩:Peer)]) ys1 then
      some (.inl (((ys ++ [(⟨zrO,zmC⟩:Peer)]) ++ ys1),i1,r21,r31,zrO,zmC))
     else
      none
    else
     none
   else
    none
  else
   some (.inr (out,i,r2,(r3 ++ [(⟨zbQ,zbo⟩:Peer)]),zbQ,zbo))
 else
  none
theorem zxN {me key most out i r2 r3 zbQ zbo r} (h:zlQ me key most out i r2 r3 zbQ zbo=some r):zov me key most out i r2 r3 zbQ zbo=some r:=by
 unfold zlQ at h
 refine zao fun γ=>?_
 obtain ⟨h1,h⟩:=zaH h
 obtain ⟨res,h2,h⟩:=zac h
 rcases zaa h with ⟨h3,h⟩ | ⟨h3,h⟩
 obtain ⟨res1,h4,h⟩:=zac h
 obtain ⟨r5,γ3,h5,h⟩:=zah h (gam [0,(γ 1),(γ 2),((γ 3) + 1)])
 rcases r5 with ⟨out1,i1,at_,r21,r31,zrO,zmC⟩
 obtain ⟨ys,h6,h⟩:=zac h
 obtain ⟨h7,h⟩:=zaH h
 obtain ⟨h8,h⟩:=zaH h
 obtain ⟨ys1,h9,h⟩:=zac h
 obtain ⟨h10,h⟩:=zaH h
 cases h;refine ⟨gam [0,(γ3 1),(γ3 2),(γ3 3)],zaj ?_⟩;rotate_left
 cases h;refine ⟨gam [0,(γ 1),(γ 2),((γ 3) + 1)],zaj ?_⟩;rotate_left
 all_goals (dsimp only [R1,zgl,zgn] at *;show Ifc.apart IF_ _ (zBs zoX) _=_;generalize zoX=c0 at *;exact fin_)
def ziQ (me:Peer) (key:Int) (most:Int) (out:List Peer) (i:Int) (at_:Int) (far:Int) (r2:List Peer) (r3:List Peer) (zbQ:Int) (zbo:Int):Option (zlN):=
 bif Ops.std.ilt at_ (xlen zai out) then
  (xget zai out at_).bind fun x=>
  (zql me.id x.id).bind fun res=>
  bif Ops.std.ilt far res then
   zgM me key most out i (Ops.std.iadd .i64 at_ 1) far r2 r3 zbQ zbo
  else
   bif Ops.std.ieq res far then
    bif Ops.std.ilt x.addr zbo then
     zgM me key most out i (Ops.std.iadd .i64 at_ 1) far r2 r3 zbQ zbo
    else
     some (out,i,at_,r2,r3,zbQ,zbo)
   else
    some (out,i,at_,r2,r3,zbQ,zbo)
 else
  some (out,i,at_,r2,r3,zbQ,zbo)
theorem zrh {me key most out i at_ far r2 r3 zbQ zbo r} (h:ziQ me key most out i at_ far r2 r3 zbQ zbo=some r):zgM me key most out i at_ far r2 r3 zbQ zbo=some r:=by
 unfold ziQ at h
 refine zao fun γ=>?_
 rcases zaa h with ⟨h1,h⟩ | ⟨h1,h⟩
 obtain ⟨x,h2,h⟩:=zac h
 obtain ⟨res,h3,h⟩:=zac h
 rcases zaa h with ⟨h4,h⟩ | ⟨h4,h⟩
 replace h:=zak h (gam [0,(γ 1),(γ 2),(γ 3)]);obtain ⟨γ',h0⟩:=h;refine ⟨γ',zad ?_⟩;rotate_left
 rcases zaa h with ⟨h5,h⟩ | ⟨h5,h⟩
 rcases zaa h with ⟨h6,h⟩ | ⟨h6,h⟩
 replace h:=zak h (gam [0,(γ 1),(γ 2),(γ 3)]);obtain ⟨γ',h0⟩:=h;refine ⟨γ',zad ?_⟩;rotate_left
 cases h;refine ⟨gam [0,(γ 1),(γ 2),(γ 3)],zad ?_⟩;rotate_left
 cases h;refine ⟨gam [0,(γ 1),(γ 2),(γ 3)],zad ?_⟩;rotate_left
 cases h;refine ⟨gam [0,(γ 1),(γ 2),(γ 3)],zad ?_⟩;rotate_left
 all_goals (dsimp only [R1,zgl] at *;show zaT IF_ _ _ zoX zBr _=_;generalize zoX=c0 at *;exact fin_)
def zqv (me:Peer) (l:List Entry) (f:List Finger) (key:Int) (most:Int):Option ((List Peer)):=
 (zmT l).bind fun res=>
 (zla me f key most 0 res).bind fun r2=>
 (zdK me key most [] 0 r2 []).bind fun ⟨out,r21,r3⟩=>
 bif Ops.std.ilt most 0 then some [] else
 bif Ops.std.ilt most (xlen zai out) then
  (xsub zai out 0 most).bind fun ys=>
  some ys
 else
  some out
theorem zDh {me l f key most r} (h:zqv me l f key most=some r):zux me l f key most=some r:=by
 unfold zqv at h
 refine zau ?_
 obtain ⟨res,h1,h⟩:=zac h
 obtain ⟨r2,γ2,h2,h⟩:=zah h (gam [0,0,0])
 obtain ⟨r3,γ3,h3,h⟩:=zah h (gam [0,(γ2 1),(γ2 2),0])
 rcases r3 with ⟨out,r21,r3⟩
 rcases zaa h with ⟨h4,h⟩ | ⟨h4,h⟩
 cases h;refine zab rfl ?_;rotate_left
 rcases zaa h with ⟨h5,h⟩ | ⟨h5,h⟩
 obtain ⟨ys,h6,h⟩:=zac h
 cases h;refine zab rfl ?_;rotate_left
 cases h;refine zab rfl ?_;rotate_left
 all_goals (dsimp only [K1,R1,zgk,zgm] at *;show zas IF_ (zHE zoW zoY) _ _=_;generalize zoW=c0,zoY=c1 at *;exact fin_)
abbrev zm3:=((List Out) × Node × Int × ByteArray × ByteArray)
def zhD (n:Node) (j:Job) (to_:Peer) (γ:Nat → Nat):zm3 → X × St
 | (a0,a1,a2,a3,a4)=>(.ret,⟨bd 6 (.bptr 3 0 :: .lit 56 false (List.map eOut a0) :: bd 29 []),[.box 34 (zam n),.box 67 (cJob (⟨j.id,j.kind,j.bit,j.key,j.val,j.target,j.via,to_,true,j.hops,j.tries,j.due⟩:Job)),.box 25 [vU to_.id,vH to_.addr],.box 34 (zam a1),.row 56 (γ 4) false (List.map eOut []),.box 37 ([vI a2,vW 0,vB 0,vF false,vU 0,vT a3,vT a4,vU 0,vH 0,.lit 0 true [],.lit 0 true []])]⟩)
instance {n j to_}:InjS (zhD n j to_):=⟨fun γ γ' x y h=>by
 rcases x with ⟨a0,a1,a2,a3,a4⟩ <;> rcases y with ⟨a0',a1',a2',a3',a4'⟩ <;> simp only [zhD] at h <;> exact inj_⟩
def zmo (n:Node) (j:Job) (to_:Peer) (zeW:Int) (zhh:ByteArray) (zhi:ByteArray):Option (zm3):=asks (fun γ=>(lim F pr).seg [6,7] zvh ⟨bd 3 (.bptr 0 0 :: .bptr 1 0 :: .bptr 2 0 :: .bptr 3 0 :: bd 1 (.bptr 5 0 :: bd 28 [])),[.box 34 (zam n),.box 67 (cJob (⟨j.id,j.kind,j.bit,j.key,j.val,j.target,j.via,to_,true,j.hops,j.tries,j.due⟩:Job)),.box 25 [vU to_.id,vH to_.addr],.box 34 ([vU 0,vH 0,vI 0,vF false,.lit 0 true [],.lit 0 true [],.lit 0 true [],.lit 0 true [],.lit 0 true [],.lit 0 true [],.lit 0 true [],vW 0,vI 0,vI 0]),.row 56 (γ 4) false (List.map eOut []),.box 37 ([vI zeW,vW 0,vB 0,vF false,vU 0,vT zhh,vT zhi,vU 0,vH 0,.lit 0 true [],.lit 0 true []])]⟩) (zhD n j to_)
def zsF (n:Node) (j:Job) (to_:Peer) (zeW:Int) (zhh:ByteArray) (zhi:ByteArray):Option (zm3):=
 bif Ops.std.ieq j.kind 3 then
  (zh8 n (⟨j.id,j.kind,j.bit,j.key,j.val,j.target,j.via,to_,true,j.hops,j.tries,j.due⟩:Job)).bind fun res=>
  (zmt res to_ (⟨8,0,0,false,0,j.key,⟨#[]⟩,(⟨0,0⟩:Peer),[],[]⟩:Msg) 5 j.id).bind fun ⟨r0,r1⟩=>
  some (r1,r0,8,j.key,⟨#[]⟩)
 else
  (zh8 n (⟨j.id,j.kind,j.bit,j.key,j.val,j.target,j.via,to_,true,j.hops,j.tries,j.due⟩:Job)).bind fun res=>
  (zmt res to_ (⟨zeW,0,0,false,0,zhh,zhi,(⟨0,0⟩:Peer),[],[]⟩:Msg) 5 j.id).bind fun ⟨r0,r1⟩=>
  some (r1,r0,zeW,zhh,zhi)
theorem zzI {n j to_ zeW zhh zhi r} (h:zsF n j to_ zeW zhh zhi=some r):zmo n j to_ zeW zhh zhi=some r:=by
 unfold zsF at h
 refine zao fun γ=>?_
 rcases zaa h with ⟨h1,h⟩ | ⟨h1,h⟩
 obtain ⟨res,h2,h⟩:=zac h
 obtain ⟨r3,h3,h⟩:=zac h
 rcases r3 with ⟨r0,r1⟩
 cases h;refine ⟨gam [0,0,0,0,(γ 4)],zaj ?_⟩;rotate_left
 obtain ⟨res,h2,h⟩:=zac h
 obtain ⟨r3,h3,h⟩:=zac h
 rcases r3 with ⟨r0,r1⟩
 cases h;refine ⟨gam [0,0,0,0,(γ 4)],zaj ?_⟩;rotate_left
 all_goals (dsimp only [R1,R2,zhD] at *;show Ifc.apart IF_ _ zBJ _=_;exact fin_)
def zsE (n:Node) (j:Job) (to_:Peer):Option ((Node × (List Out))):=
 bif Ops.std.ieq j.kind 2 then
  (zmo n j to_ 7 j.key j.val).bind fun ⟨t7,b3,zeW,zhh,zhi⟩=>
  some (b3,t7)
 else
  (zmo n j to_ 3 ⟨#[]⟩ ⟨#[]⟩).bind fun ⟨t7,b3,zeW,zhh,zhi⟩=>
  some (b3,t7)
theorem zFq {n j to_ r} (h:zsE n j to_=some r):ztM n j to_=some r:=by
 unfold zsE at h
 refine zau ?_
 rcases zaa h with ⟨h1,h⟩ | ⟨h1,h⟩
 obtain ⟨r2,γ1,h2,h⟩:=zah h (gam [0,0,0,0,0])
 rcases r2 with ⟨t7,b3,zeW,zhh,zhi⟩
 cases h;refine zab rfl ?_;rotate_left
 obtain ⟨r2,γ1,h2,h⟩:=zah h (gam [0,0,0,0,0])
 rcases r2 with ⟨t7,b3,zeW,zhh,zhi⟩
 cases h;refine zab rfl ?_;rotate_left
 all_goals (dsimp only [R2,zhD] at *;show zas IF_ (zH6 zvh) _ _=_;generalize zvh=c0 at *;exact fin_)
def zgC (γ:Nat → Nat):(Node × (List Out) × (List Peer)) → X × St
 | (a0,a1,a2)=>(.brk 0,⟨bd 3 (.bptr 0 0 :: bd 2 (.bptr 1 0 :: bd 4 (.sl 3 ((γ 3)) :: bd 50 []))),[.box 34 (zam a0),.box 34 ([vU 0,vH 0,vI 0,vF false,.lit 0 true [],.lit 0 true [],.lit 0 true [],.lit 0 true [],.lit 0 true [],.lit 0 true [],.lit 0 true [],vW 0,vI 0,vI 0]),.row 56 (γ 2) false (List.map eOut []),.row 56 (γ 3) false (List.map eOut a1),.row 25 (γ 4) false (List.map zai a2)]⟩)
instance :InjS zgC:=⟨fun γ γ' x y h=>by
 rcases x with ⟨a0,a1,a2⟩ <;> rcases y with ⟨a0',a1',a2'⟩ <;> simp only [zgC] at h <;> exact inj_⟩
def zlh (key:ByteArray) (val:ByteArray) (i:Int) (b0:Node) (r3:List Out) (r4:List Peer):Option ((Node × (List Out) × (List Peer))):=asks (fun γ=>(lim F pr).loop [12,1,2,13,3,11,6] 5 zti ⟨bd 1 (vT key :: vT val :: .bptr 0 0 :: bd 2 (.bptr 1 0 :: bd 4 (.sl 3 ((γ 3)) :: .sl 4 ((γ 4)) :: vI i :: bd 48 []))),[.box 34 (zam b0),.box 34 ([vU 0,vH 0,vI 0,vF false,.lit 0 true [],.lit 0 true [],.lit 0 true [],.lit 0 true [],.lit 0 true [],.lit 0 true [],.lit 0 true [],vW 0,vI 0,vI 0]),.row 56 (γ 2) false (List.map eOut []),.row 56 (γ 3) false (List.map eOut r3),.row 25 (γ 4) false (List.map zai r4)]⟩) zgC
def zgD (key:ByteArray) (val:ByteArray) (γ:Nat → Nat):(Int × Node × (List Out) × (List Peer)) → X × St
 | (a0,a1,a2,a3)=>(.nor,⟨bd 1 (vT key :: vT val :: .bptr 0 0 :: bd 2 (.bptr 1 0 :: bd 4 (.sl 3 ((γ 3)) :: .sl 4 ((γ 4)) :: vI a0 :: bd 48 []))),[.box 34 (zam a1),.box 34 ([vU 0,vH 0,vI 0,vF false,.lit 0 true [],.lit 0 true [],.lit 0 true [],.lit 0 true [],.lit 0 true [],.lit 0 true [],.lit 0 true [],vW 0,vI 0,vI 0]),.row 56 (γ 2) false (List.map eOut []),.row 56 (γ 3) false (List.map eOut a2),.row 25 (γ 4) false (List.map zai a3)]⟩)
instance {key val}:InjS (zgD key val):=⟨fun γ γ' x y h=>by
 rcases x with ⟨a0,a1,a2,a3⟩ <;> rcases y with ⟨a0',a1',a2',a3'⟩ <;> simp only [zgD] at h <;> exact inj_⟩
def zoF (key:ByteArray) (val:ByteArray) (i:Int) (b0:Node) (r3:List Out) (r4:List Peer):Option ((Int × Node × (List Out) × (List Peer))):=asks (fun γ=>(lim F pr).seg [12,1,2,13,3,11,6] zyi ⟨bd 1 (vT key :: vT val :: .bptr 0 0 :: bd 2 (.bptr 1 0 :: bd 4 (.sl 3 ((γ 3)) :: .sl 4 ((γ 4)) :: vI i :: bd 48 []))),[.box 34 (zam b0),.box 34 ([vU 0,vH 0,vI 0,vF false,.lit 0 true [],.lit 0 true [],.lit 0 true [],.lit 0 true [],.lit 0 true [],.lit 0 true [],.lit 0 true [],vW 0,vI 0,vI 0]),.row 56 (γ 2) false (List.map eOut []),.row 56 (γ 3) false (List.map eOut r3),.row 25 (γ 4) false (List.map zai r4)]⟩) (zgD key val)
def ziZ (key:ByteArray) (val:ByteArray) (i:Int) (b0:Node) (r3:List Out) (r4:List Peer):Option ((Node × (List Out) × (List Peer))):=
 bif Ops.std.ilt i (xlen zai r4) then
  bif Ops.std.ilt i 2 then
   (zoF key val i b0 r3 r4).bind fun ⟨i1,b01,r31,r41⟩=>
   zlh key val i1 b01 r31 r41
  else
   some (b0,r3,r4)
 else
  some (b0,r3,r4)
theorem zrs {key val i b0 r3 r4 r} (h:ziZ key val i b0 r3 r4=some r):zlh key val i b0 r3 r4=some r:=by
 unfold ziZ at h
 refine zao fun γ=>?_
 rcases zaa h with ⟨h1,h⟩ | ⟨h1,h⟩
 rcases zaa h with ⟨h2,h⟩ | ⟨h2,h⟩
 obtain ⟨r3,γ1,h3,h⟩:=zah h (gam [0,0,(γ 2),(γ 3),(γ 4)])
 rcases r3 with ⟨i1,b01,r31,r41⟩
 replace h:=zak h (gam [0,0,(γ1 2),(γ1 3),(γ1 4)]);obtain ⟨γ',h0⟩:=h;refine ⟨γ',zad ?_⟩;rotate_left
 cases h;refine ⟨gam [0,0,(γ 2),(γ 3),(γ 4)],zad ?_⟩;rotate_left
 cases h;refine ⟨gam [0,0,(γ 2),(γ 3),(γ 4)],zad ?_⟩;rotate_left
 all_goals (dsimp only [zgC,zgD] at *;show zaT IF_ _ _ zti (zD0 zyi) _=_;generalize zti=c0,zyi=c1 at *;exact fin_)
def zlY (key:ByteArray) (val:ByteArray) (i:Int) (b0:Node) (r3:List Out) (r4:List Peer):Option ((Int × Node × (List Out) × (List Peer))):=
 (xget zai r4 i).bind fun x=>
 (zuC b0 x [(⟨key,val⟩:Pair)] true).bind fun ⟨r0,r1⟩=>
 bif zaV eOut 136 r3 r1 then some (Ops.std.iadd .i64 i 1,r0,(r3 ++ r1),r4) else
 none
theorem zx1 {key val i b0 r3 r4 r} (h:zlY key val i b0 r3 r4=some r):zoF key val i b0 r3 r4=some r:=by
 unfold zlY at h
 refine zao fun γ=>?_
 obtain ⟨x,h1,h⟩:=zac h
 obtain ⟨r2,h2,h⟩:=zac h
 rcases r2 with ⟨r0,r1⟩
 obtain ⟨h3,h⟩:=zaH h
 cases h;refine ⟨gam [0,0,(γ 2),((γ 3) + 1),(γ 4)],zaj ?_⟩;rotate_left
 all_goals (dsimp only [R2,zgD] at *;show Ifc.apart IF_ _ zDZ _=_;exact fin_)
def zqH (n:Node) (key:ByteArray) (val:ByteArray):Option ((Node × (List Out) × Int)):=
 (zwM n.store key val).bind fun ⟨r0,r1⟩=>
 bif Ops.std.ieq r1 0 then
  (zmT n.list).bind fun res=>
  (zlh key val 0 (⟨n.me,n.clock,n.joined,n.pred,n.list,n.fingers,r0,n.pends,n.jobs,n.results,n.rid,n.jobID,n.nextBit⟩:Node) [] res).bind fun ⟨b0,r3,r4⟩=>
  some (b0,r3,0)
 else
  some (n,[],r1)
theorem zDu {n key val r} (h:zqH n key val=some r):zuD n key val=some r:=by
 unfold zqH at h
 refine zau ?_
 obtain ⟨r1,h1,h⟩:=zac h
 rcases r1 with ⟨r0,r1⟩
 rcases zaa h with ⟨h2,h⟩ | ⟨h2,h⟩
 obtain ⟨res,h3,h⟩:=zac h
 obtain ⟨r4,γ3,h4,h⟩:=zah h (gam [0,0,0,0,0])
 rcases r4 with ⟨b0,r3,r4⟩
 cases h;refine zab rfl ?_;rotate_left
 cases h;refine zab rfl ?_;rotate_left
 all_goals (dsimp only [K1,R2,R3,zgC] at *;show zas IF_ (g21F zti) _ _=_;generalize zti=c0 at *;exact fin_)
def zsJ (n:Node) (j:Job) (has:Bool) (val:ByteArray) (e_:Int):Option (Node):=
 zqD n j.id has val e_
theorem zzJ {n j has val e_ r} (h:zsJ n j has val e_=some r):zdG n j has val e_=some r:=by
 unfold zsJ at h
 refine zau ?_
 have h1:=ask_some h
 rcases r with res
 refine zab rfl ?_;rotate_left
 all_goals (dsimp only [R1] at *;show zas IF_ zHy _ _=_;exact fin_)
def znS (l:List Pair) (key:ByteArray):Option ((ByteArray × Bool)):=
 (znT l key).bind fun res=>
 bif Ops.std.ilt res 0 then some (⟨#[]⟩,false) else
 (xget zan l res).bind fun x=>
 some (x.val,true)
theorem zFj {l key r} (h:znS l key=some r):zwL l key=some r:=by
 unfold znS at h
 refine zau ?_
 obtain ⟨res,h1,h⟩:=zac h
 rcases zaa h with ⟨h2,h⟩ | ⟨h2,h⟩
 cases h;refine zab rfl ?_;rotate_left
 obtain ⟨x,h3,h⟩:=zac h
 cases h;refine zab rfl ?_;rotate_left
 all_goals (dsimp only [R1,R2] at *;show zas IF_ g68F _ _=_;exact fin_)
def zhw (p:Peer) (γ:Nat → Nat):(Int × Int × (List Finger)) → X × St
 | (a0,a1,a2)=>(.ret,⟨bd 6 (.sl 3 ((γ 3)) :: bd 73 []),[.box 25 [vU p.id,vH p.addr],.row 84 (γ 1) false (List.map zae []),.box 25 [vU a0,vH a1],.row 84 (γ 3) false (List.map zae a2)]⟩)
instance {p}:InjS (zhw p):=⟨fun γ γ' x y h=>by
 rcases x with ⟨a0,a1,a2⟩ <;> rcases y with ⟨a0',a1',a2'⟩ <;> simp only [zhw] at h <;> exact inj_⟩
def zqx (l:List Finger) (bit:Int) (p:Peer):Option ((Int × Int × (List Finger))):=asks (fun γ=>(lim F pr).seg [6] zvj ⟨.lit 84 false (List.map zae l) :: vI bit :: bd 3 (.bptr 0 0 :: bd 74 []),[.box 25 [vU p.id,vH p.addr],.row 84 (γ 1) false (List.map zae [])]⟩) (zhw p)
def zhu (bit:Int) (p:Peer) (γ:Nat → Nat):(Bool × Int × Int × (List Finger)) → X × St
 | (a0,a1,a2,a3)=>(.brk 0,⟨bd 1 (vI bit :: bd 3 (.bptr 0 0 :: bd 3 (.sl 3 ((γ 3)) :: vF a0 :: bd 69 []))),[.box 25 [vU p.id,vH p.addr],.row 84 (γ 1) false (List.map zae []),.box 25 [vU a1,vH a2],.row 84 (γ 3) false (List.map zae a3)]⟩)
instance {bit p}:InjS (zhu bit p):=⟨fun γ γ' x y h=>by
 rcases x with ⟨a0,a1,a2,a3⟩ <;> rcases y with ⟨a0',a1',a2',a3'⟩ <;> simp only [zhu] at h <;> exact inj_⟩
def zb7 (l:List Finger) (bit:Int) (p:Peer) (there:Bool) (put_:Bool) (i:Int) (zb2:Int) (zbn:Int) (r3:List Finger):Option ((Bool × Int × Int × (List Finger))):=asks (fun γ=>(lim F pr).loop [0,8,11,10,1,5,9] 4 zo7 ⟨.lit 84 false (List.map zae l) :: vI bit :: bd 3 (.bptr 0 0 :: bd 2 (vF there :: .sl 3 ((γ 3)) :: vF put_ :: vI i :: bd 68 [])),[.box 25 [vU p.id,vH p.addr],.row 84 (γ 1) false (List.map zae []),.box 25 [vU zb2,vH zbn],.row 84 (γ 3) false (List.map zae r3)]⟩) (zhu bit p)
abbrev zmV:=(Bool × Bool × Int × Int × Int × (List Finger) × Int × Int × Int)
def zhv (l:List Finger) (bit:Int) (p:Peer) (γ:Nat → Nat):zmV → X × St
 | (a0,a1,a2,a3,a4,a5,a6,a7,a8)=>(.nor,⟨.lit 84 false (List.map zae l) :: vI bit :: bd 3 (.bptr 0 0 :: bd 2 (vF a0 :: .sl 3 ((γ 3)) :: vF a1 :: vI a2 :: bd 68 [])),[.box 25 [vU p.id,vH p.addr],.row 84 (γ 1) false (List.map zae []),.box 25 [vU a3,vH a4],.row 84 (γ 3) false (List.map zae a5),.box 84 [vI a6,vU a7,vH a8]]⟩)
instance {l bit p}:InjS (zhv l bit p):=⟨fun γ γ' x y h=>by
 rcases x with ⟨a0,a1,a2,a3,a4,a5,a6,a7,a8⟩ <;> rcases y with ⟨a0',a1',a2',a3',a4',a5',a6',a7',a8'⟩ <;> simp only [zhv] at h <;> exact inj_⟩
def zh5 (l:List Finger) (bit:Int) (p:Peer) (there:Bool) (put_:Bool) (i:Int) (zb2:Int) (zbn:Int) (r3:List Finger) (zbx:Int) (za6:Int) (za2:Int):Option (zmV):=asks (fun γ=>(lim F pr).seg [11,0,8,10,1,5,9] zvi ⟨.lit 84 false (List.map zae l) :: vI bit :: bd 3 (.bptr 0 0 :: bd 2 (vF there :: .sl 3 ((γ 3)) :: vF put_ :: vI i :: .bptr 4 0 :: bd 67 [])),[.box 25 [vU p.id,vH p.addr],.row 84 (γ 1) false (List.map zae []),.box 25 [vU zb2,vH zbn],.row 84 (γ 3) false (List.map zae r3),.box 84 [vI zbx,vU za6,vH za2]]⟩) (zhv l bit p)
def zmX (l:List Finger) (bit:Int) (p:Peer):Option ((Int × Int × (List Finger))):=
 (zwJ l bit).bind fun ⟨r0,r1⟩=>
 (zb7 l bit p r1 false 0 r0.id r0.addr []).bind fun ⟨put_,zb2,zbn,r3⟩=>
 bif put_ then some (zb2,zbn,r3) else
 bif zaV zae 24 r3 [(⟨bit,p⟩:Finger)] then some (zb2,zbn,(r3 ++ [(⟨bit,p⟩:Finger)])) else
 none
theorem zzC {l bit p r} (h:zmX l bit p=some r):zqx l bit p=some r:=by
 unfold zmX at h
 refine zao fun γ=>?_
 obtain ⟨r1,h1,h⟩:=zac h
 rcases r1 with ⟨r0,r1⟩
 obtain ⟨r2,γ2,h2,h⟩:=zah h (gam [0,(γ 1),0,0])
 rcases r2 with ⟨put_,zb2,zbn,r3⟩
 rcases zaa h with ⟨h3,h⟩ | ⟨h3,h⟩
 cases h;refine ⟨gam [0,(γ2 1),0,(γ2 3)],zaj ?_⟩;rotate_left
 obtain ⟨h4,h⟩:=zaH h
 cases h;refine ⟨gam [0,(γ2 1),0,((γ2 3) + 1)],zaj ?_⟩;rotate_left
 all_goals (dsimp only [R2,zhu,zhw] at *;show Ifc.apart IF_ _ (zBM zo7) _=_;generalize zo7=c0 at *;exact fin_)
def zfl (l:List Finger) (bit:Int) (p:Peer) (there:Bool) (put_:Bool) (i:Int) (zb2:Int) (zbn:Int) (r3:List Finger):Option ((Bool × Int × Int × (List Finger))):=
 bif Ops.std.ilt i (xlen zae l) then
  (xget zae l i).bind fun x=>
  bif there then
   bif put_ then
    (zh5 l bit p true true i zb2 zbn r3 x.bit x.peer.id x.peer.addr).bind fun ⟨there1,put_1,i1,zhf,zdO,r31,zbx,za6,za2⟩=>
    zb7 l bit p there1 put_1 (Ops.std.iadd .i64 i1 1) zhf zdO r31
   else
    bif Ops.std.ieq x.bit bit then
     (zh5 l bit p true true i zb2 zbn r3 x.bit p.id p.addr).bind fun ⟨there1,put_1,i1,zhf,zdO,r31,zbx,za6,za2⟩=>
     zb7 l bit p there1 put_1 (Ops.std.iadd .i64 i1 1) zhf zdO r31
    else
     (zh5 l bit p true false i zb2 zbn r3 x.bit x.peer.id x.peer.addr).bind fun ⟨there1,put_1,i1,zhf,zdO,r31,zbx,za6,za2⟩=>
     zb7 l bit p there1 put_1 (Ops.std.iadd .i64 i1 1) zhf zdO r31
  else
   (zh5 l bit p false put_ i zb2 zbn r3 x.bit x.peer.id x.peer.addr).bind fun ⟨there1,put_1,i1,zhf,zdO,r31,zbx,za6,za2⟩=>
   zb7 l bit p there1 put_1 (Ops.std.iadd .i64 i1 1) zhf zdO r31
 else
  some (put_,zb2,zbn,r3)
theorem zjO {l bit p there put_ i zb2 zbn r3 r} (h:zfl l bit p there put_ i zb2 zbn r3=some r):zb7 l bit p there put_ i zb2 zbn r3=some r:=by
 unfold zfl at h
 refine zao fun γ=>?_
 rcases zaa h with ⟨h1,h⟩ | ⟨h1,h⟩
 obtain ⟨x,h2,h⟩:=zac h
 rcases zaa h with ⟨h3,h⟩ | ⟨h3,h⟩
 rcases zaa h with ⟨h4,h⟩ | ⟨h4,h⟩
 obtain ⟨r5,γ1,h5,h⟩:=zah h (gam [0,(γ 1),0,(γ 3)])
 rcases r5 with ⟨there1,put_1,i1,zhf,zdO,r31,zbx,za6,za2⟩
 replace h:=zak h (gam [0,(γ1 1),0,(γ1 3)]);obtain ⟨γ',h0⟩:=h;refine ⟨γ',zad ?_⟩;rotate_left
 rcases zaa h with ⟨h5,h⟩ | ⟨h5,h⟩
 obtain ⟨r6,γ1,h6,h⟩:=zah h (gam [0,(γ 1),0,(γ 3)])
 rcases r6 with ⟨there1,put_1,i1,zhf,zdO,r31,zbx,za6,za2⟩
 replace h:=zak h (gam [0,(γ1 1),0,(γ1 3)]);obtain ⟨γ',h0⟩:=h;refine ⟨γ',zad ?_⟩;rotate_left
 obtain ⟨r6,γ1,h6,h⟩:=zah h (gam [0,(γ 1),0,(γ 3)])
 rcases r6 with ⟨there1,put_1,i1,zhf,zdO,r31,zbx,za6,za2⟩
 replace h:=zak h (gam [0,(γ1 1),0,(γ1 3)]);obtain ⟨γ',h0⟩:=h;refine ⟨γ',zad ?_⟩;rotate_left
 obtain ⟨r4,γ1,h4,h⟩:=zah h (gam [0,(γ 1),0,(γ 3)])
 rcases r4 with ⟨there1,put_1,i1,zhf,zdO,r31,zbx,za6,za2⟩
 replace h:=zak h (gam [0,(γ1 1),0,(γ1 3)]);obtain ⟨γ',h0⟩:=h;refine ⟨γ',zad ?_⟩;rotate_left
 cases h;refine ⟨gam [0,(γ 1),0,(γ 3)],zad ?_⟩;rotate_left
 all_goals (dsimp only [zhu,zhv] at *;show zaT IF_ _ _ zo7 (zBL zvi) _=_;generalize zo7=c0,zvi=c1 at *;exact fin_)
def zmW (l:List Finger) (bit:Int) (p:Peer) (there:Bool) (put_:Bool) (i:Int) (zb2:Int) (zbn:Int) (r3:List Finger) (zbx:Int) (za6:Int) (za2:Int):Option (zmV):=
 bif there then
  bif zaV zae 24 r3 [(⟨zbx,(⟨za6,za2⟩:Peer)⟩:Finger)] then
   some (true,put_,i,zb2,zbn,(r3 ++ [(⟨zbx,(⟨za6,za2⟩:Peer)⟩:Finger)]),zbx,za6,za2)
  else
   none
 else
  bif put_ then
   bif zaV zae 24 r3 [(⟨zbx,(⟨za6,za2⟩:Peer)⟩:Finger)] then
    some (false,true,i,zb2,zbn,(r3 ++ [(⟨zbx,(⟨za6,za2⟩:Peer)⟩:Finger)]),zbx,za6,za2)
   else
    none
  else
   bif Ops.std.ilt bit zbx then
    bif zaV zae 24 r3 [(⟨bit,p⟩:Finger)] then
     bif zaV zae 24 (r3 ++ [(⟨bit,p⟩:Finger)]) [(⟨zbx,(⟨za6,za2⟩:Peer)⟩:Finger)] then
      some (false,true,i,zb2,zbn,((r3 ++ [(⟨bit,p⟩:Finger)]) ++ [(⟨zbx,(⟨za6,za2⟩:Peer)⟩:Finger)]),zbx,za6,za2)
     else
      none
    else
     none
   else
    bif zaV zae 24 r3 [(⟨zbx,(⟨za6,za2⟩:Peer)⟩:Finger)] then
     some (false,false,i,zb2,zbn,(r3 ++ [(⟨zbx,(⟨za6,za2⟩:Peer)⟩:Finger)]),zbx,za6,za2)
    else
     none
theorem zzB {l bit p there put_ i zb2 zbn r3 zbx za6 za2 r} (h:zmW l bit p there put_ i zb2 zbn r3 zbx za6 za2=some r):zh5 l bit p there put_ i zb2 zbn r3 zbx za6 za2=some r:=by
 unfold zmW at h
 refine zao fun γ=>?_
 rcases zaa h with ⟨h1,h⟩ | ⟨h1,h⟩
 obtain ⟨h2,h⟩:=zaH h
 cases h;refine ⟨gam [0,(γ 1),0,((γ 3) + 1)],zaj ?_⟩;rotate_left
 rcases zaa h with ⟨h2,h⟩ | ⟨h2,h⟩
 obtain ⟨h3,h⟩:=zaH h
 cases h;refine ⟨gam [0,(γ 1),0,((γ 3) + 1)],zaj ?_⟩;rotate_left
 rcases zaa h with ⟨h3,h⟩ | ⟨h3,h⟩
 obtain ⟨h4,h⟩:=zaH h
 obtain ⟨h5,h⟩:=zaH h
 cases h;refine ⟨gam [0,(γ 1),0,(((γ 3) + 1) + 1)],zaj ?_⟩;rotate_left
 obtain ⟨h4,h⟩:=zaH h
 cases h;refine ⟨gam [0,(γ 1),0,((γ 3) + 1)],zaj ?_⟩;rotate_left
 all_goals (dsimp only [zhv] at *;show Ifc.apart IF_ _ zBK _=_;exact fin_)
def zss (l:List Finger) (bit:Int) (p:Peer):Option ((List Finger)):=
 bif Ops.std.ilt bit 0 then some l else
 bif Ops.std.ilt 63 bit then some l else
 (zqx l bit p).bind fun ⟨zb2,zbn,r3⟩=>
 some r3
theorem zFh {l bit p r} (h:zss l bit p=some r):zwK l bit p=some r:=by
 unfold zss at h
 refine zau ?_
 rcases zaa h with ⟨h1,h⟩ | ⟨h1,h⟩
 cases h;refine zab rfl ?_;rotate_left
 rcases zaa h with ⟨h2,h⟩ | ⟨h2,h⟩
 cases h;refine zab rfl ?_;rotate_left
 obtain ⟨r3,γ1,h3,h⟩:=zah h (gam [0,0])
 rcases r3 with ⟨zb2,zbn,r3⟩
 cases h;refine zab rfl ?_;rotate_left
 all_goals (dsimp only [R1,zhw] at *;show zas IF_ (zH7 zvj) _ _=_;generalize zvj=c0 at *;exact fin_)
def zfm (γ:Nat → Nat):Unit ⊕ Unit → X × St
 | .inl ()=>(.ret,⟨bd 4 (vF true :: bd 14 []),[]⟩)
 | .inr ()=>(.brk 0,⟨bd 19 [],[]⟩)
instance :InjS zfm:=⟨fun γ γ' x y h=>by
 rcases x with _ | _ <;> rcases y with _ | _ <;> simp only [zfm] at h <;> exact inj_⟩
def zjP (l:List Peer) (addr:Int) (i:Int):Option (Unit ⊕ Unit):=asks (fun γ=>(lim F pr).loop [0,1,5] 0 zpb ⟨.lit 25 false (List.map zai l) :: vH addr :: bd 3 (vI i :: bd 13 []),[]⟩) zfm
def zh6 (l:List Peer) (addr:Int) (i:Int):Option (Unit ⊕ Unit):=
 bif Ops.std.ilt i (xlen zai l) then
  (xget zai l i).bind fun x=>
  bif Ops.std.ieq x.addr addr then some (.inl ()) else
  zjP l addr (Ops.std.iadd .i64 i 1)
 else
  some (.inr ())
theorem zpr {l addr i r} (h:zh6 l addr i=some r):zjP l addr i=some r:=by
 unfold zh6 at h
 refine zao fun γ=>?_
 rcases zaa h with ⟨h1,h⟩ | ⟨h1,h⟩
 obtain ⟨x,h2,h⟩:=zac h
 rcases zaa h with ⟨h3,h⟩ | ⟨h3,h⟩
 cases h;refine ⟨gam [],zad ?_⟩;rotate_left
 replace h:=zak h (gam []);obtain ⟨γ',h0⟩:=h;refine ⟨γ',zad ?_⟩;rotate_left
 cases h;refine ⟨gam [],zad ?_⟩;rotate_left
 all_goals (dsimp only [zfm] at *;show zaT IF_ _ _ zpb zBP _=_;generalize zpb=c0 at *;exact fin_)
def zow (l:List Peer) (addr:Int):Option (Bool):=
 (zjP l addr 0).bind fun r=>match r with
  | .inl ()=>
   some true
  | .inr ()=>
   some false
theorem zAP {l addr r} (h:zow l addr=some r):zst l addr=some r:=by
 unfold zow at h
 refine zau ?_
 obtain ⟨r1,γ1,h1,h⟩:=zah h (gam [])
 rcases r1 with _ | _
 cases h;refine zab rfl ?_;rotate_left
 cases h;refine zab rfl ?_;rotate_left
 all_goals (dsimp only [R1,zfm] at *;show zas IF_ (zIe zpb) _ _=_;generalize zpb=c0 at *;exact fin_)
def zlL (a:Int) (x:Int) (b:Int):Option (Bool):=
 bif Ops.std.ieq a b then some (!(Ops.std.ieq x a)) else
 bif Ops.std.ieq x b then some false else
 zmS a x b
theorem zxM {a x b r} (h:zlL a x b=some r):zol a x b=some r:=by
 unfold zlL at h
 refine zau ?_
 rcases zaa h with ⟨h1,h⟩ | ⟨h1,h⟩
 cases h;refine zab rfl ?_;rotate_left
 rcases zaa h with ⟨h2,h⟩ | ⟨h2,h⟩
 cases h;refine zab rfl ?_;rotate_left
 have h3:=ask_some h
 rcases r with res
 refine zab rfl ?_;rotate_left
 all_goals (dsimp only [R1] at *;show zas IF_ zHx _ _=_;exact fin_)
def zqm (a:Int) (b:Int):Option (Int):=
 bif Ops.std.ile a b then some (Ops.std.isub .u64 b a) else
 some (Ops.std.iadd .u64 (Ops.std.isub .u64 18446744073709551615 (Ops.std.isub .u64 a b)) 1)
theorem zC7 {a b r} (h:zqm a b=some r):zql a b=some r:=by
 unfold zqm at h
 refine zau ?_
 rcases zaa h with ⟨h1,h⟩ | ⟨h1,h⟩
 cases h;refine zab rfl ?_;rotate_left
 cases h;refine zab rfl ?_;rotate_left
 all_goals (dsimp only [R1] at *;show zas IF_ zIf _ _=_;exact fin_)
def zhx (l:List Pair) (key:ByteArray) (val:ByteArray) (γ:Nat → Nat):Int → X × St
 | a0=>(.brk 0,⟨.lit 78 false (List.map zan l) :: vT key :: vT val :: bd 5 (vI a0 :: bd 60 []),[.row 78 (γ 0) false (List.map zan [])]⟩)
instance {l key val}:InjS (zhx l key val):=⟨fun γ γ' x y h=>by
 rcases x with a0 <;> rcases y with a0' <;> simp only [zhx] at h <;> exact inj_⟩
def zjQ (l:List Pair) (key:ByteArray) (val:ByteArray) (at_:Int):Option (Int):=asks (fun γ=>(lim F pr).loop [1,2,0,8] 1 ztt ⟨.lit 78 false (List.map zan l) :: vT key :: vT val :: bd 5 (vI at_ :: bd 60 []),[.row 78 (γ 0) false (List.map zan [])]⟩) (zhx l key val)
def zjR (l:List Pair) (key:ByteArray) (val:ByteArray) (at_:Int):Option (Int):=
 bif Ops.std.ilt at_ (xlen zan l) then
  (xget zan l at_).bind fun x=>
  (zqq key x.key).bind fun res=>
  bif res then some at_ else
  zjQ l key val (Ops.std.iadd .i64 at_ 1)
 else
  some at_
theorem zsv {l key val at_ r} (h:zjR l key val at_=some r):zjQ l key val at_=some r:=by
 unfold zjR at h
 refine zao fun γ=>?_
 rcases zaa h with ⟨h1,h⟩ | ⟨h1,h⟩
 obtain ⟨x,h2,h⟩:=zac h
 obtain ⟨res,h3,h⟩:=zac h
 rcases zaa h with ⟨h4,h⟩ | ⟨h4,h⟩
 cases h;refine ⟨gam [(γ 0)],zad ?_⟩;rotate_left
 replace h:=zak h (gam [(γ 0)]);obtain ⟨γ',h0⟩:=h;refine ⟨γ',zad ?_⟩;rotate_left
 cases h;refine ⟨gam [(γ 0)],zad ?_⟩;rotate_left
 all_goals (dsimp only [R1,zhx] at *;show zaT IF_ _ _ ztt zEm _=_;generalize ztt=c0 at *;exact fin_)
def zsu (l:List Pair) (key:ByteArray) (val:ByteArray):Option (((List Pair) × Int)):=
 (zkI key).bind fun res=>
 bif res then
  bif Ops.std.ilt 512 (Ops.std.slen val) then some (l,5) else
  (znT l key).bind fun res1=>
  bif Ops.std.ile 0 res1 then
   bif zaV zan 32 [] l then
    (xget zan l res1).bind fun x=>
    some (xset l res1 (⟨x.key,val⟩:Pair),0)
   else
    none
  else
   bif Ops.std.ilt 63 (xlen zan l) then some (l,10) else
   (zjQ l key val 0).bind fun at_=>
   (xsub zan l 0 at_).bind fun ys=>
   bif zaV zan 32 [] ys then
    bif zaV zan 32 ys [(⟨key,val⟩:Pair)] then
     (xsub zan l at_ (xlen zan l)).bind fun ys1=>
     bif zaV zan 32 (ys ++ [(⟨key,val⟩:Pair)]) ys1 then some (((ys ++ [(⟨key,val⟩:Pair)]) ++ ys1),0) else
     none
    else
     none
   else
    none
 else
  some (l,7)
theorem zFk {l key val r} (h:zsu l key val=some r):zwM l key val=some r:=by
 unfold zsu at h
 refine zau ?_
 obtain ⟨res,h1,h⟩:=zac h
 rcases zaa h with ⟨h2,h⟩ | ⟨h2,h⟩
 rcases zaa h with ⟨h3,h⟩ | ⟨h3,h⟩
 cases h;refine zab rfl ?_;rotate_left
 obtain ⟨res1,h4,h⟩:=zac h
 rcases zaa h with ⟨h5,h⟩ | ⟨h5,h⟩
 obtain ⟨h6,h⟩:=zaH h
 obtain ⟨x,h7,h⟩:=zac h
 cases h;refine zab rfl ?_;rotate_left
 rcases zaa h with ⟨h6,h⟩ | ⟨h6,h⟩
 cases h;refine zab rfl ?_;rotate_left
 obtain ⟨at_,γ3,h7,h⟩:=zah h (gam [0])
 obtain ⟨ys,h8,h⟩:=zac h
 obtain ⟨h9,h⟩:=zaH h
 obtain ⟨h10,h⟩:=zaH h
 obtain ⟨ys1,h11,h⟩:=zac h
 obtain ⟨h12,h⟩:=zaH h
 cases h;refine zab rfl ?_;rotate_left
 cases h;refine zab rfl ?_;rotate_left
 all_goals (dsimp only [R1,R2,zhx] at *;show zas IF_ (g77F ztt) _ _=_;generalize ztt=c0 at *;exact fin_)
def zgB (to_:Peer) (γ:Nat → Nat):(Node × (List Out)) → X × St
 | (a0,a1)=>(.brk 0,⟨bd 4 (.bptr 0 0 :: bd 3 (.bptr 2 0 :: bd 1 (.sl 4 ((γ 4)) :: bd 30 []))),[.box 34 (zam a0),.box 25 [vU to_.id,vH to_.addr],.box 34 ([vU 0,vH 0,vI 0,vF false,.lit 0 true [],.lit 0 true [],.lit 0 true [],.lit 0 true [],.lit 0 true [],.lit 0 true [],.lit 0 true [],vW 0,vI 0,vI 0]),.row 56 (γ 3) false (List.map eOut []),.row 56 (γ 4) false (List.map eOut a1)]⟩)
instance {to_}:InjS (zgB to_):=⟨fun γ γ' x y h=>by
 rcases x with ⟨a0,a1⟩ <;> rcases y with ⟨a0',a1'⟩ <;> simp only [zgB] at h <;> exact inj_⟩
def zlg (to_:Peer) (fresh:Bool) (c:List (List Pair)) (i:Int) (b0:Node) (r4:List Out):Option ((Node × (List Out))):=asks (fun γ=>(lim F pr).loop [5,3,11,12,4,10,8] 5 ztl ⟨bd 3 (vF fresh :: .bptr 0 0 :: .bptr 1 0 :: bd 2 (.bptr 2 0 :: bd 1 (.sl 4 ((γ 4)) :: .lit 28 false (List.map (eL 78 zan) c) :: vI i :: bd 28 []))),[.box 34 (zam b0),.box 25 [vU to_.id,vH to_.addr],.box 34 ([vU 0,vH 0,vI 0,vF false,.lit 0 true [],.lit 0 true [],.lit 0 true [],.lit 0 true [],.lit 0 true [],.lit 0 true [],.lit 0 true [],vW 0,vI 0,vI 0]),.row 56 (γ 3) false (List.map eOut []),.row 56 (γ 4) false (List.map eOut r4)]⟩) (zgB to_)
def ziY (to_:Peer) (fresh:Bool) (c:List (List Pair)) (i:Int) (b0:Node) (r4:List Out):Option ((Node × (List Out))):=
 bif Ops.std.ilt i (xlen (eL 78 zan) c) then
  (xget (eL 78 zan) c i).bind fun x=>
  (zmt b0 to_ (⟨10,0,0,fresh,0,⟨#[]⟩,⟨#[]⟩,(⟨0,0⟩:Peer),[],x⟩:Msg) 6 0).bind fun ⟨r0,r1⟩=>
  bif zaV eOut 136 r4 r1 then zlg to_ fresh c (Ops.std.iadd .i64 i 1) r0 (r4 ++ r1) else
  none
 else
  some (b0,r4)
theorem zrr {to_ fresh c i b0 r4 r} (h:ziY to_ fresh c i b0 r4=some r):zlg to_ fresh c i b0 r4=some r:=by
 unfold ziY at h
 refine zao fun γ=>?_
 rcases zaa h with ⟨h1,h⟩ | ⟨h1,h⟩
 obtain ⟨x,h2,h⟩:=zac h
 obtain ⟨r3,h3,h⟩:=zac h
 rcases r3 with ⟨r0,r1⟩
 obtain ⟨h4,h⟩:=zaH h
 replace h:=zak h (gam [0,0,0,(γ 3),((γ 4) + 1)]);obtain ⟨γ',h0⟩:=h;refine ⟨γ',zad ?_⟩;rotate_left
 cases h;refine ⟨gam [0,0,0,(γ 3),(γ 4)],zad ?_⟩;rotate_left
 all_goals (dsimp only [R2,zgB] at *;show zaT IF_ _ _ ztl zD2 _=_;generalize ztl=c0 at *;exact fin_)
def zqG (n:Node) (to_:Peer) (l:List Pair) (fresh:Bool):Option ((Node × (List Out))):=
 (xcut zan 78 l).bind fun cs=>
 zlg to_ fresh cs 0 n []
theorem zDt {n to_ l fresh r} (h:zqG n to_ l fresh=some r):zuC n to_ l fresh=some r:=by
 unfold zqG at h
 refine zau ?_
 obtain ⟨cs,h1,h⟩:=zac h
 obtain ⟨γ1,h2⟩:=zak h (gam [0,0,0,0,0])
 rcases r with ⟨b0,r4⟩
 refine zab rfl ?_;rotate_left
 all_goals (dsimp only [R2,zgB] at *;show zas IF_ (g23F ztl) _ _=_;generalize ztl=c0 at *;exact fin_)
def zmZ (n:Node) (id:Int) (has:Bool) (val:ByteArray) (e_:Int):Option (Node):=
 (zhz n.jobs id).bind fun res=>
 bif Ops.std.ilt res 0 then some n else
 (xget eJob n.jobs res).bind fun x=>
 (zuA n.results x has val e_).bind fun res1=>
 (zoD n.jobs res).bind fun res2=>
 some (⟨n.me,n.clock,n.joined,n.pred,n.list,n.fingers,n.store,n.pends,res2,res1,n.rid,n.jobID,n.nextBit⟩:Node)
theorem zzG {n id has val e_ r} (h:zmZ n id has val e_=some r):zqD n id has val e_=some r:=by
 unfold zmZ at h
 refine zau ?_
 obtain ⟨res,h1,h⟩:=zac h
 rcases zaa h with ⟨h2,h⟩ | ⟨h2,h⟩
 cases h;refine zab rfl ?_;rotate_left
 obtain ⟨x,h3,h⟩:=zac h
 obtain ⟨res1,h4,h⟩:=zac h
 obtain ⟨res2,h5,h⟩:=zac h
 cases h;refine zab rfl ?_;rotate_left
 all_goals (dsimp only [R1] at *;show zas IF_ zH8 _ _=_;exact fin_)
def zfo (γ:Nat → Nat):Int ⊕ Unit → X × St
 | .inl a0=>(.ret,⟨bd 4 (vI a0 :: bd 15 []),[]⟩)
 | .inr ()=>(.brk 0,⟨bd 20 [],[]⟩)
instance :InjS zfo:=⟨fun γ γ' x y h=>by
 rcases x with a0 | _ <;> rcases y with a0' | _ <;> simp only [zfo] at h <;> exact inj_⟩
def zjS (l:List Pair) (key:ByteArray) (i:Int):Option (Int ⊕ Unit):=asks (fun γ=>(lim F pr).loop [0,1,5] 0 zoZ ⟨.lit 78 false (List.map zan l) :: vT key :: bd 3 (vI i :: bd 14 []),[]⟩) zfo
def zfn (l:List Pair) (key:ByteArray) (i:Int):Option (Int ⊕ Unit):=
 bif Ops.std.ilt i (xlen zan l) then
  (xget zan l i).bind fun x=>
  bif Ops.std.seq x.key key then some (.inl i) else
  zjS l key (Ops.std.iadd .i64 i 1)
 else
  some (.inr ())
theorem zkK {l key i r} (h:zfn l key i=some r):zjS l key i=some r:=by
 unfold zfn at h
 refine zao fun γ=>?_
 rcases zaa h with ⟨h1,h⟩ | ⟨h1,h⟩
 obtain ⟨x,h2,h⟩:=zac h
 rcases zaa h with ⟨h3,h⟩ | ⟨h3,h⟩
 cases h;refine ⟨gam [],zad ?_⟩;rotate_left
 replace h:=zak h (gam []);obtain ⟨γ',h0⟩:=h;refine ⟨γ',zad ?_⟩;rotate_left
 cases h;refine ⟨gam [],zad ?_⟩;rotate_left
 all_goals (dsimp only [zfo] at *;show zaT IF_ _ _ zoZ zBu _=_;generalize zoZ=c0 at *;exact fin_)
def zox (l:List Pair) (key:ByteArray):Option (Int):=
 (zjS l key 0).bind fun r=>match r with
  | .inl t4=>
   some t4
  | .inr ()=>
   some (-1)
theorem zAQ {l key r} (h:zox l key=some r):znT l key=some r:=by
 unfold zox at h
 refine zau ?_
 obtain ⟨r1,γ1,h1,h⟩:=zah h (gam [])
 rcases r1 with t4 | _
 cases h;refine zab rfl ?_;rotate_left
 cases h;refine zab rfl ?_;rotate_left
 all_goals (dsimp only [R1,zfo] at *;show zas IF_ (zHF zoZ) _ _=_;generalize zoZ=c0 at *;exact fin_)
def zht (γ:Nat → Nat):(Int × Int) ⊕ Unit → X × St
 | .inl (a0,a1)=>(.ret,⟨bd 4 (.bptr 0 0 :: vF true :: bd 20 []),[.box 25 [vU a0,vH a1]]⟩)
 | .inr ()=>(.brk 0,⟨bd 4 (.bptr 0 0 :: bd 21 []),[.box 25 [vU 0,vH 0]]⟩)
instance :InjS zht:=⟨fun γ γ' x y h=>by
 rcases x with ⟨a0,a1⟩ | _ <;> rcases y with ⟨a0',a1'⟩ | _ <;> simp only [zht] at h <;> exact inj_⟩
def zes (l:List Finger) (bit:Int) (i:Int):Option ((Int × Int) ⊕ Unit):=asks (fun γ=>(lim F pr).loop [1,0,6,4] 1 zpe ⟨.lit 84 false (List.map zae l) :: vI bit :: bd 2 (.bptr 0 0 :: bd 1 (vI i :: bd 19 [])),[.box 25 [vU 0,vH 0]]⟩) zht
def zhs (l:List Finger) (bit:Int) (i:Int):Option ((Int × Int) ⊕ Unit):=
 bif Ops.std.ilt i (xlen zae l) then
  (xget zae l i).bind fun x=>
  bif Ops.std.ieq x.bit bit then some (.inl (x.peer.id,x.peer.addr)) else
  zes l bit (Ops.std.iadd .i64 i 1)
 else
  some (.inr ())
theorem zmU {l bit i r} (h:zhs l bit i=some r):zes l bit i=some r:=by
 unfold zhs at h
 refine zao fun γ=>?_
 rcases zaa h with ⟨h1,h⟩ | ⟨h1,h⟩
 obtain ⟨x,h2,h⟩:=zac h
 rcases zaa h with ⟨h3,h⟩ | ⟨h3,h⟩
 cases h;refine ⟨gam [],zad ?_⟩;rotate_left
 replace h:=zak h (gam []);obtain ⟨γ',h0⟩:=h;refine ⟨γ',zad ?_⟩;rotate_left
 cases h;refine ⟨gam [],zad ?_⟩;rotate_left
 all_goals (dsimp only [zht] at *;show zaT IF_ _ _ zpe zBT _=_;generalize zpe=c0 at *;exact fin_)
def znQ (l:List Finger) (bit:Int):Option ((Peer × Bool)):=
 (zes l bit 0).bind fun r=>match r with
  | .inl (zbi,za5)=>
   some ((⟨zbi,za5⟩:Peer),true)
  | .inr ()=>
   some ((⟨0,0⟩:Peer),false)
theorem zxq {l bit r} (h:znQ l bit=some r):zwJ l bit=some r:=by
 unfold znQ at h
 refine zau ?_
 obtain ⟨r1,γ1,h1,h⟩:=zah h (gam [])
 rcases r1 with ⟨zbi,za5⟩ | _
 cases h;refine zab rfl ?_;rotate_left
 cases h;refine zab rfl ?_;rotate_left
 all_goals (dsimp only [R2,zht] at *;show zas IF_ (zIo zpe) _ _=_;generalize zpe=c0 at *;exact fin_)
end Go.Ab.Tryz
