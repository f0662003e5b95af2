/- Our texts for this statement, merged: what its theorem leads to. -/
import Derived.Test.YtjmmobicnfojeaaGreatDoorQSv9
set_option linter.unusedVariables false
set_option linter.unusedSimpArgs false
noncomputable section
namespace Go.Ab.Tryz
open Go Go.Ab Go.Proofs
set_option maxRecDepth 10000
set_option maxHeartbeats 4000000
def zhR (γ:Nat → Nat):(List Peer) → X × St
 | a0=>(.brk 0,⟨bd 3 (.sl 1 ((γ 1)) :: bd 16 []),[.row 25 (γ 0) false (List.map zaf []),.row 25 (γ 1) false (List.map zaf a0)]⟩)
instance:InjS zhR:=⟨fun γ γ' x y h=>by
 rcases x with a0 <;> rcases y with a0' <;> simp only [zhR] at h <;> exact inj_⟩
def zmr (l:List Entry) (i:Int) (r1:List Peer):Option ((List Peer)):=asks (fun γ=>(lim F pr).loop [0,4,3] 2 ztr ⟨.lit 81 false (List.map zag l) :: bd 2 (.sl 1 ((γ 1)) :: vI i :: bd 15 []),[.row 25 (γ 0) false (List.map zaf []),.row 25 (γ 1) false (List.map zaf r1)]⟩) zhR
def zj2 (l:List Entry) (i:Int) (r1:List Peer):Option ((List Peer)):=
 bif Ops.std.ilt i (xlen zag l) then
  (xget zag l i).bind fun x=>
  bif zaN zaf 16 r1 [x.peer] then zmr l (Ops.std.iadd .i64 i 1) (r1 ++ [x.peer]) else
  none
 else
  some r1
theorem zsD {l i r1 r} (h:zj2 l i r1=some r):zmr l i r1=some r:=by
 unfold zj2 at h
 refine zaq fun γ=>?_
 rcases zaa h with ⟨h1,h⟩ | ⟨h1,h⟩
 obtain ⟨x,h2,h⟩:=zac h
 obtain ⟨h3,h⟩:=zaw h
 replace h:=zai h (gam [(γ 0),((γ 1) + 1)]);obtain ⟨γ',h0⟩:=h;refine ⟨γ',zad ?_⟩;rotate_left
 cases h;refine ⟨gam [(γ 0),(γ 1)],zad ?_⟩;rotate_left
 all_goals (dsimp only [zhR] at *;show zaH IF_ _ _ ztr zEu _=_;generalize ztr=c0 at *;exact fin_)
def zsC (l:List Entry):Option ((List Peer)):=
 zmr l 0 []
theorem zFE {l r} (h:zsC l=some r):zwL l=some r:=by
 unfold zsC at h
 refine zar ?_
 obtain ⟨γ1,h1⟩:=zai h (gam [0,0])
 rcases r with r1
 refine zab rfl ?_;rotate_left
 all_goals (dsimp only [K1,zhR] at *;show zat IF_ (g64F ztr) _ _=_;generalize ztr=c0 at *;exact fin_)
def zqQ (n:Node) (from_:Int) (p:Peer):Option ((Node × (List Out))):=
 bif Ops.std.ieq p.addr from_ then
  bif Ops.std.ieq p.addr n.me.addr then some (n,[]) else
  (zwK n.me n.list p).bind fun res=>
  bif Ops.std.ilt 0 (xlen zag n.pred) then
   (xget zag n.pred 0).bind fun x=>
   bif Ops.std.ieq x.peer.addr p.addr then
    bif Ops.std.ieq x.peer.id p.id then
     some ((⟨n.me,n.clock,n.joined,[(⟨p,0⟩:Entry)],res,n.fingers,n.store,n.pends,n.jobs,n.results,n.rid,n.jobID,n.nextBit⟩:Node),[])
    else
     (zjJ n.store n.me.id p.id).bind fun res1=>
     zhU (⟨n.me,n.clock,n.joined,[(⟨p,0⟩:Entry)],res,n.fingers,n.store,n.pends,n.jobs,n.results,n.rid,n.jobID,n.nextBit⟩:Node) p res1 false
   else
    (zk7 x.peer.id p.id n.me.id).bind fun res1=>
    bif res1 then
     bif Ops.std.ieq x.peer.id p.id then
      (zjJ n.store n.me.id p.id).bind fun res2=>
      zhU (⟨n.me,n.clock,n.joined,[(⟨p,0⟩:Entry)],res,n.fingers,n.store,n.pends,n.jobs,n.results,n.rid,n.jobID,n.nextBit⟩:Node) p res2 false
     else
      (zjJ n.store n.me.id p.id).bind fun res2=>
      zhU (⟨n.me,n.clock,n.joined,[(⟨p,0⟩:Entry)],res,n.fingers,n.store,n.pends,n.jobs,n.results,n.rid,n.jobID,n.nextBit⟩:Node) p res2 false
    else
     some ((⟨n.me,n.clock,n.joined,n.pred,res,n.fingers,n.store,n.pends,n.jobs,n.results,n.rid,n.jobID,n.nextBit⟩:Node),[])
  else
   (zjJ n.store n.me.id p.id).bind fun res1=>
   zhU (⟨n.me,n.clock,n.joined,[(⟨p,0⟩:Entry)],res,n.fingers,n.store,n.pends,n.jobs,n.results,n.rid,n.jobID,n.nextBit⟩:Node) p res1 false
 else
  some (n,[])
theorem zDN {n from_ p r} (h:zqQ n from_ p=some r):zuV n from_ p=some r:=by
 unfold zqQ at h
 refine zar ?_
 rcases zaa h with ⟨h1,h⟩ | ⟨h1,h⟩
 rcases zaa h with ⟨h2,h⟩ | ⟨h2,h⟩
 cases h;refine zab rfl ?_;rotate_left
 obtain ⟨res,h3,h⟩:=zac h
 rcases zaa h with ⟨h4,h⟩ | ⟨h4,h⟩
 obtain ⟨x,h5,h⟩:=zac h
 rcases zaa h with ⟨h6,h⟩ | ⟨h6,h⟩
 rcases zaa h with ⟨h7,h⟩ | ⟨h7,h⟩
 cases h;refine zab rfl ?_;rotate_left
 obtain ⟨res1,h8,h⟩:=zac h
 have h9:=ask_some h
 rcases r with ⟨r0,r1⟩
 refine zab rfl ?_;rotate_left
 obtain ⟨res1,h7,h⟩:=zac h
 rcases zaa h with ⟨h8,h⟩ | ⟨h8,h⟩
 rcases zaa h with ⟨h9,h⟩ | ⟨h9,h⟩
 obtain ⟨res2,h10,h⟩:=zac h
 have h11:=ask_some h
 rcases r with ⟨r0,r1⟩
 refine zab rfl ?_;rotate_left
 obtain ⟨res2,h10,h⟩:=zac h
 have h11:=ask_some h
 rcases r with ⟨r0,r1⟩
 refine zab rfl ?_;rotate_left
 cases h;refine zab rfl ?_;rotate_left
 obtain ⟨res1,h5,h⟩:=zac h
 have h6:=ask_some h
 rcases r with ⟨r0,r1⟩
 refine zab rfl ?_;rotate_left
 cases h;refine zab rfl ?_;rotate_left
 all_goals (dsimp only [R1,R2] at *;show zat IF_ g65F _ _=_;exact fin_)
def zgX (γ:Nat → Nat):(List Pair) → X × St
 | a0=>(.brk 0,⟨.lit 78 false (List.map zae a0) :: bd 43 [],[.row 78 (γ 0) false (List.map zae [])]⟩)
instance:InjS zgX:=⟨fun γ γ' x y h=>by
 rcases x with a0 <;> rcases y with a0' <;> simp only [zgX] at h <;> exact inj_⟩
def zll (more:List Pair) (l':List Pair) (i:Int):Option ((List Pair)):=asks (fun γ=>(lim F pr).loop [1,9,0] 1 zts ⟨.lit 78 false (List.map zae l') :: .lit 78 false (List.map zae more) :: bd 7 (vI i :: bd 34 []),[.row 78 (γ 0) false (List.map zae [])]⟩) zgX
def zjd (more:List Pair) (l':List Pair) (i:Int):Option ((List Pair)):=
 bif Ops.std.ilt i (xlen zae more) then
  (xget zae more i).bind fun x=>
  (zpj l' x.key x.val).bind fun ⟨r0,r1⟩=>
  zll more r0 (Ops.std.iadd .i64 i 1)
 else
  some l'
theorem zrj {more l' i r} (h:zjd more l' i=some r):zll more l' i=some r:=by
 unfold zjd at h
 refine zaq fun γ=>?_
 rcases zaa h with ⟨h1,h⟩ | ⟨h1,h⟩
 obtain ⟨x,h2,h⟩:=zac h
 obtain ⟨r3,h3,h⟩:=zac h
 rcases r3 with ⟨r0,r1⟩
 replace h:=zai h (gam [(γ 0)]);obtain ⟨γ',h0⟩:=h;refine ⟨γ',zad ?_⟩;rotate_left
 cases h;refine ⟨gam [(γ 0)],zad ?_⟩;rotate_left
 all_goals (dsimp only [R2,zgX] at *;show zaH IF_ _ _ zts zEv _=_;generalize zts=c0 at *;exact fin_)
def zqP (l:List Pair) (more:List Pair) (fresh:Bool):Option ((List Pair)):=
 bif fresh then zll more l 0 else
 (zsF l more).bind fun ⟨r0,r1⟩=>
 some r0
theorem zDM {l more fresh r} (h:zqP l more fresh=some r):zuU l more fresh=some r:=by
 unfold zqP at h
 refine zar ?_
 rcases zaa h with ⟨h1,h⟩ | ⟨h1,h⟩
 obtain ⟨γ1,h2⟩:=zai h (gam [0])
 rcases r with l'
 refine zab rfl ?_;rotate_left
 obtain ⟨r2,h2,h⟩:=zac h
 rcases r2 with ⟨r0,r1⟩
 cases h;refine zab rfl ?_;rotate_left
 all_goals (dsimp only [R1,R2,zgX] at *;show zat IF_ (g66F zts) _ _=_;generalize zts=c0 at *;exact fin_)
def zl5 (n:Node) (key:ByteArray):Option (Int):=
 bif n.joined then
  (znH key).bind fun res=>
  (zuS (⟨n.me,n.clock,true,n.pred,n.list,n.fingers,n.store,n.pends,n.jobs,n.results,n.rid,n.jobID,n.nextBit⟩:Node) res).bind fun res1=>
  bif res1 then some 0 else
  some 14
 else
  some 17
theorem zx7 {n key r} (h:zl5 n key=some r):zoq n key=some r:=by
 unfold zl5 at h
 refine zar ?_
 rcases zaa h with ⟨h1,h⟩ | ⟨h1,h⟩
 obtain ⟨res,h2,h⟩:=zac h
 obtain ⟨res1,h3,h⟩:=zac h
 rcases zaa h with ⟨h4,h⟩ | ⟨h4,h⟩
 cases h;refine zab rfl ?_;rotate_left
 cases h;refine zab rfl ?_;rotate_left
 cases h;refine zab rfl ?_;rotate_left
 all_goals (dsimp only [R1] at *;show zat IF_ g67F _ _=_;(try dsimp only [zaf,zag,zaU,zae,zbe,eJob,za7,zbc,eMsg,eOut,zbw,zbm,zau,cMsg,capp] at *);(try simp only [List.map_cons,List.map_nil] at *);(try generalize n.joined=q0 at *);exact fin_)
def znL (l:List Pair) (key:ByteArray):Option ((ByteArray × Bool)):=
 (zlD l key).bind fun res=>
 bif Ops.std.ilt res 0 then some (⟨#[]⟩,false) else
 (xget zae l res).bind fun x=>
 some (x.val,true)
theorem zFG {l key r} (h:znL l key=some r):zwM l key=some r:=by
 unfold znL at h
 refine zar ?_
 obtain ⟨res,h1,h⟩:=zac h
 rcases zaa h with ⟨h2,h⟩ | ⟨h2,h⟩
 cases h;refine zab rfl ?_;rotate_left
 obtain ⟨x,h3,h⟩:=zac h
 cases h;refine zab rfl ?_;rotate_left
 all_goals (dsimp only [R1,R2] at *;show zat IF_ g68F _ _=_;exact fin_)
def zgG (γ:Nat → Nat):Unit ⊕ Unit → X × St
 | .inl ()=>(.ret,⟨bd 4 (vF false :: bd 21 []),[]⟩)
 | .inr ()=>(.brk 0,⟨bd 26 [],[]⟩)
instance:InjS zgG:=⟨fun γ γ' x y h=>by
 rcases x with _ | _ <;> rcases y with _ | _ <;> simp only [zgG] at h <;> exact inj_⟩
def zld (a:List Entry) (b:List Entry) (i:Int):Option (Unit ⊕ Unit):=asks (fun γ=>(lim F pr).loop [0,1,5] 0 ztt ⟨.lit 81 false (List.map zag a) :: .lit 81 false (List.map zag b) :: bd 3 (vI i :: bd 20 []),[]⟩) zgG
def zgF (a:List Entry) (b:List Entry) (i:Int):Option (Unit ⊕ Unit):=
 bif Ops.std.ilt i (xlen zag a) then
  (xget zag a i).bind fun x=>
  (xget zag b i).bind fun x1=>
  bif Ops.std.ieq x.peer.id x1.peer.id then
   bif Ops.std.ieq x.peer.addr x1.peer.addr then
    bif Ops.std.ieq x.misses x1.misses then zld a b (Ops.std.iadd .i64 i 1) else
    some (.inl ())
   else
    some (.inl ())
  else
   some (.inl ())
 else
  some (.inr ())
theorem zlT {a b i r} (h:zgF a b i=some r):zld a b i=some r:=by
 unfold zgF at h
 refine zaq fun γ=>?_
 rcases zaa h with ⟨h1,h⟩ | ⟨h1,h⟩
 obtain ⟨x,h2,h⟩:=zac h
 obtain ⟨x1,h3,h⟩:=zac h
 rcases zaa h with ⟨h4,h⟩ | ⟨h4,h⟩
 rcases zaa h with ⟨h5,h⟩ | ⟨h5,h⟩
 rcases zaa h with ⟨h6,h⟩ | ⟨h6,h⟩
 replace h:=zai h (gam []);obtain ⟨γ',h0⟩:=h;refine ⟨γ',zad ?_⟩;rotate_left
 cases h;refine ⟨gam [],zad ?_⟩;rotate_left
 cases h;refine ⟨gam [],zad ?_⟩;rotate_left
 cases h;refine ⟨gam [],zad ?_⟩;rotate_left
 cases h;refine ⟨gam [],zad ?_⟩;rotate_left
 all_goals (dsimp only [zgG] at *;show zaH IF_ _ _ ztt zEw _=_;generalize ztt=c0 at *;exact fin_)
def zqB (a:List Entry) (b:List Entry):Option (Bool):=
 bif Ops.std.ieq (xlen zag a) (xlen zag b) then
  (zld a b 0).bind fun r=>match r with
   | .inl ()=>
    some false
   | .inr ()=>
    some true
 else
  some false
theorem zDB {a b r} (h:zqB a b=some r):zqA a b=some r:=by
 unfold zqB at h
 refine zar ?_
 rcases zaa h with ⟨h1,h⟩ | ⟨h1,h⟩
 obtain ⟨r2,γ1,h2,h⟩:=zan h (gam [])
 rcases r2 with _ | _
 cases h;refine zab rfl ?_;rotate_left
 cases h;refine zab rfl ?_;rotate_left
 cases h;refine zab rfl ?_;rotate_left
 all_goals (dsimp only [R1,zgG] at *;show zat IF_ (g69F ztt) _ _=_;generalize ztt=c0 at *;exact fin_)
def zgL (γ:Nat → Nat):Unit ⊕ Unit → X × St
 | .inl ()=>(.ret,⟨bd 4 (vF false :: bd 21 []),[]⟩)
 | .inr ()=>(.brk 0,⟨bd 26 [],[]⟩)
instance:InjS zgL:=⟨fun γ γ' x y h=>by
 rcases x with _ | _ <;> rcases y with _ | _ <;> simp only [zgL] at h <;> exact inj_⟩
def zlf (a:List Finger) (b:List Finger) (i:Int):Option (Unit ⊕ Unit):=asks (fun γ=>(lim F pr).loop [0,1,5] 0 ztu ⟨.lit 84 false (List.map zaU a) :: .lit 84 false (List.map zaU b) :: bd 3 (vI i :: bd 20 []),[]⟩) zgL
def zi5 (a:List Finger) (b:List Finger) (i:Int):Option (Unit ⊕ Unit):=
 bif Ops.std.ilt i (xlen zaU a) then
  (xget zaU a i).bind fun x=>
  (xget zaU b i).bind fun x1=>
  bif Ops.std.ieq x.bit x1.bit then
   bif Ops.std.ieq x.peer.id x1.peer.id then
    bif Ops.std.ieq x.peer.addr x1.peer.addr then zlf a b (Ops.std.iadd .i64 i 1) else
    some (.inl ())
   else
    some (.inl ())
  else
   some (.inl ())
 else
  some (.inr ())
theorem zrc {a b i r} (h:zi5 a b i=some r):zlf a b i=some r:=by
 unfold zi5 at h
 refine zaq fun γ=>?_
 rcases zaa h with ⟨h1,h⟩ | ⟨h1,h⟩
 obtain ⟨x,h2,h⟩:=zac h
 obtain ⟨x1,h3,h⟩:=zac h
 rcases zaa h with ⟨h4,h⟩ | ⟨h4,h⟩
 rcases zaa h with ⟨h5,h⟩ | ⟨h5,h⟩
 rcases zaa h with ⟨h6,h⟩ | ⟨h6,h⟩
 replace h:=zai h (gam []);obtain ⟨γ',h0⟩:=h;refine ⟨γ',zad ?_⟩;rotate_left
 cases h;refine ⟨gam [],zad ?_⟩;rotate_left
 cases h;refine ⟨gam [],zad ?_⟩;rotate_left
 cases h;refine ⟨gam [],zad ?_⟩;rotate_left
 cases h;refine ⟨gam [],zad ?_⟩;rotate_left
 all_goals (dsimp only [zgL] at *;show zaH IF_ _ _ ztu zEx _=_;generalize ztu=c0 at *;exact fin_)
def zqD (a:List Finger) (b:List Finger):Option (Bool):=
 bif Ops.std.ieq (xlen zaU a) (xlen zaU b) then
  (zlf a b 0).bind fun r=>match r with
   | .inl ()=>
    some false
   | .inr ()=>
    some true
 else
  some false
theorem zDD {a b r} (h:zqD a b=some r):zuP a b=some r:=by
 unfold zqD at h
 refine zar ?_
 rcases zaa h with ⟨h1,h⟩ | ⟨h1,h⟩
 obtain ⟨r2,γ1,h2,h⟩:=zan h (gam [])
 rcases r2 with _ | _
 cases h;refine zab rfl ?_;rotate_left
 cases h;refine zab rfl ?_;rotate_left
 cases h;refine zab rfl ?_;rotate_left
 all_goals (dsimp only [R1,zgL] at *;show zat IF_ (g70F ztu) _ _=_;generalize ztu=c0 at *;exact fin_)
def zfy (γ:Nat → Nat):Unit ⊕ Unit → X × St
 | .inl ()=>(.ret,⟨bd 4 (vF false :: bd 21 []),[]⟩)
 | .inr ()=>(.brk 0,⟨bd 26 [],[]⟩)
instance:InjS zfy:=⟨fun γ γ' x y h=>by
 rcases x with _ | _ <;> rcases y with _ | _ <;> simp only [zfy] at h <;> exact inj_⟩
def zjZ (a:List Pair) (b:List Pair) (i:Int):Option (Unit ⊕ Unit):=asks (fun γ=>(lim F pr).loop [0,1,5] 0 ztv ⟨.lit 78 false (List.map zae a) :: .lit 78 false (List.map zae b) :: bd 3 (vI i :: bd 20 []),[]⟩) zfy
def zfx (a:List Pair) (b:List Pair) (i:Int):Option (Unit ⊕ Unit):=
 bif Ops.std.ilt i (xlen zae a) then
  (xget zae a i).bind fun x=>
  (xget zae b i).bind fun x1=>
  bif Ops.std.seq x.key x1.key then
   bif Ops.std.seq x.val x1.val then zjZ a b (Ops.std.iadd .i64 i 1) else
   some (.inl ())
  else
   some (.inl ())
 else
  some (.inr ())
theorem zkK {a b i r} (h:zfx a b i=some r):zjZ a b i=some r:=by
 unfold zfx at h
 refine zaq fun γ=>?_
 rcases zaa h with ⟨h1,h⟩ | ⟨h1,h⟩
 obtain ⟨x,h2,h⟩:=zac h
 obtain ⟨x1,h3,h⟩:=zac h
 rcases zaa h with ⟨h4,h⟩ | ⟨h4,h⟩
 rcases zaa h with ⟨h5,h⟩ | ⟨h5,h⟩
 replace h:=zai h (gam []);obtain ⟨γ',h0⟩:=h;refine ⟨γ',zad ?_⟩;rotate_left
 cases h;refine ⟨gam [],zad ?_⟩;rotate_left
 cases h;refine ⟨gam [],zad ?_⟩;rotate_left
 cases h;refine ⟨gam [],zad ?_⟩;rotate_left
 all_goals (dsimp only [zfy] at *;show zaH IF_ _ _ ztv zEy _=_;generalize ztv=c0 at *;exact fin_)
def zod (a:List Pair) (b:List Pair):Option (Bool):=
 bif Ops.std.ieq (xlen zae a) (xlen zae b) then
  (zjZ a b 0).bind fun r=>match r with
   | .inl ()=>
    some false
   | .inr ()=>
    some true
 else
  some false
theorem zA4 {a b r} (h:zod a b=some r):znI a b=some r:=by
 unfold zod at h
 refine zar ?_
 rcases zaa h with ⟨h1,h⟩ | ⟨h1,h⟩
 obtain ⟨r2,γ1,h2,h⟩:=zan h (gam [])
 rcases r2 with _ | _
 cases h;refine zab rfl ?_;rotate_left
 cases h;refine zab rfl ?_;rotate_left
 cases h;refine zab rfl ?_;rotate_left
 all_goals (dsimp only [R1,zfy] at *;show zat IF_ (g71F ztv) _ _=_;generalize ztv=c0 at *;exact fin_)
def zfL (γ:Nat → Nat):Unit ⊕ Unit → X × St
 | .inl ()=>(.ret,⟨bd 4 (vF false :: bd 21 []),[]⟩)
 | .inr ()=>(.brk 0,⟨bd 26 [],[]⟩)
instance:InjS zfL:=⟨fun γ γ' x y h=>by
 rcases x with _ | _ <;> rcases y with _ | _ <;> simp only [zfL] at h <;> exact inj_⟩
def zj8 (a:List Pend) (b:List Pend) (i:Int):Option (Unit ⊕ Unit):=asks (fun γ=>(lim F pr).loop [0,1,5] 0 ztw ⟨.lit 88 false (List.map zbe a) :: .lit 88 false (List.map zbe b) :: bd 3 (vI i :: bd 20 []),[]⟩) zfL
def zip (a:List Pend) (b:List Pend) (i:Int):Option (Unit ⊕ Unit):=
 bif Ops.std.ilt i (xlen zbe a) then
  (xget zbe a i).bind fun x=>
  (xget zbe b i).bind fun x1=>
  bif Ops.std.ieq x.rid x1.rid then
   bif Ops.std.ieq x.kind x1.kind then
    bif Ops.std.ieq x.why x1.why then
     bif Ops.std.ieq x.job x1.job then
      bif Ops.std.ieq x.to_.id x1.to_.id then
       bif Ops.std.ieq x.to_.addr x1.to_.addr then
        bif Ops.std.ieq x.due x1.due then zj8 a b (Ops.std.iadd .i64 i 1) else
        some (.inl ())
       else
        some (.inl ())
      else
       some (.inl ())
     else
      some (.inl ())
    else
     some (.inl ())
   else
    some (.inl ())
  else
   some (.inl ())
 else
  some (.inr ())
theorem zpl {a b i r} (h:zip a b i=some r):zj8 a b i=some r:=by
 unfold zip at h
 refine zaq fun γ=>?_
 rcases zaa h with ⟨h1,h⟩ | ⟨h1,h⟩
 obtain ⟨x,h2,h⟩:=zac h
 obtain ⟨x1,h3,h⟩:=zac h
 rcases zaa h with ⟨h4,h⟩ | ⟨h4,h⟩
 rcases zaa h with ⟨h5,h⟩ | ⟨h5,h⟩
 rcases zaa h with ⟨h6,h⟩ | ⟨h6,h⟩
 rcases zaa h with ⟨h7,h⟩ | ⟨h7,h⟩
 rcases zaa h with ⟨h8,h⟩ | ⟨h8,h⟩
 rcases zaa h with ⟨h9,h⟩ | ⟨h9,h⟩
 rcases zaa h with ⟨h10,h⟩ | ⟨h10,h⟩
 replace h:=zai h (gam []);obtain ⟨γ',h0⟩:=h;refine ⟨γ',zad ?_⟩;rotate_left
 cases h;refine ⟨gam [],zad ?_⟩;rotate_left
 cases h;refine ⟨gam [],zad ?_⟩;rotate_left
 cases h;refine ⟨gam [],zad ?_⟩;rotate_left
 cases h;refine ⟨gam [],zad ?_⟩;rotate_left
 cases h;refine ⟨gam [],zad ?_⟩;rotate_left
 cases h;refine ⟨gam [],zad ?_⟩;rotate_left
 cases h;refine ⟨gam [],zad ?_⟩;rotate_left
 cases h;refine ⟨gam [],zad ?_⟩;rotate_left
 all_goals (dsimp only [zfL] at *;show zaH IF_ _ _ ztw zEz _=_;generalize ztw=c0 at *;exact fin_)
def zol (a:List Pend) (b:List Pend):Option (Bool):=
 bif Ops.std.ieq (xlen zbe a) (xlen zbe b) then
  (zj8 a b 0).bind fun r=>match r with
   | .inl ()=>
    some false
   | .inr ()=>
    some true
 else
  some false
theorem zBg {a b r} (h:zol a b=some r):zsK a b=some r:=by
 unfold zol at h
 refine zar ?_
 rcases zaa h with ⟨h1,h⟩ | ⟨h1,h⟩
 obtain ⟨r2,γ1,h2,h⟩:=zan h (gam [])
 rcases r2 with _ | _
 cases h;refine zab rfl ?_;rotate_left
 cases h;refine zab rfl ?_;rotate_left
 cases h;refine zab rfl ?_;rotate_left
 all_goals (dsimp only [R1,zfL] at *;show zat IF_ (g72F ztw) _ _=_;generalize ztw=c0 at *;exact fin_)
def zgR (a:Node) (b:Node) (γ:Nat → Nat):Bool → X × St
 | a0=>(.ret,⟨bd 4 (vF a0 :: bd 54 []),[.box 34 (zau a),.box 34 (zau b)]⟩)
instance {a b}:InjS (zgR a b):=⟨fun γ γ' x y h=>by
 rcases x with a0 <;> rcases y with a0' <;> simp only [zgR] at h <;> exact inj_⟩
def zt9 (a:Node) (b:Node):Option (Bool):=asks (fun γ=>(lim F pr).seg [4] zyA ⟨bd 2 (.bptr 0 0 :: .bptr 1 0 :: bd 55 []),[.box 34 (zau a),.box 34 (zau b)]⟩) (zgR a b)
def zgP (a:Node) (b:Node) (γ:Nat → Nat):Unit ⊕ Unit → X × St
 | .inl ()=>(.ret,⟨bd 4 (vF false :: bd 54 []),[.box 34 (zau a),.box 34 (zau b)]⟩)
 | .inr ()=>(.brk 0,⟨bd 2 (.bptr 0 0 :: .bptr 1 0 :: bd 55 []),[.box 34 (zau a),.box 34 (zau b)]⟩)
instance {a b}:InjS (zgP a b):=⟨fun γ γ' x y h=>by
 rcases x with _ | _ <;> rcases y with _ | _ <;> simp only [zgP] at h <;> exact inj_⟩
def zlh (a:Node) (b:Node) (i:Int):Option (Unit ⊕ Unit):=asks (fun γ=>(lim F pr).loop [5,2,3] 2 ztx ⟨bd 2 (.bptr 0 0 :: .bptr 1 0 :: bd 1 (vI i :: bd 53 [])),[.box 34 (zau a),.box 34 (zau b)]⟩) (zgP a b)
def zgQ (a:Node) (b:Node) (γ:Nat → Nat):Unit ⊕ Unit → X × St
 | .inl ()=>(.ret,⟨bd 4 (vF false :: bd 54 []),[.box 34 (zau a),.box 34 (zau b)]⟩)
 | .inr ()=>(.brk 2,⟨bd 59 [],[.box 34 (zau a),.box 34 (zau b)]⟩)
instance {a b}:InjS (zgQ a b):=⟨fun γ γ' x y h=>by
 rcases x with _ | _ <;> rcases y with _ | _ <;> simp only [zgQ] at h <;> exact inj_⟩
def zli (a:Node) (b:Node) (i:Int):Option (Unit ⊕ Unit):=asks (fun γ=>(lim F pr).loop [2,3,6] 2 zty ⟨bd 2 (.bptr 0 0 :: .bptr 1 0 :: bd 2 (vI i :: bd 52 [])),[.box 34 (zau a),.box 34 (zau b)]⟩) (zgQ a b)
def zl0 (a:Node) (b:Node):Option (Bool):=
 (zlh a b 0).bind fun r=>match r with
  | .inl ()=>
   some false
  | .inr ()=>
   (zli a b 0).bind fun r=>match r with
    | .inl ()=>
     some false
    | .inr ()=>
     some true
theorem zx1 {a b r} (h:zl0 a b=some r):zt9 a b=some r:=by
 unfold zl0 at h
 refine zaq fun γ=>?_
 obtain ⟨r1,γ1,h1,h⟩:=zan h (gam [])
 rcases r1 with _ | _
 cases h;refine ⟨gam [],zak ?_⟩;rotate_left
 obtain ⟨r2,γ2,h2,h⟩:=zan h (gam [])
 rcases r2 with _ | _
 cases h;refine ⟨gam [],zak ?_⟩;rotate_left
 cases h;refine ⟨gam [],zak ?_⟩;rotate_left
 all_goals (dsimp only [zgP,zgQ,zgR] at *;show Ifc.apart IF_ _ (zEC ztx zty) _=_;generalize ztx=c0,zty=c1 at *;exact fin_)
def zi7 (a:Node) (b:Node) (i:Int):Option (Unit ⊕ Unit):=
 bif Ops.std.ilt i (xlen eJob a.jobs) then
  (xget eJob a.jobs i).bind fun x=>
  (xget eJob b.jobs i).bind fun x1=>
  bif Ops.std.ieq x.id x1.id then
   bif Ops.std.ieq x.kind x1.kind then
    bif Ops.std.ieq x.bit x1.bit then
     bif Ops.std.seq x.key x1.key then
      bif Ops.std.seq x.val x1.val then
       bif Ops.std.ieq x.target x1.target then
        bif Ops.std.ieq x.via.id x1.via.id then
         bif Ops.std.ieq x.via.addr x1.via.addr then
          bif Ops.std.ieq x.at_.id x1.at_.id then
           bif Ops.std.ieq x.at_.addr x1.at_.addr then
            bif Ops.std.beq x.doing x1.doing then
             bif Ops.std.ieq x.hops x1.hops then
              bif Ops.std.ieq x.tries x1.tries then
               bif Ops.std.ieq x.due x1.due then zlh a b (Ops.std.iadd .i64 i 1) else
               some (.inl ())
              else
               some (.inl ())
             else
              some (.inl ())
            else
             some (.inl ())
           else
            some (.inl ())
          else
           some (.inl ())
         else
          some (.inl ())
        else
         some (.inl ())
       else
        some (.inl ())
      else
       some (.inl ())
     else
      some (.inl ())
    else
     some (.inl ())
   else
    some (.inl ())
  else
   some (.inl ())
 else
  some (.inr ())
theorem zrf {a b i r} (h:zi7 a b i=some r):zlh a b i=some r:=by
 unfold zi7 at h
 refine zaq fun γ=>?_
 rcases zaa h with ⟨h1,h⟩ | ⟨h1,h⟩
 obtain ⟨x,h2,h⟩:=zac h
 obtain ⟨x1,h3,h⟩:=zac h
 rcases zaa h with ⟨h4,h⟩ | ⟨h4,h⟩
 rcases zaa h with ⟨h5,h⟩ | ⟨h5,h⟩
 rcases zaa h with ⟨h6,h⟩ | ⟨h6,h⟩
 rcases zaa h with ⟨h7,h⟩ | ⟨h7,h⟩
 rcases zaa h with ⟨h8,h⟩ | ⟨h8,h⟩
 rcases zaa h with ⟨h9,h⟩ | ⟨h9,h⟩
 rcases zaa h with ⟨h10,h⟩ | ⟨h10,h⟩
 rcases zaa h with ⟨h11,h⟩ | ⟨h11,h⟩
 rcases zaa h with ⟨h12,h⟩ | ⟨h12,h⟩
 rcases zaa h with ⟨h13,h⟩ | ⟨h13,h⟩
 rcases zaa h with ⟨h14,h⟩ | ⟨h14,h⟩
 rcases zaa h with ⟨h15,h⟩ | ⟨h15,h⟩
 rcases zaa h with ⟨h16,h⟩ | ⟨h16,h⟩
 rcases zaa h with ⟨h17,h⟩ | ⟨h17,h⟩
 replace h:=zai h (gam []);obtain ⟨γ',h0⟩:=h;refine ⟨γ',zad ?_⟩;rotate_left
 cases h;refine ⟨gam [],zad ?_⟩;rotate_left
 cases h;refine ⟨gam [],zad ?_⟩;rotate_left
 cases h;refine ⟨gam [],zad ?_⟩;rotate_left
 cases h;refine ⟨gam [],zad ?_⟩;rotate_left
 cases h;refine ⟨gam [],zad ?_⟩;rotate_left
 cases h;refine ⟨gam [],zad ?_⟩;rotate_left
 cases h;refine ⟨gam [],zad ?_⟩;rotate_left
 cases h;refine ⟨gam [],zad ?_⟩;rotate_left
 cases h;refine ⟨gam [],zad ?_⟩;rotate_left
 cases h;refine ⟨gam [],zad ?_⟩;rotate_left
 cases h;refine ⟨gam [],zad ?_⟩;rotate_left
 cases h;refine ⟨gam [],zad ?_⟩;rotate_left
 cases h;refine ⟨gam [],zad ?_⟩;rotate_left
 cases h;refine ⟨gam [],zad ?_⟩;rotate_left
 cases h;refine ⟨gam [],zad ?_⟩;rotate_left
 all_goals (dsimp only [zgP] at *;show zaH IF_ _ _ ztx zEA _=_;generalize ztx=c0 at *;exact fin_)
def zi8 (a:Node) (b:Node) (i:Int):Option (Unit ⊕ Unit):=
 bif Ops.std.ilt i (xlen za7 a.results) then
  (xget za7 a.results i).bind fun x=>
  (xget za7 b.results i).bind fun x1=>
  bif Ops.std.ieq x.job x1.job then
   bif Ops.std.ieq x.kind x1.kind then
    bif Ops.std.seq x.key x1.key then
     bif Ops.std.seq x.val x1.val then
      bif Ops.std.beq x.has x1.has then
       bif Ops.std.ieq x.err x1.err then zli a b (Ops.std.iadd .i64 i 1) else
       some (.inl ())
      else
       some (.inl ())
     else
      some (.inl ())
    else
     some (.inl ())
   else
    some (.inl ())
  else
   some (.inl ())
 else
  some (.inr ())
theorem zrg {a b i r} (h:zi8 a b i=some r):zli a b i=some r:=by
 unfold zi8 at h
 refine zaq fun γ=>?_
 rcases zaa h with ⟨h1,h⟩ | ⟨h1,h⟩
 obtain ⟨x,h2,h⟩:=zac h
 obtain ⟨x1,h3,h⟩:=zac h
 rcases zaa h with ⟨h4,h⟩ | ⟨h4,h⟩
 rcases zaa h with ⟨h5,h⟩ | ⟨h5,h⟩
 rcases zaa h with ⟨h6,h⟩ | ⟨h6,h⟩
 rcases zaa h with ⟨h7,h⟩ | ⟨h7,h⟩
 rcases zaa h with ⟨h8,h⟩ | ⟨h8,h⟩
 rcases zaa h with ⟨h9,h⟩ | ⟨h9,h⟩
 replace h:=zai h (gam []);obtain ⟨γ',h0⟩:=h;refine ⟨γ',zad ?_⟩;rotate_left
 cases h;refine ⟨gam [],zad ?_⟩;rotate_left
 cases h;refine ⟨gam [],zad ?_⟩;rotate_left
 cases h;refine ⟨gam [],zad ?_⟩;rotate_left
 cases h;refine ⟨gam [],zad ?_⟩;rotate_left
 cases h;refine ⟨gam [],zad ?_⟩;rotate_left
 cases h;refine ⟨gam [],zad ?_⟩;rotate_left
 cases h;refine ⟨gam [],zad ?_⟩;rotate_left
 all_goals (dsimp only [zgQ] at *;show zaH IF_ _ _ zty zEB _=_;generalize zty=c0 at *;exact fin_)
def zqI (a:Node) (b:Node):Option (Bool):=
 bif Ops.std.ieq (xlen eJob a.jobs) (xlen eJob b.jobs) then
  bif Ops.std.ieq (xlen za7 a.results) (xlen za7 b.results) then zt9 a b else
  some false
 else
  some false
theorem zDH {a b r} (h:zqI a b=some r):zuR a b=some r:=by
 unfold zqI at h
 refine zar ?_
 rcases zaa h with ⟨h1,h⟩ | ⟨h1,h⟩
 rcases zaa h with ⟨h2,h⟩ | ⟨h2,h⟩
 obtain ⟨γ1,h3⟩:=zai h (gam [])
 rcases r with t4
 refine zab rfl ?_;rotate_left
 cases h;refine zab rfl ?_;rotate_left
 cases h;refine zab rfl ?_;rotate_left
 all_goals (dsimp only [R1,zgR] at *;show zat IF_ (g73F zyA) _ _=_;generalize zyA=c0 at *;exact fin_)
def zqv (a:Msg) (b:Msg):Option (Bool):=
 bif Ops.std.ieq a.kind b.kind then
  bif Ops.std.ieq a.rid b.rid then
   bif Ops.std.ieq a.code b.code then
    bif Ops.std.beq a.has b.has then
     bif Ops.std.ieq a.id b.id then
      bif Ops.std.seq a.key b.key then
       bif Ops.std.seq a.val b.val then
        bif Ops.std.ieq a.peer.id b.peer.id then
         bif Ops.std.ieq a.peer.addr b.peer.addr then
          (znJ a.peers b.peers).bind fun res=>
          bif res then znI a.pairs b.pairs else
          some false
         else
          some false
        else
         some false
       else
        some false
      else
       some false
     else
      some false
    else
     some false
   else
    some false
  else
   some false
 else
  some false
theorem zDx {a b r} (h:zqv a b=some r):zqu a b=some r:=by
 unfold zqv at h
 refine zar ?_
 rcases zaa h with ⟨h1,h⟩ | ⟨h1,h⟩
 rcases zaa h with ⟨h2,h⟩ | ⟨h2,h⟩
 rcases zaa h with ⟨h3,h⟩ | ⟨h3,h⟩
 rcases zaa h with ⟨h4,h⟩ | ⟨h4,h⟩
 rcases zaa h with ⟨h5,h⟩ | ⟨h5,h⟩
 rcases zaa h with ⟨h6,h⟩ | ⟨h6,h⟩
 rcases zaa h with ⟨h7,h⟩ | ⟨h7,h⟩
 rcases zaa h with ⟨h8,h⟩ | ⟨h8,h⟩
 rcases zaa h with ⟨h9,h⟩ | ⟨h9,h⟩
 obtain ⟨res,h10,h⟩:=zac h
 rcases zaa h with ⟨h11,h⟩ | ⟨h11,h⟩
 have h12:=ask_some h
 rcases r with res1
 refine zab rfl ?_;rotate_left
 cases h;refine zab rfl ?_;rotate_left
 cases h;refine zab rfl ?_;rotate_left
 cases h;refine zab rfl ?_;rotate_left
 cases h;refine zab rfl ?_;rotate_left
 cases h;refine zab rfl ?_;rotate_left
 cases h;refine zab rfl ?_;rotate_left
 cases h;refine zab rfl ?_;rotate_left
 cases h;refine zab rfl ?_;rotate_left
 cases h;refine zab rfl ?_;rotate_left
 cases h;refine zab rfl ?_;rotate_left
 all_goals (dsimp only [R1] at *;show zat IF_ g74F _ _=_;exact fin_)
def zm2 (l:List Entry):Option ((List Peer)):=
 zsk l
theorem zzD {l r} (h:zm2 l=some r):zjX l=some r:=by
 unfold zm2 at h
 refine zar ?_
 have h1:=ask_some h
 rcases r with res
 refine zab rfl ?_;rotate_left
 all_goals (dsimp only [K1] at *;show zat IF_ g76F _ _=_;exact fin_)
def zhS (l:List Pair) (key:ByteArray) (val:ByteArray) (γ:Nat → Nat):Int → X × St
 | a0=>(.brk 0,⟨.lit 78 false (List.map zae l) :: vT key :: vT val :: bd 5 (vI a0 :: bd 60 []),[.row 78 (γ 0) false (List.map zae [])]⟩)
instance {l key val}:InjS (zhS l key val):=⟨fun γ γ' x y h=>by
 rcases x with a0 <;> rcases y with a0' <;> simp only [zhS] at h <;> exact inj_⟩
def zj5 (l:List Pair) (key:ByteArray) (val:ByteArray) (at_:Int):Option (Int):=asks (fun γ=>(lim F pr).loop [1,2,0,8] 1 ztz ⟨.lit 78 false (List.map zae l) :: vT key :: vT val :: bd 5 (vI at_ :: bd 60 []),[.row 78 (γ 0) false (List.map zae [])]⟩) (zhS l key val)
def zj6 (l:List Pair) (key:ByteArray) (val:ByteArray) (at_:Int):Option (Int):=
 bif Ops.std.ilt at_ (xlen zae l) then
  (xget zae l at_).bind fun x=>
  (zqw key x.key).bind fun res=>
  bif res then some at_ else
  zj5 l key val (Ops.std.iadd .i64 at_ 1)
 else
  some at_
theorem zsH {l key val at_ r} (h:zj6 l key val at_=some r):zj5 l key val at_=some r:=by
 unfold zj6 at h
 refine zaq fun γ=>?_
 rcases zaa h with ⟨h1,h⟩ | ⟨h1,h⟩
 obtain ⟨x,h2,h⟩:=zac h
 obtain ⟨res,h3,h⟩:=zac h
 rcases zaa h with ⟨h4,h⟩ | ⟨h4,h⟩
 cases h;refine ⟨gam [(γ 0)],zad ?_⟩;rotate_left
 replace h:=zai h (gam [(γ 0)]);obtain ⟨γ',h0⟩:=h;refine ⟨γ',zad ?_⟩;rotate_left
 cases h;refine ⟨gam [(γ 0)],zad ?_⟩;rotate_left
 all_goals (dsimp only [R1,zhS] at *;show zaH IF_ _ _ ztz zEE _=_;generalize ztz=c0 at *;exact fin_)
def zsG (l:List Pair) (key:ByteArray) (val:ByteArray):Option (((List Pair) × Int)):=
 (zmB key).bind fun res=>
 bif res then
  bif Ops.std.ilt 512 (Ops.std.slen val) then some (l,5) else
  (zlD l key).bind fun res1=>
  bif Ops.std.ile 0 res1 then
   bif zaN zae 32 [] l then
    (xget zae l res1).bind fun x=>
    some (xset l res1 (⟨x.key,val⟩:Pair),0)
   else
    none
  else
   bif Ops.std.ilt 63 (xlen zae l) then some (l,10) else
   (zj5 l key val 0).bind fun at_=>
   (xsub zae l 0 at_).bind fun ys=>
   bif zaN zae 32 [] ys then
    bif zaN zae 32 ys [(⟨key,val⟩:Pair)] then
     (xsub zae l at_ (xlen zae l)).bind fun ys1=>
     bif zaN zae 32 (ys ++ [(⟨key,val⟩:Pair)]) ys1 then some (((ys ++ [(⟨key,val⟩:Pair)]) ++ ys1),0) else
     none
    else
     none
   else
    none
 else
  some (l,7)
theorem zFH {l key val r} (h:zsG l key val=some r):zpj l key val=some r:=by
 unfold zsG at h
 refine zar ?_
 obtain ⟨res,h1,h⟩:=zac h
 rcases zaa h with ⟨h2,h⟩ | ⟨h2,h⟩
 rcases zaa h with ⟨h3,h⟩ | ⟨h3,h⟩
 cases h;refine zab rfl ?_;rotate_left
 obtain ⟨res1,h4,h⟩:=zac h
 rcases zaa h with ⟨h5,h⟩ | ⟨h5,h⟩
 obtain ⟨h6,h⟩:=zaw h
 obtain ⟨x,h7,h⟩:=zac h
 cases h;refine zab rfl ?_;rotate_left
 rcases zaa h with ⟨h6,h⟩ | ⟨h6,h⟩
 cases h;refine zab rfl ?_;rotate_left
 obtain ⟨at_,γ3,h7,h⟩:=zan h (gam [0])
 obtain ⟨ys,h8,h⟩:=zac h
 obtain ⟨h9,h⟩:=zaw h
 obtain ⟨h10,h⟩:=zaw h
 obtain ⟨ys1,h11,h⟩:=zac h
 obtain ⟨h12,h⟩:=zaw h
 cases h;refine zab rfl ?_;rotate_left
 cases h;refine zab rfl ?_;rotate_left
 all_goals (dsimp only [R1,R2,zhS] at *;show zat IF_ (g77F ztz) _ _=_;generalize ztz=c0 at *;exact fin_)
def zgE (γ:Nat → Nat):(List Peer) → X × St
 | a0=>(.brk 0,⟨bd 3 (.sl 1 ((γ 1)) :: bd 22 []),[.row 25 (γ 0) false (List.map zaf []),.row 25 (γ 1) false (List.map zaf a0)]⟩)
instance:InjS zgE:=⟨fun γ γ' x y h=>by
 rcases x with a0 <;> rcases y with a0' <;> simp only [zgE] at h <;> exact inj_⟩
def ziJ (l:List Entry) (i:Int) (r1:List Peer):Option ((List Peer)):=asks (fun γ=>(lim F pr).loop [0,4,3] 2 ztA ⟨.lit 81 false (List.map zag l) :: bd 2 (.sl 1 ((γ 1)) :: vI i :: bd 21 []),[.row 25 (γ 0) false (List.map zaf []),.row 25 (γ 1) false (List.map zaf r1)]⟩) zgE
def zgD (l:List Entry) (i:Int) (r1:List Peer):Option ((List Peer)):=
 bif Ops.std.ilt i (xlen zag l) then
  (xget zag l i).bind fun x=>
  bif Ops.std.ilt x.misses 1 then
   bif zaN zaf 16 r1 [x.peer] then ziJ l (Ops.std.iadd .i64 i 1) (r1 ++ [x.peer]) else
   none
  else
   ziJ l (Ops.std.iadd .i64 i 1) r1
 else
  some r1
theorem zq8 {l i r1 r} (h:zgD l i r1=some r):ziJ l i r1=some r:=by
 unfold zgD at h
 refine zaq fun γ=>?_
 rcases zaa h with ⟨h1,h⟩ | ⟨h1,h⟩
 obtain ⟨x,h2,h⟩:=zac h
 rcases zaa h with ⟨h3,h⟩ | ⟨h3,h⟩
 obtain ⟨h4,h⟩:=zaw h
 replace h:=zai h (gam [(γ 0),((γ 1) + 1)]);obtain ⟨γ',h0⟩:=h;refine ⟨γ',zad ?_⟩;rotate_left
 replace h:=zai h (gam [(γ 0),(γ 1)]);obtain ⟨γ',h0⟩:=h;refine ⟨γ',zad ?_⟩;rotate_left
 cases h;refine ⟨gam [(γ 0),(γ 1)],zad ?_⟩;rotate_left
 all_goals (dsimp only [zgE] at *;show zaH IF_ _ _ ztA zEF _=_;generalize ztA=c0 at *;exact fin_)
def zqz (l:List Entry):Option ((List Peer)):=
 ziJ l 0 []
theorem zDA {l r} (h:zqz l=some r):zm6 l=some r:=by
 unfold zqz at h
 refine zar ?_
 obtain ⟨γ1,h1⟩:=zai h (gam [0,0])
 rcases r with r1
 refine zab rfl ?_;rotate_left
 all_goals (dsimp only [K1,zgE] at *;show zat IF_ (g78F ztA) _ _=_;generalize ztA=c0 at *;exact fin_)
def zqk (n:Node) (to_:Peer) (m:Msg) (why:Int) (job:Int):Option ((Node × (List Out))):=
 (zhC n).bind fun ⟨zba,zaX,za8,za4,za6,za3,zaP,zaZ,zaV,za5,zaQ,zbj,za9,zaY⟩=>
 bif Ops.std.ile 64 (xlen zbe zaV) then
  some ((⟨(⟨zba,zaX⟩:Peer),za8,za4,za6,za3,zaP,zaZ,zaV,za5,zaQ,zbj,za9,zaY⟩:Node),[])
 else
  (zuA m).bind fun res=>
  (zuH (⟨(⟨zba,zaX⟩:Peer),za8,za4,za6,za3,zaP,zaZ,zaV,za5,zaQ,Ops.std.iadd .u32 zbj 1,za9,zaY⟩:Node)).bind fun res1=>
  bif zaN zbe 56 zaV [(⟨Ops.std.iadd .u32 zbj 1,res.kind,why,job,to_,Ops.std.iadd .i64 res1 8⟩:Pend)] then
   some ((⟨(⟨zba,zaX⟩:Peer),za8,za4,za6,za3,zaP,zaZ,(zaV ++ [(⟨Ops.std.iadd .u32 zbj 1,res.kind,why,job,to_,Ops.std.iadd .i64 res1 8⟩:Pend)]),za5,zaQ,Ops.std.iadd .u32 zbj 1,za9,zaY⟩:Node),[(⟨to_,(⟨res.kind,Ops.std.iadd .u32 zbj 1,res.code,res.has,res.id,res.key,res.val,res.peer,res.peers,res.pairs⟩:Msg)⟩:Out)])
  else
   none
theorem zDk {n to_ m why job r} (h:zqk n to_ m why job=some r):zuG n to_ m why job=some r:=by
 unfold zqk at h
 refine zar ?_
 obtain ⟨r1,h1,h⟩:=zac h
 rcases r1 with ⟨zba,zaX,za8,za4,za6,za3,zaP,zaZ,zaV,za5,zaQ,zbj,za9,zaY⟩
 rcases zaa h with ⟨h2,h⟩ | ⟨h2,h⟩
 cases h;refine zab rfl ?_;rotate_left
 obtain ⟨res,h3,h⟩:=zac h
 obtain ⟨res1,h4,h⟩:=zac h
 obtain ⟨h5,h⟩:=zaw h
 cases h;refine zab rfl ?_;rotate_left
 all_goals (dsimp only [R1,R2,zc9] at *;show zat IF_ g80F _ _=_;exact fin_)
def zsI (n:Node) (to_:Peer) (m:Msg) (why:Int) (job:Int):Option ((Node × (List Out))):=
 bif Ops.std.ilt 63 (xlen zbe n.pends) then some (n,[]) else
 bif zaN zbe 56 [] n.pends then
  (zwO (⟨n.me,n.clock,n.joined,n.pred,n.list,n.fingers,n.store,n.pends,n.jobs,n.results,Ops.std.iadd .u32 n.rid 1,n.jobID,n.nextBit⟩:Node)).bind fun res=>
  bif zaN zbe 56 n.pends [(⟨Ops.std.iadd .u32 n.rid 1,m.kind,why,job,to_,Ops.std.iadd .i64 res 8⟩:Pend)] then
   some ((⟨n.me,n.clock,n.joined,n.pred,n.list,n.fingers,n.store,(n.pends ++ [(⟨Ops.std.iadd .u32 n.rid 1,m.kind,why,job,to_,Ops.std.iadd .i64 res 8⟩:Pend)]),n.jobs,n.results,Ops.std.iadd .u32 n.rid 1,n.jobID,n.nextBit⟩:Node),[(⟨to_,(⟨m.kind,Ops.std.iadd .u32 n.rid 1,m.code,m.has,m.id,m.key,m.val,m.peer,m.peers,m.pairs⟩:Msg)⟩:Out)])
  else
   none
 else
  none
theorem zFI {n to_ m why job r} (h:zsI n to_ m why job=some r):zwN n to_ m why job=some r:=by
 unfold zsI at h
 refine zar ?_
 rcases zaa h with ⟨h1,h⟩ | ⟨h1,h⟩
 cases h;refine zab rfl ?_;rotate_left
 obtain ⟨h2,h⟩:=zaw h
 obtain ⟨res,h3,h⟩:=zac h
 obtain ⟨h4,h⟩:=zaw h
 cases h;refine zab rfl ?_;rotate_left
 all_goals (dsimp only [R1,R2] at *;show zat IF_ g82F _ _=_;exact fin_)
def zfU (s:ByteArray) (γ:Nat → Nat):Int ⊕ Int → X × St
 | .inl a0=>(.ret,⟨bd 2 (vF false :: bd 12 []),[.it s a0]⟩)
 | .inr b0=>(.brk 0,⟨bd 15 [],[.it s b0]⟩)
instance {s}:InjS (zfU s):=⟨fun γ γ' x y h=>by
 rcases x with a0 | b0 <;> rcases y with a0' | b0' <;> simp only [zfU] at h <;> exact inj_⟩
def zh6 (s:ByteArray) (at0:Int):Option (Int ⊕ Int):=asks (fun γ=>(lim F pr).loop [6,0] 1 ztB ⟨vT s :: bd 5 (.bptr 0 0 :: bd 8 []),[.it s at0]⟩) (zfU s)
def zfT (s:ByteArray) (at0:Int):Option (Int ⊕ Int):=
 xopt (zqX s at0) (fun ⟨c,nx⟩=>
  (zs1 s at0 c).bind fun res=>
  bif res then some (.inl nx) else
  zh6 s nx)
  (some (.inr at0))
theorem zkV {s at0 r} (h:zfT s at0=some r):zh6 s at0=some r:=by
 unfold zfT at h
 refine zaq fun γ=>?_
 rcases zs8 h with ⟨⟨c,nx⟩,h1,h⟩ | ⟨h1,h⟩
 obtain ⟨res,h2,h⟩:=zac h
 rcases zaa h with ⟨h3,h⟩ | ⟨h3,h⟩
 cases h;refine ⟨gam [],zad ?_⟩;rotate_left
 replace h:=zai h (gam []);obtain ⟨γ',h0⟩:=h;refine ⟨γ',zad ?_⟩;rotate_left
 cases h;refine ⟨gam [],zad ?_⟩;rotate_left
 all_goals (dsimp only [R1,zfU] at *;show zaH IF_ _ _ ztB zEG _=_;generalize ztB=c0 at *;exact fin_)
def zoB (s:ByteArray):Option (Bool):=
 (zh6 s 0).bind fun r=>match r with
  | .inl at0=>
   some false
  | .inr at0=>
   some true
theorem zBw {s r} (h:zoB s=some r):zs0 s=some r:=by
 unfold zoB at h
 refine zar ?_
 obtain ⟨r1,γ1,h1,h⟩:=zan h (gam [])
 rcases r1 with at0 | at0
 cases h;refine zab rfl ?_;rotate_left
 cases h;refine zab rfl ?_;rotate_left
 all_goals (dsimp only [R1,zfU] at *;show zat IF_ (g83F ztB) _ _=_;generalize ztB=c0 at *;exact fin_)
def zfS (s:ByteArray) (γ:Nat → Nat):(Int × Int) → X × St
 | (a0,a1)=>(.brk 0,⟨bd 3 (vI a0 :: bd 7 []),[.it s a1]⟩)
instance {s}:InjS (zfS s):=⟨fun γ γ' x y h=>by
 rcases x with ⟨a0,a1⟩ <;> rcases y with ⟨a0',a1'⟩ <;> simp only [zfS] at h <;> exact inj_⟩
def zh5 (s:ByteArray) (n:Int) (at0:Int):Option ((Int × Int)):=asks (fun γ=>(lim F pr).loop [5,3] 1 ztC ⟨bd 3 (vI n :: bd 1 (.bptr 0 0 :: bd 5 [])),[.it s at0]⟩) (zfS s)
def zit (s:ByteArray) (n:Int) (at0:Int):Option ((Int × Int)):=
 xopt (zqX s at0) (fun ⟨c,nx⟩=>
  zh5 s (Ops.std.iadd .i64 n 1) nx)
  (some (n,at0))
theorem zpu {s n at0 r} (h:zit s n at0=some r):zh5 s n at0=some r:=by
 unfold zit at h
 refine zaq fun γ=>?_
 rcases zs8 h with ⟨⟨c,nx⟩,h1,h⟩ | ⟨h1,h⟩
 replace h:=zai h (gam []);obtain ⟨γ',h0⟩:=h;refine ⟨γ',zad ?_⟩;rotate_left
 cases h;refine ⟨gam [],zad ?_⟩;rotate_left
 all_goals (dsimp only [zfS] at *;show zaH IF_ _ _ ztC zEH _=_;generalize ztC=c0 at *;exact fin_)
def zoA (s:ByteArray):Option (Int):=
 (zh5 s 0 0).bind fun ⟨n,at0⟩=>
 some n
theorem zBv {s r} (h:zoA s=some r):zsZ s=some r:=by
 unfold zoA at h
 refine zar ?_
 obtain ⟨r1,γ1,h1,h⟩:=zan h (gam [])
 rcases r1 with ⟨n,at0⟩
 cases h;refine zab rfl ?_;rotate_left
 all_goals (dsimp only [R1,zfS] at *;show zat IF_ (g84F ztC) _ _=_;generalize ztC=c0 at *;exact fin_)
def zlO (l:List Entry) (addr:Int):Option (Int):=
 ziy l addr
theorem zxO {l addr r} (h:zlO l addr=some r):zk5 l addr=some r:=by
 unfold zlO at h
 refine zar ?_
 have h1:=ask_some h
 rcases r with res
 refine zab rfl ?_;rotate_left
 all_goals (dsimp only [zcL,R1] at *;show zat IF_ g98F _ _=_;exact fin_)
def zlN (me:Peer) (a:Peer) (b:Peer):Option (Bool):=
 (zhV me.id a.id).bind fun res=>
 (zhV me.id b.id).bind fun res1=>
 bif Ops.std.ilt res res1 then some true else
 bif Ops.std.ieq res res1 then some (Ops.std.ilt a.addr b.addr) else
 some false
theorem zxM {me a b r} (h:zlN me a b=some r):zk4 me a b=some r:=by
 unfold zlN at h
 refine zar ?_
 obtain ⟨res,h1,h⟩:=zac h
 obtain ⟨res1,h2,h⟩:=zac h
 rcases zaa h with ⟨h3,h⟩ | ⟨h3,h⟩
 cases h;refine zab rfl ?_;rotate_left
 rcases zaa h with ⟨h4,h⟩ | ⟨h4,h⟩
 cases h;refine zab rfl ?_;rotate_left
 cases h;refine zab rfl ?_;rotate_left
 all_goals (dsimp only [R1] at *;show zat IF_ g99F _ _=_;exact fin_)
def zmX (m:Msg):Option (Int):=
 (zsb m.kind).bind fun res=>
 bif Ops.std.ieq (Ops.std.ibit .and .i64 res.fields 256) 0 then some (Ops.std.ibit .andNot .i64 res.fields 256) else
 bif m.has then some (Ops.std.ibit .andNot .i64 res.fields 256) else
 some (Ops.std.ibit .andNot .i64 (Ops.std.ibit .andNot .i64 res.fields 72) 256)
theorem zzs {m r} (h:zmX m=some r):zmn m=some r:=by
 unfold zmX at h
 refine zar ?_
 obtain ⟨res,h1,h⟩:=zac h
 rcases zaa h with ⟨h2,h⟩ | ⟨h2,h⟩
 cases h;refine zab rfl ?_;rotate_left
 rcases zaa h with ⟨h3,h⟩ | ⟨h3,h⟩
 cases h;refine zab rfl ?_;rotate_left
 cases h;refine zab rfl ?_;rotate_left
 all_goals (dsimp only [R1] at *;show zat IF_ zHz _ _=_;(try dsimp only [zaf,zag,zaU,zae,zbe,eJob,za7,zbc,eMsg,eOut,zbw,zbm,zau,cMsg,capp] at *);(try simp only [List.map_cons,List.map_nil] at *);(try generalize m.has=q0 at *);exact fin_)
def zp9 (k:Int):Option (ByteArray):=
 (zsb k).bind fun res=>
 some res.name
theorem zDd {k r} (h:zp9 k=some r):zuB k=some r:=by
 unfold zp9 at h
 refine zar ?_
 obtain ⟨res,h1,h⟩:=zac h
 cases h;refine zab rfl ?_;rotate_left
 all_goals (dsimp only [R1] at *;show zat IF_ zHA _ _=_;exact fin_)
abbrev zlK:=(Int × Bool × Int × ByteArray × ByteArray × Int × Int × Int × Bool × Int × ByteArray × ByteArray × Int × Int) ⊕ ((Int × Bool × Int × ByteArray × ByteArray × Int × Int × Int × Bool × Int × ByteArray × ByteArray × Int × Int) ⊕ ((Int × Bool × Int × ByteArray × ByteArray × Int × Int × Int × Bool × Int × ByteArray × ByteArray × Int × Int) ⊕ (Int × Bool × Int × ByteArray × ByteArray × Int × Int × Int × Bool × Int × ByteArray × ByteArray × Int × Int)))
def zgs (m:Msg) (γ:Nat → Nat):zlK → X × St
 | .inl (a0,a1,a2,a3,a4,a5,a6,a7,a8,a9,a10,a11,a12,a13)=>(.ret,⟨bd 2 (.bptr 1 0 :: bd 60 []),[.box 37 [vI m.kind,vW m.rid,vB m.code,vF m.has,vU m.id,vT m.key,vT m.val,vU m.peer.id,vH m.peer.addr,.lit 25 false (List.map zaf m.peers),.lit 78 false (List.map zae m.pairs)],.box 37 ([vI m.kind,vW m.rid,vB a0,vF a1,vU a2,vT a3,vT a4,vU a5,vH a6,.lit 0 true [],.lit 0 true []]),.box 37 ([vI m.kind,vW m.rid,vB a7,vF a8,vU a9,vT a10,vT a11,vU a12,vH a13,.lit 0 true [],.lit 0 true []])]⟩)
 | .inr (.inl (b0,b1,b2,b3,b4,b5,b6,b7,b8,b9,b10,b11,b12,b13))=>(.ret,⟨bd 2 (.bptr 1 0 :: bd 60 []),[.box 37 [vI m.kind,vW m.rid,vB m.code,vF m.has,vU m.id,vT m.key,vT m.val,vU m.peer.id,vH m.peer.addr,.lit 25 false (List.map zaf m.peers),.lit 78 false (List.map zae m.pairs)],.box 37 ([vI m.kind,vW m.rid,vB b0,vF b1,vU b2,vT b3,vT b4,vU b5,vH b6,.lit 0 true [],.sl 3 ((γ 3))]),.box 37 ([vI m.kind,vW m.rid,vB b7,vF b8,vU b9,vT b10,vT b11,vU b12,vH b13,.lit 0 true [],.sl 3 ((γ 3))]),.row 78 (γ 3) false (List.map zae m.pairs)]⟩)
 | .inr (.inr (.inl (c0,c1,c2,c3,c4,c5,c6,c7,c8,c9,c10,c11,c12,c13)))=>(.ret,⟨bd 2 (.bptr 1 0 :: bd 60 []),[.box 37 [vI m.kind,vW m.rid,vB m.code,vF m.has,vU m.id,vT m.key,vT m.val,vU m.peer.id,vH m.peer.addr,.lit 25 false (List.map zaf m.peers),.lit 78 false (List.map zae m.pairs)],.box 37 ([vI m.kind,vW m.rid,vB c0,vF c1,vU c2,vT c3,vT c4,vU c5,vH c6,.sl 3 ((γ 3)),.lit 0 true []]),.box 37 ([vI m.kind,vW m.rid,vB c7,vF c8,vU c9,vT c10,vT c11,vU c12,vH c13,.sl 3 ((γ 3)),.lit 0 true []]),.row 25 (γ 3) false (List.map zaf m.peers)]⟩)
 | .inr (.inr (.inr (d0,d1,d2,d3,d4,d5,d6,d7,d8,d9,d10,d11,d12,d13)))=>(.ret,⟨bd 2 (.bptr 1 0 :: bd 60 []),[.box 37 [vI m.kind,vW m.rid,vB m.code,vF m.has,vU m.id,vT m.key,vT m.val,vU m.peer.id,vH m.peer.addr,.lit 25 false (List.map zaf m.peers),.lit 78 false (List.map zae m.pairs)],.box 37 [vI m.kind,vW m.rid,vB d0,vF d1,vU d2,vT d3,vT d4,vU d5,vH d6,.sl 3 ((γ 3)),.sl 4 ((γ 4))],.box 37 [vI m.kind,vW m.rid,vB d7,vF d8,vU d9,vT d10,vT d11,vU d12,vH d13,.sl 3 ((γ 3)),.sl 4 ((γ 4))],.row 25 (γ 3) false (List.map zaf m.peers),.row 78 (γ 4) false (List.map zae m.pairs)]⟩)
instance {m}:InjS (zgs m):=⟨fun γ γ' x y h=>by
 rcases x with ⟨a0,a1,a2,a3,a4,a5,a6,a7,a8,a9,a10,a11,a12,a13⟩ | ⟨b0,b1,b2,b3,b4,b5,b6,b7,b8,b9,b10,b11,b12,b13⟩ | ⟨c0,c1,c2,c3,c4,c5,c6,c7,c8,c9,c10,c11,c12,c13⟩ | ⟨d0,d1,d2,d3,d4,d5,d6,d7,d8,d9,d10,d11,d12,d13⟩ <;> rcases y with ⟨a0',a1',a2',a3',a4',a5',a6',a7',a8',a9',a10',a11',a12',a13'⟩ | ⟨b0',b1',b2',b3',b4',b5',b6',b7',b8',b9',b10',b11',b12',b13'⟩ | ⟨c0',c1',c2',c3',c4',c5',c6',c7',c8',c9',c10',c11',c12',c13'⟩ | ⟨d0',d1',d2',d3',d4',d5',d6',d7',d8',d9',d10',d11',d12',d13'⟩ <;> simp only [zgs] at h <;> exact inj_⟩
def zg4 (m:Msg) (f:Int) (zay:Int) (zaB:Bool):Option (zlK):=asks (fun γ=>(lim F pr).seg [2] zvc ⟨bd 1 (.bptr 0 0 :: .bptr 1 0 :: vI f :: .bptr 2 0 :: bd 58 []),[.box 37 [vI m.kind,vW m.rid,vB m.code,vF m.has,vU m.id,vT m.key,vT m.val,vU m.peer.id,vH m.peer.addr,.lit 25 false (List.map zaf m.peers),.lit 78 false (List.map zae m.pairs)],.box 37 ([vI 0,vW 0,vB 0,vF false,vU 0,vT ⟨#[]⟩,vT ⟨#[]⟩,vU 0,vH 0,.lit 0 true [],.lit 0 true []]),.box 37 ([vI m.kind,vW m.rid,vB zay,vF zaB,vU 0,vT ⟨#[]⟩,vT ⟨#[]⟩,vU 0,vH 0,.lit 0 true [],.lit 0 true []])]⟩) (zgs m)
abbrev zlJ:=(Int × Bool × Int × ByteArray × ByteArray × Int × Int × Int × Bool × Int × ByteArray × ByteArray × Int × Int) ⊕ ((Int × Bool × Int × ByteArray × ByteArray × Int × Int × Int × Bool × Int × ByteArray × ByteArray × Int × Int) ⊕ ((Int × Bool × Int × ByteArray × ByteArray × Int × Int × Int × Bool × Int × ByteArray × ByteArray × Int × Int) ⊕ (Int × Bool × Int × ByteArray × ByteArray × Int × Int × Int × Bool × Int × ByteArray × ByteArray × Int × Int)))
def zgq (m:Msg) (γ:Nat → Nat):zlJ → X × St
 | .inl (a0,a1,a2,a3,a4,a5,a6,a7,a8,a9,a10,a11,a12,a13)=>(.ret,⟨bd 2 (.bptr 1 0 :: bd 60 []),[.box 37 [vI m.kind,vW m.rid,vB m.code,vF m.has,vU m.id,vT m.key,vT m.val,vU m.peer.id,vH m.peer.addr,.lit 25 false (List.map zaf m.peers),.lit 78 false (List.map zae m.pairs)],.box 37 ([vI m.kind,vW m.rid,vB a0,vF a1,vU a2,vT a3,vT a4,vU a5,vH a6,.lit 0 true [],.lit 0 true []]),.box 37 ([vI m.kind,vW m.rid,vB a7,vF a8,vU a9,vT a10,vT a11,vU a12,vH a13,.lit 0 true [],.lit 0 true []])]⟩)
 | .inr (.inl (b0,b1,b2,b3,b4,b5,b6,b7,b8,b9,b10,b11,b12,b13))=>(.ret,⟨bd 2 (.bptr 1 0 :: bd 60 []),[.box 37 [vI m.kind,vW m.rid,vB m.code,vF m.has,vU m.id,vT m.key,vT m.val,vU m.peer.id,vH m.peer.addr,.lit 25 false (List.map zaf m.peers),.lit 78 false (List.map zae m.pairs)],.box 37 ([vI m.kind,vW m.rid,vB b0,vF b1,vU b2,vT b3,vT b4,vU b5,vH b6,.lit 0 true [],.sl 3 ((γ 3))]),.box 37 ([vI m.kind,vW m.rid,vB b7,vF b8,vU b9,vT b10,vT b11,vU b12,vH b13,.lit 0 true [],.sl 3 ((γ 3))]),.row 78 (γ 3) false (List.map zae m.pairs)]⟩)
 | .inr (.inr (.inl (c0,c1,c2,c3,c4,c5,c6,c7,c8,c9,c10,c11,c12,c13)))=>(.ret,⟨bd 2 (.bptr 1 0 :: bd 60 []),[.box 37 [vI m.kind,vW m.rid,vB m.code,vF m.has,vU m.id,vT m.key,vT m.val,vU m.peer.id,vH m.peer.addr,.lit 25 false (List.map zaf m.peers),.lit 78 false (List.map zae m.pairs)],.box 37 ([vI m.kind,vW m.rid,vB c0,vF c1,vU c2,vT c3,vT c4,vU c5,vH c6,.sl 3 ((γ 3)),.lit 0 true []]),.box 37 ([vI m.kind,vW m.rid,vB c7,vF c8,vU c9,vT c10,vT c11,vU c12,vH c13,.sl 3 ((γ 3)),.lit 0 true []]),.row 25 (γ 3) false (List.map zaf m.peers)]⟩)
 | .inr (.inr (.inr (d0,d1,d2,d3,d4,d5,d6,d7,d8,d9,d10,d11,d12,d13)))=>(.ret,⟨bd 2 (.bptr 1 0 :: bd 60 []),[.box 37 [vI m.kind,vW m.rid,vB m.code,vF m.has,vU m.id,vT m.key,vT m.val,vU m.peer.id,vH m.peer.addr,.lit 25 false (List.map zaf m.peers),.lit 78 false (List.map zae m.pairs)],.box 37 [vI m.kind,vW m.rid,vB d0,vF d1,vU d2,vT d3,vT d4,vU d5,vH d6,.sl 3 ((γ 3)),.sl 4 ((γ 4))],.box 37 [vI m.kind,vW m.rid,vB d7,vF d8,vU d9,vT d10,vT d11,vU d12,vH d13,.sl 3 ((γ 3)),.sl 4 ((γ 4))],.row 25 (γ 3) false (List.map zaf m.peers),.row 78 (γ 4) false (List.map zae m.pairs)]⟩)
instance {m}:InjS (zgq m):=⟨fun γ γ' x y h=>by
 rcases x with ⟨a0,a1,a2,a3,a4,a5,a6,a7,a8,a9,a10,a11,a12,a13⟩ | ⟨b0,b1,b2,b3,b4,b5,b6,b7,b8,b9,b10,b11,b12,b13⟩ | ⟨c0,c1,c2,c3,c4,c5,c6,c7,c8,c9,c10,c11,c12,c13⟩ | ⟨d0,d1,d2,d3,d4,d5,d6,d7,d8,d9,d10,d11,d12,d13⟩ <;> rcases y with ⟨a0',a1',a2',a3',a4',a5',a6',a7',a8',a9',a10',a11',a12',a13'⟩ | ⟨b0',b1',b2',b3',b4',b5',b6',b7',b8',b9',b10',b11',b12',b13'⟩ | ⟨c0',c1',c2',c3',c4',c5',c6',c7',c8',c9',c10',c11',c12',c13'⟩ | ⟨d0',d1',d2',d3',d4',d5',d6',d7',d8',d9',d10',d11',d12',d13'⟩ <;> simp only [zgq] at h <;> exact inj_⟩
def zg3 (m:Msg) (f:Int) (zay:Int) (zaB:Bool) (zaL:Int) (zap:Int) (zam:Int):Option (zlJ):=asks (fun γ=>(lim F pr).seg [2] zvb ⟨bd 1 (.bptr 0 0 :: .bptr 1 0 :: vI f :: .bptr 2 0 :: bd 58 []),[.box 37 [vI m.kind,vW m.rid,vB m.code,vF m.has,vU m.id,vT m.key,vT m.val,vU m.peer.id,vH m.peer.addr,.lit 25 false (List.map zaf m.peers),.lit 78 false (List.map zae m.pairs)],.box 37 ([vI 0,vW 0,vB 0,vF false,vU 0,vT ⟨#[]⟩,vT ⟨#[]⟩,vU 0,vH 0,.lit 0 true [],.lit 0 true []]),.box 37 ([vI m.kind,vW m.rid,vB zay,vF zaB,vU zaL,vT ⟨#[]⟩,vT ⟨#[]⟩,vU zap,vH zam,.lit 0 true [],.lit 0 true []])]⟩) (zgq m)
abbrev zgp:=(Int × Bool × Int × ByteArray × ByteArray × Int × Int × Int × Bool × Int × ByteArray × ByteArray × Int × Int) ⊕ ((Int × Bool × Int × ByteArray × ByteArray × Int × Int × Int × Bool × Int × ByteArray × ByteArray × Int × Int) ⊕ ((Int × Bool × Int × ByteArray × ByteArray × Int × Int × Int × Bool × Int × ByteArray × ByteArray × Int × Int) ⊕ (Int × Bool × Int × ByteArray × ByteArray × Int × Int × Int × Bool × Int × ByteArray × ByteArray × Int × Int)))
def zdy (m:Msg) (γ:Nat → Nat):zgp → X × St
 | .inl (a0,a1,a2,a3,a4,a5,a6,a7,a8,a9,a10,a11,a12,a13)=>(.ret,⟨bd 2 (.bptr 1 0 :: bd 60 []),[.box 37 [vI m.kind,vW m.rid,vB m.code,vF m.has,vU m.id,vT m.key,vT m.val,vU m.peer.id,vH m.peer.addr,.lit 25 false (List.map zaf m.peers),.lit 78 false (List.map zae m.pairs)],.box 37 ([vI m.kind,vW m.rid,vB a0,vF a1,vU a2,vT a3,vT a4,vU a5,vH a6,.lit 0 true [],.lit 0 true []]),.box 37 ([vI m.kind,vW m.rid,vB a7,vF a8,vU a9,vT a10,vT a11,vU a12,vH a13,.lit 0 true [],.lit 0 true []])]⟩)
 | .inr (.inl (b0,b1,b2,b3,b4,b5,b6,b7,b8,b9,b10,b11,b12,b13))=>(.ret,⟨bd 2 (.bptr 1 0 :: bd 60 []),[.box 37 [vI m.kind,vW m.rid,vB m.code,vF m.has,vU m.id,vT m.key,vT m.val,vU m.peer.id,vH m.peer.addr,.lit 25 false (List.map zaf m.peers),.lit 78 false (List.map zae m.pairs)],.box 37 ([vI m.kind,vW m.rid,vB b0,vF b1,vU b2,vT b3,vT b4,vU b5,vH b6,.lit 0 true [],.sl 3 ((γ 3))]),.box 37 ([vI m.kind,vW m.rid,vB b7,vF b8,vU b9,vT b10,vT b11,vU b12,vH b13,.lit 0 true [],.sl 3 ((γ 3))]),.row 78 (γ 3) false (List.map zae m.pairs)]⟩)
 | .inr (.inr (.inl (c0,c1,c2,c3,c4,c5,c6,c7,c8,c9,c10,c11,c12,c13)))=>(.ret,⟨bd 2 (.bptr 1 0 :: bd 60 []),[.box 37 [vI m.kind,vW m.rid,vB m.code,vF m.has,vU m.id,vT m.key,vT m.val,vU m.peer.id,vH m.peer.addr,.lit 25 false (List.map zaf m.peers),.lit 78 false (List.map zae m.pairs)],.box 37 ([vI m.kind,vW m.rid,vB c0,vF c1,vU c2,vT c3,vT c4,vU c5,vH c6,.sl 3 ((γ 3)),.lit 0 true []]),.box 37 ([vI m.kind,vW m.rid,vB c7,vF c8,vU c9,vT c10,vT c11,vU c12,vH c13,.sl 3 ((γ 3)),.lit 0 true []]),.row 25 (γ 3) false (List.map zaf m.peers)]⟩)
 | .inr (.inr (.inr (d0,d1,d2,d3,d4,d5,d6,d7,d8,d9,d10,d11,d12,d13)))=>(.ret,⟨bd 2 (.bptr 1 0 :: bd 60 []),[.box 37 [vI m.kind,vW m.rid,vB m.code,vF m.has,vU m.id,vT m.key,vT m.val,vU m.peer.id,vH m.peer.addr,.lit 25 false (List.map zaf m.peers),.lit 78 false (List.map zae m.pairs)],.box 37 [vI m.kind,vW m.rid,vB d0,vF d1,vU d2,vT d3,vT d4,vU d5,vH d6,.sl 3 ((γ 3)),.sl 4 ((γ 4))],.box 37 [vI m.kind,vW m.rid,vB d7,vF d8,vU d9,vT d10,vT d11,vU d12,vH d13,.sl 3 ((γ 3)),.sl 4 ((γ 4))],.row 25 (γ 3) false (List.map zaf m.peers),.row 78 (γ 4) false (List.map zae m.pairs)]⟩)
instance {m}:InjS (zdy m):=⟨fun γ γ' x y h=>by
 rcases x with ⟨a0,a1,a2,a3,a4,a5,a6,a7,a8,a9,a10,a11,a12,a13⟩ | ⟨b0,b1,b2,b3,b4,b5,b6,b7,b8,b9,b10,b11,b12,b13⟩ | ⟨c0,c1,c2,c3,c4,c5,c6,c7,c8,c9,c10,c11,c12,c13⟩ | ⟨d0,d1,d2,d3,d4,d5,d6,d7,d8,d9,d10,d11,d12,d13⟩ <;> rcases y with ⟨a0',a1',a2',a3',a4',a5',a6',a7',a8',a9',a10',a11',a12',a13'⟩ | ⟨b0',b1',b2',b3',b4',b5',b6',b7',b8',b9',b10',b11',b12',b13'⟩ | ⟨c0',c1',c2',c3',c4',c5',c6',c7',c8',c9',c10',c11',c12',c13'⟩ | ⟨d0',d1',d2',d3',d4',d5',d6',d7',d8',d9',d10',d11',d12',d13'⟩ <;> simp only [zdy] at h <;> exact inj_⟩
def zk3 (m:Msg) (f:Int) (zay:Int) (zaB:Bool) (zaL:Int) (zaz:ByteArray) (zap:Int) (zam:Int):Option (zgp):=asks (fun γ=>(lim F pr).seg [2] zrN ⟨bd 1 (.bptr 0 0 :: .bptr 1 0 :: vI f :: .bptr 2 0 :: bd 58 []),[.box 37 [vI m.kind,vW m.rid,vB m.code,vF m.has,vU m.id,vT m.key,vT m.val,vU m.peer.id,vH m.peer.addr,.lit 25 false (List.map zaf m.peers),.lit 78 false (List.map zae m.pairs)],.box 37 ([vI 0,vW 0,vB 0,vF false,vU 0,vT ⟨#[]⟩,vT ⟨#[]⟩,vU 0,vH 0,.lit 0 true [],.lit 0 true []]),.box 37 ([vI m.kind,vW m.rid,vB zay,vF zaB,vU zaL,vT zaz,vT ⟨#[]⟩,vU zap,vH zam,.lit 0 true [],.lit 0 true []])]⟩) (zdy m)
def ziV (m:Msg) (f:Int) (zay:Int) (zaB:Bool) (zaL:Int) (zaz:ByteArray) (zap:Int) (zam:Int):Option (zgp):=asks (fun γ=>(lim F pr).seg [2] zrN ⟨bd 1 (.bptr 0 0 :: .bptr 1 0 :: vI f :: .bptr 2 0 :: bd 58 []),[.box 37 [vI m.kind,vW m.rid,vB m.code,vF m.has,vU m.id,vT m.key,vT m.val,vU m.peer.id,vH m.peer.addr,.lit 25 false (List.map zaf m.peers),.lit 78 false (List.map zae m.pairs)],.box 37 ([vI 0,vW 0,vB 0,vF false,vU 0,vT ⟨#[]⟩,vT ⟨#[]⟩,vU 0,vH 0,.lit 0 true [],.lit 0 true []]),.box 37 ([vI m.kind,vW m.rid,vB zay,vF zaB,vU zaL,vT zaz,vT ⟨#[]⟩,vU zap,vH zam,.sl 3 ((γ 3)),.lit 0 true []]),.row 25 (γ 3) false (List.map zaf m.peers)]⟩) (zdy m)
def zgr (m:Msg) (f:Int) (zay:Int) (zaB:Bool):Option (zlK):=
 bif Ops.std.ieq (Ops.std.ibit .and .i64 f 4) 0 then
  bif Ops.std.ieq (Ops.std.ibit .and .i64 f 8) 0 then zg3 m f zay zaB 0 0 0 else
  zg3 m f zay zaB 0 m.peer.id m.peer.addr
 else
  bif Ops.std.ieq (Ops.std.ibit .and .i64 f 8) 0 then zg3 m f zay zaB m.id 0 0 else
  zg3 m f zay zaB m.id m.peer.id m.peer.addr
theorem zxJ {m f zay zaB r} (h:zgr m f zay zaB=some r):zg4 m f zay zaB=some r:=by
 unfold zgr at h
 refine zaq fun γ=>?_
 rcases zaa h with ⟨h1,h⟩ | ⟨h1,h⟩
 rcases zaa h with ⟨h2,h⟩ | ⟨h2,h⟩
 obtain ⟨γ1,h3⟩:=zai h (gam [])
 rcases r with ⟨zax,zaC,zav,zaD,zaE,zao,zal,zbb,zbh,zaL,zaz,zaR,zap,zam⟩ | ⟨zax,zaC,zav,zaD,zaE,zao,zal,zbb,zbh,zaL,zaz,zaR,zap,zam⟩ | ⟨zax,zaC,zav,zaD,zaE,zao,zal,zbb,zbh,zaL,zaz,zaR,zap,zam⟩ | ⟨zax,zaC,zav,zaD,zaE,zao,zal,zbb,zbh,zaL,zaz,zaR,zap,zam⟩
 refine ⟨gam [],zak ?_⟩;rotate_left
 refine ⟨gam [0,0,0,(γ1 3)],zak ?_⟩;rotate_left
 refine ⟨gam [0,0,0,(γ1 3)],zak ?_⟩;rotate_left
 refine ⟨gam [0,0,0,(γ1 3),(γ1 4)],zak ?_⟩;rotate_left
 obtain ⟨γ1,h3⟩:=zai h (gam [])
 rcases r with ⟨zax,zaC,zav,zaD,zaE,zao,zal,zbb,zbh,zaL,zaz,zaR,zap,zam⟩ | ⟨zax,zaC,zav,zaD,zaE,zao,zal,zbb,zbh,zaL,zaz,zaR,zap,zam⟩ | ⟨zax,zaC,zav,zaD,zaE,zao,zal,zbb,zbh,zaL,zaz,zaR,zap,zam⟩ | ⟨zax,zaC,zav,zaD,zaE,zao,zal,zbb,zbh,zaL,zaz,zaR,zap,zam⟩
 refine ⟨gam [],zak ?_⟩;rotate_left
 refine ⟨gam [0,0,0,(γ1 3)],zak ?_⟩;rotate_left
 refine ⟨gam [0,0,0,(γ1 3)],zak ?_⟩;rotate_left
 refine ⟨gam [0,0,0,(γ1 3),(γ1 4)],zak ?_⟩;rotate_left
 rcases zaa h with ⟨h2,h⟩ | ⟨h2,h⟩
 obtain ⟨γ1,h3⟩:=zai h (gam [])
 rcases r with ⟨zax,zaC,zav,zaD,zaE,zao,zal,zbb,zbh,zaL,zaz,zaR,zap,zam⟩ | ⟨zax,zaC,zav,zaD,zaE,zao,zal,zbb,zbh,zaL,zaz,zaR,zap,zam⟩ | ⟨zax,zaC,zav,zaD,zaE,zao,zal,zbb,zbh,zaL,zaz,zaR,zap,zam⟩ | ⟨zax,zaC,zav,zaD,zaE,zao,zal,zbb,zbh,zaL,zaz,zaR,zap,zam⟩
 refine ⟨gam [],zak ?_⟩;rotate_left
 refine ⟨gam [0,0,0,(γ1 3)],zak ?_⟩;rotate_left
 refine ⟨gam [0,0,0,(γ1 3)],zak ?_⟩;rotate_left
 refine ⟨gam [0,0,0,(γ1 3),(γ1 4)],zak ?_⟩;rotate_left
 obtain ⟨γ1,h3⟩:=zai h (gam [])
 rcases r with ⟨zax,zaC,zav,zaD,zaE,zao,zal,zbb,zbh,zaL,zaz,zaR,zap,zam⟩ | ⟨zax,zaC,zav,zaD,zaE,zao,zal,zbb,zbh,zaL,zaz,zaR,zap,zam⟩ | ⟨zax,zaC,zav,zaD,zaE,zao,zal,zbb,zbh,zaL,zaz,zaR,zap,zam⟩ | ⟨zax,zaC,zav,zaD,zaE,zao,zal,zbb,zbh,zaL,zaz,zaR,zap,zam⟩
 refine ⟨gam [],zak ?_⟩;rotate_left
 refine ⟨gam [0,0,0,(γ1 3)],zak ?_⟩;rotate_left
 refine ⟨gam [0,0,0,(γ1 3)],zak ?_⟩;rotate_left
 refine ⟨gam [0,0,0,(γ1 3),(γ1 4)],zak ?_⟩;rotate_left
 all_goals (dsimp only [zgq,zgs] at *;show Ifc.apart IF_ _ (zBF zvb) _=_;generalize zvb=c0 at *;exact fin_)
def zek (m:Msg) (f:Int) (zay:Int) (zaB:Bool) (zaL:Int) (zap:Int) (zam:Int):Option (zlJ):=
 bif Ops.std.ieq (Ops.std.ibit .and .i64 f 16) 0 then
  bif Ops.std.ieq (Ops.std.ibit .and .i64 f 32) 0 then
   zk3 m f zay zaB zaL ⟨#[]⟩ zap zam
  else
   zk3 m f zay zaB zaL m.key zap zam
 else
  bif zaN zaf 16 [] m.peers then
   bif Ops.std.ieq (Ops.std.ibit .and .i64 f 32) 0 then
    ziV m f zay zaB zaL ⟨#[]⟩ zap zam
   else
    ziV m f zay zaB zaL m.key zap zam
  else
   none
theorem zxI {m f zay zaB zaL zap zam r} (h:zek m f zay zaB zaL zap zam=some r):zg3 m f zay zaB zaL zap zam=some r:=by
 unfold zek at h
 refine zaq fun γ=>?_
 rcases zaa h with ⟨h1,h⟩ | ⟨h1,h⟩
 rcases zaa h with ⟨h2,h⟩ | ⟨h2,h⟩
 obtain ⟨γ1,h3⟩:=zai h (gam [])
 rcases r with ⟨zax,zaC,zav,zaD,zaE,zao,zal,zbb,zbh,zdW,zaz,zaR,zby,zbl⟩ | ⟨zax,zaC,zav,zaD,zaE,zao,zal,zbb,zbh,zdW,zaz,zaR,zby,zbl⟩ | ⟨zax,zaC,zav,zaD,zaE,zao,zal,zbb,zbh,zdW,zaz,zaR,zby,zbl⟩ | ⟨zax,zaC,zav,zaD,zaE,zao,zal,zbb,zbh,zdW,zaz,zaR,zby,zbl⟩
 refine ⟨gam [],zak ?_⟩;rotate_left
 refine ⟨gam [0,0,0,(γ1 3)],zak ?_⟩;rotate_left
 refine ⟨gam [0,0,0,(γ1 3)],zak ?_⟩;rotate_left
 refine ⟨gam [0,0,0,(γ1 3),(γ1 4)],zak ?_⟩;rotate_left
 obtain ⟨γ1,h3⟩:=zai h (gam [])
 rcases r with ⟨zax,zaC,zav,zaD,zaE,zao,zal,zbb,zbh,zdW,zaz,zaR,zby,zbl⟩ | ⟨zax,zaC,zav,zaD,zaE,zao,zal,zbb,zbh,zdW,zaz,zaR,zby,zbl⟩ | ⟨zax,zaC,zav,zaD,zaE,zao,zal,zbb,zbh,zdW,zaz,zaR,zby,zbl⟩ | ⟨zax,zaC,zav,zaD,zaE,zao,zal,zbb,zbh,zdW,zaz,zaR,zby,zbl⟩
 refine ⟨gam [],zak ?_⟩;rotate_left
 refine ⟨gam [0,0,0,(γ1 3)],zak ?_⟩;rotate_left
 refine ⟨gam [0,0,0,(γ1 3)],zak ?_⟩;rotate_left
 refine ⟨gam [0,0,0,(γ1 3),(γ1 4)],zak ?_⟩;rotate_left
 obtain ⟨h2,h⟩:=zaw h
 rcases zaa h with ⟨h3,h⟩ | ⟨h3,h⟩
 obtain ⟨γ1,h4⟩:=zai h (gam [0,0,0,0])
 rcases r with ⟨zax,zaC,zav,zaD,zaE,zao,zal,zbb,zbh,zdW,zaz,zaR,zby,zbl⟩ | ⟨zax,zaC,zav,zaD,zaE,zao,zal,zbb,zbh,zdW,zaz,zaR,zby,zbl⟩ | ⟨zax,zaC,zav,zaD,zaE,zao,zal,zbb,zbh,zdW,zaz,zaR,zby,zbl⟩ | ⟨zax,zaC,zav,zaD,zaE,zao,zal,zbb,zbh,zdW,zaz,zaR,zby,zbl⟩
 refine ⟨gam [],zak ?_⟩;rotate_left
 refine ⟨gam [0,0,0,(γ1 3)],zak ?_⟩;rotate_left
 refine ⟨gam [0,0,0,(γ1 3)],zak ?_⟩;rotate_left
 refine ⟨gam [0,0,0,(γ1 3),(γ1 4)],zak ?_⟩;rotate_left
 obtain ⟨γ1,h4⟩:=zai h (gam [0,0,0,0])
 rcases r with ⟨zax,zaC,zav,zaD,zaE,zao,zal,zbb,zbh,zdW,zaz,zaR,zby,zbl⟩ | ⟨zax,zaC,zav,zaD,zaE,zao,zal,zbb,zbh,zdW,zaz,zaR,zby,zbl⟩ | ⟨zax,zaC,zav,zaD,zaE,zao,zal,zbb,zbh,zdW,zaz,zaR,zby,zbl⟩ | ⟨zax,zaC,zav,zaD,zaE,zao,zal,zbb,zbh,zdW,zaz,zaR,zby,zbl⟩
 refine ⟨gam [],zak ?_⟩;rotate_left
 refine ⟨gam [0,0,0,(γ1 3)],zak ?_⟩;rotate_left
 refine ⟨gam [0,0,0,(γ1 3)],zak ?_⟩;rotate_left
 refine ⟨gam [0,0,0,(γ1 3),(γ1 4)],zak ?_⟩;rotate_left
 all_goals (dsimp only [zdy,zgq] at *;show Ifc.apart IF_ _ (zBE zrN) _=_;generalize zrN=c0 at *;exact fin_)
def zdx (m:Msg) (f:Int) (zay:Int) (zaB:Bool) (zaL:Int) (zaz:ByteArray) (zap:Int) (zam:Int):Option (zgp):=
 bif Ops.std.ieq (Ops.std.ibit .and .i64 f 64) 0 then
  bif Ops.std.ieq (Ops.std.ibit .and .i64 f 128) 0 then
   some (.inl (zay,zaB,zaL,zaz,⟨#[]⟩,zap,zam,zay,zaB,zaL,zaz,⟨#[]⟩,zap,zam))
  else
   bif zaN zae 32 [] m.pairs then
    some (.inr (.inl (zay,zaB,zaL,zaz,⟨#[]⟩,zap,zam,zay,zaB,zaL,zaz,⟨#[]⟩,zap,zam)))
   else
    none
 else
  bif Ops.std.ieq (Ops.std.ibit .and .i64 f 128) 0 then
   some (.inl (zay,zaB,zaL,zaz,m.val,zap,zam,zay,zaB,zaL,zaz,m.val,zap,zam))
  else
   bif zaN zae 32 [] m.pairs then
    some (.inr (.inl (zay,zaB,zaL,zaz,m.val,zap,zam,zay,zaB,zaL,zaz,m.val,zap,zam)))
   else
    none
theorem zxH {m f zay zaB zaL zaz zap zam r} (h:zdx m f zay zaB zaL zaz zap zam=some r):zk3 m f zay zaB zaL zaz zap zam=some r:=by
 unfold zdx at h
 refine zaq fun γ=>?_
 rcases zaa h with ⟨h1,h⟩ | ⟨h1,h⟩
 rcases zaa h with ⟨h2,h⟩ | ⟨h2,h⟩
 cases h;refine ⟨gam [],zak ?_⟩;rotate_left
 obtain ⟨h3,h⟩:=zaw h
 cases h;refine ⟨gam [0,0,0,0],zak ?_⟩;rotate_left
 rcases zaa h with ⟨h2,h⟩ | ⟨h2,h⟩
 cases h;refine ⟨gam [],zak ?_⟩;rotate_left
 obtain ⟨h3,h⟩:=zaw h
 cases h;refine ⟨gam [0,0,0,0],zak ?_⟩;rotate_left
 all_goals (dsimp only [zdy] at *;show Ifc.apart IF_ _ zwg _=_;exact fin_)
def zcz (m:Msg) (f:Int) (zay:Int) (zaB:Bool) (zaL:Int) (zaz:ByteArray) (zap:Int) (zam:Int):Option (zgp):=
 bif Ops.std.ieq (Ops.std.ibit .and .i64 f 64) 0 then
  bif Ops.std.ieq (Ops.std.ibit .and .i64 f 128) 0 then
   some (.inr (.inr (.inl (zay,zaB,zaL,zaz,⟨#[]⟩,zap,zam,zay,zaB,zaL,zaz,⟨#[]⟩,zap,zam))))
  else
   bif zaN zae 32 [] m.pairs then
    some (.inr (.inr (.inr (zay,zaB,zaL,zaz,⟨#[]⟩,zap,zam,zay,zaB,zaL,zaz,⟨#[]⟩,zap,zam))))
   else
    none
 else
  bif Ops.std.ieq (Ops.std.ibit .and .i64 f 128) 0 then
   some (.inr (.inr (.inl (zay,zaB,zaL,zaz,m.val,zap,zam,zay,zaB,zaL,zaz,m.val,zap,zam))))
  else
   bif zaN zae 32 [] m.pairs then
    some (.inr (.inr (.inr (zay,zaB,zaL,zaz,m.val,zap,zam,zay,zaB,zaL,zaz,m.val,zap,zam))))
   else
    none
theorem zvN {m f zay zaB zaL zaz zap zam r} (h:zcz m f zay zaB zaL zaz zap zam=some r):ziV m f zay zaB zaL zaz zap zam=some r:=by
 unfold zcz at h
 refine zaq fun γ=>?_
 rcases zaa h with ⟨h1,h⟩ | ⟨h1,h⟩
 rcases zaa h with ⟨h2,h⟩ | ⟨h2,h⟩
 cases h;refine ⟨gam [0,0,0,(γ 3)],zak ?_⟩;rotate_left
 obtain ⟨h3,h⟩:=zaw h
 cases h;refine ⟨gam [0,0,0,(γ 3),0],zak ?_⟩;rotate_left
 rcases zaa h with ⟨h2,h⟩ | ⟨h2,h⟩
 cases h;refine ⟨gam [0,0,0,(γ 3)],zak ?_⟩;rotate_left
 obtain ⟨h3,h⟩:=zaw h
 cases h;refine ⟨gam [0,0,0,(γ 3),0],zak ?_⟩;rotate_left
 all_goals (dsimp only [zdy] at *;show Ifc.apart IF_ _ zwg _=_;exact fin_)
def zp7 (m:Msg):Option (Msg):=
 (zmn m).bind fun res=>
 bif Ops.std.ieq (Ops.std.ibit .and .i64 res 1) 0 then
  bif Ops.std.ieq (Ops.std.ibit .and .i64 res 2) 0 then
   (zg4 m res 0 false).bind fun r=>match r with
    | .inl (zax,zaC,zav,zaD,zaE,zao,zal,zay,zaB,zaL,zaz,zaR,zap,zam)=>
     some (⟨m.kind,m.rid,zax,zaC,zav,zaD,zaE,(⟨zao,zal⟩:Peer),[],[]⟩:Msg)
    | .inr (.inl (zax,zaC,zav,zaD,zaE,zao,zal,zay,zaB,zaL,zaz,zaR,zap,zam))=>
     some (⟨m.kind,m.rid,zax,zaC,zav,zaD,zaE,(⟨zao,zal⟩:Peer),[],m.pairs⟩:Msg)
    | .inr (.inr (.inl (zax,zaC,zav,zaD,zaE,zao,zal,zay,zaB,zaL,zaz,zaR,zap,zam)))=>
     some (⟨m.kind,m.rid,zax,zaC,zav,zaD,zaE,(⟨zao,zal⟩:Peer),m.peers,[]⟩:Msg)
    | .inr (.inr (.inr (zax,zaC,zav,zaD,zaE,zao,zal,zay,zaB,zaL,zaz,zaR,zap,zam)))=>
     some (⟨m.kind,m.rid,zax,zaC,zav,zaD,zaE,(⟨zao,zal⟩:Peer),m.peers,m.pairs⟩:Msg)
  else
   (zg4 m res 0 m.has).bind fun r=>match r with
    | .inl (zax,zaC,zav,zaD,zaE,zao,zal,zay,zaB,zaL,zaz,zaR,zap,zam)=>
     some (⟨m.kind,m.rid,zax,zaC,zav,zaD,zaE,(⟨zao,zal⟩:Peer),[],[]⟩:Msg)
    | .inr (.inl (zax,zaC,zav,zaD,zaE,zao,zal,zay,zaB,zaL,zaz,zaR,zap,zam))=>
     some (⟨m.kind,m.rid,zax,zaC,zav,zaD,zaE,(⟨zao,zal⟩:Peer),[],m.pairs⟩:Msg)
    | .inr (.inr (.inl (zax,zaC,zav,zaD,zaE,zao,zal,zay,zaB,zaL,zaz,zaR,zap,zam)))=>
     some (⟨m.kind,m.rid,zax,zaC,zav,zaD,zaE,(⟨zao,zal⟩:Peer),m.peers,[]⟩:Msg)
    | .inr (.inr (.inr (zax,zaC,zav,zaD,zaE,zao,zal,zay,zaB,zaL,zaz,zaR,zap,zam)))=>
     some (⟨m.kind,m.rid,zax,zaC,zav,zaD,zaE,(⟨zao,zal⟩:Peer),m.peers,m.pairs⟩:Msg)
 else
  bif Ops.std.ieq (Ops.std.ibit .and .i64 res 2) 0 then
   (zg4 m res m.code false).bind fun r=>match r with
    | .inl (zax,zaC,zav,zaD,zaE,zao,zal,zay,zaB,zaL,zaz,zaR,zap,zam)=>
     some (⟨m.kind,m.rid,zax,zaC,zav,zaD,zaE,(⟨zao,zal⟩:Peer),[],[]⟩:Msg)
    | .inr (.inl (zax,zaC,zav,zaD,zaE,zao,zal,zay,zaB,zaL,zaz,zaR,zap,zam))=>
     some (⟨m.kind,m.rid,zax,zaC,zav,zaD,zaE,(⟨zao,zal⟩:Peer),[],m.pairs⟩:Msg)
    | .inr (.inr (.inl (zax,zaC,zav,zaD,zaE,zao,zal,zay,zaB,zaL,zaz,zaR,zap,zam)))=>
     some (⟨m.kind,m.rid,zax,zaC,zav,zaD,zaE,(⟨zao,zal⟩:Peer),m.peers,[]⟩:Msg)
    | .inr (.inr (.inr (zax,zaC,zav,zaD,zaE,zao,zal,zay,zaB,zaL,zaz,zaR,zap,zam)))=>
     some (⟨m.kind,m.rid,zax,zaC,zav,zaD,zaE,(⟨zao,zal⟩:Peer),m.peers,m.pairs⟩:Msg)
  else
   (zg4 m res m.code m.has).bind fun r=>match r with
    | .inl (zax,zaC,zav,zaD,zaE,zao,zal,zay,zaB,zaL,zaz,zaR,zap,zam)=>
     some (⟨m.kind,m.rid,zax,zaC,zav,zaD,zaE,(⟨zao,zal⟩:Peer),[],[]⟩:Msg)
    | .inr (.inl (zax,zaC,zav,zaD,zaE,zao,zal,zay,zaB,zaL,zaz,zaR,zap,zam))=>
     some (⟨m.kind,m.rid,zax,zaC,zav,zaD,zaE,(⟨zao,zal⟩:Peer),[],m.pairs⟩:Msg)
    | .inr (.inr (.inl (zax,zaC,zav,zaD,zaE,zao,zal,zay,zaB,zaL,zaz,zaR,zap,zam)))=>
     some (⟨m.kind,m.rid,zax,zaC,zav,zaD,zaE,(⟨zao,zal⟩:Peer),m.peers,[]⟩:Msg)
    | .inr (.inr (.inr (zax,zaC,zav,zaD,zaE,zao,zal,zay,zaB,zaL,zaz,zaR,zap,zam)))=>
     some (⟨m.kind,m.rid,zax,zaC,zav,zaD,zaE,(⟨zao,zal⟩:Peer),m.peers,m.pairs⟩:Msg)
theorem zDb {m r} (h:zp7 m=some r):zuz m=some r:=by
 unfold zp7 at h
 refine zar ?_
 obtain ⟨res,h1,h⟩:=zac h
 rcases zaa h with ⟨h2,h⟩ | ⟨h2,h⟩
 rcases zaa h with ⟨h3,h⟩ | ⟨h3,h⟩
 obtain ⟨r4,γ2,h4,h⟩:=zan h (gam [])
 rcases r4 with ⟨zax,zaC,zav,zaD,zaE,zao,zal,zay,zaB,zaL,zaz,zaR,zap,zam⟩ | ⟨zax,zaC,zav,zaD,zaE,zao,zal,zay,zaB,zaL,zaz,zaR,zap,zam⟩ | ⟨zax,zaC,zav,zaD,zaE,zao,zal,zay,zaB,zaL,zaz,zaR,zap,zam⟩ | ⟨zax,zaC,zav,zaD,zaE,zao,zal,zay,zaB,zaL,zaz,zaR,zap,zam⟩
 cases h;refine zab rfl ?_;rotate_left
 cases h;refine zab rfl ?_;rotate_left
 cases h;refine zab rfl ?_;rotate_left
 cases h;refine zab rfl ?_;rotate_left
 obtain ⟨r4,γ2,h4,h⟩:=zan h (gam [])
 rcases r4 with ⟨zax,zaC,zav,zaD,zaE,zao,zal,zay,zaB,zaL,zaz,zaR,zap,zam⟩ | ⟨zax,zaC,zav,zaD,zaE,zao,zal,zay,zaB,zaL,zaz,zaR,zap,zam⟩ | ⟨zax,zaC,zav,zaD,zaE,zao,zal,zay,zaB,zaL,zaz,zaR,zap,zam⟩ | ⟨zax,zaC,zav,zaD,zaE,zao,zal,zay,zaB,zaL,zaz,zaR,zap,zam⟩
 cases h;refine zab rfl ?_;rotate_left
 cases h;refine zab rfl ?_;rotate_left
 cases h;refine zab rfl ?_;rotate_left
 cases h;refine zab rfl ?_;rotate_left
 rcases zaa h with ⟨h3,h⟩ | ⟨h3,h⟩
 obtain ⟨r4,γ2,h4,h⟩:=zan h (gam [])
 rcases r4 with ⟨zax,zaC,zav,zaD,zaE,zao,zal,zay,zaB,zaL,zaz,zaR,zap,zam⟩ | ⟨zax,zaC,zav,zaD,zaE,zao,zal,zay,zaB,zaL,zaz,zaR,zap,zam⟩ | ⟨zax,zaC,zav,zaD,zaE,zao,zal,zay,zaB,zaL,zaz,zaR,zap,zam⟩ | ⟨zax,zaC,zav,zaD,zaE,zao,zal,zay,zaB,zaL,zaz,zaR,zap,zam⟩
 cases h;refine zab rfl ?_;rotate_left
 cases h;refine zab rfl ?_;rotate_left
 cases h;refine zab rfl ?_;rotate_left
 cases h;refine zab rfl ?_;rotate_left
 obtain ⟨r4,γ2,h4,h⟩:=zan h (gam [])
 rcases r4 with ⟨zax,zaC,zav,zaD,zaE,zao,zal,zay,zaB,zaL,zaz,zaR,zap,zam⟩ | ⟨zax,zaC,zav,zaD,zaE,zao,zal,zay,zaB,zaL,zaz,zaR,zap,zam⟩ | ⟨zax,zaC,zav,zaD,zaE,zao,zal,zay,zaB,zaL,zaz,zaR,zap,zam⟩ | ⟨zax,zaC,zav,zaD,zaE,zao,zal,zay,zaB,zaL,zaz,zaR,zap,zam⟩
 cases h;refine zab rfl ?_;rotate_left
 cases h;refine zab rfl ?_;rotate_left
 cases h;refine zab rfl ?_;rotate_left
 cases h;refine zab rfl ?_;rotate_left
 all_goals (dsimp only [R1,zgs] at *;show zat IF_ (zHC zvc) _ _=_;generalize zvc=c0 at *;exact fin_)
end Go.Ab.Tryz
