/- Our texts for this statement, merged: what its theorem leads to. -/
import Derived.Test.YtjmmobicnfojeaaGreatDoorQWg10
set_option linter.unusedVariables false
set_option linter.unusedSimpArgs false
noncomputable section
namespace Go.Ab.Tryz
open Go Go.Ab Go.Proofs
set_option maxRecDepth 10000
set_option maxHeartbeats 4000000
def zpe (l:List Job) (id:Int):Option (Int):=
 zon l id
theorem zBx {l id r} (h:zpe l id=some r):zmF l id=some r:=by
 unfold zpe at h
 refine zas ?_
 have h1:=ask_some h
 rcases r with res
 refine zab rfl ?_;rotate_left
 all_goals (dsimp only [zdU,R1] at *;show zar IF_ zIB _ _=_;exact fin_)
abbrev zoh:=((List Entry) × (List Entry) × (List Pair) × (List Pend) × (List Job) × (List Result) × Node × Job)
def ziG (n:Node) (γ:Nat → Nat):zoh → X × St
 | (a0,a1,a2,a3,a4,a5,a6,a7)=>(.ret,⟨bd 4 (.bptr 8 0 :: vF true :: bd 52 []),[.box 34 (zao n),.row 81 (γ 1) true (List.map zai a0),.row 81 (γ 2) true (List.map zai a1),.row 84 (γ 3) false (List.map zae a6.fingers),.row 78 (γ 4) true (List.map zan a2),.row 88 (γ 5) true (List.map za4 a3),.row 67 (γ 6) true (List.map eJob a4),.row 60 (γ 7) true (List.map zaq a5),.box 135 (capp (zaw a6 (.sl 3 ((γ 3)))) (capp (cJob a7) ([.sl 9 ((γ 9))]))),.row 56 (γ 9) false (List.map eOut [])]⟩)
instance {n}:InjS (ziG n):=⟨fun γ γ' x y h=>by
 rcases x with ⟨a0,a1,a2,a3,a4,a5,a6,a7⟩ <;> rcases y with ⟨a0',a1',a2',a3',a4',a5',a6',a7'⟩ <;> simp only [ziG] at h <;> exact inj_⟩
def znt (n:Node) (i:Int) (r1:List Entry) (r2:List Entry) (r4:List Pair) (r5:List Pend) (r6:List Job) (r7:List Result) (b8_node:Node):Option (zoh):=asks (fun γ=>(lim F pr).seg [4,5] zzr ⟨bd 6 (.bptr 8 0 :: vI i :: bd 50 []),[.box 34 (zao n),.row 81 (γ 1) true (List.map zai r1),.row 81 (γ 2) true (List.map zai r2),.row 84 (γ 3) false (List.map zae b8_node.fingers),.row 78 (γ 4) true (List.map zan r4),.row 88 (γ 5) true (List.map za4 r5),.row 67 (γ 6) true (List.map eJob r6),.row 60 (γ 7) true (List.map zaq r7),.box 135 (capp (zaw b8_node (.sl 3 ((γ 3)))) (capp (cJob (⟨0,0,0,⟨#[]⟩,⟨#[]⟩,0,(⟨0,0⟩:Peer),(⟨0,0⟩:Peer),false,0,0,0⟩:Job)) ([.sl 9 ((γ 9))]))),.row 56 (γ 9) false (List.map eOut [])]⟩) (ziG n)
def zoi (n:Node) (i:Int) (r1:List Entry) (r2:List Entry) (r4:List Pair) (r5:List Pend) (r6:List Job) (r7:List Result) (b8_node:Node):Option (zoh):=
 (xget eJob b8_node.jobs i).bind fun x=>
 some (r1,r2,r4,r5,r6,r7,b8_node,x)
theorem zBf {n i r1 r2 r4 r5 r6 r7 b8_node r} (h:zoi n i r1 r2 r4 r5 r6 r7 b8_node=some r):znt n i r1 r2 r4 r5 r6 r7 b8_node=some r:=by
 unfold zoi at h
 refine zap fun γ=>?_
 obtain ⟨x,h1,h⟩:=zac h
 cases h;refine ⟨gam [0,(γ 1),(γ 2),(γ 3),(γ 4),(γ 5),(γ 6),(γ 7),0,(γ 9)],zak ?_⟩;rotate_left
 all_goals (dsimp only [ziG] at *;show Ifc.apart IF_ _ zFw _=_;exact fin_)
def zt0 (n:Node) (id:Int):Option ((Bool × Node × Job × (List Out))):=
 (zeY n).bind fun ⟨zaO,zaB,zaM,zaG,zaT,zaQ,zax,zaJ,zaF,zaL,zay,zaW,zaN,zaC⟩=>
 (zmF zaL id).bind fun res=>
 bif Ops.std.ilt res 0 then
  some (false,(⟨(⟨zaO,zaB⟩:Peer),zaM,zaG,zaT,zaQ,zax,zaJ,zaF,zaL,zay,zaW,zaN,zaC⟩:Node),(⟨0,0,0,⟨#[]⟩,⟨#[]⟩,0,(⟨0,0⟩:Peer),(⟨0,0⟩:Peer),false,0,0,0⟩:Job),[])
 else
  (xget eJob zaL res).bind fun x=>
  bif Ops.std.ilt x.kind 1 then
   some (false,(⟨(⟨zaO,zaB⟩:Peer),zaM,zaG,zaT,zaQ,zax,zaJ,zaF,zaL,zay,zaW,zaN,zaC⟩:Node),(⟨0,0,0,⟨#[]⟩,⟨#[]⟩,0,(⟨0,0⟩:Peer),(⟨0,0⟩:Peer),false,0,0,0⟩:Job),[])
  else
   bif Ops.std.ilt 4 x.kind then
    some (false,(⟨(⟨zaO,zaB⟩:Peer),zaM,zaG,zaT,zaQ,zax,zaJ,zaF,zaL,zay,zaW,zaN,zaC⟩:Node),(⟨0,0,0,⟨#[]⟩,⟨#[]⟩,0,(⟨0,0⟩:Peer),(⟨0,0⟩:Peer),false,0,0,0⟩:Job),[])
   else
    (znt n res zaT zaQ zaJ zaF zaL zay (⟨(⟨zaO,zaB⟩:Peer),zaM,zaG,zaT,zaQ,zax,zaJ,zaF,zaL,zay,zaW,zaN,zaC⟩:Node)).bind fun ⟨r1,r2,r4,r5,r6,r7,b8_node,zFv⟩=>
    some (true,b8_node,zFv,[])
theorem zGI {n id r} (h:zt0 n id=some r):znw n id=some r:=by
 unfold zt0 at h
 refine zap fun γ=>?_
 obtain ⟨r1,h1,h⟩:=zac h
 rcases r1 with ⟨zaO,zaB,zaM,zaG,zaT,zaQ,zax,zaJ,zaF,zaL,zay,zaW,zaN,zaC⟩
 obtain ⟨res,h2,h⟩:=zac h
 rcases zaa h with ⟨h3,h⟩ | ⟨h3,h⟩
 cases h;refine ⟨gam [0,0,0],zab rfl ?_⟩;rotate_left
 obtain ⟨x,h4,h⟩:=zac h
 rcases zaa h with ⟨h5,h⟩ | ⟨h5,h⟩
 cases h;refine ⟨gam [0,0,0],zab rfl ?_⟩;rotate_left
 rcases zaa h with ⟨h6,h⟩ | ⟨h6,h⟩
 cases h;refine ⟨gam [0,0,0],zab rfl ?_⟩;rotate_left
 obtain ⟨r7,γ3,h7,h⟩:=zag h (gam [0,0,0,0,0,0,0,0,0,0])
 rcases r7 with ⟨r1,r2,r4,r5,r6,r7,b8_node,zFv⟩
 cases h;refine ⟨gam [0,(γ3 3),(γ3 9)],zab rfl ?_⟩;rotate_left
 all_goals (dsimp only [R1,zcm,zgC,ziG] at *;show zar IF_ (g95F zzr) _ _=_;generalize zzr=c0 at *;exact fin_)
def zq9 (n:Node) (j:Job):Option (zq8):=
 (zeY n).bind fun ⟨zaO,zaB,zaM,zaG,zaT,zaQ,zax,zaJ,zaF,zaL,zay,zaW,zaN,zaC⟩=>
 (zmF zaL j.id).bind fun res=>
 bif Ops.std.ile 0 res then
  (xget eJob zaL res).bind fun x=>
  some (zaO,zaB,zaM,zaG,zaT,zaQ,zax,zaJ,zaF,xset zaL res j,zay,zaW,zaN,zaC)
 else
  some (zaO,zaB,zaM,zaG,zaT,zaQ,zax,zaJ,zaF,zaL,zay,zaW,zaN,zaC)
theorem zDU {n j r} (h:zq9 n j=some r):zq7 n j=some r:=by
 unfold zq9 at h
 refine zas ?_
 obtain ⟨r1,h1,h⟩:=zac h
 rcases r1 with ⟨zaO,zaB,zaM,zaG,zaT,zaQ,zax,zaJ,zaF,zaL,zay,zaW,zaN,zaC⟩
 obtain ⟨res,h2,h⟩:=zac h
 rcases zaa h with ⟨h3,h⟩ | ⟨h3,h⟩
 obtain ⟨x,h4,h⟩:=zac h
 cases h;refine zab rfl ?_;rotate_left
 cases h;refine zab rfl ?_;rotate_left
 all_goals (dsimp only [R1,ziS,zcm] at *;show zar IF_ zI1 _ _=_;exact fin_)
def zlv (b0_node:Node) (b0_job:Job) (r2:List Out):Option ((Node × (List Finger))):=
 (zq7 b0_node b0_job).bind fun ⟨zaO,zaB,zaM,zaG,zaT,zaQ,zax,zaJ,zaF,zaL,zay,zaW,zaN,zaC⟩=>
 some ((⟨(⟨zaO,zaB⟩:Peer),zaM,zaG,zaT,zaQ,zax,zaJ,zaF,zaL,zay,zaW,zaN,zaC⟩:Node),b0_node.fingers)
theorem zwZ {b0_node b0_job r2 r} (h:zlv b0_node b0_job r2=some r):zeO b0_node b0_job r2=some r:=by
 unfold zlv at h
 refine zap fun γ=>?_
 obtain ⟨r1,h1,h⟩:=zac h
 rcases r1 with ⟨zaO,zaB,zaM,zaG,zaT,zaQ,zax,zaJ,zaF,zaL,zay,zaW,zaN,zaC⟩
 cases h;refine ⟨gam [0,γ 1,γ 2,0],zab rfl ?_⟩;rotate_left
 all_goals (dsimp only [ziS,zdQ] at *;show zar IF_ zDM _ _=_;exact fin_)
def zrk (n:Node) (to_:Peer) (m:Msg) (why:Int) (job:Int):Option ((Node × (List Out))):=
 (zeY n).bind fun ⟨zaO,zaB,zaM,zaG,zaT,zaQ,zax,zaJ,zaF,zaL,zay,zaW,zaN,zaC⟩=>
 bif Ops.std.ile 64 (xlen za4 zaF) then
  some ((⟨(⟨zaO,zaB⟩:Peer),zaM,zaG,zaT,zaQ,zax,zaJ,zaF,zaL,zay,zaW,zaN,zaC⟩:Node),[])
 else
  (zvp m).bind fun res=>
  (zvq (⟨(⟨zaO,zaB⟩:Peer),zaM,zaG,zaT,zaQ,zax,zaJ,zaF,zaL,zay,Ops.std.iadd .u32 zaW 1,zaN,zaC⟩:Node)).bind fun res1=>
  bif zaK za4 56 zaF [(⟨Ops.std.iadd .u32 zaW 1,res.kind,why,job,to_,Ops.std.iadd .i64 res1 8⟩:Pend)] then
   some ((⟨(⟨zaO,zaB⟩:Peer),zaM,zaG,zaT,zaQ,zax,zaJ,(zaF ++ [(⟨Ops.std.iadd .u32 zaW 1,res.kind,why,job,to_,Ops.std.iadd .i64 res1 8⟩:Pend)]),zaL,zay,Ops.std.iadd .u32 zaW 1,zaN,zaC⟩:Node),[(⟨to_,(⟨res.kind,Ops.std.iadd .u32 zaW 1,res.code,res.has,res.id,res.key,res.val,res.peer,res.peers,res.pairs⟩:Msg)⟩:Out)])
  else
   none
theorem zD4 {n to_ m why job r} (h:zrk n to_ m why job=some r):zlN n to_ m why job=some r:=by
 unfold zrk at h
 refine zas ?_
 obtain ⟨r1,h1,h⟩:=zac h
 rcases r1 with ⟨zaO,zaB,zaM,zaG,zaT,zaQ,zax,zaJ,zaF,zaL,zay,zaW,zaN,zaC⟩
 rcases zaa h with ⟨h2,h⟩ | ⟨h2,h⟩
 cases h;refine zab rfl ?_;rotate_left
 obtain ⟨res,h3,h⟩:=zac h
 obtain ⟨res1,h4,h⟩:=zac h
 obtain ⟨h5,h⟩:=zat h
 cases h;refine zab rfl ?_;rotate_left
 all_goals (dsimp only [R1,R2,zcm] at *;show zar IF_ g80F _ _=_;exact fin_)
def zky (n:Node) (out:List Out) (b0_node:Node) (b0_job:Job) (r2:List Out):Option (((List Finger) × (List Out))):=
 bif zaK eOut 136 r2 out then some (b0_node.fingers,(r2 ++ out)) else
 none
theorem zvS {n out b0_node b0_job r2 r} (h:zky n out b0_node b0_job r2=some r):zgx n out b0_node b0_job r2=some r:=by
 unfold zky at h
 refine zap fun γ=>?_
 obtain ⟨h1,h⟩:=zat h
 cases h;refine ⟨gam [0,γ 1,(γ 2 + 1)],zab rfl ?_⟩;rotate_left
 all_goals (dsimp only [zcr] at *;show zar IF_ zDP _ _=_;exact fin_)
def zo5 (to_:Peer) (m:Msg) (why:Int) (b0_node:Node) (b0_job:Job) (r2:List Out):Option (zlq):=
 (zeO b0_node (⟨b0_job.id,b0_job.kind,b0_job.bit,b0_job.key,b0_job.val,b0_job.target,b0_job.via,to_,b0_job.doing,b0_job.hops,b0_job.tries,b0_job.due⟩:Job) r2).bind fun ⟨b0_node1,r1⟩=>
 (zlN b0_node1 to_ m why b0_job.id).bind fun ⟨r0,r11⟩=>
 (zgx r0 r11 b0_node1 (⟨b0_job.id,b0_job.kind,b0_job.bit,b0_job.key,b0_job.val,b0_job.target,b0_job.via,to_,b0_job.doing,b0_job.hops,b0_job.tries,b0_job.due⟩:Job) r2).bind fun ⟨r12,r21⟩=>
 some (r0,(⟨b0_job.id,b0_job.kind,b0_job.bit,b0_job.key,b0_job.val,b0_job.target,b0_job.via,to_,b0_job.doing,b0_job.hops,b0_job.tries,b0_job.due⟩:Job),r1,r21)
theorem zwY {to_ m why b0_node b0_job r2 r} (h:zo5 to_ m why b0_node b0_job r2=some r):zeN to_ m why b0_node b0_job r2=some r:=by
 unfold zo5 at h
 refine zap fun γ=>?_
 obtain ⟨r1,γ1,h1,h⟩:=zag h (gam [0,γ 1,γ 2])
 rcases r1 with ⟨b0_node1,r1⟩
 obtain ⟨r2,h2,h⟩:=zac h
 rcases r2 with ⟨r0,r11⟩
 obtain ⟨r3,γ3,h3,h⟩:=zag h (gam [0,(γ1 3),(γ1 2)])
 rcases r3 with ⟨r12,r21⟩
 cases h;refine ⟨gam [0,(γ1 1),(γ3 2)],zab rfl ?_⟩;rotate_left
 all_goals (dsimp only [R2,zdN,zdQ,zcr] at *;show zar IF_ zDQ _ _=_;exact fin_)
def zom (to_:Peer) (b0_node:Node) (b0_job:Job) (r2:List Out):Option (zkt):=
 zeN to_ (⟨1,0,0,false,b0_job.target,⟨#[]⟩,⟨#[]⟩,(⟨0,0⟩:Peer),[],[]⟩:Msg) 4 b0_node b0_job r2
theorem zvQ {to_ b0_node b0_job r2 r} (h:zom to_ b0_node b0_job r2=some r):zcF to_ b0_node b0_job r2=some r:=by
 unfold zom at h
 refine zap fun γ=>?_
 obtain ⟨γ1,h1⟩:=zal h (gam [0,γ 1,γ 2])
 rcases r with ⟨b0_node1,za5,r1,r21⟩
 refine ⟨gam [0,(γ1 1),(γ1 2)],zab rfl ?_⟩;rotate_left
 all_goals (dsimp only [zdN,zc9] at *;show zar IF_ zDN _ _=_;exact fin_)
abbrev zlc:=(Int × Int × (List Peer)) ⊕ ((List Peer) × (List Peer))
def ze1 (n:Node) (γ:Nat → Nat):zlc → X × St
 | .inl (a0,a1,a2)=>(.ret,⟨bd 4 (.bptr 1 0 :: .sl 4 ((γ 4)) :: vF true :: bd 49 []),[.box 34 (zao n),.box 25 [vU a0,vH a1],.row 25 (γ 2) false (List.map zah []),.row 25 (γ 3) false (List.map zah a2),.row 25 (γ 4) false (List.map zah [])]⟩)
 | .inr (b0,b1)=>(.ret,⟨bd 4 (.bptr 1 0 :: .lit 25 false (List.map zah b0) :: vF false :: bd 49 []),[.box 34 (zao n),.box 25 [vU 0,vH 0],.row 25 (γ 2) false (List.map zah []),.row 25 (γ 3) false (List.map zah b1)]⟩)
instance {n}:InjS (ze1 n):=⟨fun γ γ' x y h=>by
 rcases x with ⟨a0,a1,a2⟩ | ⟨b0,b1⟩ <;> rcases y with ⟨a0',a1',a2'⟩ | ⟨b0',b1'⟩ <;> simp only [ze1] at h <;> exact inj_⟩
def zna (n:Node) (key:Int) (r3:List Peer):Option (zlc):=asks (fun γ=>(lim F pr).seg [4,5,6] zv6 ⟨bd 1 (vU key :: .bptr 0 0 :: bd 1 (.bptr 1 0 :: bd 2 (.sl 3 ((γ 3)) :: bd 48 []))),[.box 34 (zao n),.box 25 [vU 0,vH 0],.row 25 (γ 2) false (List.map zah []),.row 25 (γ 3) false (List.map zah r3)]⟩) (ze1 n)
def zld (n:Node) (key:Int) (r3:List Peer):Option (zlc):=
 (xget zah r3 0).bind fun x=>
 (zkK n.me.id key x.id).bind fun res=>
 bif res then some (.inl (x.id,x.addr,r3)) else
 (zn7 n key).bind fun res1=>
 bif res1 then some (.inl (n.me.id,n.me.addr,r3)) else
 (zq3 n.me n.list n.fingers key 4).bind fun res2=>
 bif Ops.std.ilt 0 (xlen zah res2) then some (.inr (res2,r3)) else
 some (.inl (n.me.id,n.me.addr,r3))
theorem zwL {n key r3 r} (h:zld n key r3=some r):zna n key r3=some r:=by
 unfold zld at h
 refine zap fun γ=>?_
 obtain ⟨x,h1,h⟩:=zac h
 obtain ⟨res,h2,h⟩:=zac h
 rcases zaa h with ⟨h3,h⟩ | ⟨h3,h⟩
 cases h;refine ⟨gam [0,0,(γ 2),(γ 3),0],zak ?_⟩;rotate_left
 obtain ⟨res1,h4,h⟩:=zac h
 rcases zaa h with ⟨h5,h⟩ | ⟨h5,h⟩
 cases h;refine ⟨gam [0,0,(γ 2),(γ 3),0],zak ?_⟩;rotate_left
 obtain ⟨res2,h6,h⟩:=zac h
 rcases zaa h with ⟨h7,h⟩ | ⟨h7,h⟩
 cases h;refine ⟨gam [0,0,(γ 2),(γ 3)],zak ?_⟩;rotate_left
 cases h;refine ⟨gam [0,0,(γ 2),(γ 3),0],zak ?_⟩;rotate_left
 all_goals (dsimp only [R1,ze1] at *;show Ifc.apart IF_ _ zCu _=_;exact fin_)
def zn6 (n:Node) (key:Int):Option ((Peer × (List Peer) × Bool)):=
 (zkU n.list).bind fun res=>
 bif Ops.std.ieq (xlen zah res) 0 then some (n.me,[],true) else
 bif Ops.std.ieq key n.me.id then some (n.me,[],true) else
 (zna n key res).bind fun r=>match r with
  | .inl (zbf,za2,r3)=>
   some ((⟨zbf,za2⟩:Peer),[],true)
  | .inr (t5,r3)=>
   some ((⟨0,0⟩:Peer),t5,false)
theorem zAQ {n key r} (h:zn6 n key=some r):zrO n key=some r:=by
 unfold zn6 at h
 refine zas ?_
 obtain ⟨res,h1,h⟩:=zac h
 rcases zaa h with ⟨h2,h⟩ | ⟨h2,h⟩
 cases h;refine zab rfl ?_;rotate_left
 rcases zaa h with ⟨h3,h⟩ | ⟨h3,h⟩
 cases h;refine zab rfl ?_;rotate_left
 obtain ⟨r4,γ2,h4,h⟩:=zag h (gam [0,0,0,0])
 rcases r4 with ⟨zbf,za2,r3⟩ | ⟨t5,r3⟩
 cases h;refine zab rfl ?_;rotate_left
 cases h;refine zab rfl ?_;rotate_left
 all_goals (dsimp only [K1,R3,ze1] at *;show zar IF_ (zIj zv6) _ _=_;generalize zv6=c0 at *;exact fin_)
def zju (b0_node:Node) (b0_job:Job) (r2:List Out):Option ((Node × (List Finger))):=
 (zq7 b0_node b0_job).bind fun ⟨zaO,zaB,zaM,zaG,zaT,zaQ,zax,zaJ,zaF,zaL,zay,zaW,zaN,zaC⟩=>
 some ((⟨(⟨zaO,zaB⟩:Peer),zaM,zaG,zaT,zaQ,zax,zaJ,zaF,zaL,zay,zaW,zaN,zaC⟩:Node),b0_node.fingers)
theorem zuU {b0_node b0_job r2 r} (h:zju b0_node b0_job r2=some r):zdP b0_node b0_job r2=some r:=by
 unfold zju at h
 refine zap fun γ=>?_
 obtain ⟨r1,h1,h⟩:=zac h
 rcases r1 with ⟨zaO,zaB,zaM,zaG,zaT,zaQ,zax,zaJ,zaF,zaL,zay,zaW,zaN,zaC⟩
 cases h;refine ⟨gam [0,γ 1,γ 2,0],zab rfl ?_⟩;rotate_left
 all_goals (dsimp only [ziS,zcW] at *;show zar IF_ zDM _ _=_;exact fin_)
def zlo (to_:Peer) (b0_node:Node) (b0_job:Job) (r2:List Out):Option (zln):=
 bif Ops.std.ieq b0_job.kind 2 then
  zeN to_ (⟨7,0,0,false,0,b0_job.key,b0_job.val,(⟨0,0⟩:Peer),[],[]⟩:Msg) 5 b0_node (⟨b0_job.id,b0_job.kind,b0_job.bit,b0_job.key,b0_job.val,b0_job.target,b0_job.via,b0_job.at_,true,b0_job.hops,b0_job.tries,b0_job.due⟩:Job) r2
 else
  bif Ops.std.ieq b0_job.kind 3 then
   zeN to_ (⟨8,0,0,false,0,b0_job.key,⟨#[]⟩,(⟨0,0⟩:Peer),[],[]⟩:Msg) 5 b0_node (⟨b0_job.id,b0_job.kind,b0_job.bit,b0_job.key,b0_job.val,b0_job.target,b0_job.via,b0_job.at_,true,b0_job.hops,b0_job.tries,b0_job.due⟩:Job) r2
  else
   zeN to_ (⟨3,0,0,false,0,⟨#[]⟩,⟨#[]⟩,(⟨0,0⟩:Peer),[],[]⟩:Msg) 5 b0_node (⟨b0_job.id,b0_job.kind,b0_job.bit,b0_job.key,b0_job.val,b0_job.target,b0_job.via,b0_job.at_,true,b0_job.hops,b0_job.tries,b0_job.due⟩:Job) r2
theorem zwX {to_ b0_node b0_job r2 r} (h:zlo to_ b0_node b0_job r2=some r):zkc to_ b0_node b0_job r2=some r:=by
 unfold zlo at h
 refine zap fun γ=>?_
 rcases zaa h with ⟨h1,h⟩ | ⟨h1,h⟩
 obtain ⟨γ1,h2⟩:=zal h (gam [0,γ 1,γ 2])
 rcases r with ⟨b0_node1,za5,r1,r21⟩
 refine ⟨gam [0,(γ1 1),(γ1 2)],zab rfl ?_⟩;rotate_left
 rcases zaa h with ⟨h2,h⟩ | ⟨h2,h⟩
 obtain ⟨γ1,h3⟩:=zal h (gam [0,γ 1,γ 2])
 rcases r with ⟨b0_node1,za5,r1,r21⟩
 refine ⟨gam [0,(γ1 1),(γ1 2)],zab rfl ?_⟩;rotate_left
 obtain ⟨γ1,h3⟩:=zal h (gam [0,γ 1,γ 2])
 rcases r with ⟨b0_node1,za5,r1,r21⟩
 refine ⟨gam [0,(γ1 1),(γ1 2)],zab rfl ?_⟩;rotate_left
 all_goals (dsimp only [zdM,zdN] at *;show zar IF_ zIE _ _=_;exact fin_)
def zlt (f:Finger) (b1_node:Node) (b1_job:Job) (r3:List Out):Option (Bool):=
 some (Ops.std.ieq f.bit b1_job.bit)
theorem zlu {f b1_node b1_job r3 r} (h:zlt f b1_node b1_job r3=some r):zdy f b1_node b1_job r3=some r:=by
 unfold zlt at h
 refine zlz fun γ=>?_
 cases h;refine zab rfl ?_;rotate_left
 all_goals (dsimp only [zb4] at *;show zar IF_ zI3 _ _=_;exact fin_)
def zcu (b2_node:Node) (zaZ:Job) (r3:List Out) (γ:Nat → Nat):Int ⊕ Unit → X × St
 | .inl a0=>(.ret,⟨bd 4 (vI a0 :: bd 14 []),[.row 84 (γ 0) false (List.map zae b2_node.fingers),.box 120 [.bptr 2 0],.box 135 (capp (zaw b2_node (.sl 0 ((γ 0)))) (capp (cJob zaZ) ([.sl 3 ((γ 3))]))),.row 56 (γ 3) false (List.map eOut r3)]⟩)
 | .inr ()=>(.brk 0,⟨bd 19 [],[.row 84 (γ 0) false (List.map zae b2_node.fingers),.box 120 [.bptr 2 0],.box 135 (capp (zaw b2_node (.sl 0 ((γ 0)))) (capp (cJob zaZ) ([.sl 3 ((γ 3))]))),.row 56 (γ 3) false (List.map eOut r3)]⟩)
instance {b2_node zaZ r3}:InjS (zcu b2_node zaZ r3):=⟨fun γ γ' x y h=>by
 rcases x with a0 | _ <;> rcases y with a0' | _ <;> simp only [zcu] at h <;> exact inj_⟩
def zex (b2_node:Node) (zaZ:Job) (r3:List Out) (t8:Int):Option (Int ⊕ Unit):=askg (fun γ=>(lim F pr).loop [7,1,0,8] 4 zdW ⟨.sl 0 ((γ 0)) :: .fn 214 [.bptr 1 0] :: bd 5 (vI (xlen zae b2_node.fingers) :: vI t8 :: bd 10 []),[.row 84 (γ 0) false (List.map zae b2_node.fingers),.box 120 [.bptr 2 0],.box 135 (capp (zaw b2_node (.sl 0 ((γ 0)))) (capp (cJob zaZ) ([.sl 3 ((γ 3))]))),.row 56 (γ 3) false (List.map eOut r3)]⟩) (zcu b2_node zaZ r3)
def zct (b2_node:Node) (zaZ:Job) (r3:List Out) (t8:Int):Option (Int ⊕ Unit):=
 bif Ops.std.ilt t8 (xlen zae b2_node.fingers) then
  (xget zae b2_node.fingers t8).bind fun x=>
  (zdy x b2_node zaZ r3).bind fun res=>
  bif res then some (.inl t8) else
  zex b2_node zaZ r3 (Ops.std.iadd .i64 t8 1)
 else
  some (.inr ())
theorem zfw {b2_node zaZ r3 t8 r} (h:zct b2_node zaZ r3 t8=some r):zex b2_node zaZ r3 t8=some r:=by
 unfold zct at h
 refine zlz fun γ=>?_
 rcases zaa h with ⟨h1,h⟩ | ⟨h1,h⟩
 obtain ⟨x,h2,h⟩:=zac h
 obtain ⟨res,h3,h⟩:=zgy h (gam [0,0,(γ 0),(γ 3)])
 rcases zaa h with ⟨h4,h⟩ | ⟨h4,h⟩
 cases h;refine zad ?_;rotate_left
 have h0:=zoq h (gam [(γ 0),0,0,(γ 3)]);clear h;refine zad ?_;rotate_left
 cases h;refine zad ?_;rotate_left
 all_goals (dsimp only [zcu,zb4] at *;show zaR IF_ _ _ zdW zui _=_;generalize zdW=c0 at *;exact fin_)
def zhX (b2_node:Node) (zaZ:Job) (r3:List Out):Option (Int):=
 (zex b2_node zaZ r3 0).bind fun r=>match r with
  | .inl t4=>
   some t4
  | .inr ()=>
   some (-1)
theorem zsx {b2_node zaZ r3 r} (h:zhX b2_node zaZ r3=some r):zke b2_node zaZ r3=some r:=by
 unfold zhX at h
 refine zlz fun γ=>?_
 obtain ⟨r1,h1,h⟩:=zgy h (gam [γ 0,0,0,γ 3])
 rcases r1 with t4 | _
 cases h;refine zab rfl ?_;rotate_left
 cases h;refine zab rfl ?_;rotate_left
 all_goals (dsimp only [zdl,zcu] at *;show zar IF_ (zzu zdW) _ _=_;generalize zdW=c0 at *;exact fin_)
def zce (zaZ:Job) (r3:List Out) (γ:Nat → Nat):(Int × Node) → X × St
 | (a0,a1)=>(.brk 0,⟨.sl 0 ((γ 0)) :: bd 4 (vI a0 :: bd 36 []),[.row 84 (γ 0) false (List.map zae a1.fingers),.box 120 [.bptr 2 0],.box 135 (capp (zaw a1 (.sl 0 ((γ 0)))) (capp (cJob zaZ) ([.sl 3 ((γ 3))]))),.row 56 (γ 3) false (List.map eOut r3),.row 84 (γ 4) false (List.map zae [])]⟩)
instance {zaZ r3}:InjS (zce zaZ r3):=⟨fun γ γ' x y h=>by
 rcases x with ⟨a0,a1⟩ <;> rcases y with ⟨a0',a1'⟩ <;> simp only [zce] at h <;> exact inj_⟩
def zbZ (zaZ:Job) (r3:List Out) (i:Int) (j:Int) (b2_node':Node):Option ((Int × Node)):=asks (fun γ=>(lim F pr).loop [1,6,0,5] 5 zqh ⟨.sl 0 ((γ 0)) :: .fn 214 [.bptr 1 0] :: bd 3 (vI i :: vI j :: bd 35 []),[.row 84 (γ 0) false (List.map zae b2_node'.fingers),.box 120 [.bptr 2 0],.box 135 (capp (zaw b2_node' (.sl 0 ((γ 0)))) (capp (cJob zaZ) ([.sl 3 ((γ 3))]))),.row 56 (γ 3) false (List.map eOut r3),.row 84 (γ 4) false (List.map zae [])]⟩) (zce zaZ r3)
def zbM (zaZ:Job) (r3:List Out) (i:Int) (j:Int) (b2_node':Node):Option ((Int × Node)):=
 bif Ops.std.ilt j (xlen zae b2_node'.fingers) then
  (xget zae b2_node'.fingers j).bind fun x=>
  (zdy x b2_node' zaZ r3).bind fun res=>
  bif res then zbZ zaZ r3 i (Ops.std.iadd .i64 j 1) b2_node' else
  (xget zae b2_node'.fingers i).bind fun x1=>
  zbZ zaZ r3 (Ops.std.iadd .i64 i 1) (Ops.std.iadd .i64 j 1) (⟨b2_node'.me,b2_node'.clock,b2_node'.joined,b2_node'.pred,b2_node'.list,xset b2_node'.fingers i x,b2_node'.store,b2_node'.pends,b2_node'.jobs,b2_node'.results,b2_node'.rid,b2_node'.jobID,b2_node'.nextBit⟩:Node)
 else
  some (i,b2_node')
theorem zdc {zaZ r3 i j b2_node' r} (h:zbM zaZ r3 i j b2_node'=some r):zbZ zaZ r3 i j b2_node'=some r:=by
 unfold zbM at h
 refine zap fun γ=>?_
 rcases zaa h with ⟨h1,h⟩ | ⟨h1,h⟩
 obtain ⟨x,h2,h⟩:=zac h
 obtain ⟨res,h3,h⟩:=zgy h (gam [0,0,(γ 0),(γ 3)])
 rcases zaa h with ⟨h4,h⟩ | ⟨h4,h⟩
 replace h:=zal h (gam [(γ 0),0,0,(γ 3),(γ 4)]);obtain ⟨γ',h0⟩:=h;refine ⟨γ',zad ?_⟩;rotate_left
 obtain ⟨x1,h5,h⟩:=zac h
 replace h:=zal h (gam [(γ 0),0,0,(γ 3),(γ 4)]);obtain ⟨γ',h0⟩:=h;refine ⟨γ',zad ?_⟩;rotate_left
 cases h;refine ⟨gam [(γ 0),0,0,(γ 3),(γ 4)],zad ?_⟩;rotate_left
 all_goals (dsimp only [zce,zb4] at *;show zaR IF_ _ _ zqh zCV _=_;generalize zqh=c0 at *;exact fin_)
def zhJ (b2_node:Node) (zaZ:Job) (r3:List Out):Option (zhI):=
 (zke b2_node zaZ r3).bind fun res=>
 bif Ops.std.ieq res (-1) then
  some (b2_node.fingers,b2_node.me.id,b2_node.me.addr,b2_node.clock,b2_node.joined,b2_node.pred,b2_node.list,b2_node.store,b2_node.pends,b2_node.jobs,b2_node.results,b2_node.rid,b2_node.jobID,b2_node.nextBit)
 else
  (zbZ zaZ r3 res (Ops.std.iadd .i64 res 1) b2_node).bind fun ⟨i,b2_node'⟩=>
  (xsub zae b2_node'.fingers i (xlen zae b2_node'.fingers)).bind fun ys=>
  (xsub zae (xfil b2_node'.fingers i (xlen zae b2_node'.fingers) (⟨0,(⟨0,0⟩:Peer)⟩:Finger)) 0 i).bind fun ys1=>
  bif Ops.std.ieq 0 0 then
   some (ys1,b2_node'.me.id,b2_node'.me.addr,b2_node'.clock,b2_node'.joined,b2_node'.pred,b2_node'.list,b2_node'.store,b2_node'.pends,b2_node'.jobs,b2_node'.results,b2_node'.rid,b2_node'.jobID,b2_node'.nextBit)
  else
   none
theorem zst {b2_node zaZ r3 r} (h:zhJ b2_node zaZ r3=some r):zjk b2_node zaZ r3=some r:=by
 unfold zhJ at h
 refine zap fun γ=>?_
 obtain ⟨res,h1,h⟩:=zgy h (gam [γ 0,0,0,γ 3])
 rcases zaa h with ⟨h2,h⟩ | ⟨h2,h⟩
 cases h;refine ⟨gam [γ 0,0,0,γ 3,0,0,0,0,0,0,0,0,0,0,0,0,0,0,0,0,0,0,0,0,0,0,0,0,0,0,0,0,0,0,0,0,0,0,0,0,γ 0],zab rfl ?_⟩;rotate_left
 obtain ⟨r3,γ2,h3,h⟩:=zag h (gam [γ 0,0,0,γ 3,0])
 rcases r3 with ⟨i,b2_node'⟩
 obtain ⟨ys,h4,h⟩:=zac h
 obtain ⟨ys1,h5,h⟩:=zac h
 obtain ⟨h6,h⟩:=zat h
 cases h;refine ⟨gam [((γ2 0) + 1),0,0,(γ2 3),0,0,0,0,0,0,0,0,0,0,0,0,0,0,0,0,0,0,0,0,0,0,0,0,0,0,0,0,0,0,0,0,0,0,0,0,(γ2 0)],zab rfl ?_⟩;rotate_left
 all_goals (dsimp only [zcZ,zce,zdl] at *;show zar IF_ (zI2 zqh) _ _=_;generalize zqh=c0 at *;exact fin_)
def zmP (n:Node) (id:Int) (has:Bool) (val:ByteArray) (e_:Int):Option (Node):=
 (zeY n).bind fun ⟨zaO,zaB,zaM,zaG,zaT,zaQ,zax,zaJ,zaF,zaL,zay,zaW,zaN,zaC⟩=>
 (zmF zaL id).bind fun res=>
 bif Ops.std.ilt res 0 then
  some (⟨(⟨zaO,zaB⟩:Peer),zaM,zaG,zaT,zaQ,zax,zaJ,zaF,zaL,zay,zaW,zaN,zaC⟩:Node)
 else
  (xget eJob zaL res).bind fun x=>
  (zqJ res (Ops.std.iadd .i64 res 1) zaL).bind fun r0=>
  (zsY x has val e_ zaO zaB zaM zaG zaW zaN zaC zaT zaQ zax zaJ zaF r0 zay).bind fun r=>match r with
   | .inl (r7,r8)=>
    some (⟨(⟨zaO,zaB⟩:Peer),zaM,zaG,zaT,zaQ,zax,zaJ,zaF,r0,r8,zaW,zaN,zaC⟩:Node)
   | .inr ()=>
    some (⟨(⟨zaO,zaB⟩:Peer),zaM,zaG,zaT,zaQ,zax,zaJ,zaF,r0,zay,zaW,zaN,zaC⟩:Node)
theorem zyr {n id has val e_ r} (h:zmP n id has val e_=some r):zjy n id has val e_=some r:=by
 unfold zmP at h
 refine zas ?_
 obtain ⟨r1,h1,h⟩:=zac h
 rcases r1 with ⟨zaO,zaB,zaM,zaG,zaT,zaQ,zax,zaJ,zaF,zaL,zay,zaW,zaN,zaC⟩
 obtain ⟨res,h2,h⟩:=zac h
 rcases zaa h with ⟨h3,h⟩ | ⟨h3,h⟩
 cases h;refine zab rfl ?_;rotate_left
 obtain ⟨x,h4,h⟩:=zac h
 obtain ⟨r0,γ3,h5,h⟩:=zag h (gam [0])
 obtain ⟨r6,γ4,h6,h⟩:=zag h (gam [0,0,0,0,0,0,(γ3 0),0])
 rcases r6 with ⟨r7,r8⟩ | _
 cases h;refine zab rfl ?_;rotate_left
 cases h;refine zab rfl ?_;rotate_left
 all_goals (dsimp only [zhU,R1,zjz,zcm] at *;show zar IF_ zIM _ _=_;exact fin_)
def ziO (has:Bool) (val:ByteArray) (e_:Int) (b0_node:Node) (b0_job:Job) (r2:List Out):Option ((Node × (List Finger))):=
 (zjy b0_node b0_job.id has val e_).bind fun res=>
 some (res,b0_node.fingers)
theorem zt4 {has val e_ b0_node b0_job r2 r} (h:ziO has val e_ b0_node b0_job r2=some r):zbk has val e_ b0_node b0_job r2=some r:=by
 unfold ziO at h
 refine zap fun γ=>?_
 obtain ⟨res,h1,h⟩:=zac h
 cases h;refine ⟨gam [0,γ 1,γ 2],zab rfl ?_⟩;rotate_left
 all_goals (dsimp only [R1,zbr] at *;show zar IF_ zzs _ _=_;exact fin_)
def zfI (bit:Int) (p:Peer) (γ:Nat → Nat):(List Finger) → X × St
 | a0=>(.ret,⟨bd 6 (.sl 3 ((γ 3)) :: bd 37 []),[.box 3 [vI bit],.box 25 [vU p.id,vH p.addr],.row 84 (γ 2) false (List.map zae []),.row 84 (γ 3) false (List.map zae a0)]⟩)
instance {bit p}:InjS (zfI bit p):=⟨fun γ γ' x y h=>by
 rcases x with a0 <;> rcases y with a0' <;> simp only [zfI] at h <;> exact inj_⟩
def zsR (l:List Finger) (bit:Int) (p:Peer):Option ((List Finger)):=asks (fun γ=>(lim F pr).seg [6] zwi ⟨bd 4 (.bptr 0 0 :: .bptr 1 0 :: bd 1 (.sl 3 ((γ 3)) :: bd 36 [])),[.box 3 [vI bit],.box 25 [vU p.id,vH p.addr],.row 84 (γ 2) false (List.map zae []),.row 84 (γ 3) false (List.map zae l)]⟩) (zfI bit p)
def zlF (l:List Finger) (bit:Int) (p:Peer):Option ((List Finger)):=
 (zhV l bit).bind fun res=>
 bif Ops.std.ile 0 res then
  (xget zae l res).bind fun x=>
  some (xset l res (⟨x.bit,p⟩:Finger))
 else
  (zhW l bit).bind fun res1=>
  bif Ops.std.ilt res1 0 then
   bif zaK zae 24 l [(⟨bit,p⟩:Finger)] then
    (xsub zae l 0 (xlen zae l)).bind fun ys=>
    (xsub zae l (xlen zae l) (xlen zae l)).bind fun ys1=>
    some (ys ++ ([(⟨bit,p⟩:Finger)] ++ ys1))
   else
    none
  else
   bif zaK zae 24 l [(⟨bit,p⟩:Finger)] then
    (xsub zae l 0 res1).bind fun ys=>
    (xsub zae l res1 (xlen zae l)).bind fun ys1=>
    some (ys ++ ([(⟨bit,p⟩:Finger)] ++ ys1))
   else
    none
theorem zxc {l bit p r} (h:zlF l bit p=some r):zsR l bit p=some r:=by
 unfold zlF at h
 refine zap fun γ=>?_
 obtain ⟨res,h1,h⟩:=zgy h (gam [(γ 3),0])
 rcases zaa h with ⟨h2,h⟩ | ⟨h2,h⟩
 obtain ⟨x,h3,h⟩:=zac h
 cases h;refine ⟨gam [0,0,(γ 2),(γ 3)],zak ?_⟩;rotate_left
 obtain ⟨res1,h3,h⟩:=zgy h (gam [(γ 3),0])
 rcases zaa h with ⟨h4,h⟩ | ⟨h4,h⟩
 obtain ⟨h5,h⟩:=zat h
 obtain ⟨ys,h6,h⟩:=zac h
 obtain ⟨ys1,h7,h⟩:=zac h
 cases h;refine ⟨gam [0,0,(γ 2),((γ 3) + 1)],zak ?_⟩;rotate_left
 obtain ⟨h5,h⟩:=zat h
 obtain ⟨ys,h6,h⟩:=zac h
 obtain ⟨ys1,h7,h⟩:=zac h
 cases h;refine ⟨gam [0,0,(γ 2),((γ 3) + 1)],zak ?_⟩;rotate_left
 all_goals (dsimp only [zcK,zcL,zfI] at *;show Ifc.apart IF_ _ zCW _=_;exact fin_)
def zpb (l:List Finger) (bit:Int) (p:Peer):Option ((List Finger)):=
 bif zaK zae 24 [] l then
  bif Ops.std.ilt bit 0 then some l else
  bif Ops.std.ilt 63 bit then some l else
  zsR l bit p
 else
  none
theorem zBt {l bit p r} (h:zpb l bit p=some r):zsQ l bit p=some r:=by
 unfold zpb at h
 refine zas ?_
 obtain ⟨h1,h⟩:=zat h
 rcases zaa h with ⟨h2,h⟩ | ⟨h2,h⟩
 cases h;refine zab rfl ?_;rotate_left
 rcases zaa h with ⟨h3,h⟩ | ⟨h3,h⟩
 cases h;refine zab rfl ?_;rotate_left
 obtain ⟨γ1,h4⟩:=zal h (gam [0,0,0,0])
 rcases r with r3
 refine zab rfl ?_;rotate_left
 all_goals (dsimp only [R1,zfI] at *;show zar IF_ (zI4 zwi) _ _=_;generalize zwi=c0 at *;exact fin_)
def zlw (has:Bool) (val:ByteArray) (e_:Int) (b0_node:Node) (b0_job:Job) (r1:List Out):Option (Node):=
 zjy b0_node b0_job.id has val e_
theorem zrW {has val e_ b0_node b0_job r1 r} (h:zlw has val e_ b0_node b0_job r1=some r):zdD has val e_ b0_node b0_job r1=some r:=by
 unfold zlw at h
 refine zap fun γ=>?_
 have h1:=ask_some h
 rcases r with res
 refine ⟨gam [0,γ 1],zab rfl ?_⟩;rotate_left
 all_goals (dsimp only [R1,zb5] at *;show zar IF_ zzs _ _=_;exact fin_)
def zfj (owner:Peer) (mine:Bool) (b0_node:Node) (b0_job:Job) (r2:List Out):Option ((Node × (List Finger))):=
 bif mine then
  (zjk b0_node b0_job r2).bind fun ⟨r0,zr1,zos,zrZ,zql,zsG,zsF,zr3,zr2,zsE,zou,zuV,zr0,zot⟩=>
  zbk false ⟨#[]⟩ 0 (⟨(⟨zr1,zos⟩:Peer),zrZ,zql,zsG,zsF,r0,zr3,zr2,zsE,zou,zuV,zr0,zot⟩:Node) b0_job r2
 else
  (zsQ b0_node.fingers b0_job.bit owner).bind fun res=>
  (zdD false ⟨#[]⟩ 0 (⟨b0_node.me,b0_node.clock,b0_node.joined,b0_node.pred,b0_node.list,res,b0_node.store,b0_node.pends,b0_node.jobs,b0_node.results,b0_node.rid,b0_node.jobID,b0_node.nextBit⟩:Node) b0_job r2).bind fun b0_node1=>
  some (b0_node1,b0_node.fingers)
theorem zmM {owner mine b0_node b0_job r2 r} (h:zfj owner mine b0_node b0_job r2=some r):zkr owner mine b0_node b0_job r2=some r:=by
 unfold zfj at h
 refine zap fun γ=>?_
 rcases zaa h with ⟨h1,h⟩ | ⟨h1,h⟩
 obtain ⟨r2,γ1,h2,h⟩:=zag h (gam [γ 1,0,0,γ 2])
 rcases r2 with ⟨r0,zr1,zos,zrZ,zql,zsG,zsF,zr3,zr2,zsE,zou,zuV,zr0,zot⟩
 obtain ⟨γ2,h3⟩:=zal h (gam [0,(γ1 0),(γ1 3)])
 rcases r with ⟨b0_node1,r1⟩
 refine ⟨gam [0,(γ2 1),(γ2 2)],zab rfl ?_⟩;rotate_left
 obtain ⟨res,h2,h⟩:=zac h
 obtain ⟨b0_node1,γ2,h3,h⟩:=zag h (gam [0,γ 2])
 cases h;refine ⟨gam [0,γ 1,(γ2 1)],zab rfl ?_⟩;rotate_left
 all_goals (dsimp only [zcZ,R1,zdz,zb5,zbr] at *;show zar IF_ zIF _ _=_;exact fin_)
abbrev zlh:=(Node × (List Entry) × (List Entry) × (List Finger) × (List Pair) × (List Pend) × (List Job) × (List Result) × (List Peer) × (List Out))
def ze4 (γ:Nat → Nat):zlh → X × St
 | (a0,a1,a2,a3,a4,a5,a6,a7,a8,a9)=>(.brk 0,⟨bd 3 (.bptr 0 0 :: bd 2 (.bptr 1 0 :: bd 5 (.sl 11 ((γ 11)) :: bd 50 []))),[.box 34 (zao a0),.box 34 ([vU 0,vH 0,vI 0,vF false,.lit 0 true [],.lit 0 true [],.lit 0 true [],.lit 0 true [],.lit 0 true [],.lit 0 true [],.lit 0 true [],vW 0,vI 0,vI 0]),.row 56 (γ 2) false (List.map eOut []),.row 81 (γ 3) true (List.map zai a1),.row 81 (γ 4) true (List.map zai a2),.row 84 (γ 5) true (List.map zae a3),.row 78 (γ 6) true (List.map zan a4),.row 88 (γ 7) true (List.map za4 a5),.row 67 (γ 8) true (List.map eJob a6),.row 60 (γ 9) true (List.map zaq a7),.row 25 (γ 10) true (List.map zah a8),.row 56 (γ 11) false (List.map eOut a9)]⟩)
instance :InjS ze4:=⟨fun γ γ' x y h=>by
 rcases x with ⟨a0,a1,a2,a3,a4,a5,a6,a7,a8,a9⟩ <;> rcases y with ⟨a0',a1',a2',a3',a4',a5',a6',a7',a8',a9'⟩ <;> simp only [ze4] at h <;> exact inj_⟩
def zeL (key:ByteArray) (val:ByteArray) (t40:List Peer) (t41:Int) (t42:Int) (b0:Node) (r3:List Entry) (r4:List Entry) (r5:List Finger) (r6:List Pair) (r7:List Pend) (r8:List Job) (r9:List Result) (r10:List Peer) (r11:List Out):Option (zlh):=asks (fun γ=>(lim F pr).loop [41,40,1,2,42,3,12,6] 12 zuf ⟨bd 1 (vT key :: vT val :: .bptr 0 0 :: bd 2 (.bptr 1 0 :: bd 5 (.sl 11 ((γ 11)) :: bd 27 (.lit 25 false (List.map zah t40) :: vI t41 :: vI t42 :: bd 20 [])))),[.box 34 (zao b0),.box 34 ([vU 0,vH 0,vI 0,vF false,.lit 0 true [],.lit 0 true [],.lit 0 true [],.lit 0 true [],.lit 0 true [],.lit 0 true [],.lit 0 true [],vW 0,vI 0,vI 0]),.row 56 (γ 2) false (List.map eOut []),.row 81 (γ 3) true (List.map zai r3),.row 81 (γ 4) true (List.map zai r4),.row 84 (γ 5) true (List.map zae r5),.row 78 (γ 6) true (List.map zan r6),.row 88 (γ 7) true (List.map za4 r7),.row 67 (γ 8) true (List.map eJob r8),.row 60 (γ 9) true (List.map zaq r9),.row 25 (γ 10) true (List.map zah r10),.row 56 (γ 11) false (List.map eOut r11)]⟩) ze4
def zhS (key:ByteArray) (val:ByteArray) (t40:List Peer) (t41:Int) (t42:Int) (b0:Node) (r3:List Entry) (r4:List Entry) (r5:List Finger) (r6:List Pair) (r7:List Pend) (r8:List Job) (r9:List Result) (r10:List Peer) (r11:List Out):Option (zlh):=
 bif Ops.std.ilt t42 t41 then
  (xget zah t40 t42).bind fun x=>
  (zrR b0 x [(⟨key,val⟩:Pair)] true).bind fun ⟨r0,r1⟩=>
  bif zaK eOut 136 r11 r1 then
   zeL key val t40 t41 (Ops.std.iadd .i64 t42 1) r0 r3 r4 r5 r6 r7 r8 r9 r10 (r11 ++ r1)
  else
   none
 else
  some (b0,r3,r4,r5,r6,r7,r8,r9,r10,r11)
theorem zoZ {key val t40 t41 t42 b0 r3 r4 r5 r6 r7 r8 r9 r10 r11 r} (h:zhS key val t40 t41 t42 b0 r3 r4 r5 r6 r7 r8 r9 r10 r11=some r):zeL key val t40 t41 t42 b0 r3 r4 r5 r6 r7 r8 r9 r10 r11=some r:=by
 unfold zhS at h
 refine zap fun γ=>?_
 rcases zaa h with ⟨h1,h⟩ | ⟨h1,h⟩
 obtain ⟨x,h2,h⟩:=zac h
 obtain ⟨r3,h3,h⟩:=zac h
 rcases r3 with ⟨r0,r1⟩
 obtain ⟨h4,h⟩:=zat h
 replace h:=zal h (gam [0,0,(γ 2),(γ 3),(γ 4),(γ 5),(γ 6),(γ 7),(γ 8),(γ 9),(γ 10),((γ 11) + 1)]);obtain ⟨γ',h0⟩:=h;refine ⟨γ',zad ?_⟩;rotate_left
 cases h;refine ⟨gam [0,0,(γ 2),(γ 3),(γ 4),(γ 5),(γ 6),(γ 7),(γ 8),(γ 9),(γ 10),(γ 11)],zad ?_⟩;rotate_left
 all_goals (dsimp only [R2,ze4] at *;show zaR IF_ _ _ zuf zEW _=_;generalize zuf=c0 at *;exact fin_)
def zn9 (n:Node) (key:ByteArray) (val:ByteArray):Option ((Node × (List Out) × Int)):=
 (zeY n).bind fun ⟨zaO,zaB,zaM,zaG,zaT,zaQ,zax,zaJ,zaF,zaL,zay,zaW,zaN,zaC⟩=>
 (ztL zaJ key val).bind fun ⟨r0,r1⟩=>
 bif Ops.std.ieq r1 0 then
  (zkU zaQ).bind fun res=>
  bif Ops.std.ilt 2 (xlen zah res) then
   (xsub zah res 0 2).bind fun ys=>
   (zeL key val ys (xlen zah ys) 0 (⟨(⟨zaO,zaB⟩:Peer),zaM,zaG,zaT,zaQ,zax,r0,zaF,zaL,zay,zaW,zaN,zaC⟩:Node) zaT zaQ zax zaJ zaF zaL zay res []).bind fun ⟨b0,r3,r4,r5,r6,r7,r8,r9,r10,r11⟩=>
   some (b0,r11,0)
  else
   (xsub zah res 0 (xlen zah res)).bind fun ys=>
   (zeL key val ys (xlen zah ys) 0 (⟨(⟨zaO,zaB⟩:Peer),zaM,zaG,zaT,zaQ,zax,r0,zaF,zaL,zay,zaW,zaN,zaC⟩:Node) zaT zaQ zax zaJ zaF zaL zay res []).bind fun ⟨b0,r3,r4,r5,r6,r7,r8,r9,r10,r11⟩=>
   some (b0,r11,0)
 else
  some ((⟨(⟨zaO,zaB⟩:Peer),zaM,zaG,zaT,zaQ,zax,zaJ,zaF,zaL,zay,zaW,zaN,zaC⟩:Node),[],r1)
theorem zAV {n key val r} (h:zn9 n key val=some r):zrS n key val=some r:=by
 unfold zn9 at h
 refine zas ?_
 obtain ⟨r1,h1,h⟩:=zac h
 rcases r1 with ⟨zaO,zaB,zaM,zaG,zaT,zaQ,zax,zaJ,zaF,zaL,zay,zaW,zaN,zaC⟩
 obtain ⟨r2,h2,h⟩:=zac h
 rcases r2 with ⟨r0,r1⟩
 rcases zaa h with ⟨h3,h⟩ | ⟨h3,h⟩
 obtain ⟨res,h4,h⟩:=zac h
 rcases zaa h with ⟨h5,h⟩ | ⟨h5,h⟩
 obtain ⟨ys,h6,h⟩:=zac h
 obtain ⟨r7,γ4,h7,h⟩:=zag h (gam [0,0,0,0,0,0,0,0,0,0,0,0])
 rcases r7 with ⟨b0,r3,r4,r5,r6,r7,r8,r9,r10,r11⟩
 cases h;refine zab rfl ?_;rotate_left
 obtain ⟨ys,h6,h⟩:=zac h
 obtain ⟨r7,γ4,h7,h⟩:=zag h (gam [0,0,0,0,0,0,0,0,0,0,0,0])
 rcases r7 with ⟨b0,r3,r4,r5,r6,r7,r8,r9,r10,r11⟩
 cases h;refine zab rfl ?_;rotate_left
 cases h;refine zab rfl ?_;rotate_left
 all_goals (dsimp only [K1,R2,R3,zcm,ze4] at *;show zar IF_ (g20F zuf) _ _=_;generalize zuf=c0 at *;exact fin_)
def zgV (has:Bool) (val:ByteArray) (e_:Int) (b0_node:Node) (b0_job:Job) (r2:List Out):Option ((Node × (List Finger))):=
 (zjy b0_node b0_job.id has val e_).bind fun res=>
 some (res,b0_node.fingers)
theorem zrX {has val e_ b0_node b0_job r2 r} (h:zgV has val e_ b0_node b0_job r2=some r):ziN has val e_ b0_node b0_job r2=some r:=by
 unfold zgV at h
 refine zap fun γ=>?_
 obtain ⟨res,h1,h⟩:=zac h
 cases h;refine ⟨gam [0,γ 1,γ 2],zab rfl ?_⟩;rotate_left
 all_goals (dsimp only [R1,zcV] at *;show zar IF_ zzs _ _=_;exact fin_)
def zkv (b0_node:Node) (b0_job:Job) (r2:List Out):Option ((Node × (List Finger) × (List Out))):=
 (zrS b0_node b0_job.key b0_job.val).bind fun ⟨r0,r1,r21⟩=>
 bif Ops.std.ieq r21 0 then
  (zgx r0 r1 b0_node b0_job r2).bind fun ⟨r11,r22⟩=>
  (zdD true b0_job.val 0 r0 b0_job r22).bind fun b0_node1=>
  some (b0_node1,r11,r22)
 else
  (ziN false ⟨#[]⟩ r21 b0_node b0_job r2).bind fun ⟨b0_node1,r11⟩=>
  some (b0_node1,r11,r2)
theorem zvR {b0_node b0_job r2 r} (h:zkv b0_node b0_job r2=some r):zma b0_node b0_job r2=some r:=by
 unfold zkv at h
 refine zap fun γ=>?_
 obtain ⟨r1,h1,h⟩:=zac h
 rcases r1 with ⟨r0,r1,r21⟩
 rcases zaa h with ⟨h2,h⟩ | ⟨h2,h⟩
 obtain ⟨r3,γ2,h3,h⟩:=zag h (gam [0,γ 1,γ 2])
 rcases r3 with ⟨r11,r22⟩
 obtain ⟨b0_node1,γ3,h4,h⟩:=zag h (gam [0,(γ2 2)])
 cases h;refine ⟨gam [0,(γ2 1),(γ3 1)],zab rfl ?_⟩;rotate_left
 obtain ⟨r3,γ2,h3,h⟩:=zag h (gam [0,γ 1,γ 2])
 rcases r3 with ⟨b0_node1,r11⟩
 cases h;refine ⟨gam [0,(γ2 1),(γ2 2)],zab rfl ?_⟩;rotate_left
 all_goals (dsimp only [R3,zev,zb5,zcV,zcr] at *;show zar IF_ zIG _ _=_;exact fin_)
def zmu (l:List Pair) (key:ByteArray):Option ((ByteArray × Bool)):=
 (zmv l key).bind fun res=>
 bif Ops.std.ilt res 0 then some (⟨#[]⟩,false) else
 (xget zan l res).bind fun x=>
 some (x.val,true)
theorem zB7 {l key r} (h:zmu l key=some r):ztK l key=some r:=by
 unfold zmu at h
 refine zas ?_
 obtain ⟨res,h1,h⟩:=zac h
 rcases zaa h with ⟨h2,h⟩ | ⟨h2,h⟩
 cases h;refine zab rfl ?_;rotate_left
 obtain ⟨x,h3,h⟩:=zac h
 cases h;refine zab rfl ?_;rotate_left
 all_goals (dsimp only [R1,R2] at *;show zar IF_ zIm _ _=_;exact fin_)
abbrev ziJ:=(Node × Job × (List Finger) × (List Out))
def zdx (owner:Peer) (γ:Nat → Nat):ziJ → X × St
 | (a0,a1,a2,a3)=>(.nor,⟨bd 87 [],[.box 135 (capp (zao a0) (capp (cJob a1) ([.sl 2 ((γ 2))]))),.row 84 (γ 1) true (List.map zae a2),.row 56 (γ 2) false (List.map eOut a3),.box 25 [vU owner.id,vH owner.addr]]⟩)
instance {owner}:InjS (zdx owner):=⟨fun γ γ' x y h=>by
 rcases x with ⟨a0,a1,a2,a3⟩ <;> rcases y with ⟨a0',a1',a2',a3'⟩ <;> simp only [zdx] at h <;> exact inj_⟩
def zgR (owner:Peer) (b0_node:Node) (b0_job:Job) (r2:List Out) (t19:Bool):Option (ziJ):=asks (fun γ=>(lim F pr).seg [] zv0 ⟨.bptr 0 0 :: bd 2 (.bptr 3 0 :: vF (Ops.std.ieq owner.addr b0_node.me.addr) :: bd 14 (vF t19 :: bd 67 [])),[.box 135 (capp (zaw b0_node (.sl 1 ((γ 1)))) (capp (cJob b0_job) ([.sl 2 ((γ 2))]))),.row 84 (γ 1) false (List.map zae b0_node.fingers),.row 56 (γ 2) false (List.map eOut r2),.box 25 [vU owner.id,vH owner.addr]]⟩) (zdx owner)
abbrev ziI:=(Node × Job × (List Finger) × (List Out))
def zdv (owner:Peer) (γ:Nat → Nat):ziI → X × St
 | (a0,a1,a2,a3)=>(.nor,⟨bd 87 [],[.box 135 (capp (zao a0) (capp (cJob a1) ([.sl 2 ((γ 2))]))),.row 84 (γ 1) true (List.map zae a2),.row 56 (γ 2) false (List.map eOut a3),.box 25 [vU owner.id,vH owner.addr]]⟩)
instance {owner}:InjS (zdv owner):=⟨fun γ γ' x y h=>by
 rcases x with ⟨a0,a1,a2,a3⟩ <;> rcases y with ⟨a0',a1',a2',a3'⟩ <;> simp only [zdv] at h <;> exact inj_⟩
def zgQ (owner:Peer) (b0_node:Node) (b0_job:Job) (r2:List Out) (mine:Bool) (t47:Bool):Option (ziI):=asks (fun γ=>(lim F pr).seg [] zvZ ⟨.bptr 0 0 :: bd 2 (.bptr 3 0 :: vF mine :: bd 42 (vF t47 :: bd 39 [])),[.box 135 (capp (zaw b0_node (.sl 1 ((γ 1)))) (capp (cJob b0_job) ([.sl 2 ((γ 2))]))),.row 84 (γ 1) false (List.map zae b0_node.fingers),.row 56 (γ 2) false (List.map eOut r2),.box 25 [vU owner.id,vH owner.addr]]⟩) (zdv owner)
abbrev ziH:=(Node × Job × (List Finger) × (List Out))
def zdt (owner:Peer) (γ:Nat → Nat):ziH → X × St
 | (a0,a1,a2,a3)=>(.nor,⟨bd 87 [],[.box 135 (capp (zao a0) (capp (cJob a1) ([.sl 2 ((γ 2))]))),.row 84 (γ 1) true (List.map zae a2),.row 56 (γ 2) false (List.map eOut a3),.box 25 [vU owner.id,vH owner.addr]]⟩)
instance {owner}:InjS (zdt owner):=⟨fun γ γ' x y h=>by
 rcases x with ⟨a0,a1,a2,a3⟩ <;> rcases y with ⟨a0',a1',a2',a3'⟩ <;> simp only [zdt] at h <;> exact inj_⟩
def zgP (owner:Peer) (b0_node:Node) (b0_job:Job) (r2:List Out) (t59:Bool):Option (ziH):=asks (fun γ=>(lim F pr).seg [] zvY ⟨.bptr 0 0 :: bd 2 (.bptr 3 0 :: bd 55 (vF t59 :: bd 27 [])),[.box 135 (capp (zaw b0_node (.sl 1 ((γ 1)))) (capp (cJob b0_job) ([.sl 2 ((γ 2))]))),.row 84 (γ 1) false (List.map zae b0_node.fingers),.row 56 (γ 2) false (List.map eOut r2),.box 25 [vU owner.id,vH owner.addr]]⟩) (zdt owner)
def zbW (owner:Peer) (b0_node:Node) (b0_job:Job) (r2:List Out) (t19:Bool):Option (ziJ):=
 bif t19 then zkc b0_job.via b0_node b0_job r2 else
 bif Ops.std.ieq b0_job.kind 4 then
  (zkr owner (Ops.std.ieq owner.addr b0_node.me.addr) b0_node b0_job r2).bind fun ⟨b0_node1,r1⟩=>
  some (b0_node1,b0_job,r1,r2)
 else
  bif Ops.std.ieq b0_job.kind 2 then
   zgQ owner b0_node b0_job r2 (Ops.std.ieq owner.addr b0_node.me.addr) (Ops.std.ieq owner.addr b0_node.me.addr)
  else
   zgQ owner b0_node b0_job r2 (Ops.std.ieq owner.addr b0_node.me.addr) false
theorem zdw {owner b0_node b0_job r2 t19 r} (h:zbW owner b0_node b0_job r2 t19=some r):zgR owner b0_node b0_job r2 t19=some r:=by
 unfold zbW at h
 refine zap fun γ=>?_
 rcases zaa h with ⟨h1,h⟩ | ⟨h1,h⟩
 obtain ⟨γ1,h2⟩:=zal h (gam [0,(γ 1),(γ 2)])
 rcases r with ⟨b0_node1,za5,r1,r21⟩
 refine ⟨gam [0,(γ1 1),(γ1 2)],zak ?_⟩;rotate_left
 rcases zaa h with ⟨h2,h⟩ | ⟨h2,h⟩
 obtain ⟨r3,γ1,h3,h⟩:=zag h (gam [0,(γ 1),(γ 2)])
 rcases r3 with ⟨b0_node1,r1⟩
 cases h;refine ⟨gam [0,(γ1 1),(γ1 2)],zak ?_⟩;rotate_left
 rcases zaa h with ⟨h3,h⟩ | ⟨h3,h⟩
 obtain ⟨γ1,h4⟩:=zal h (gam [0,(γ 1),(γ 2)])
 rcases r with ⟨znB,zpZ,r1,r2'⟩
 refine ⟨gam [0,(γ1 1),(γ1 2)],zak ?_⟩;rotate_left
 obtain ⟨γ1,h4⟩:=zal h (gam [0,(γ 1),(γ 2)])
 rcases r with ⟨znB,zpZ,r1,r2'⟩
 refine ⟨gam [0,(γ1 1),(γ1 2)],zak ?_⟩;rotate_left
 all_goals (dsimp only [zdM,zdv,zdx,zdz] at *;show Ifc.apart IF_ _ (zCm zvZ) _=_;generalize zvZ=c0 at *;exact fin_)
def zbV (owner:Peer) (b0_node:Node) (b0_job:Job) (r2:List Out) (mine:Bool) (t47:Bool):Option (ziI):=
 bif t47 then
  (zma b0_node b0_job r2).bind fun ⟨b0_node1,r1,r21⟩=>
  some (b0_node1,b0_job,r1,r21)
 else
  bif Ops.std.ieq b0_job.kind 3 then zgP owner b0_node b0_job r2 mine else
  zgP owner b0_node b0_job r2 false
theorem zdu {owner b0_node b0_job r2 mine t47 r} (h:zbV owner b0_node b0_job r2 mine t47=some r):zgQ owner b0_node b0_job r2 mine t47=some r:=by
 unfold zbV at h
 refine zap fun γ=>?_
 rcases zaa h with ⟨h1,h⟩ | ⟨h1,h⟩
 obtain ⟨r2,γ1,h2,h⟩:=zag h (gam [0,(γ 1),(γ 2)])
 rcases r2 with ⟨b0_node1,r1,r21⟩
 cases h;refine ⟨gam [0,(γ1 1),(γ1 2)],zak ?_⟩;rotate_left
 rcases zaa h with ⟨h2,h⟩ | ⟨h2,h⟩
 obtain ⟨γ1,h3⟩:=zal h (gam [0,(γ 1),(γ 2)])
 rcases r with ⟨znB,zpZ,r1,r2'⟩
 refine ⟨gam [0,(γ1 1),(γ1 2)],zak ?_⟩;rotate_left
 obtain ⟨γ1,h3⟩:=zal h (gam [0,(γ 1),(γ 2)])
 rcases r with ⟨znB,zpZ,r1,r2'⟩
 refine ⟨gam [0,(γ1 1),(γ1 2)],zak ?_⟩;rotate_left
 all_goals (dsimp only [zdt,zdv,zev] at *;show Ifc.apart IF_ _ (zCl zvY) _=_;generalize zvY=c0 at *;exact fin_)
def zfi (owner:Peer) (b0_node:Node) (b0_job:Job) (r2:List Out) (t59:Bool):Option (ziH):=
 bif t59 then
  (ztK b0_node.store b0_job.key).bind fun ⟨r0,r1⟩=>
  (zbk r1 r0 0 b0_node b0_job r2).bind fun ⟨b0_node1,r11⟩=>
  some (b0_node1,b0_job,r11,r2)
 else
  zkc owner b0_node b0_job r2
theorem zmL {owner b0_node b0_job r2 t59 r} (h:zfi owner b0_node b0_job r2 t59=some r):zgP owner b0_node b0_job r2 t59=some r:=by
 unfold zfi at h
 refine zap fun γ=>?_
 rcases zaa h with ⟨h1,h⟩ | ⟨h1,h⟩
 obtain ⟨r2,h2,h⟩:=zac h
 rcases r2 with ⟨r0,r1⟩
 obtain ⟨r3,γ2,h3,h⟩:=zag h (gam [0,(γ 1),(γ 2)])
 rcases r3 with ⟨b0_node1,r11⟩
 cases h;refine ⟨gam [0,(γ2 1),(γ2 2)],zak ?_⟩;rotate_left
 obtain ⟨γ1,h2⟩:=zal h (gam [0,(γ 1),(γ 2)])
 rcases r with ⟨b0_node1,za5,r1,r21⟩
 refine ⟨gam [0,(γ1 1),(γ1 2)],zak ?_⟩;rotate_left
 all_goals (dsimp only [R2,zdM,zdt,zbr] at *;show Ifc.apart IF_ _ zCk _=_;exact fin_)
def zfh (owner:Peer) (b0_node:Node) (b0_job:Job) (r2:List Out):Option (zlr):=
 bif Ops.std.ieq b0_job.kind 1 then
  zgR owner b0_node b0_job r2 (Ops.std.ieq owner.addr b0_node.me.addr)
 else
  zgR owner b0_node b0_job r2 false
theorem zls {owner b0_node b0_job r2 r} (h:zfh owner b0_node b0_job r2=some r):zhC owner b0_node b0_job r2=some r:=by
 unfold zfh at h
 refine zap fun γ=>?_
 rcases zaa h with ⟨h1,h⟩ | ⟨h1,h⟩
 obtain ⟨γ1,h2⟩:=zal h (gam [0,γ 1,γ 2])
 rcases r with ⟨znB,zpZ,r1,r2'⟩
 refine ⟨gam [0,(γ1 1),(γ1 2)],zab rfl ?_⟩;rotate_left
 obtain ⟨γ1,h2⟩:=zal h (gam [0,γ 1,γ 2])
 rcases r with ⟨znB,zpZ,r1,r2'⟩
 refine ⟨gam [0,(γ1 1),(γ1 2)],zab rfl ?_⟩;rotate_left
 all_goals (dsimp only [zdO,zdx] at *;show zar IF_ (zIa zv0) _ _=_;generalize zv0=c0 at *;exact fin_)
def znf (to_:Peer) (m:Msg) (why:Int) (b0_node:Node) (b0_job:Job) (r2:List Out):Option (zjt):=
 (zdP b0_node (⟨b0_job.id,b0_job.kind,b0_job.bit,b0_job.key,b0_job.val,b0_job.target,b0_job.via,to_,b0_job.doing,b0_job.hops,b0_job.tries,b0_job.due⟩:Job) r2).bind fun ⟨b0_node1,r1⟩=>
 (zlN b0_node1 to_ m why b0_job.id).bind fun ⟨r0,r11⟩=>
 (zgx r0 r11 b0_node1 (⟨b0_job.id,b0_job.kind,b0_job.bit,b0_job.key,b0_job.val,b0_job.target,b0_job.via,to_,b0_job.doing,b0_job.hops,b0_job.tries,b0_job.due⟩:Job) r2).bind fun ⟨r12,r21⟩=>
 some (r0,(⟨b0_job.id,b0_job.kind,b0_job.bit,b0_job.key,b0_job.val,b0_job.target,b0_job.via,to_,b0_job.doing,b0_job.hops,b0_job.tries,b0_job.due⟩:Job),r1,r21)
theorem zuT {to_ m why b0_node b0_job r2 r} (h:znf to_ m why b0_node b0_job r2=some r):zlp to_ m why b0_node b0_job r2=some r:=by
 unfold znf at h
 refine zap fun γ=>?_
 obtain ⟨r1,γ1,h1,h⟩:=zag h (gam [0,γ 1,γ 2])
 rcases r1 with ⟨b0_node1,r1⟩
 obtain ⟨r2,h2,h⟩:=zac h
 rcases r2 with ⟨r0,r11⟩
 obtain ⟨r3,γ3,h3,h⟩:=zag h (gam [0,(γ1 3),(γ1 2)])
 rcases r3 with ⟨r12,r21⟩
 cases h;refine ⟨gam [0,(γ1 1),(γ3 2)],zab rfl ?_⟩;rotate_left
 all_goals (dsimp only [R2,zd2,zcW,zcr] at *;show zar IF_ zDQ _ _=_;exact fin_)
def zmN (to_:Peer) (b0_node:Node) (b0_job:Job) (r2:List Out):Option (ziK):=
 zlp to_ (⟨1,0,0,false,b0_job.target,⟨#[]⟩,⟨#[]⟩,(⟨0,0⟩:Peer),[],[]⟩:Msg) 4 b0_node b0_job r2
theorem zt2 {to_ b0_node b0_job r2 r} (h:zmN to_ b0_node b0_job r2=some r):zks to_ b0_node b0_job r2=some r:=by
 unfold zmN at h
 refine zap fun γ=>?_
 obtain ⟨γ1,h1⟩:=zal h (gam [0,γ 1,γ 2])
 rcases r with ⟨b0_node1,za5,r1,r21⟩
 refine ⟨gam [0,(γ1 1),(γ1 2)],zab rfl ?_⟩;rotate_left
 all_goals (dsimp only [zd2,zdA] at *;show zar IF_ zDN _ _=_;exact fin_)
def zew (b0_node:Node) (b0_job:Job) (r2:List Out):Option (zkw):=
 bif Ops.std.ieq b0_job.kind 1 then
  zcF b0_job.via b0_node (⟨b0_job.id,b0_job.kind,b0_job.bit,b0_job.key,b0_job.val,b0_job.target,b0_job.via,b0_job.at_,false,0,b0_job.tries,b0_job.due⟩:Job) r2
 else
  (zrO b0_node b0_job.target).bind fun ⟨r0,r1,r21⟩=>
  bif r21 then
   (zdP b0_node (⟨b0_job.id,b0_job.kind,b0_job.bit,b0_job.key,b0_job.val,b0_job.target,b0_job.via,b0_job.at_,false,0,b0_job.tries,b0_job.due⟩:Job) r2).bind fun ⟨b0_node1,r11⟩=>
   (zhC r0 b0_node1 (⟨b0_job.id,b0_job.kind,b0_job.bit,b0_job.key,b0_job.val,b0_job.target,b0_job.via,b0_job.at_,false,0,b0_job.tries,b0_job.due⟩:Job) r2).bind fun ⟨zzG,za5,r12,r22⟩=>
   some (zzG,za5,r11,r22)
  else
   (xget zah r1 0).bind fun x=>
   zks x b0_node (⟨b0_job.id,b0_job.kind,b0_job.bit,b0_job.key,b0_job.val,b0_job.target,b0_job.via,b0_job.at_,false,1,b0_job.tries,b0_job.due⟩:Job) r2
theorem zkx {b0_node b0_job r2 r} (h:zew b0_node b0_job r2=some r):zda b0_node b0_job r2=some r:=by
 unfold zew at h
 refine zap fun γ=>?_
 rcases zaa h with ⟨h1,h⟩ | ⟨h1,h⟩
 obtain ⟨γ1,h2⟩:=zal h (gam [0,γ 1,γ 2])
 rcases r with ⟨b0_node1,za5,r1,r21⟩
 refine ⟨gam [0,(γ1 1),(γ1 2)],zab rfl ?_⟩;rotate_left
 obtain ⟨r2,h2,h⟩:=zac h
 rcases r2 with ⟨r0,r1,r21⟩
 rcases zaa h with ⟨h3,h⟩ | ⟨h3,h⟩
 obtain ⟨r4,γ2,h4,h⟩:=zag h (gam [0,γ 1,γ 2])
 rcases r4 with ⟨b0_node1,r11⟩
 obtain ⟨r5,γ3,h5,h⟩:=zag h (gam [0,(γ2 3),(γ2 2)])
 rcases r5 with ⟨zzG,za5,r12,r22⟩
 cases h;refine ⟨gam [0,(γ2 1),(γ3 2)],zab rfl ?_⟩;rotate_left
 obtain ⟨x,h4,h⟩:=zac h
 obtain ⟨γ2,h5⟩:=zal h (gam [0,γ 1,γ 2])
 rcases r with ⟨b0_node1,za5,r11,r22⟩
 refine ⟨gam [0,(γ2 1),(γ2 2)],zab rfl ?_⟩;rotate_left
 all_goals (dsimp only [R3,zdO,zdA,zc9,zcW,zdb] at *;show zar IF_ zH7 _ _=_;exact fin_)
end Go.Ab.Tryz
