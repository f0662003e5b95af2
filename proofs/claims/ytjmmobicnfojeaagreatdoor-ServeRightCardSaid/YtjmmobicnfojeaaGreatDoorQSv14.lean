/- Our texts for this statement, merged: what its theorem leads to. -/
import Derived.Test.YtjmmobicnfojeaaGreatDoorQSv9
set_option linter.unusedVariables false
set_option linter.unusedSimpArgs false
noncomputable section
namespace Go.Ab.Tryz
open Go Go.Ab Go.Proofs
set_option maxRecDepth 10000
set_option maxHeartbeats 4000000
def zgt (a:Msg) (b:Msg) (γ:Nat → Nat):Bool → X × St
 | a0=>(.ret,⟨bd 4 (vF a0 :: bd 70 []),[.box 37 [vI a.kind,vW a.rid,vB a.code,vF a.has,vU a.id,vT a.key,vT a.val,vU a.peer.id,vH a.peer.addr,.lit 25 false (List.map zaf a.peers),.lit 78 false (List.map zae a.pairs)],.box 37 [vI b.kind,vW b.rid,vB b.code,vF b.has,vU b.id,vT b.key,vT b.val,vU b.peer.id,vH b.peer.addr,.lit 25 false (List.map zaf b.peers),.lit 78 false (List.map zae b.pairs)]]⟩)
instance {a b}:InjS (zgt a b):=⟨fun γ γ' x y h=>by
 rcases x with a0 <;> rcases y with a0' <;> simp only [zgt] at h <;> exact inj_⟩
def zeQ (a:Msg) (b:Msg) (plain:Bool):Option (Bool):=asks (fun γ=>(lim F pr).seg [4] zva ⟨bd 2 (.bptr 0 0 :: .bptr 1 0 :: bd 1 (vF plain :: bd 69 [])),[.box 37 [vI a.kind,vW a.rid,vB a.code,vF a.has,vU a.id,vT a.key,vT a.val,vU a.peer.id,vH a.peer.addr,.lit 25 false (List.map zaf a.peers),.lit 78 false (List.map zae a.pairs)],.box 37 [vI b.kind,vW b.rid,vB b.code,vF b.has,vU b.id,vT b.key,vT b.val,vU b.peer.id,vH b.peer.addr,.lit 25 false (List.map zaf b.peers),.lit 78 false (List.map zae b.pairs)]]⟩) (zgt a b)
def zlL (a:Msg) (b:Msg) (plain:Bool):Option (Bool):=
 bif plain then
  bif Ops.std.seq a.key b.key then
   bif Ops.std.seq a.val b.val then
    bif Ops.std.ieq a.peer.id b.peer.id then
     bif Ops.std.ieq a.peer.addr b.peer.addr then
      (zpC a.peers b.peers).bind fun res=>
      bif res then zpB a.pairs b.pairs else
      some false
     else
      some false
    else
     some false
   else
    some false
  else
   some false
 else
  some false
theorem zxK {a b plain r} (h:zlL a b plain=some r):zeQ a b plain=some r:=by
 unfold zlL at h
 refine zaq fun γ=>?_
 rcases zaa h with ⟨h1,h⟩ | ⟨h1,h⟩
 rcases zaa h with ⟨h2,h⟩ | ⟨h2,h⟩
 rcases zaa h with ⟨h3,h⟩ | ⟨h3,h⟩
 rcases zaa h with ⟨h4,h⟩ | ⟨h4,h⟩
 rcases zaa h with ⟨h5,h⟩ | ⟨h5,h⟩
 obtain ⟨res,h6,h⟩:=zac h
 rcases zaa h with ⟨h7,h⟩ | ⟨h7,h⟩
 have h8:=ask_some h
 rcases r with res1
 refine ⟨gam [],zak ?_⟩;rotate_left
 cases h;refine ⟨gam [],zak ?_⟩;rotate_left
 cases h;refine ⟨gam [],zak ?_⟩;rotate_left
 cases h;refine ⟨gam [],zak ?_⟩;rotate_left
 cases h;refine ⟨gam [],zak ?_⟩;rotate_left
 cases h;refine ⟨gam [],zak ?_⟩;rotate_left
 cases h;refine ⟨gam [],zak ?_⟩;rotate_left
 all_goals (dsimp only [R1,zgt] at *;show Ifc.apart IF_ _ zBD _=_;exact fin_)
def zqa (a:Msg) (b:Msg):Option (Bool):=
 bif Ops.std.ieq a.kind b.kind then
  bif Ops.std.ieq a.rid b.rid then
   bif Ops.std.ieq a.code b.code then
    bif Ops.std.beq a.has b.has then zeQ a b (Ops.std.ieq a.id b.id) else
    zeQ a b false
   else
    zeQ a b false
  else
   zeQ a b false
 else
  zeQ a b false
theorem zDe {a b r} (h:zqa a b=some r):zuC a b=some r:=by
 unfold zqa at h
 refine zar ?_
 rcases zaa h with ⟨h1,h⟩ | ⟨h1,h⟩
 rcases zaa h with ⟨h2,h⟩ | ⟨h2,h⟩
 rcases zaa h with ⟨h3,h⟩ | ⟨h3,h⟩
 rcases zaa h with ⟨h4,h⟩ | ⟨h4,h⟩
 obtain ⟨γ1,h5⟩:=zai h (gam [])
 rcases r with t4
 refine zab rfl ?_;rotate_left
 obtain ⟨γ1,h5⟩:=zai h (gam [])
 rcases r with t4
 refine zab rfl ?_;rotate_left
 obtain ⟨γ1,h4⟩:=zai h (gam [])
 rcases r with t4
 refine zab rfl ?_;rotate_left
 obtain ⟨γ1,h3⟩:=zai h (gam [])
 rcases r with t4
 refine zab rfl ?_;rotate_left
 obtain ⟨γ1,h2⟩:=zai h (gam [])
 rcases r with t4
 refine zab rfl ?_;rotate_left
 all_goals (dsimp only [R1,zgt] at *;show zat IF_ (zHB zva) _ _=_;generalize zva=c0 at *;exact fin_)
def zqe (m:Msg) (f:Int):Option (Bool):=
 bif Ops.std.ieq (Ops.std.ibit .and .i64 f 32) 0 then
  (zeZ m.pairs).bind fun res=>
  some (!res)
 else
  (zmA m.key).bind fun res=>
  bif res then
   (zeZ m.pairs).bind fun res1=>
   some (!res1)
  else
   some false
theorem zDg {m f r} (h:zqe m f=some r):zuF m f=some r:=by
 unfold zqe at h
 refine zar ?_
 rcases zaa h with ⟨h1,h⟩ | ⟨h1,h⟩
 obtain ⟨res,h2,h⟩:=zac h
 cases h;refine zab rfl ?_;rotate_left
 obtain ⟨res,h2,h⟩:=zac h
 rcases zaa h with ⟨h3,h⟩ | ⟨h3,h⟩
 obtain ⟨res1,h4,h⟩:=zac h
 cases h;refine zab rfl ?_;rotate_left
 cases h;refine zab rfl ?_;rotate_left
 all_goals (dsimp only [R1] at *;show zat IF_ zHD _ _=_;exact fin_)
def zqc (m:Msg):Option (Bool):=
 bif Ops.std.ilt 512 (Ops.std.slen m.val) then some true else
 bif Ops.std.ilt 16 (xlen zaf m.peers) then some true else
 bif Ops.std.ilt 8 (xlen zae m.pairs) then some true else
 zg7 m.pairs
theorem zDf {m r} (h:zqc m=some r):zuD m=some r:=by
 unfold zqc at h
 refine zar ?_
 rcases zaa h with ⟨h1,h⟩ | ⟨h1,h⟩
 cases h;refine zab rfl ?_;rotate_left
 rcases zaa h with ⟨h2,h⟩ | ⟨h2,h⟩
 cases h;refine zab rfl ?_;rotate_left
 rcases zaa h with ⟨h3,h⟩ | ⟨h3,h⟩
 cases h;refine zab rfl ?_;rotate_left
 have h4:=ask_some h
 rcases r with res
 refine zab rfl ?_;rotate_left
 all_goals (dsimp only [R1] at *;show zat IF_ zHE _ _=_;exact fin_)
def znZ (m:Msg):Option (Bool):=
 bif Ops.std.ieq m.kind 2 then some (Ops.std.ieq (xlen zaf m.peers) 0) else
 bif Ops.std.ieq m.kind 10 then some (Ops.std.ieq (xlen zae m.pairs) 0) else
 bif Ops.std.ieq m.kind 12 then some (Ops.std.ieq m.code 0) else
 some false
theorem zAR {m r} (h:znZ m=some r):zsd m=some r:=by
 unfold znZ at h
 refine zar ?_
 rcases zaa h with ⟨h1,h⟩ | ⟨h1,h⟩
 cases h;refine zab rfl ?_;rotate_left
 rcases zaa h with ⟨h2,h⟩ | ⟨h2,h⟩
 cases h;refine zab rfl ?_;rotate_left
 rcases zaa h with ⟨h3,h⟩ | ⟨h3,h⟩
 cases h;refine zab rfl ?_;rotate_left
 cases h;refine zab rfl ?_;rotate_left
 all_goals (dsimp only [R1] at *;show zat IF_ zHF _ _=_;exact fin_)
def zqt (kind:Int):Option (ByteArray):=
 bif Ops.std.ilt kind 1 then some ⟨#[63]⟩ else
 bif Ops.std.ilt 12 kind then some ⟨#[63]⟩ else
 (zsw).bind fun res=>
 (xget vT res kind).bind fun x=>
 some x
theorem zDw {kind r} (h:zqt kind=some r):zuM kind=some r:=by
 unfold zqt at h
 refine zar ?_
 rcases zaa h with ⟨h1,h⟩ | ⟨h1,h⟩
 cases h;refine zab rfl ?_;rotate_left
 rcases zaa h with ⟨h2,h⟩ | ⟨h2,h⟩
 cases h;refine zab rfl ?_;rotate_left
 obtain ⟨res,h3,h⟩:=zac h
 obtain ⟨x,h4,h⟩:=zac h
 cases h;refine zab rfl ?_;rotate_left
 all_goals (dsimp only [R1] at *;show zat IF_ zHG _ _=_;exact fin_)
def zqr (m:Msg):Option (Msg):=
 bif Ops.std.ieq m.kind 1 then
  some (⟨m.kind,m.rid,0,false,m.id,⟨#[]⟩,⟨#[]⟩,(⟨0,0⟩:Peer),[],[]⟩:Msg)
 else
  bif Ops.std.ieq m.kind 2 then
   bif zaN zaf 16 [] m.peers then
    some (⟨m.kind,m.rid,0,m.has,0,⟨#[]⟩,⟨#[]⟩,(⟨0,0⟩:Peer),m.peers,[]⟩:Msg)
   else
    none
  else
   bif Ops.std.ieq m.kind 4 then
    bif zaN zaf 16 [] m.peers then
     bif m.has then
      some (⟨m.kind,m.rid,0,true,0,⟨#[]⟩,⟨#[]⟩,m.peer,m.peers,[]⟩:Msg)
     else
      some (⟨m.kind,m.rid,0,false,0,⟨#[]⟩,⟨#[]⟩,(⟨0,0⟩:Peer),m.peers,[]⟩:Msg)
    else
     none
   else
    bif Ops.std.ieq m.kind 5 then
     some (⟨m.kind,m.rid,0,false,0,⟨#[]⟩,⟨#[]⟩,m.peer,[],[]⟩:Msg)
    else
     bif Ops.std.ieq m.kind 7 then
      some (⟨m.kind,m.rid,0,false,0,m.key,m.val,(⟨0,0⟩:Peer),[],[]⟩:Msg)
     else
      bif Ops.std.ieq m.kind 8 then
       some (⟨m.kind,m.rid,0,false,0,m.key,⟨#[]⟩,(⟨0,0⟩:Peer),[],[]⟩:Msg)
      else
       bif Ops.std.ieq m.kind 9 then
        bif m.has then
         some (⟨m.kind,m.rid,0,true,0,⟨#[]⟩,m.val,(⟨0,0⟩:Peer),[],[]⟩:Msg)
        else
         some (⟨m.kind,m.rid,0,false,0,⟨#[]⟩,⟨#[]⟩,(⟨0,0⟩:Peer),[],[]⟩:Msg)
       else
        bif Ops.std.ieq m.kind 10 then
         bif zaN zae 32 [] m.pairs then
          some (⟨m.kind,m.rid,0,m.has,0,⟨#[]⟩,⟨#[]⟩,(⟨0,0⟩:Peer),[],m.pairs⟩:Msg)
         else
          none
        else
         bif Ops.std.ieq m.kind 12 then
          some (⟨m.kind,m.rid,m.code,false,0,⟨#[]⟩,⟨#[]⟩,(⟨0,0⟩:Peer),[],[]⟩:Msg)
         else
          some (⟨m.kind,m.rid,0,false,0,⟨#[]⟩,⟨#[]⟩,(⟨0,0⟩:Peer),[],[]⟩:Msg)
theorem zDv {m r} (h:zqr m=some r):zuL m=some r:=by
 unfold zqr at h
 refine zar ?_
 rcases zaa h with ⟨h1,h⟩ | ⟨h1,h⟩
 cases h;refine zab rfl ?_;rotate_left
 rcases zaa h with ⟨h2,h⟩ | ⟨h2,h⟩
 obtain ⟨h3,h⟩:=zaw h
 cases h;refine zab rfl ?_;rotate_left
 rcases zaa h with ⟨h3,h⟩ | ⟨h3,h⟩
 obtain ⟨h4,h⟩:=zaw h
 rcases zaa h with ⟨h5,h⟩ | ⟨h5,h⟩
 cases h;refine zab rfl ?_;rotate_left
 cases h;refine zab rfl ?_;rotate_left
 rcases zaa h with ⟨h4,h⟩ | ⟨h4,h⟩
 cases h;refine zab rfl ?_;rotate_left
 rcases zaa h with ⟨h5,h⟩ | ⟨h5,h⟩
 cases h;refine zab rfl ?_;rotate_left
 rcases zaa h with ⟨h6,h⟩ | ⟨h6,h⟩
 cases h;refine zab rfl ?_;rotate_left
 rcases zaa h with ⟨h7,h⟩ | ⟨h7,h⟩
 rcases zaa h with ⟨h8,h⟩ | ⟨h8,h⟩
 cases h;refine zab rfl ?_;rotate_left
 cases h;refine zab rfl ?_;rotate_left
 rcases zaa h with ⟨h8,h⟩ | ⟨h8,h⟩
 obtain ⟨h9,h⟩:=zaw h
 cases h;refine zab rfl ?_;rotate_left
 rcases zaa h with ⟨h9,h⟩ | ⟨h9,h⟩
 cases h;refine zab rfl ?_;rotate_left
 cases h;refine zab rfl ?_;rotate_left
 all_goals (dsimp only [R1] at *;show zat IF_ zHH _ _=_;(try dsimp only [zaf,zag,zaU,zae,zbe,eJob,za7,zbc,eMsg,eOut,zbw,zbm,zau,cMsg,capp] at *);(try simp only [List.map_cons,List.map_nil] at *);(try generalize m.has=q0 at *);exact fin_)
def zss (s:ByteArray):Option (Bool):=
 bif Ops.std.ilt 0 (Ops.std.slen s) then
  bif Ops.std.ilt (Ops.std.slen s) 97 then
   (zso s).bind fun res=>
   bif res then
    (znG s).bind fun res1=>
    some (Ops.std.ilt (xlen vT res1) 33)
   else
    some false
  else
   some false
 else
  some false
theorem zFC {s r} (h:zss s=some r):zmB s=some r:=by
 unfold zss at h
 refine zar ?_
 rcases zaa h with ⟨h1,h⟩ | ⟨h1,h⟩
 rcases zaa h with ⟨h2,h⟩ | ⟨h2,h⟩
 obtain ⟨res,h3,h⟩:=zac h
 rcases zaa h with ⟨h4,h⟩ | ⟨h4,h⟩
 obtain ⟨res1,h5,h⟩:=zac h
 cases h;refine zab rfl ?_;rotate_left
 cases h;refine zab rfl ?_;rotate_left
 cases h;refine zab rfl ?_;rotate_left
 cases h;refine zab rfl ?_;rotate_left
 all_goals (dsimp only [R1] at *;show zat IF_ g25F _ _=_;exact fin_)
def zuE (k:Int):Option (Msg_kind):=
 (zsa).bind fun res=>
 bif Ops.std.ilt k 0 then
  (xget zbm res 0).bind fun x=>
  some x
 else
  bif Ops.std.ile (xlen zbm res) k then
   (xget zbm res 0).bind fun x=>
   some x
  else
   (xget zbm res k).bind fun x=>
   some x
theorem zGZ {k r} (h:zuE k=some r):zsb k=some r:=by
 unfold zuE at h
 refine zar ?_
 obtain ⟨res,h1,h⟩:=zac h
 rcases zaa h with ⟨h2,h⟩ | ⟨h2,h⟩
 obtain ⟨x,h3,h⟩:=zac h
 cases h;refine zab rfl ?_;rotate_left
 rcases zaa h with ⟨h3,h⟩ | ⟨h3,h⟩
 obtain ⟨x,h4,h⟩:=zac h
 cases h;refine zab rfl ?_;rotate_left
 obtain ⟨x,h4,h⟩:=zac h
 cases h;refine zab rfl ?_;rotate_left
 all_goals (dsimp only [R1] at *;show zat IF_ zHK _ _=_;exact fin_)
def zos (a:Int) (x:Int) (b:Int):Option (Bool):=
 bif Ops.std.ieq a b then some true else
 bif Ops.std.ieq x b then some true else
 zfM a x b
theorem zBk {a x b r} (h:zos a x b=some r):zhW a x b=some r:=by
 unfold zos at h
 refine zar ?_
 rcases zaa h with ⟨h1,h⟩ | ⟨h1,h⟩
 cases h;refine zab rfl ?_;rotate_left
 rcases zaa h with ⟨h2,h⟩ | ⟨h2,h⟩
 cases h;refine zab rfl ?_;rotate_left
 have h3:=ask_some h
 rcases r with res
 refine zab rfl ?_;rotate_left
 all_goals (dsimp only [R1] at *;show zat IF_ zIs _ _=_;exact fin_)
def zkQ (n:Node) (key:Int):Option (Bool):=
 bif Ops.std.ilt 0 (xlen zag n.pred) then
  (xget zag n.pred 0).bind fun x=>
  bif Ops.std.ile x.misses 0 then zhW x.peer.id key n.me.id else
  some false
 else
  some false
theorem zwQ {n key r} (h:zkQ n key=some r):znc n key=some r:=by
 unfold zkQ at h
 refine zar ?_
 rcases zaa h with ⟨h1,h⟩ | ⟨h1,h⟩
 obtain ⟨x,h2,h⟩:=zac h
 rcases zaa h with ⟨h3,h⟩ | ⟨h3,h⟩
 have h4:=ask_some h
 rcases r with res
 refine zab rfl ?_;rotate_left
 cases h;refine zab rfl ?_;rotate_left
 cases h;refine zab rfl ?_;rotate_left
 all_goals (dsimp only [R1] at *;show zat IF_ zIt _ _=_;exact fin_)
def zev (me:Peer) (key:Int) (most:Int) (γ:Nat → Nat):(List Peer) → X × St
 | a0=>(.brk 0,⟨bd 3 (vU key :: vI most :: .bptr 0 0 :: bd 5 (.sl 2 ((γ 2)) :: bd 63 [])),[.box 25 [vU me.id,vH me.addr],.row 25 (γ 1) false (List.map zaf []),.row 25 (γ 2) false (List.map zaf a0)]⟩)
instance {me key most}:InjS (zev me key most):=⟨fun γ γ' x y h=>by
 rcases x with a0 <;> rcases y with a0' <;> simp only [zev] at h <;> exact inj_⟩
def ziS (me:Peer) (f:List Finger) (key:Int) (most:Int) (t22:Int) (r2:List Peer):Option ((List Peer)):=asks (fun γ=>(lim F pr).loop [21,20,22,11,3,5,4] 3 zoX ⟨bd 3 (vU key :: vI most :: .bptr 0 0 :: bd 5 (.sl 2 ((γ 2)) :: bd 8 (.lit 84 false (List.map zaU f) :: vI (xlen zaU f) :: vI t22 :: bd 52 []))),[.box 25 [vU me.id,vH me.addr],.row 25 (γ 1) false (List.map zaf []),.row 25 (γ 2) false (List.map zaf r2)]⟩) (zev me key most)
def zew (me:Peer) (most:Int) (γ:Nat → Nat):((List Peer) × (List Peer)) → X × St
 | (a0,a1)=>(.brk 2,⟨bd 4 (vI most :: .bptr 0 0 :: bd 8 (.sl 3 ((γ 3)) :: bd 60 [])),[.box 25 [vU me.id,vH me.addr],.row 25 (γ 1) false (List.map zaf []),.row 25 (γ 2) true (List.map zaf a0),.row 25 (γ 3) false (List.map zaf a1)]⟩)
instance {me most}:InjS (zew me most):=⟨fun γ γ' x y h=>by
 rcases x with ⟨a0,a1⟩ <;> rcases y with ⟨a0',a1'⟩ <;> simp only [zew] at h <;> exact inj_⟩
def zcI (me:Peer) (key:Int) (most:Int) (t32:List Peer) (t33:Int) (t34:Int) (r2:List Peer) (r3:List Peer):Option (((List Peer) × (List Peer))):=asks (fun γ=>(lim F pr).loop [33,32,11,3,34,5,14,4] 4 zoY ⟨bd 3 (vU key :: vI most :: .bptr 0 0 :: bd 5 (.sl 2 ((γ 2)) :: bd 2 (.sl 3 ((γ 3)) :: bd 17 (.lit 25 false (List.map zaf t32) :: vI t33 :: vI t34 :: bd 40 [])))),[.box 25 [vU me.id,vH me.addr],.row 25 (γ 1) false (List.map zaf []),.row 25 (γ 2) true (List.map zaf r2),.row 25 (γ 3) false (List.map zaf r3)]⟩) (zew me most)
def zhk (me:Peer) (f:List Finger) (key:Int) (most:Int) (t22:Int) (r2:List Peer):Option ((List Peer)):=
 bif Ops.std.ilt t22 (xlen zaU f) then
  (xget zaU f t22).bind fun x=>
  bif zaN zaf 16 r2 [x.peer] then
   ziS me f key most (Ops.std.iadd .i64 t22 1) (r2 ++ [x.peer])
  else
   none
 else
  some r2
theorem znu {me f key most t22 r2 r} (h:zhk me f key most t22 r2=some r):ziS me f key most t22 r2=some r:=by
 unfold zhk at h
 refine zaq fun γ=>?_
 rcases zaa h with ⟨h1,h⟩ | ⟨h1,h⟩
 obtain ⟨x,h2,h⟩:=zac h
 obtain ⟨h3,h⟩:=zaw h
 replace h:=zai h (gam [0,(γ 1),((γ 2) + 1)]);obtain ⟨γ',h0⟩:=h;refine ⟨γ',zad ?_⟩;rotate_left
 cases h;refine ⟨gam [0,(γ 1),(γ 2)],zad ?_⟩;rotate_left
 all_goals (dsimp only [zev] at *;show zaH IF_ _ _ zoX zB8 _=_;generalize zoX=c0 at *;exact fin_)
def zhl (me:Peer) (key:Int) (most:Int) (t32:List Peer) (t33:Int) (t34:Int) (r2:List Peer) (r3:List Peer):Option (((List Peer) × (List Peer))):=
 bif Ops.std.ilt t34 t33 then
  (xget zaf t32 t34).bind fun x=>
  (zko r2 x.id x.addr).bind fun res=>
  bif Ops.std.ieq res t34 then
   bif Ops.std.ieq x.addr me.addr then zcI me key most t32 t33 (Ops.std.iadd .i64 t34 1) r2 r3 else
   (zfM me.id x.id key).bind fun res1=>
   bif res1 then
    bif zaN zaf 16 r3 [x] then
     zcI me key most t32 t33 (Ops.std.iadd .i64 t34 1) r2 (r3 ++ [x])
    else
     none
   else
    zcI me key most t32 t33 (Ops.std.iadd .i64 t34 1) r2 r3
  else
   zcI me key most t32 t33 (Ops.std.iadd .i64 t34 1) r2 r3
 else
  some (r2,r3)
theorem znv {me key most t32 t33 t34 r2 r3 r} (h:zhl me key most t32 t33 t34 r2 r3=some r):zcI me key most t32 t33 t34 r2 r3=some r:=by
 unfold zhl at h
 refine zaq fun γ=>?_
 rcases zaa h with ⟨h1,h⟩ | ⟨h1,h⟩
 obtain ⟨x,h2,h⟩:=zac h
 obtain ⟨res,h3,h⟩:=zac h
 rcases zaa h with ⟨h4,h⟩ | ⟨h4,h⟩
 rcases zaa h with ⟨h5,h⟩ | ⟨h5,h⟩
 replace h:=zai h (gam [0,(γ 1),(γ 2),(γ 3)]);obtain ⟨γ',h0⟩:=h;refine ⟨γ',zad ?_⟩;rotate_left
 obtain ⟨res1,h6,h⟩:=zac h
 rcases zaa h with ⟨h7,h⟩ | ⟨h7,h⟩
 obtain ⟨h8,h⟩:=zaw h
 replace h:=zai h (gam [0,(γ 1),(γ 2),((γ 3) + 1)]);obtain ⟨γ',h0⟩:=h;refine ⟨γ',zad ?_⟩;rotate_left
 replace h:=zai h (gam [0,(γ 1),(γ 2),(γ 3)]);obtain ⟨γ',h0⟩:=h;refine ⟨γ',zad ?_⟩;rotate_left
 replace h:=zai h (gam [0,(γ 1),(γ 2),(γ 3)]);obtain ⟨γ',h0⟩:=h;refine ⟨γ',zad ?_⟩;rotate_left
 cases h;refine ⟨gam [0,(γ 1),(γ 2),(γ 3)],zad ?_⟩;rotate_left
 all_goals (dsimp only [zdV,R1,zew] at *;show zaH IF_ _ _ zoY zB9 _=_;generalize zoY=c0 at *;exact fin_)
def zmR (me:Peer) (l:List Entry) (f:List Finger) (key:Int) (most:Int):Option ((List Peer)):=
 (zjX l).bind fun res=>
 (ziS me f key most 0 res).bind fun r2=>
 (zcI me key most r2 (xlen zaf r2) 0 r2 []).bind fun ⟨r21,r3⟩=>
 (xsrt zaf me.id r3).bind fun out=>
 bif Ops.std.ilt most 0 then
  bif Ops.std.ilt 0 (xlen zaf out) then
   (xsub zaf out 0 0).bind fun ys=>
   some ys
  else
   (xsub zaf out 0 (xlen zaf out)).bind fun ys=>
   some ys
 else
  bif Ops.std.ilt most (xlen zaf out) then
   (xsub zaf out 0 most).bind fun ys=>
   some ys
  else
   (xsub zaf out 0 (xlen zaf out)).bind fun ys=>
   some ys
theorem zzb {me l f key most r} (h:zmR me l f key most=some r):zpV me l f key most=some r:=by
 unfold zmR at h
 refine zar ?_
 obtain ⟨res,h1,h⟩:=zac h
 obtain ⟨r2,γ2,h2,h⟩:=zan h (gam [0,0,0])
 obtain ⟨r3,γ3,h3,h⟩:=zan h (gam [0,(γ2 1),(γ2 2),0])
 rcases r3 with ⟨r21,r3⟩
 obtain ⟨out,h4,h⟩:=zac h
 rcases zaa h with ⟨h5,h⟩ | ⟨h5,h⟩
 rcases zaa h with ⟨h6,h⟩ | ⟨h6,h⟩
 obtain ⟨ys,h7,h⟩:=zac h
 cases h;refine zab rfl ?_;rotate_left
 obtain ⟨ys,h7,h⟩:=zac h
 cases h;refine zab rfl ?_;rotate_left
 rcases zaa h with ⟨h6,h⟩ | ⟨h6,h⟩
 obtain ⟨ys,h7,h⟩:=zac h
 cases h;refine zab rfl ?_;rotate_left
 obtain ⟨ys,h7,h⟩:=zac h
 cases h;refine zab rfl ?_;rotate_left
 all_goals (dsimp only [K1,R1,zev,zew] at *;show zat IF_ (zIu zoX zoY) _ _=_;generalize zoX=c0,zoY=c1 at *;exact fin_)
def zeA (γ:Nat → Nat):(List Peer) → X × St
 | a0=>(.brk 0,⟨bd 5 (.sl 1 ((γ 1)) :: bd 18 []),[.row 25 (γ 0) false (List.map zaf []),.row 25 (γ 1) false (List.map zaf a0)]⟩)
instance:InjS zeA:=⟨fun γ γ' x y h=>by
 rcases x with a0 <;> rcases y with a0' <;> simp only [zeA] at h <;> exact inj_⟩
def zgv (l:List Entry) (t10:Int) (r1:List Peer):Option ((List Peer)):=asks (fun γ=>(lim F pr).loop [9,8,1,10,5] 2 zhx ⟨bd 1 (.fn 193 [] :: bd 3 (.sl 1 ((γ 1)) :: bd 2 (.lit 81 false (List.map zag l) :: vI (xlen zag l) :: vI t10 :: bd 13 []))),[.row 25 (γ 0) false (List.map zaf []),.row 25 (γ 1) false (List.map zaf r1)]⟩) zeA
def zhm (l:List Entry) (t10:Int) (r1:List Peer):Option ((List Peer)):=
 bif Ops.std.ilt t10 (xlen zag l) then
  (xget zag l t10).bind fun x=>
  (zn2 x).bind fun res=>
  bif res then
   bif zaN zaf 16 r1 [x.peer] then zgv l (Ops.std.iadd .i64 t10 1) (r1 ++ [x.peer]) else
   none
  else
   zgv l (Ops.std.iadd .i64 t10 1) r1
 else
  some r1
theorem znF {l t10 r1 r} (h:zhm l t10 r1=some r):zgv l t10 r1=some r:=by
 unfold zhm at h
 refine zaq fun γ=>?_
 rcases zaa h with ⟨h1,h⟩ | ⟨h1,h⟩
 obtain ⟨x,h2,h⟩:=zac h
 obtain ⟨res,h3,h⟩:=zac h
 rcases zaa h with ⟨h4,h⟩ | ⟨h4,h⟩
 obtain ⟨h5,h⟩:=zaw h
 replace h:=zai h (gam [(γ 0),((γ 1) + 1)]);obtain ⟨γ',h0⟩:=h;refine ⟨γ',zad ?_⟩;rotate_left
 replace h:=zai h (gam [(γ 0),(γ 1)]);obtain ⟨γ',h0⟩:=h;refine ⟨γ',zad ?_⟩;rotate_left
 cases h;refine ⟨gam [(γ 0),(γ 1)],zad ?_⟩;rotate_left
 all_goals (dsimp only [R1,zeA] at *;show zaH IF_ _ _ zhx zwh _=_;generalize zhx=c0 at *;exact fin_)
def zm4 (l:List Entry):Option ((List Peer)):=
 zgv l 0 []
theorem zzH {l r} (h:zm4 l=some r):zvS l=some r:=by
 unfold zm4 at h
 refine zar ?_
 obtain ⟨γ1,h1⟩:=zai h (gam [0,0])
 rcases r with r1
 refine zab rfl ?_;rotate_left
 all_goals (dsimp only [K1,zeA] at *;show zat IF_ (zCZ zhx) _ _=_;generalize zhx=c0 at *;exact fin_)
def zm1 (l:List Entry) (addr:Int):Option ((List Entry)):=
 bif zaN zag 24 [] l then zjj l addr else
 none
theorem zzC {l addr r} (h:zm1 l addr=some r):zqi l addr=some r:=by
 unfold zm1 at h
 refine zar ?_
 obtain ⟨h1,h⟩:=zaw h
 obtain ⟨γ1,h2⟩:=zai h (gam [0,0])
 rcases r with r0
 refine zab rfl ?_;rotate_left
 all_goals (dsimp only [zdg,K1] at *;show zat IF_ zIw _ _=_;exact fin_)
def zlM (x:Entry) (zaT:Int) (zaA:Int) (zav:Int) (za1:Int):Option (Bool):=
 zk4 (⟨zaT,zaA⟩:Peer) (⟨zav,za1⟩:Peer) x.peer
theorem zxL {x zaT zaA zav za1 r} (h:zlM x zaT zaA zav za1=some r):zn0 x zaT zaA zav za1=some r:=by
 unfold zlM at h
 refine zar ?_
 have h1:=ask_some h
 rcases r with res
 refine zab rfl ?_;rotate_left
 all_goals (dsimp only [R1,zgu] at *;show zat IF_ zIx _ _=_;exact fin_)
def zcx (zaT:Int) (zaA:Int) (zav:Int) (za1:Int) (γ:Nat → Nat):Int ⊕ Unit → X × St
 | .inl a0=>(.ret,⟨bd 4 (vI a0 :: bd 14 []),[.box 25 [vU zaT,vH zaA],.box 25 [vU zav,vH za1]]⟩)
 | .inr ()=>(.brk 0,⟨bd 19 [],[.box 25 [vU zaT,vH zaA],.box 25 [vU zav,vH za1]]⟩)
instance {zaT zaA zav za1}:InjS (zcx zaT zaA zav za1):=⟨fun γ γ' x y h=>by
 rcases x with a0 | _ <;> rcases y with a0' | _ <;> simp only [zcx] at h <;> exact inj_⟩
def zes (s:List Entry) (zaT:Int) (zaA:Int) (zav:Int) (za1:Int) (t8:Int):Option (Int ⊕ Unit):=asks (fun γ=>(lim F pr).loop [7,1,0,8] 2 zdB ⟨.lit 81 false (List.map zag s) :: .fn 195 [.bptr 0 0,.bptr 1 0] :: bd 5 (vI (xlen zag s) :: vI t8 :: bd 10 []),[.box 25 [vU zaT,vH zaA],.box 25 [vU zav,vH za1]]⟩) (zcx zaT zaA zav za1)
def zcw (s:List Entry) (zaT:Int) (zaA:Int) (zav:Int) (za1:Int) (t8:Int):Option (Int ⊕ Unit):=
 bif Ops.std.ilt t8 (xlen zag s) then
  (xget zag s t8).bind fun x=>
  (zn0 x zaT zaA zav za1).bind fun res=>
  bif res then some (.inl t8) else
  zes s zaT zaA zav za1 (Ops.std.iadd .i64 t8 1)
 else
  some (.inr ())
theorem zf7 {s zaT zaA zav za1 t8 r} (h:zcw s zaT zaA zav za1 t8=some r):zes s zaT zaA zav za1 t8=some r:=by
 unfold zcw at h
 refine zaq fun γ=>?_
 rcases zaa h with ⟨h1,h⟩ | ⟨h1,h⟩
 obtain ⟨x,h2,h⟩:=zac h
 obtain ⟨res,h3,h⟩:=zac h
 rcases zaa h with ⟨h4,h⟩ | ⟨h4,h⟩
 cases h;refine ⟨gam [],zad ?_⟩;rotate_left
 replace h:=zai h (gam []);obtain ⟨γ',h0⟩:=h;refine ⟨γ',zad ?_⟩;rotate_left
 cases h;refine ⟨gam [],zad ?_⟩;rotate_left
 all_goals (dsimp only [zcx,zgu] at *;show zaH IF_ _ _ zdB ztf _=_;generalize zdB=c0 at *;exact fin_)
def ziA (s:List Entry) (zaT:Int) (zaA:Int) (zav:Int) (za1:Int):Option (Int):=
 (zes s zaT zaA zav za1 0).bind fun r=>match r with
  | .inl t4=>
   some t4
  | .inr ()=>
   some (-1)
theorem ztW {s zaT zaA zav za1 r} (h:ziA s zaT zaA zav za1=some r):zjO s zaT zaA zav za1=some r:=by
 unfold ziA at h
 refine zar ?_
 obtain ⟨r1,γ1,h1,h⟩:=zan h (gam [])
 rcases r1 with t4 | _
 cases h;refine zab rfl ?_;rotate_left
 cases h;refine zab rfl ?_;rotate_left
 all_goals (dsimp only [zdA,zcx] at *;show zat IF_ (zyC zdB) _ _=_;generalize zdB=c0 at *;exact fin_)
def zkh (p:Pair) (b0:Int) (b1:Int):Option (Bool):=
 (zmj p.key).bind fun res=>
 (zhW b0 res b1).bind fun res1=>
 some (!res1)
theorem zwc {p b0 b1 r} (h:zkh p b0 b1=some r):zjh p b0 b1=some r:=by
 unfold zkh at h
 refine zar ?_
 obtain ⟨res,h1,h⟩:=zac h
 obtain ⟨res1,h2,h⟩:=zac h
 cases h;refine zab rfl ?_;rotate_left
 all_goals (dsimp only [R1,zdv] at *;show zat IF_ zIz _ _=_;exact fin_)
def zcO (b0:Int) (b1:Int) (γ:Nat → Nat):Int ⊕ Unit → X × St
 | .inl a0=>(.ret,⟨bd 4 (vI a0 :: bd 14 []),[.box 22 [vU b0],.box 22 [vU b1]]⟩)
 | .inr ()=>(.brk 0,⟨bd 19 [],[.box 22 [vU b0],.box 22 [vU b1]]⟩)
instance {b0 b1}:InjS (zcO b0 b1):=⟨fun γ γ' x y h=>by
 rcases x with a0 | _ <;> rcases y with a0' | _ <;> simp only [zcO] at h <;> exact inj_⟩
def ze0 (s:List Pair) (b0:Int) (b1:Int) (t8:Int):Option (Int ⊕ Unit):=asks (fun γ=>(lim F pr).loop [7,1,0,8] 2 zbC ⟨.lit 78 false (List.map zae s) :: .fn 198 [.bptr 0 0,.bptr 1 0] :: bd 5 (vI (xlen zae s) :: vI t8 :: bd 10 []),[.box 22 [vU b0],.box 22 [vU b1]]⟩) (zcO b0 b1)
def zcN (s:List Pair) (b0:Int) (b1:Int) (t8:Int):Option (Int ⊕ Unit):=
 bif Ops.std.ilt t8 (xlen zae s) then
  (xget zae s t8).bind fun x=>
  (zjh x b0 b1).bind fun res=>
  bif res then some (.inl t8) else
  ze0 s b0 b1 (Ops.std.iadd .i64 t8 1)
 else
  some (.inr ())
theorem zhb {s b0 b1 t8 r} (h:zcN s b0 b1 t8=some r):ze0 s b0 b1 t8=some r:=by
 unfold zcN at h
 refine zaq fun γ=>?_
 rcases zaa h with ⟨h1,h⟩ | ⟨h1,h⟩
 obtain ⟨x,h2,h⟩:=zac h
 obtain ⟨res,h3,h⟩:=zac h
 rcases zaa h with ⟨h4,h⟩ | ⟨h4,h⟩
 cases h;refine ⟨gam [],zad ?_⟩;rotate_left
 replace h:=zai h (gam []);obtain ⟨γ',h0⟩:=h;refine ⟨γ',zad ?_⟩;rotate_left
 cases h;refine ⟨gam [],zad ?_⟩;rotate_left
 all_goals (dsimp only [zcO,zdv] at *;show zaH IF_ _ _ zbC zmw _=_;generalize zbC=c0 at *;exact fin_)
def zjn (s:List Pair) (b0:Int) (b1:Int):Option (Int):=
 (ze0 s b0 b1 0).bind fun r=>match r with
  | .inl t4=>
   some t4
  | .inr ()=>
   some (-1)
theorem zuj {s b0 b1 r} (h:zjn s b0 b1=some r):zkn s b0 b1=some r:=by
 unfold zjn at h
 refine zar ?_
 obtain ⟨r1,γ1,h1,h⟩:=zan h (gam [])
 rcases r1 with t4 | _
 cases h;refine zab rfl ?_;rotate_left
 cases h;refine zab rfl ?_;rotate_left
 all_goals (dsimp only [zdU,zcO] at *;show zat IF_ (ztI zbC) _ _=_;generalize zbC=c0 at *;exact fin_)
def zcv (b1:Int) (b2:Int) (γ:Nat → Nat):(Int × (List Pair)) → X × St
 | (a0,a1)=>(.brk 0,⟨.sl 0 ((γ 0)) :: bd 4 (vI a0 :: bd 36 []),[.row 78 (γ 0) false (List.map zae a1),.box 22 [vU b1],.box 22 [vU b2],.row 78 (γ 3) false (List.map zae [])]⟩)
instance {b1 b2}:InjS (zcv b1 b2):=⟨fun γ γ' x y h=>by
 rcases x with ⟨a0,a1⟩ <;> rcases y with ⟨a0',a1'⟩ <;> simp only [zcv] at h <;> exact inj_⟩
def zcg (b1:Int) (b2:Int) (i:Int) (j:Int) (r0':List Pair):Option ((Int × (List Pair))):=asks (fun γ=>(lim F pr).loop [1,6,0,5] 4 zoZ ⟨.sl 0 ((γ 0)) :: .fn 198 [.bptr 1 0,.bptr 2 0] :: bd 3 (vI i :: vI j :: bd 35 []),[.row 78 (γ 0) false (List.map zae r0'),.box 22 [vU b1],.box 22 [vU b2],.row 78 (γ 3) false (List.map zae [])]⟩) (zcv b1 b2)
def zbS (b1:Int) (b2:Int) (i:Int) (j:Int) (r0':List Pair):Option ((Int × (List Pair))):=
 bif Ops.std.ilt j (xlen zae r0') then
  (xget zae r0' j).bind fun x=>
  (zjh x b1 b2).bind fun res=>
  bif res then zcg b1 b2 i (Ops.std.iadd .i64 j 1) r0' else
  (xget zae r0' i).bind fun x1=>
  zcg b1 b2 (Ops.std.iadd .i64 i 1) (Ops.std.iadd .i64 j 1) (xset r0' i x)
 else
  some (i,r0')
theorem zdG {b1 b2 i j r0' r} (h:zbS b1 b2 i j r0'=some r):zcg b1 b2 i j r0'=some r:=by
 unfold zbS at h
 refine zaq fun γ=>?_
 rcases zaa h with ⟨h1,h⟩ | ⟨h1,h⟩
 obtain ⟨x,h2,h⟩:=zac h
 obtain ⟨res,h3,h⟩:=zac h
 rcases zaa h with ⟨h4,h⟩ | ⟨h4,h⟩
 replace h:=zai h (gam [(γ 0),0,0,(γ 3)]);obtain ⟨γ',h0⟩:=h;refine ⟨γ',zad ?_⟩;rotate_left
 obtain ⟨x1,h5,h⟩:=zac h
 replace h:=zai h (gam [(γ 0),0,0,(γ 3)]);obtain ⟨γ',h0⟩:=h;refine ⟨γ',zad ?_⟩;rotate_left
 cases h;refine ⟨gam [(γ 0),0,0,(γ 3)],zad ?_⟩;rotate_left
 all_goals (dsimp only [zcv,zdv] at *;show zaH IF_ _ _ zoZ zCa _=_;generalize zoZ=c0 at *;exact fin_)
def zix (r0:List Pair) (b1:Int) (b2:Int):Option ((List Pair)):=
 (zkn r0 b1 b2).bind fun res=>
 bif Ops.std.ieq res (-1) then some r0 else
 (zcg b1 b2 res (Ops.std.iadd .i64 res 1) r0).bind fun ⟨i,r0'⟩=>
 (xsub zae r0' i (xlen zae r0')).bind fun ys=>
 (xsub zae (xfil r0' i (xlen zae r0') (⟨⟨#[]⟩,⟨#[]⟩⟩:Pair)) 0 i).bind fun ys1=>
 bif Ops.std.ieq 0 0 then some ys1 else
 none
theorem ztV {r0 b1 b2 r} (h:zix r0 b1 b2=some r):zjL r0 b1 b2=some r:=by
 unfold zix at h
 refine zaq fun γ=>?_
 obtain ⟨res,h1,h⟩:=zac h
 rcases zaa h with ⟨h2,h⟩ | ⟨h2,h⟩
 cases h;refine ⟨gam [γ 0,0,0],zab rfl ?_⟩;rotate_left
 obtain ⟨r3,γ2,h3,h⟩:=zan h (gam [γ 0,0,0,0])
 rcases r3 with ⟨i,r0'⟩
 obtain ⟨ys,h4,h⟩:=zac h
 obtain ⟨ys1,h5,h⟩:=zac h
 obtain ⟨h6,h⟩:=zaw h
 cases h;refine ⟨gam [((γ2 0) + 1),0,0],zab rfl ?_⟩;rotate_left
 all_goals (dsimp only [zdz,zcv,zdU] at *;show zat IF_ (zIy zoZ) _ _=_;generalize zoZ=c0 at *;exact fin_)
def zor (a:Int) (b:Int):Option (Int):=
 some (Ops.std.isub .u64 b a)
theorem zuf {a b r} (h:zor a b=some r):zhV a b=some r:=by
 unfold zor at h
 refine zar ?_
 cases h;refine zab rfl ?_;rotate_left
 all_goals (dsimp only [R1] at *;show zat IF_ zIh _ _=_;exact fin_)
def zgn (γ:Nat → Nat):Int → X × St
 | a0=>(.brk 0,⟨bd 3 (vU a0 :: bd 15 []),[]⟩)
instance:InjS zgn:=⟨fun γ γ' x y h=>by
 rcases x with a0 <;> rcases y with a0' <;> simp only [zgn] at h <;> exact inj_⟩
def zk0 (s:ByteArray) (n:Int) (t7:Int):Option (Int):=asks (fun γ=>(lim F pr).loop [6,0,7,3] 0 zoQ ⟨vT s :: bd 2 (vU n :: bd 2 (vI (Ops.std.slen s) :: vI t7 :: bd 11 [])),[]⟩) zgn
def ziT (s:ByteArray) (n:Int) (t7:Int):Option (Int):=
 bif Ops.std.ilt t7 (Ops.std.slen s) then
  (zbZ s t7).bind fun b=>
  zk0 s (Ops.std.imul .u64 (Ops.std.ibit .xor .u64 n (Ops.std.iwrap .u64 b)) 1099511628211) (Ops.std.iadd .i64 t7 1)
 else
  some n
theorem zqZ {s n t7 r} (h:ziT s n t7=some r):zk0 s n t7=some r:=by
 unfold ziT at h
 refine zaq fun γ=>?_
 rcases zaa h with ⟨h1,h⟩ | ⟨h1,h⟩
 obtain ⟨b,h2,h⟩:=bind_some h
 replace h:=zai h (gam []);obtain ⟨γ',h0⟩:=h;refine ⟨γ',zad ?_⟩;rotate_left
 cases h;refine ⟨gam [],zad ?_⟩;rotate_left
 all_goals (dsimp only [zgn] at *;show zaH IF_ _ _ zoQ zB1 _=_;generalize zoQ=c0 at *;exact fin_)
def zvy (s:ByteArray):Option (Int):=
 zk0 s 14695981039346656037 0
theorem zC3 {s r} (h:zvy s=some r):zux s=some r:=by
 unfold zvy at h
 refine zar ?_
 obtain ⟨γ1,h1⟩:=zai h (gam [])
 rcases r with n
 refine zab rfl ?_;rotate_left
 all_goals (dsimp only [R1,zgn] at *;show zat IF_ (zId zoQ) _ _=_;generalize zoQ=c0 at *;exact fin_)
def zpY (u:Int):Option (Int):=
 bif Ops.std.ilt 30 0 then none else
 bif Ops.std.ilt 27 0 then none else
 bif Ops.std.ilt 31 0 then none else
 some (Ops.std.ibit .xor .u64 (Ops.std.imul .u64 (Ops.std.ibit .xor .u64 (Ops.std.imul .u64 (Ops.std.ibit .xor .u64 u (Ops.std.ishr .u64 u 30)) 13787848793156543929) (Ops.std.ishr .u64 (Ops.std.imul .u64 (Ops.std.ibit .xor .u64 u (Ops.std.ishr .u64 u 30)) 13787848793156543929) 27)) 10723151780598845931) (Ops.std.ishr .u64 (Ops.std.imul .u64 (Ops.std.ibit .xor .u64 (Ops.std.imul .u64 (Ops.std.ibit .xor .u64 u (Ops.std.ishr .u64 u 30)) 13787848793156543929) (Ops.std.ishr .u64 (Ops.std.imul .u64 (Ops.std.ibit .xor .u64 u (Ops.std.ishr .u64 u 30)) 13787848793156543929) 27)) 10723151780598845931) 31))
theorem zC2 {u r} (h:zpY u=some r):zuw u=some r:=by
 unfold zpY at h
 refine zar ?_
 obtain ⟨h1,h⟩:=zmo h
 obtain ⟨h2,h⟩:=zmo h
 obtain ⟨h3,h⟩:=zmo h
 cases h;refine zab rfl ?_;rotate_left
 all_goals (dsimp only [R1] at *;show zat IF_ zIc _ _=_;exact fin_)
def zro (l:List Pair) (key:ByteArray):Option (Int):=
 zmG l key
theorem zyj {l key r} (h:zro l key=some r):zeX l key=some r:=by
 unfold zro at h
 refine zar ?_
 have h1:=ask_some h
 rcases r with res
 refine zab rfl ?_;rotate_left
 all_goals (dsimp only [zdi,R1] at *;show zat IF_ zH3 _ _=_;exact fin_)
def zrn (p:Pair) (b0:ByteArray):Option (Bool):=
 some (Ops.std.slt b0 p.key)
theorem zyg {p b0 r} (h:zrn p b0=some r):zox p b0=some r:=by
 unfold zrn at h
 refine zar ?_
 cases h;refine zab rfl ?_;rotate_left
 all_goals (dsimp only [zgY] at *;show zat IF_ zH4 _ _=_;exact fin_)
def zci (b0:ByteArray) (γ:Nat → Nat):Int ⊕ Unit → X × St
 | .inl a0=>(.ret,⟨bd 4 (vI a0 :: bd 14 []),[.box 9 [vT b0]]⟩)
 | .inr ()=>(.brk 0,⟨bd 19 [],[.box 9 [vT b0]]⟩)
instance {b0}:InjS (zci b0):=⟨fun γ γ' x y h=>by
 rcases x with a0 | _ <;> rcases y with a0' | _ <;> simp only [zci] at h <;> exact inj_⟩
def zeb (s:List Pair) (b0:ByteArray) (t8:Int):Option (Int ⊕ Unit):=asks (fun γ=>(lim F pr).loop [7,1,0,8] 1 zbC ⟨.lit 78 false (List.map zae s) :: .fn 143 [.bptr 0 0] :: bd 5 (vI (xlen zae s) :: vI t8 :: bd 10 []),[.box 9 [vT b0]]⟩) (zci b0)
def zch (s:List Pair) (b0:ByteArray) (t8:Int):Option (Int ⊕ Unit):=
 bif Ops.std.ilt t8 (xlen zae s) then
  (xget zae s t8).bind fun x=>
  (zox x b0).bind fun res=>
  bif res then some (.inl t8) else
  zeb s b0 (Ops.std.iadd .i64 t8 1)
 else
  some (.inr ())
theorem ze8 {s b0 t8 r} (h:zch s b0 t8=some r):zeb s b0 t8=some r:=by
 unfold zch at h
 refine zaq fun γ=>?_
 rcases zaa h with ⟨h1,h⟩ | ⟨h1,h⟩
 obtain ⟨x,h2,h⟩:=zac h
 obtain ⟨res,h3,h⟩:=zac h
 rcases zaa h with ⟨h4,h⟩ | ⟨h4,h⟩
 cases h;refine ⟨gam [],zad ?_⟩;rotate_left
 replace h:=zai h (gam []);obtain ⟨γ',h0⟩:=h;refine ⟨γ',zad ?_⟩;rotate_left
 cases h;refine ⟨gam [],zad ?_⟩;rotate_left
 all_goals (dsimp only [zci,zgY] at *;show zaH IF_ _ _ zbC zmw _=_;generalize zbC=c0 at *;exact fin_)
def zhs (s:List Pair) (b0:ByteArray):Option (Int):=
 (zeb s b0 0).bind fun r=>match r with
  | .inl t4=>
   some t4
  | .inr ()=>
   some (-1)
theorem zrF {s b0 r} (h:zhs s b0=some r):zjk s b0=some r:=by
 unfold zhs at h
 refine zar ?_
 obtain ⟨r1,γ1,h1,h⟩:=zan h (gam [])
 rcases r1 with t4 | _
 cases h;refine zab rfl ?_;rotate_left
 cases h;refine zab rfl ?_;rotate_left
 all_goals (dsimp only [zdh,zci] at *;show zat IF_ (ztI zbC) _ _=_;generalize zbC=c0 at *;exact fin_)
def zqn (a:Int) (x:Int) (b:Int):Option (Bool):=
 bif Ops.std.ilt a b then
  bif Ops.std.ilt a x then some (Ops.std.ile x b) else
  some false
 else
  bif Ops.std.ilt b a then
   bif Ops.std.ilt a x then some true else
   some (Ops.std.ile x b)
  else
   some true
theorem zDq {a x b r} (h:zqn a x b=some r):zjt a x b=some r:=by
 unfold zqn at h
 refine zar ?_
 rcases zaa h with ⟨h1,h⟩ | ⟨h1,h⟩
 rcases zaa h with ⟨h2,h⟩ | ⟨h2,h⟩
 cases h;refine zab rfl ?_;rotate_left
 cases h;refine zab rfl ?_;rotate_left
 rcases zaa h with ⟨h2,h⟩ | ⟨h2,h⟩
 rcases zaa h with ⟨h3,h⟩ | ⟨h3,h⟩
 cases h;refine zab rfl ?_;rotate_left
 cases h;refine zab rfl ?_;rotate_left
 cases h;refine zab rfl ?_;rotate_left
 all_goals (dsimp only [R1] at *;show zat IF_ zHW _ _=_;exact fin_)
def zgH (me:Peer) (key:Int) (most:Int) (γ:Nat → Nat):(List Peer) → X × St
 | a0=>(.brk 0,⟨bd 3 (vU key :: vI most :: .bptr 0 0 :: bd 5 (.sl 2 ((γ 2)) :: bd 125 [])),[.box 25 [vU me.id,vH me.addr],.row 25 (γ 1) false (List.map zaf []),.row 25 (γ 2) false (List.map zaf a0)]⟩)
instance {me key most}:InjS (zgH me key most):=⟨fun γ γ' x y h=>by
 rcases x with a0 <;> rcases y with a0' <;> simp only [zgH] at h <;> exact inj_⟩
def zle (me:Peer) (f:List Finger) (key:Int) (most:Int) (i:Int) (r2:List Peer):Option ((List Peer)):=asks (fun γ=>(lim F pr).loop [2,12,11,3,5,4] 3 zoI ⟨bd 2 (.lit 84 false (List.map zaU f) :: vU key :: vI most :: .bptr 0 0 :: bd 5 (.sl 2 ((γ 2)) :: vI i :: bd 124 [])),[.box 25 [vU me.id,vH me.addr],.row 25 (γ 1) false (List.map zaf []),.row 25 (γ 2) false (List.map zaf r2)]⟩) (zgH me key most)
abbrev zlV:=((List Peer) × (List Peer) × (List Peer))
def zgJ (me:Peer) (most:Int) (γ:Nat → Nat):zlV → X × St
 | (a0,a1,a2)=>(.brk 2,⟨bd 4 (vI most :: bd 9 (.lit 25 false (List.map zaf a0) :: bd 122 [])),[.box 25 [vU me.id,vH me.addr],.row 25 (γ 1) false (List.map zaf []),.row 25 (γ 2) false (List.map zaf a1),.row 25 (γ 3) false (List.map zaf a2)]⟩)
instance {me most}:InjS (zgJ me most):=⟨fun γ γ' x y h=>by
 rcases x with ⟨a0,a1,a2⟩ <;> rcases y with ⟨a0',a1',a2'⟩ <;> simp only [zgJ] at h <;> exact inj_⟩
def zdP (me:Peer) (key:Int) (most:Int) (out:List Peer) (i:Int) (r2:List Peer) (r3:List Peer):Option (zlV):=asks (fun γ=>(lim F pr).loop [11,13,3,5,15,4,14] 4 zoK ⟨bd 3 (vU key :: vI most :: .bptr 0 0 :: bd 5 (.sl 2 ((γ 2)) :: bd 1 (.sl 3 ((γ 3)) :: .lit 25 false (List.map zaf out) :: vI i :: bd 121 []))),[.box 25 [vU me.id,vH me.addr],.row 25 (γ 1) false (List.map zaf []),.row 25 (γ 2) false (List.map zaf r2),.row 25 (γ 3) false (List.map zaf r3)]⟩) (zgJ me most)
abbrev zlW:=((List Peer) × Int × (List Peer) × (List Peer) × Int × Int) ⊕ ((List Peer) × Int × (List Peer) × (List Peer) × Int × Int)
def zgK (me:Peer) (key:Int) (most:Int) (γ:Nat → Nat):zlW → X × St
 | .inl (a0,a1,a2,a3,a4,a5)=>(.nor,⟨bd 3 (vU key :: vI most :: .bptr 0 0 :: bd 5 (.sl 2 ((γ 2)) :: bd 1 (.sl 3 ((γ 3)) :: .lit 25 false (List.map zaf a0) :: vI a1 :: bd 121 []))),[.box 25 [vU me.id,vH me.addr],.row 25 (γ 1) false (List.map zaf []),.row 25 (γ 2) false (List.map zaf a2),.row 25 (γ 3) false (List.map zaf a3),.box 25 [vU a4,vH a5]]⟩)
 | .inr (b0,b1,b2,b3,b4,b5)=>(.brk 3,⟨bd 3 (vU key :: vI most :: .bptr 0 0 :: bd 5 (.sl 2 ((γ 2)) :: bd 1 (.sl 3 ((γ 3)) :: .lit 25 false (List.map zaf b0) :: vI b1 :: bd 121 []))),[.box 25 [vU me.id,vH me.addr],.row 25 (γ 1) false (List.map zaf []),.row 25 (γ 2) false (List.map zaf b2),.row 25 (γ 3) false (List.map zaf b3),.box 25 [vU b4,vH b5]]⟩)
instance {me key most}:InjS (zgK me key most):=⟨fun γ γ' x y h=>by
 rcases x with ⟨a0,a1,a2,a3,a4,a5⟩ | ⟨b0,b1,b2,b3,b4,b5⟩ <;> rcases y with ⟨a0',a1',a2',a3',a4',a5'⟩ | ⟨b0',b1',b2',b3',b4',b5'⟩ <;> simp only [zgK] at h <;> exact inj_⟩
def zoh (me:Peer) (key:Int) (most:Int) (out:List Peer) (i:Int) (r2:List Peer) (r3:List Peer) (zbT:Int) (zbs:Int):Option (zlW):=asks (fun γ=>(lim F pr).seg [15,11,13,3,5,4,14] zvj ⟨bd 3 (vU key :: vI most :: .bptr 0 0 :: bd 5 (.sl 2 ((γ 2)) :: bd 1 (.sl 3 ((γ 3)) :: .lit 25 false (List.map zaf out) :: vI i :: .bptr 4 0 :: bd 120 []))),[.box 25 [vU me.id,vH me.addr],.row 25 (γ 1) false (List.map zaf []),.row 25 (γ 2) false (List.map zaf r2),.row 25 (γ 3) false (List.map zaf r3),.box 25 [vU zbT,vH zbs]]⟩) (zgK me key most)
abbrev zlU:=((List Peer) × Int × Int × (List Peer) × (List Peer) × Int × Int)
def zgI (me:Peer) (key:Int) (most:Int) (γ:Nat → Nat):zlU → X × St
 | (a0,a1,a2,a3,a4,a5,a6)=>(.brk 4,⟨bd 3 (vU key :: vI most :: .bptr 0 0 :: bd 5 (.sl 2 ((γ 2)) :: bd 1 (.sl 3 ((γ 3)) :: .lit 25 false (List.map zaf a0) :: vI a1 :: .bptr 4 0 :: vI a2 :: bd 119 []))),[.box 25 [vU me.id,vH me.addr],.row 25 (γ 1) false (List.map zaf []),.row 25 (γ 2) false (List.map zaf a3),.row 25 (γ 3) false (List.map zaf a4),.box 25 [vU a5,vH a6]]⟩)
instance {me key most}:InjS (zgI me key most):=⟨fun γ γ' x y h=>by
 rcases x with ⟨a0,a1,a2,a3,a4,a5,a6⟩ <;> rcases y with ⟨a0',a1',a2',a3',a4',a5',a6'⟩ <;> simp only [zgI] at h <;> exact inj_⟩
def zg5 (me:Peer) (key:Int) (most:Int) (out:List Peer) (i:Int) (at_:Int) (far:Int) (r2:List Peer) (r3:List Peer) (zbT:Int) (zbs:Int):Option (zlU):=asks (fun γ=>(lim F pr).loop [18,16,14,17,15,11,13,3,5,4] 5 zoJ ⟨bd 3 (vU key :: vI most :: .bptr 0 0 :: bd 5 (.sl 2 ((γ 2)) :: bd 1 (.sl 3 ((γ 3)) :: .lit 25 false (List.map zaf out) :: vI i :: .bptr 4 0 :: vI at_ :: vU far :: bd 118 []))),[.box 25 [vU me.id,vH me.addr],.row 25 (γ 1) false (List.map zaf []),.row 25 (γ 2) false (List.map zaf r2),.row 25 (γ 3) false (List.map zaf r3),.box 25 [vU zbT,vH zbs]]⟩) (zgI me key most)
def zi2 (me:Peer) (f:List Finger) (key:Int) (most:Int) (i:Int) (r2:List Peer):Option ((List Peer)):=
 bif Ops.std.ilt i (xlen zaU f) then
  (xget zaU f i).bind fun x=>
  bif zaN zaf 16 r2 [x.peer] then zle me f key most (Ops.std.iadd .i64 i 1) (r2 ++ [x.peer]) else
  none
 else
  some r2
theorem zq9 {me f key most i r2 r} (h:zi2 me f key most i r2=some r):zle me f key most i r2=some r:=by
 unfold zi2 at h
 refine zaq fun γ=>?_
 rcases zaa h with ⟨h1,h⟩ | ⟨h1,h⟩
 obtain ⟨x,h2,h⟩:=zac h
 obtain ⟨h3,h⟩:=zaw h
 replace h:=zai h (gam [0,(γ 1),((γ 2) + 1)]);obtain ⟨γ',h0⟩:=h;refine ⟨γ',zad ?_⟩;rotate_left
 cases h;refine ⟨gam [0,(γ 1),(γ 2)],zad ?_⟩;rotate_left
 all_goals (dsimp only [zgH] at *;show zaH IF_ _ _ zoI zBN _=_;generalize zoI=c0 at *;exact fin_)
def zi4 (me:Peer) (key:Int) (most:Int) (out:List Peer) (i:Int) (r2:List Peer) (r3:List Peer):Option (zlV):=
 bif Ops.std.ilt i (xlen zaf r2) then
  (xget zaf r2 i).bind fun x=>
  (zsE r3 x.addr).bind fun res=>
  bif res then zdP me key most out (Ops.std.iadd .i64 i 1) r2 r3 else
  bif Ops.std.ieq x.addr me.addr then zdP me key most out (Ops.std.iadd .i64 i 1) r2 r3 else
  (zoh me key most out i r2 r3 x.id x.addr).bind fun r=>match r with
   | .inl (out1,i1,r21,r31,zbT,zbs)=>
    zdP me key most out1 (Ops.std.iadd .i64 i1 1) r21 r31
   | .inr (out1,i1,r21,r31,zbT,zbs)=>
    zdP me key most out1 (Ops.std.iadd .i64 i1 1) r21 r31
 else
  some (out,r2,r3)
theorem zrb {me key most out i r2 r3 r} (h:zi4 me key most out i r2 r3=some r):zdP me key most out i r2 r3=some r:=by
 unfold zi4 at h
 refine zaq fun γ=>?_
 rcases zaa h with ⟨h1,h⟩ | ⟨h1,h⟩
 obtain ⟨x,h2,h⟩:=zac h
 obtain ⟨res,h3,h⟩:=zac h
 rcases zaa h with ⟨h4,h⟩ | ⟨h4,h⟩
 replace h:=zai h (gam [0,(γ 1),(γ 2),(γ 3)]);obtain ⟨γ',h0⟩:=h;refine ⟨γ',zad ?_⟩;rotate_left
 rcases zaa h with ⟨h5,h⟩ | ⟨h5,h⟩
 replace h:=zai h (gam [0,(γ 1),(γ 2),(γ 3)]);obtain ⟨γ',h0⟩:=h;refine ⟨γ',zad ?_⟩;rotate_left
 obtain ⟨r6,γ2,h6,h⟩:=zan h (gam [0,(γ 1),(γ 2),(γ 3)])
 rcases r6 with ⟨out1,i1,r21,r31,zbT,zbs⟩ | ⟨out1,i1,r21,r31,zbT,zbs⟩
 replace h:=zai h (gam [0,(γ2 1),(γ2 2),(γ2 3)]);obtain ⟨γ',h0⟩:=h;refine ⟨γ',zad ?_⟩;rotate_left
 replace h:=zai h (gam [0,(γ2 1),(γ2 2),(γ2 3)]);obtain ⟨γ',h0⟩:=h;refine ⟨γ',zad ?_⟩;rotate_left
 cases h;refine ⟨gam [0,(γ 1),(γ 2),(γ 3)],zad ?_⟩;rotate_left
 all_goals (dsimp only [R1,zgJ,zgK] at *;show zaH IF_ _ _ zoK (zBQ zvj) _=_;generalize zoK=c0,zvj=c1 at *;exact fin_)
def zlX (me:Peer) (key:Int) (most:Int) (out:List Peer) (i:Int) (r2:List Peer) (r3:List Peer) (zbT:Int) (zbs:Int):Option (zlW):=
 bif zaN zaf 16 r3 [(⟨zbT,zbs⟩:Peer)] then
  (zk7 me.id zbT key).bind fun res=>
  bif res then
   (zkD me.id zbT).bind fun res1=>
   (zg5 me key most out i 0 res1 r2 (r3 ++ [(⟨zbT,zbs⟩:Peer)]) zbT zbs).bind fun ⟨out1,i1,at_,r21,r31,zrO,zmJ⟩=>
   (xsub zaf out1 0 at_).bind fun ys=>
   bif zaN zaf 16 [] ys then
    bif zaN zaf 16 ys [(⟨zrO,zmJ⟩:Peer)] then
     (xsub zaf out1 at_ (xlen zaf out1)).bind fun ys1=>
     bif zaN zaf 16 (ys ++ [(⟨zrO,zmJ⟩:Peer)]) ys1 then
      some (.inl (((ys ++ [(⟨zrO,zmJ⟩:Peer)]) ++ ys1),i1,r21,r31,zrO,zmJ))
     else
      none
    else
     none
   else
    none
  else
   some (.inr (out,i,r2,(r3 ++ [(⟨zbT,zbs⟩:Peer)]),zbT,zbs))
 else
  none
theorem zxV {me key most out i r2 r3 zbT zbs r} (h:zlX me key most out i r2 r3 zbT zbs=some r):zoh me key most out i r2 r3 zbT zbs=some r:=by
 unfold zlX at h
 refine zaq fun γ=>?_
 obtain ⟨h1,h⟩:=zaw h
 obtain ⟨res,h2,h⟩:=zac h
 rcases zaa h with ⟨h3,h⟩ | ⟨h3,h⟩
 obtain ⟨res1,h4,h⟩:=zac h
 obtain ⟨r5,γ3,h5,h⟩:=zan h (gam [0,(γ 1),(γ 2),((γ 3) + 1)])
 rcases r5 with ⟨out1,i1,at_,r21,r31,zrO,zmJ⟩
 obtain ⟨ys,h6,h⟩:=zac h
 obtain ⟨h7,h⟩:=zaw h
 obtain ⟨h8,h⟩:=zaw h
 obtain ⟨ys1,h9,h⟩:=zac h
 obtain ⟨h10,h⟩:=zaw h
 cases h;refine ⟨gam [0,(γ3 1),(γ3 2),(γ3 3)],zak ?_⟩;rotate_left
 cases h;refine ⟨gam [0,(γ 1),(γ 2),((γ 3) + 1)],zak ?_⟩;rotate_left
 all_goals (dsimp only [R1,zgI,zgK] at *;show Ifc.apart IF_ _ (zBP zoJ) _=_;generalize zoJ=c0 at *;exact fin_)
def zi3 (me:Peer) (key:Int) (most:Int) (out:List Peer) (i:Int) (at_:Int) (far:Int) (r2:List Peer) (r3:List Peer) (zbT:Int) (zbs:Int):Option (zlU):=
 bif Ops.std.ilt at_ (xlen zaf out) then
  (xget zaf out at_).bind fun x=>
  (zkD me.id x.id).bind fun res=>
  bif Ops.std.ilt far res then
   zg5 me key most out i (Ops.std.iadd .i64 at_ 1) far r2 r3 zbT zbs
  else
   bif Ops.std.ieq res far then
    bif Ops.std.ilt x.addr zbs then
     zg5 me key most out i (Ops.std.iadd .i64 at_ 1) far r2 r3 zbT zbs
    else
     some (out,i,at_,r2,r3,zbT,zbs)
   else
    some (out,i,at_,r2,r3,zbT,zbs)
 else
  some (out,i,at_,r2,r3,zbT,zbs)
theorem zra {me key most out i at_ far r2 r3 zbT zbs r} (h:zi3 me key most out i at_ far r2 r3 zbT zbs=some r):zg5 me key most out i at_ far r2 r3 zbT zbs=some r:=by
 unfold zi3 at h
 refine zaq fun γ=>?_
 rcases zaa h with ⟨h1,h⟩ | ⟨h1,h⟩
 obtain ⟨x,h2,h⟩:=zac h
 obtain ⟨res,h3,h⟩:=zac h
 rcases zaa h with ⟨h4,h⟩ | ⟨h4,h⟩
 replace h:=zai h (gam [0,(γ 1),(γ 2),(γ 3)]);obtain ⟨γ',h0⟩:=h;refine ⟨γ',zad ?_⟩;rotate_left
 rcases zaa h with ⟨h5,h⟩ | ⟨h5,h⟩
 rcases zaa h with ⟨h6,h⟩ | ⟨h6,h⟩
 replace h:=zai h (gam [0,(γ 1),(γ 2),(γ 3)]);obtain ⟨γ',h0⟩:=h;refine ⟨γ',zad ?_⟩;rotate_left
 cases h;refine ⟨gam [0,(γ 1),(γ 2),(γ 3)],zad ?_⟩;rotate_left
 cases h;refine ⟨gam [0,(γ 1),(γ 2),(γ 3)],zad ?_⟩;rotate_left
 cases h;refine ⟨gam [0,(γ 1),(γ 2),(γ 3)],zad ?_⟩;rotate_left
 all_goals (dsimp only [R1,zgI] at *;show zaH IF_ _ _ zoJ zBO _=_;generalize zoJ=c0 at *;exact fin_)
def zqC (me:Peer) (l:List Entry) (f:List Finger) (key:Int) (most:Int):Option ((List Peer)):=
 (zm6 l).bind fun res=>
 (zle me f key most 0 res).bind fun r2=>
 (zdP me key most [] 0 r2 []).bind fun ⟨out,r21,r3⟩=>
 bif Ops.std.ilt most 0 then some [] else
 bif Ops.std.ilt most (xlen zaf out) then
  (xsub zaf out 0 most).bind fun ys=>
  some ys
 else
  some out
theorem zDC {me l f key most r} (h:zqC me l f key most=some r):zuO me l f key most=some r:=by
 unfold zqC at h
 refine zar ?_
 obtain ⟨res,h1,h⟩:=zac h
 obtain ⟨r2,γ2,h2,h⟩:=zan h (gam [0,0,0])
 obtain ⟨r3,γ3,h3,h⟩:=zan h (gam [0,(γ2 1),(γ2 2),0])
 rcases r3 with ⟨out,r21,r3⟩
 rcases zaa h with ⟨h4,h⟩ | ⟨h4,h⟩
 cases h;refine zab rfl ?_;rotate_left
 rcases zaa h with ⟨h5,h⟩ | ⟨h5,h⟩
 obtain ⟨ys,h6,h⟩:=zac h
 cases h;refine zab rfl ?_;rotate_left
 cases h;refine zab rfl ?_;rotate_left
 all_goals (dsimp only [K1,R1,zgH,zgJ] at *;show zat IF_ (zHX zoI zoK) _ _=_;generalize zoI=c0,zoK=c1 at *;exact fin_)
def zhO (me:Peer) (l:List Entry) (p:Peer) (γ:Nat → Nat):(List Entry) ⊕ Unit → X × St
 | .inl a0=>(.ret,⟨bd 6 (.sl 3 ((γ 3)) :: bd 85 []),[.box 25 [vU me.id,vH me.addr],.box 25 [vU p.id,vH p.addr],.row 81 (γ 2) false (List.map zag []),.row 81 (γ 3) false (List.map zag a0)]⟩)
 | .inr ()=>(.nor,⟨bd 1 (.lit 81 false (List.map zag l) :: bd 1 (.bptr 0 0 :: bd 1 (.bptr 1 0 :: bd 86 []))),[.box 25 [vU me.id,vH me.addr],.box 25 [vU p.id,vH p.addr],.row 81 (γ 2) false (List.map zag [])]⟩)
instance {me l p}:InjS (zhO me l p):=⟨fun γ γ' x y h=>by
 rcases x with a0 | _ <;> rcases y with a0' | _ <;> simp only [zhO] at h <;> exact inj_⟩
def zgf (me:Peer) (l:List Entry) (p:Peer) (at_:Int) (t33:Bool):Option ((List Entry) ⊕ Unit):=asks (fun γ=>(lim F pr).seg [1,3,5] zvd ⟨bd 1 (.lit 81 false (List.map zag l) :: bd 1 (.bptr 0 0 :: bd 1 (.bptr 1 0 :: bd 1 (vI at_ :: bd 25 (vF t33 :: bd 58 []))))),[.box 25 [vU me.id,vH me.addr],.box 25 [vU p.id,vH p.addr],.row 81 (γ 2) false (List.map zag [])]⟩) (zhO me l p)
def zhQ (me:Peer) (p:Peer) (γ:Nat → Nat):(Int × (List Entry)) ⊕ (List Entry) → X × St
 | .inl (a0,a1)=>(.ret,⟨bd 6 (.sub 3 ((γ 3)) (0) (a0) :: bd 85 []),[.box 25 [vU me.id,vH me.addr],.box 25 [vU p.id,vH p.addr],.row 81 (γ 2) false (List.map zag []),.row 81 (γ 3) false (List.map zag a1)]⟩)
 | .inr b0=>(.ret,⟨bd 6 (.sl 3 ((γ 3)) :: bd 85 []),[.box 25 [vU me.id,vH me.addr],.box 25 [vU p.id,vH p.addr],.row 81 (γ 2) false (List.map zag []),.row 81 (γ 3) false (List.map zag b0)]⟩)
instance {me p}:InjS (zhQ me p):=⟨fun γ γ' x y h=>by
 rcases x with ⟨a0,a1⟩ | b0 <;> rcases y with ⟨a0',a1'⟩ | b0' <;> simp only [zhQ] at h <;> exact inj_⟩
def zil (me:Peer) (l:List Entry) (p:Peer):Option ((Int × (List Entry)) ⊕ (List Entry)):=asks (fun γ=>(lim F pr).seg [6] zvf ⟨bd 1 (.lit 81 false (List.map zag l) :: bd 1 (.bptr 0 0 :: bd 1 (.bptr 1 0 :: bd 86 []))),[.box 25 [vU me.id,vH me.addr],.box 25 [vU p.id,vH p.addr],.row 81 (γ 2) false (List.map zag [])]⟩) (zhQ me p)
def zhN (me:Peer) (p:Peer) (γ:Nat → Nat):(Bool × (List Entry)) → X × St
 | (a0,a1)=>(.brk 0,⟨bd 5 (.bptr 1 0 :: bd 4 (.sl 3 ((γ 3)) :: vF a0 :: bd 80 [])),[.box 25 [vU me.id,vH me.addr],.box 25 [vU p.id,vH p.addr],.row 81 (γ 2) false (List.map zag []),.row 81 (γ 3) false (List.map zag a1)]⟩)
instance {me p}:InjS (zhN me p):=⟨fun γ γ' x y h=>by
 rcases x with ⟨a0,a1⟩ <;> rcases y with ⟨a0',a1'⟩ <;> simp only [zhN] at h <;> exact inj_⟩
def zge (me:Peer) (p:Peer) (rest:List Entry) (put_:Bool) (i:Int) (r3:List Entry):Option ((Bool × (List Entry))):=asks (fun γ=>(lim F pr).loop [3,9,12,11,5,10] 4 zoH ⟨bd 3 (.bptr 0 0 :: bd 1 (.bptr 1 0 :: bd 3 (.lit 81 false (List.map zag rest) :: .sl 3 ((γ 3)) :: vF put_ :: vI i :: bd 79 []))),[.box 25 [vU me.id,vH me.addr],.box 25 [vU p.id,vH p.addr],.row 81 (γ 2) false (List.map zag []),.row 81 (γ 3) false (List.map zag r3)]⟩) (zhN me p)
def zhP (me:Peer) (p:Peer) (γ:Nat → Nat):(Int × (List Entry)) ⊕ (List Entry) → X × St
 | .inl (a0,a1)=>(.ret,⟨bd 6 (.sub 3 ((γ 3)) (0) (a0) :: bd 85 []),[.box 25 [vU me.id,vH me.addr],.box 25 [vU p.id,vH p.addr],.row 81 (γ 2) false (List.map zag []),.row 81 (γ 3) false (List.map zag a1)]⟩)
 | .inr b0=>(.ret,⟨bd 6 (.sl 3 ((γ 3)) :: bd 85 []),[.box 25 [vU me.id,vH me.addr],.box 25 [vU p.id,vH p.addr],.row 81 (γ 2) false (List.map zag []),.row 81 (γ 3) false (List.map zag b0)]⟩)
instance {me p}:InjS (zhP me p):=⟨fun γ γ' x y h=>by
 rcases x with ⟨a0,a1⟩ | b0 <;> rcases y with ⟨a0',a1'⟩ | b0' <;> simp only [zhP] at h <;> exact inj_⟩
def zmq (me:Peer) (p:Peer) (r3:List Entry):Option ((Int × (List Entry)) ⊕ (List Entry)):=asks (fun γ=>(lim F pr).seg [6] zve ⟨bd 10 (.sl 3 ((γ 3)) :: bd 81 []),[.box 25 [vU me.id,vH me.addr],.box 25 [vU p.id,vH p.addr],.row 81 (γ 2) false (List.map zag []),.row 81 (γ 3) false (List.map zag r3)]⟩) (zhP me p)
def zj0 (me:Peer) (l:List Entry) (p:Peer) (at_:Int) (t33:Bool):Option ((List Entry) ⊕ Unit):=
 bif t33 then
  bif zaN zag 24 [] l then
   (xget zag l at_).bind fun x=>
   some (.inl (xset l at_ (⟨x.peer,0⟩:Entry)))
  else
   none
 else
  some (.inr ())
theorem zsz {me l p at_ t33 r} (h:zj0 me l p at_ t33=some r):zgf me l p at_ t33=some r:=by
 unfold zj0 at h
 refine zaq fun γ=>?_
 rcases zaa h with ⟨h1,h⟩ | ⟨h1,h⟩
 obtain ⟨h2,h⟩:=zaw h
 obtain ⟨x,h3,h⟩:=zac h
 cases h;refine ⟨gam [0,0,(γ 2),0],zak ?_⟩;rotate_left
 cases h;refine ⟨gam [0,0,(γ 2)],zak ?_⟩;rotate_left
 all_goals (dsimp only [zhO] at *;show Ifc.apart IF_ _ zBG _=_;exact fin_)
def zm5 (me:Peer) (l:List Entry) (p:Peer):Option ((Int × (List Entry)) ⊕ (List Entry)):=
 (zuN l p.addr).bind fun res=>
 (zge me p res false 0 []).bind fun ⟨put_,r3⟩=>
 bif put_ then zmq me p r3 else
 bif zaN zag 24 r3 [(⟨p,0⟩:Entry)] then zmq me p (r3 ++ [(⟨p,0⟩:Entry)]) else
 none
theorem zzR {me l p r} (h:zm5 me l p=some r):zil me l p=some r:=by
 unfold zm5 at h
 refine zaq fun γ=>?_
 obtain ⟨res,h1,h⟩:=zac h
 obtain ⟨r2,γ2,h2,h⟩:=zan h (gam [0,0,(γ 2),0])
 rcases r2 with ⟨put_,r3⟩
 rcases zaa h with ⟨h3,h⟩ | ⟨h3,h⟩
 obtain ⟨γ3,h4⟩:=zai h (gam [0,0,(γ2 2),(γ2 3)])
 rcases r with ⟨t6_hi,r31⟩ | r31
 refine ⟨gam [0,0,(γ3 2),(γ3 3)],zak ?_⟩;rotate_left
 refine ⟨gam [0,0,(γ3 2),(γ3 3)],zak ?_⟩;rotate_left
 obtain ⟨h4,h⟩:=zaw h
 obtain ⟨γ3,h5⟩:=zai h (gam [0,0,(γ2 2),((γ2 3) + 1)])
 rcases r with ⟨t6_hi,r31⟩ | r31
 refine ⟨gam [0,0,(γ3 2),(γ3 3)],zak ?_⟩;rotate_left
 refine ⟨gam [0,0,(γ3 2),(γ3 3)],zak ?_⟩;rotate_left
 all_goals (dsimp only [R1,zhN,zhP,zhQ] at *;show Ifc.apart IF_ _ (zBJ zoH zve) _=_;generalize zoH=c0,zve=c1 at *;exact fin_)
def zhM (me:Peer) (p:Peer) (rest:List Entry) (put_:Bool) (i:Int) (r3:List Entry):Option ((Bool × (List Entry))):=
 bif Ops.std.ilt i (xlen zag rest) then
  bif put_ then
   (xget zag rest i).bind fun x=>
   bif zaN zag 24 r3 [x] then zge me p rest true (Ops.std.iadd .i64 i 1) (r3 ++ [x]) else
   none
  else
   (xget zag rest i).bind fun x=>
   (zsB me p x.peer).bind fun res=>
   bif res then
    bif zaN zag 24 r3 [(⟨p,0⟩:Entry)] then
     bif zaN zag 24 (r3 ++ [(⟨p,0⟩:Entry)]) [x] then
      zge me p rest true (Ops.std.iadd .i64 i 1) ((r3 ++ [(⟨p,0⟩:Entry)]) ++ [x])
     else
      none
    else
     none
   else
    bif zaN zag 24 r3 [x] then zge me p rest false (Ops.std.iadd .i64 i 1) (r3 ++ [x]) else
    none
 else
  some (put_,r3)
theorem zsy {me p rest put_ i r3 r} (h:zhM me p rest put_ i r3=some r):zge me p rest put_ i r3=some r:=by
 unfold zhM at h
 refine zaq fun γ=>?_
 rcases zaa h with ⟨h1,h⟩ | ⟨h1,h⟩
 rcases zaa h with ⟨h2,h⟩ | ⟨h2,h⟩
 obtain ⟨x,h3,h⟩:=zac h
 obtain ⟨h4,h⟩:=zaw h
 replace h:=zai h (gam [0,0,(γ 2),((γ 3) + 1)]);obtain ⟨γ',h0⟩:=h;refine ⟨γ',zad ?_⟩;rotate_left
 obtain ⟨x,h3,h⟩:=zac h
 obtain ⟨res,h4,h⟩:=zac h
 rcases zaa h with ⟨h5,h⟩ | ⟨h5,h⟩
 obtain ⟨h6,h⟩:=zaw h
 obtain ⟨h7,h⟩:=zaw h
 replace h:=zai h (gam [0,0,(γ 2),(((γ 3) + 1) + 1)]);obtain ⟨γ',h0⟩:=h;refine ⟨γ',zad ?_⟩;rotate_left
 obtain ⟨h6,h⟩:=zaw h
 replace h:=zai h (gam [0,0,(γ 2),((γ 3) + 1)]);obtain ⟨γ',h0⟩:=h;refine ⟨γ',zad ?_⟩;rotate_left
 cases h;refine ⟨gam [0,0,(γ 2),(γ 3)],zad ?_⟩;rotate_left
 all_goals (dsimp only [R1,zhN] at *;show zaH IF_ _ _ zoH zBH _=_;generalize zoH=c0 at *;exact fin_)
def zj1 (me:Peer) (p:Peer) (r3:List Entry):Option ((Int × (List Entry)) ⊕ (List Entry)):=
 bif Ops.std.ilt 15 (xlen zag r3) then
  (xsub zag r3 0 (Ops.std.isub .i64 (xlen zag r3) 1)).bind fun ys=>
  some (.inl (Ops.std.isub .i64 (xlen zag r3) 1,r3))
 else
  some (.inr r3)
theorem zsA {me p r3 r} (h:zj1 me p r3=some r):zmq me p r3=some r:=by
 unfold zj1 at h
 refine zaq fun γ=>?_
 rcases zaa h with ⟨h1,h⟩ | ⟨h1,h⟩
 obtain ⟨ys,h2,h⟩:=zac h
 cases h;refine ⟨gam [0,0,(γ 2),(γ 3)],zak ?_⟩;rotate_left
 cases h;refine ⟨gam [0,0,(γ 2),(γ 3)],zak ?_⟩;rotate_left
 all_goals (dsimp only [zhP] at *;show Ifc.apart IF_ _ zBI _=_;exact fin_)
def zsx (me:Peer) (l:List Entry) (p:Peer):Option ((List Entry)):=
 bif Ops.std.ieq p.addr me.addr then some l else
 (znK l p.addr).bind fun res=>
 bif Ops.std.ile 0 res then
  (xget zag l res).bind fun x=>
  bif Ops.std.ieq x.peer.id p.id then
   bif Ops.std.ieq x.peer.addr p.addr then
    (zgf me l p res true).bind fun r=>match r with
     | .inl r3=>
      some r3
     | .inr ()=>
      (zil me l p).bind fun r=>match r with
       | .inl (t6_hi,r3)=>
        (xsub zag r3 0 t6_hi).bind fun ys=>
        some ys
       | .inr r3=>
        some r3
   else
    (zgf me l p res false).bind fun r=>match r with
     | .inl r3=>
      some r3
     | .inr ()=>
      (zil me l p).bind fun r=>match r with
       | .inl (t6_hi,r3)=>
        (xsub zag r3 0 t6_hi).bind fun ys=>
        some ys
       | .inr r3=>
        some r3
  else
   (zgf me l p res false).bind fun r=>match r with
    | .inl r3=>
     some r3
    | .inr ()=>
     (zil me l p).bind fun r=>match r with
      | .inl (t6_hi,r3)=>
       (xsub zag r3 0 t6_hi).bind fun ys=>
       some ys
      | .inr r3=>
       some r3
 else
  (zgf me l p res false).bind fun r=>match r with
   | .inl r3=>
    some r3
   | .inr ()=>
    (zil me l p).bind fun r=>match r with
     | .inl (t6_hi,r3)=>
      (xsub zag r3 0 t6_hi).bind fun ys=>
      some ys
     | .inr r3=>
      some r3
theorem zFD {me l p r} (h:zsx me l p=some r):zwK me l p=some r:=by
 unfold zsx at h
 refine zar ?_
 rcases zaa h with ⟨h1,h⟩ | ⟨h1,h⟩
 cases h;refine zab rfl ?_;rotate_left
 obtain ⟨res,h2,h⟩:=zac h
 rcases zaa h with ⟨h3,h⟩ | ⟨h3,h⟩
 obtain ⟨x,h4,h⟩:=zac h
 rcases zaa h with ⟨h5,h⟩ | ⟨h5,h⟩
 rcases zaa h with ⟨h6,h⟩ | ⟨h6,h⟩
 obtain ⟨r7,γ2,h7,h⟩:=zan h (gam [0,0,0])
 rcases r7 with r3 | _
 cases h;refine zab rfl ?_;rotate_left
 obtain ⟨r8,γ3,h8,h⟩:=zan h (gam [0,0,(γ2 2)])
 rcases r8 with ⟨t6_hi,r3⟩ | r3
 obtain ⟨ys,h9,h⟩:=zac h
 cases h;refine zab rfl ?_;rotate_left
 cases h;refine zab rfl ?_;rotate_left
 obtain ⟨r7,γ2,h7,h⟩:=zan h (gam [0,0,0])
 rcases r7 with r3 | _
 cases h;refine zab rfl ?_;rotate_left
 obtain ⟨r8,γ3,h8,h⟩:=zan h (gam [0,0,(γ2 2)])
 rcases r8 with ⟨t6_hi,r3⟩ | r3
 obtain ⟨ys,h9,h⟩:=zac h
 cases h;refine zab rfl ?_;rotate_left
 cases h;refine zab rfl ?_;rotate_left
 obtain ⟨r6,γ2,h6,h⟩:=zan h (gam [0,0,0])
 rcases r6 with r3 | _
 cases h;refine zab rfl ?_;rotate_left
 obtain ⟨r7,γ3,h7,h⟩:=zan h (gam [0,0,(γ2 2)])
 rcases r7 with ⟨t6_hi,r3⟩ | r3
 obtain ⟨ys,h8,h⟩:=zac h
 cases h;refine zab rfl ?_;rotate_left
 cases h;refine zab rfl ?_;rotate_left
 obtain ⟨r4,γ2,h4,h⟩:=zan h (gam [0,0,0])
 rcases r4 with r3 | _
 cases h;refine zab rfl ?_;rotate_left
 obtain ⟨r5,γ3,h5,h⟩:=zan h (gam [0,0,(γ2 2)])
 rcases r5 with ⟨t6_hi,r3⟩ | r3
 obtain ⟨ys,h6,h⟩:=zac h
 cases h;refine zab rfl ?_;rotate_left
 cases h;refine zab rfl ?_;rotate_left
 all_goals (dsimp only [R1,zhO,zhQ] at *;show zat IF_ (zHJ zvd zvf) _ _=_;generalize zvd=c0,zvf=c1 at *;exact fin_)
end Go.Ab.Tryz
